/- Walks of Go functions, written by program out of the print of the translation, with contracts of our own where the print has none. -/
import Derived.Test.YtmecapnpgedcnaaPFnExactShowStepsx0
import Derived.Test.YtmecapnpgedcnaaPFnExactShowStepsx1
import Derived.Test.YtmecapnpgedcnaaPFnExactShowStepsx2
import Derived.Test.YtmecapnpgedcnaaPFnExactShowStepsx3
namespace Go.Proofs.Ytmecapnpgedcnaa.PFnExactShowSteps
open Go.RowKit Go.Proofs.YtmecapnpgedcnaaW.PrintWords Go.Proofs.YtmecapnpgedcnaaW.PrintLast Go.Proofs.YtmecapnpgedcnaaW.PrintMore
attribute [local go_sem] max2_int min2_int max_two min_two max_three min_three max_four min_four   -- for this text's walks alone
set_option linter.unusedVariables false
set_option linter.unusedSimpArgs false

/-! ### spec_l08Test_read1: function 82 -/
def spec_l08Test_read1.T9 : Bool × List (List Nat × List Nat) := (true, [([], []), ([0], [0]), ([1], [1]), ([], []), ([3], [3]), ([4], [4]), ([2, 5], [2, 5]), ([6, 1, 0, 1, 2, 3, 4, 5, 6], [6])])
def spec_l08Test_read1.B9 : List Nat := [0, 1, 3, 0, 8, 24, 63, 127]
theorem spec_l08Test_read1.tab9 : rtab .any (opsOf Try.f82 9) = spec_l08Test_read1.T9 := by kernel_rfl
theorem spec_l08Test_read1.bits9 : waitsOk spec_l08Test_read1.T9.2 spec_l08Test_read1.B9 = true := by kernel_rfl
def spec_l08Test_read1.T18 : Bool × List (List Nat × List Nat) := (true, [([], []), ([0], [0]), ([1], [1]), ([2], [2]), ([], []), ([4], [4]), ([5], [5]), ([6], [6]), ([7], [7]), ([3, 8], [3, 8]), ([9], [9]), ([10], [10]), ([11, 10], [10, 11]), ([12, 10], [10, 12]), ([13, 10], [10, 13]), ([10], [10]), ([15, 10], [10, 15]), ([16, 10], [10, 16]), ([17, 10], [10, 17]), ([14, 18, 10], [10, 14, 18]), ([19, 10, 10], [10, 19]), ([20, 20, 10], [10, 20]), ([21], [21]), ([22, 21], [21, 22]), ([23, 21], [21, 23]), ([24, 21], [21, 24]), ([21], [21]), ([26, 21], [21, 26]), ([27, 21], [21, 27]), ([28, 21], [21, 28]), ([25, 29, 21], [21, 25, 29]), ([30, 21, 21], [21, 30]), ([21, 31, 10], [10, 21, 31]), ([32, 31, 10], [10, 32]), ([33], [33]), ([34, 33], [33, 34]), ([35, 33], [33, 35]), ([36, 33], [33, 36]), ([33], [33]), ([38, 33], [33, 38]), ([39, 33], [33, 39]), ([40, 33], [33, 40]), ([37, 41, 33], [33, 37, 41]), ([42, 33], [33, 42]), ([33, 43, 10], [10, 33, 43]), ([10, 44], [10, 44])])
def spec_l08Test_read1.B18 : List Nat := [0, 1, 3, 7, 0, 16, 48, 112, 240, 511, 1023, 2047, 4095, 8191, 16383, 2047, 34815, 100351, 231423, 524287, 1048575, 2097151, 4194303, 8388607, 16777215, 33554431, 4194303, 71303167, 205520895, 473956351, 1073741823, 2147483647, 4294967295, 8589934591, 17179869183, 34359738367, 68719476735, 137438953471, 17179869183, 292057776127, 841813590015, 1941325217791, 4398046511103, 8796093022207, 17592186044415, 35184372088831]
theorem spec_l08Test_read1.tab18 : rtab .any (opsOf Try.f82 18) = spec_l08Test_read1.T18 := by kernel_rfl
theorem spec_l08Test_read1.bits18 : waitsOk spec_l08Test_read1.T18.2 spec_l08Test_read1.B18 = true := by kernel_rfl
def spec_l08Test_read1.T20 : Bool × List (List Nat × List Nat) := (true, [([], []), ([0], [0]), ([1], [1]), ([2], [2]), ([], []), ([], []), ([5], [5]), ([6], [6]), ([7], [7]), ([3, 4, 8], [3, 4, 8]), ([9, 0, 1, 2, 3, 4, 5, 6, 7, 8, 9], [9])])
def spec_l08Test_read1.B20 : List Nat := [0, 1, 3, 7, 0, 0, 32, 96, 224, 511, 1023]
theorem spec_l08Test_read1.tab20 : rtab .any (opsOf Try.f82 20) = spec_l08Test_read1.T20 := by kernel_rfl
theorem spec_l08Test_read1.bits20 : waitsOk spec_l08Test_read1.T20.2 spec_l08Test_read1.B20 = true := by kernel_rfl
theorem spec_l08Test_read1.a1_ {p : Prop} (h : p := by repeat (first | (with_reducible first | exact HI0.out | apply IsS123.alloc | apply IsS123.drewN | apply IsS123.drew | apply IsS123.set_0 | apply IsS123.set_1 | apply IsS123.set_2 | apply IsS123.set_3) | exact HI0.out)) : p := h
theorem spec_l08Test_read1.a2_ {p : Prop} (h : p := by repeat (first | (with_reducible first | exact HK.out | apply KeepBut.set_ | apply keep_drewN | apply keep_drew | apply keep_alloc) | exact HK.out)) : p := h
theorem spec_l08Test_read1.a3_ {p : Prop} (h : p := by repeat (first | (with_reducible first | exact HB.out | apply below_alloc | apply pw_below_drewN | apply below_drew1 | refine below_set ?_ (IsS123.ge HI0.out)) | exact HB.out)) : p := h
theorem spec_l08Test_read1.a4_ {p : Prop} (h : p := by first | rfl | (simp [errW_none, errW_some] <;> rfl) | (simp [*, errW_none, errW_some] <;> rfl)) : p := h
theorem spec_l08Test_read1.a5_ {p : Prop} (h : p := by repeat (first | (with_reducible first | exact HI0.out | apply IsS123.alloc | apply IsS123.drewN | apply IsS123.drew | apply IsS123.set_0 | apply IsS123.set_1 | apply IsS123.set_2 | apply IsS123.set_3 | apply IsS123.far (p := ⟨gb162, _, none⟩) (hne := NB0_162.out)) | exact HI0.out)) : p := h
theorem spec_l08Test_read1.a6_ {p : Prop} (h : p := by repeat (first | (with_reducible first | exact HB.out | apply below_alloc | apply pw_below_drewN | apply below_drew1 | refine below_set ?_ (IsS123.ge HI0.out) | refine below_set ?_ GE162.out) | exact HB.out)) : p := h
theorem spec_l08Test_read1.a7_ {p : Prop} (h : p := by repeat (first | (with_reducible first | exact HK.out | apply KeepBut.set_ | apply keep_drewN | apply keep_drew | apply keep_alloc | refine keep_far ?_ GW162.out _) | exact HK.out)) : p := h
theorem spec_l08Test_read1.a8_ {p : Prop} (h : p := by (try simp only [List.map_toArray, List.map_cons, List.map_nil]); first | done | rfl | (simp only [List.length_drop, List.length_take]; rfl)) : p := h
theorem spec_l08Test_read1.a9_ {p : Prop} (h : p := by (with_reducible repeat (first | refine blk_drewN ?_ _ | refine blk_drew ?_ | refine blk_alloc ?_ _)); exact BK162.out) : p := h
theorem spec_l08Test_read1.a10_ {p : Prop} (h : p := by repeat (first | (with_reducible first | exact HI0.out | apply IsS123.alloc | apply IsS123.drewN | apply IsS123.drew | apply IsS123.set_0 | apply IsS123.set_1 | apply IsS123.set_2 | apply IsS123.set_3 | apply IsS123.far (p := ⟨gb162, _, none⟩) (hne := NB0_162.out) | apply IsS123.far (p := ⟨gb189, _, none⟩) (hne := NB0_189.out)) | exact HI0.out)) : p := h
theorem spec_l08Test_read1.a11_ {p : Prop} (h : p := by repeat (first | (with_reducible first | exact HK.out | apply KeepBut.set_ | apply keep_drewN | apply keep_drew | apply keep_alloc | refine keep_far ?_ GW162.out _ | refine keep_far ?_ GW189.out _) | exact HK.out)) : p := h
theorem spec_l08Test_read1.a12_ {p : Prop} (h : p := by repeat (first | (with_reducible first | exact HB.out | apply below_alloc | apply pw_below_drewN | apply below_drew1 | refine below_set ?_ (IsS123.ge HI0.out) | refine below_set ?_ GE162.out | refine below_set ?_ GE189.out) | exact HB.out)) : p := h
theorem spec_l08Test_read1.a13_ {p : Prop} (h : p := by (with_reducible repeat (first | refine blk_drewN ?_ _ | refine blk_drew ?_ | refine blk_alloc ?_ _)); refine blk_far ?_ NB162_0.out _; (with_reducible repeat (first | refine blk_drewN ?_ _ | refine blk_drew ?_ | refine blk_alloc ?_ _)); exact BK162.out) : p := h
theorem spec_l08Test_read1.a14_ {p : Prop} (h : p := by repeat (first | (with_reducible first | exact HI0.out | apply IsS123.alloc | apply IsS123.drewN | apply IsS123.drew | apply IsS123.set_0 | apply IsS123.set_1 | apply IsS123.set_2 | apply IsS123.set_3 | apply IsS123.far (p := ⟨gb162, _, none⟩) (hne := NB0_162.out) | apply IsS123.far (p := ⟨gb203, _, none⟩) (hne := NB0_203.out)) | exact HI0.out)) : p := h
theorem spec_l08Test_read1.a15_ {p : Prop} (h : p := by repeat (first | (with_reducible first | exact HB.out | apply below_alloc | apply pw_below_drewN | apply below_drew1 | refine below_set ?_ (IsS123.ge HI0.out) | refine below_set ?_ GE162.out | refine below_set ?_ GE203.out) | exact HB.out)) : p := h
theorem spec_l08Test_read1.a16_ {p : Prop} (h : p := by (with_reducible repeat (first | refine blk_drewN ?_ _ | refine blk_drew ?_ | refine blk_alloc ?_ _)); refine blk_far ?_ NB162_203.out _; (with_reducible repeat (first | refine blk_drewN ?_ _ | refine blk_drew ?_ | refine blk_alloc ?_ _)); refine blk_far ?_ NB162_203.out _; (with_reducible repeat (first | refine blk_drewN ?_ _ | refine blk_drew ?_ | refine blk_alloc ?_ _)); refine blk_far ?_ NB162_203.out _; (with_reducible repeat (first | refine blk_drewN ?_ _ | refine blk_drew ?_ | refine blk_alloc ?_ _)); exact BK162.out) : p := h
theorem spec_l08Test_read1.a17_ {p : Prop} (h : p := by (with_reducible repeat (first | refine blk_drewN ?_ _ | refine blk_drew ?_ | refine blk_alloc ?_ _)); refine blk_put (cs := #[.string t196, .int .i64 t197, .bool false]) ?_ 2 _ rfl; (with_reducible repeat (first | refine blk_drewN ?_ _ | refine blk_drew ?_ | refine blk_alloc ?_ _)); refine blk_put (cs := #[.string t196, .int .i64 0, .bool false]) ?_ 1 _ rfl; (with_reducible repeat (first | refine blk_drewN ?_ _ | refine blk_drew ?_ | refine blk_alloc ?_ _)); refine blk_put (cs := #[.string (⟨#[]⟩ : ByteArray), .int .i64 0, .bool false]) ?_ 0 _ rfl; (with_reducible repeat (first | refine blk_drewN ?_ _ | refine blk_drew ?_ | refine blk_alloc ?_ _)); exact BK203.out) : p := h
theorem spec_l08Test_read1.a18_ {p : Prop} (h : p := by repeat (first | (with_reducible first | exact HK.out | apply KeepBut.set_ | apply keep_drewN | apply keep_drew | apply keep_alloc | refine keep_far ?_ GW162.out _ | refine keep_far ?_ GW203.out _) | exact HK.out)) : p := h
theorem spec_l08Test_read1.a19_ {p : Prop} (h : p := by (with_reducible repeat (first | refine blk_drewN ?_ _ | refine blk_drew ?_ | refine blk_alloc ?_ _)); refine blk_put (cs := #[.string t196, .int .i64 t197, .bool false]) ?_ 2 _ rfl; (with_reducible repeat (first | refine blk_drewN ?_ _ | refine blk_drew ?_ | refine blk_alloc ?_ _)); refine blk_put (cs := #[.string t196, .int .i64 0, .bool false]) ?_ 1 _ rfl; (with_reducible repeat (first | refine blk_drewN ?_ _ | refine blk_drew ?_ | refine blk_alloc ?_ _)); refine blk_put (cs := #[.string (⟨#[]⟩ : ByteArray), .int .i64 0, .bool false]) ?_ 0 _ rfl; (with_reducible repeat (first | refine blk_drewN ?_ _ | refine blk_drew ?_ | refine blk_alloc ?_ _)); refine blk_far ?_ NB162_0.out _; (with_reducible repeat (first | refine blk_drewN ?_ _ | refine blk_drew ?_ | refine blk_alloc ?_ _)); refine blk_far ?_ NB162_0.out _; (with_reducible repeat (first | refine blk_drewN ?_ _ | refine blk_drew ?_ | refine blk_alloc ?_ _)); exact BK162.out) : p := h
theorem spec_l08Test_read1.a20_ {p : Prop} (h : p := by rw [← hq_]; exact (by (with_reducible repeat (first | refine blk_drewN ?_ _ | refine blk_drew ?_ | refine blk_alloc ?_ _)); exact BK162.out)) : p := h
theorem spec_l08Test_read1.a21_ {p : Prop} (h : p := by rw [← hq_]; exact (by repeat (first | (with_reducible first | exact HI0.out | apply IsS123.alloc | apply IsS123.drewN | apply IsS123.drew | apply IsS123.set_0 | apply IsS123.set_1 | apply IsS123.set_2 | apply IsS123.set_3 | apply IsS123.far (p := ⟨gb162, _, none⟩) (hne := NB0_162.out)) | exact HI0.out))) : p := h
theorem spec_l08Test_read1.a22_ {p : Prop} (h : p := by rw [← hq_]; exact (by repeat (first | (with_reducible first | exact HK.out | apply KeepBut.set_ | apply keep_drewN | apply keep_drew | apply keep_alloc | refine keep_far ?_ GW162.out _) | exact HK.out))) : p := h
theorem spec_l08Test_read1.a23_ {p : Prop} (h : p := by rw [← hq_]; exact (by repeat (first | (with_reducible first | exact HB.out | apply below_alloc | apply pw_below_drewN | apply below_drew1 | refine below_set ?_ (IsS123.ge HI0.out) | refine below_set ?_ GE162.out) | exact HB.out))) : p := h
section
variable [spec_l08Test_read.C]
mutual
def spec_l08Test_read1.j1 : Nat → List ByteArray → Int → ByteArray → Int → Int → Bool → Option (ByteArray × Int × Bool × ByteArray × Int × Int × Bool)
 | 0, _, _, _, _, _, _ => none
 | k + 1, x2, x9, x1000, x1001, x1002, x1003 => if 0 ≤ x9 then (if x9 ≤ x1001 then (if x1001 ≤ (x1000.size : Int) then ((spec_l01Name.f k (x1000.extract (x9 : Int).toNat (x1001 : Int).toNat)).bind fun t211 => (if t211 = true then ((spec_l01InTexts.f k x2 (x1000.extract (x9 : Int).toNat (x1001 : Int).toNat)).bind fun t212 => (some (x1000.extract (x9 : Int).toNat (x1001 : Int).toNat, 3, t212, x1000, x1001, x1002, x1003))) else ((spec_l01InTexts.f k x2 (x1000.extract (x9 : Int).toNat (x1001 : Int).toNat)).bind fun t213 => (some (x1000.extract (x9 : Int).toNat (x1001 : Int).toNat, 3, t213, x1000, x9, x1002, true))))) else (none)) else (none)) else (none)
def spec_l08Test_read1.l0 : Nat → List ByteArray → Int → ByteArray → Int → Int → Bool → Option (ByteArray × Int × Bool × ByteArray × Int × Int × Bool)
 | 0, _, _, _, _, _, _ => none
 | k + 1, x2, x9, x1000, x1001, x1002, x1003 => if x1001 < (x1000.size : Int) then (if 0 ≤ x1001 then ((spec_l01Letter.f (bt x1000 x1001)).bind fun t209 => (if t209 = true then (spec_l08Test_read1.l0 k x2 x9 x1000 (wrap64 (x1001 + 1)) x1002 x1003) else ((spec_l01Digit.f (bt x1000 x1001)).bind fun t210 => (if t210 = true then (spec_l08Test_read1.l0 k x2 x9 x1000 (wrap64 (x1001 + 1)) x1002 x1003) else (if (bt x1000 x1001) = 95 then (spec_l08Test_read1.l0 k x2 x9 x1000 (wrap64 (x1001 + 1)) x1002 x1003) else (spec_l08Test_read1.j1 k x2 x9 x1000 x1001 x1002 x1003)))))) else (none)) else (spec_l08Test_read1.j1 k x2 x9 x1000 x1001 x1002 x1003)
def spec_l08Test_read1.f : Nat → ByteArray → Int → Int → Bool → Int → List ByteArray → Option (ByteArray × Int × Bool × ByteArray × Int × Int × Bool)
 | 0, _, _, _, _, _, _ => none
 | k + 1, s0_0, s0_1, s0_2, s0_3, a1, l2 => if s0_3 = true then (some ((⟨#[]⟩ : ByteArray), 0, false, s0_0, s0_1, s0_2, s0_3)) else (if a1 = 1 then ((spec_l08Test_row.f k s0_0 s0_1 s0_2 s0_3 1 124 l2).bind fun bt163 => (some (bt163.1, bt163.2.1, bt163.2.2.1, bt163.2.2.2.1, bt163.2.2.2.2.1, bt163.2.2.2.2.2.1, bt163.2.2.2.2.2.2))) else (if a1 = 2 then ((spec_l08Test_row.f k s0_0 s0_1 s0_2 s0_3 2 38 l2).bind fun bt170 => (some (bt170.1, bt170.2.1, bt170.2.2.1, bt170.2.2.2.1, bt170.2.2.2.2.1, bt170.2.2.2.2.2.1, bt170.2.2.2.2.2.2))) else ((spec_l08Test_takes.f s0_0 s0_1 s0_2 s0_3 33).bind fun bt177 => (if bt177.1 = true then ((spec_l08Test_read1.f k bt177.2.1 bt177.2.2.1 bt177.2.2.2.1 bt177.2.2.2.2 3 l2).bind fun bt182 => ((spec_l08In.f bt182.1 bt182.2.1 bt182.2.2.1 3).bind fun t190 => (if 1 + t190.size ≤ 9223372036854775807 then (some ((⟨#[33]⟩ : ByteArray) ++ t190, 3, !bt182.2.2.1, bt182.2.2.2.1, bt182.2.2.2.2.1, bt182.2.2.2.2.2.1, bt182.2.2.2.2.2.2)) else (none)))) else ((spec_l08Test_takes.f bt177.2.1 bt177.2.2.1 bt177.2.2.2.1 bt177.2.2.2.2 40).bind fun bt191 => (if bt191.1 = true then ((spec_l08Test_read1.f k bt191.2.1 bt191.2.2.1 (wrap64 (bt191.2.2.2.1 + 1)) bt191.2.2.2.2 1 l2).bind fun bt196 => ((spec_l08Test_takes.f bt196.2.2.2.1 bt196.2.2.2.2.1 bt196.2.2.2.2.2.1 bt196.2.2.2.2.2.2 41).bind fun bt204 => (if bt204.1 = true then (if bt204.2.2.2.1 > 10 then (some (bt196.1, bt196.2.1, bt196.2.2.1, bt204.2.1, bt204.2.2.1, wrap64 (bt204.2.2.2.1 - 1), true)) else (some (bt196.1, bt196.2.1, bt196.2.2.1, bt204.2.1, bt204.2.2.1, wrap64 (bt204.2.2.2.1 - 1), bt204.2.2.2.2))) else (some (bt196.1, bt196.2.1, bt196.2.2.1, bt204.2.1, bt204.2.2.1, wrap64 (bt204.2.2.2.1 - 1), true))))) else (spec_l08Test_read1.l0 k l2 bt191.2.2.1 bt191.2.1 bt191.2.2.1 bt191.2.2.2.1 bt191.2.2.2.2)))))))
end
theorem spec_l08Test_read1.mono_l : ∀ k, (∀ y0 y1 y2 y3 y4 y5, LeO (spec_l08Test_read1.f k y0 y1 y2 y3 y4 y5) (spec_l08Test_read1.f (k + 1) y0 y1 y2 y3 y4 y5)) ∧ (∀ y0 y1 y2 y3 y4 y5, LeO (spec_l08Test_read1.j1 k y0 y1 y2 y3 y4 y5) (spec_l08Test_read1.j1 (k + 1) y0 y1 y2 y3 y4 y5)) ∧ (∀ y0 y1 y2 y3 y4 y5, LeO (spec_l08Test_read1.l0 k y0 y1 y2 y3 y4 y5) (spec_l08Test_read1.l0 (k + 1) y0 y1 y2 y3 y4 y5))
 | 0 => ⟨fun _ _ _ _ _ _ r h => by simp [spec_l08Test_read1.f] at h, fun _ _ _ _ _ _ r h => by simp [spec_l08Test_read1.j1] at h, fun _ _ _ _ _ _ r h => by simp [spec_l08Test_read1.l0] at h⟩
 | k + 1 => by
  obtain ⟨ih0, ih1, ih2⟩ := spec_l08Test_read1.mono_l k
  refine ⟨?_, ?_, ?_⟩
  ·intro y0 y1 y2 y3 y4 y5
   unfold spec_l08Test_read1.f
   repeat' first
   | (with_reducible exact ih0 _ _ _ _ _ _)
   | (with_reducible exact ih1 _ _ _ _ _ _)
   | (with_reducible exact ih2 _ _ _ _ _ _)
   | (with_reducible exact spec_l01InTexts.mono _ _ _)
   | (with_reducible exact spec_l01Name.mono _ _)
   | (with_reducible exact spec_l08Test_row.mono _ _ _ _ _ _ _ _)
   | (with_reducible exact LeO.refl _)
   | (with_reducible exact LeO.none _)
   | (with_reducible refine LeO.ite ?_ ?_)
   | (with_reducible refine LeO.bind ?_ (fun _ => ?_))
   | exact ih0 _ _ _ _ _ _
   | exact ih1 _ _ _ _ _ _
   | exact ih2 _ _ _ _ _ _
   | exact spec_l01InTexts.mono _ _ _
   | exact spec_l01Name.mono _ _
   | exact spec_l08Test_row.mono _ _ _ _ _ _ _ _
   | exact LeO.none _
   | refine LeO.ite ?_ ?_
   | refine LeO.bind ?_ (fun _ => ?_)
  ·intro y0 y1 y2 y3 y4 y5
   unfold spec_l08Test_read1.j1
   repeat' first
   | (with_reducible exact ih0 _ _ _ _ _ _)
   | (with_reducible exact ih1 _ _ _ _ _ _)
   | (with_reducible exact ih2 _ _ _ _ _ _)
   | (with_reducible exact spec_l01InTexts.mono _ _ _)
   | (with_reducible exact spec_l01Name.mono _ _)
   | (with_reducible exact spec_l08Test_row.mono _ _ _ _ _ _ _ _)
   | (with_reducible exact LeO.refl _)
   | (with_reducible exact LeO.none _)
   | (with_reducible refine LeO.ite ?_ ?_)
   | (with_reducible refine LeO.bind ?_ (fun _ => ?_))
   | exact ih0 _ _ _ _ _ _
   | exact ih1 _ _ _ _ _ _
   | exact ih2 _ _ _ _ _ _
   | exact spec_l01InTexts.mono _ _ _
   | exact spec_l01Name.mono _ _
   | exact spec_l08Test_row.mono _ _ _ _ _ _ _ _
   | exact LeO.none _
   | refine LeO.ite ?_ ?_
   | refine LeO.bind ?_ (fun _ => ?_)
  ·intro y0 y1 y2 y3 y4 y5
   unfold spec_l08Test_read1.l0
   repeat' first
   | (with_reducible exact ih0 _ _ _ _ _ _)
   | (with_reducible exact ih1 _ _ _ _ _ _)
   | (with_reducible exact ih2 _ _ _ _ _ _)
   | (with_reducible exact spec_l01InTexts.mono _ _ _)
   | (with_reducible exact spec_l01Name.mono _ _)
   | (with_reducible exact spec_l08Test_row.mono _ _ _ _ _ _ _ _)
   | (with_reducible exact LeO.refl _)
   | (with_reducible exact LeO.none _)
   | (with_reducible refine LeO.ite ?_ ?_)
   | (with_reducible refine LeO.bind ?_ (fun _ => ?_))
   | exact ih0 _ _ _ _ _ _
   | exact ih1 _ _ _ _ _ _
   | exact ih2 _ _ _ _ _ _
   | exact spec_l01InTexts.mono _ _ _
   | exact spec_l01Name.mono _ _
   | exact spec_l08Test_row.mono _ _ _ _ _ _ _ _
   | exact LeO.none _
   | refine LeO.ite ?_ ?_
   | refine LeO.bind ?_ (fun _ => ?_)
theorem spec_l08Test_read1.mono : ∀ a0 a1 a2 a3 a4 a5 k, LeO (spec_l08Test_read1.f k a0 a1 a2 a3 a4 a5) (spec_l08Test_read1.f (k + 1) a0 a1 a2 a3 a4 a5) := by
 intro a0 a1 a2 a3 a4 a5 k
 obtain ⟨ih0, ih1, ih2⟩ := spec_l08Test_read1.mono_l k
 exact ih0 a0 a1 a2 a3 a4 a5
set_option maxHeartbeats 8000000 in
set_option maxRecDepth 100000 in
theorem spec_l08Test_read1.calls (k : Nat) : ∀ (g : Nat) (s0_0 : ByteArray) (s0_1 : Int) (s0_2 : Int) (s0_3 : Bool) (a1 : Int) (A2 : Option Addr) (c2 : Nat) (l2 : List ByteArray) (r1 : ByteArray) (r2 : Int) (r3 : Bool) (r4 : ByteArray) (r5 : Int) (r6 : Int) (r7 : Bool) (w0 w : World) (hI : IsS123 w0 w g s0_0 s0_1 s0_2 s0_3) (hB : Below w0.heap.size w0 w) (hr2 : Kd.C Kd.string w A2 l2.length l2) (hc2 : l2.length ≤ c2) (hf2 : ∀ ad, A2 = some ad → 0 < l2.length → ad.block ≠ g) (h : spec_l08Test_read1.f k s0_0 s0_1 s0_2 s0_3 a1 l2 = some (r1, r2, r3, r4, r5, r6, r7)),
  Calls Try.prog 82 #[.pointer (some ⟨g, 0, none⟩), .int .i64 a1, .slice A2 l2.length c2] w fun e w' => e = .returned (.agg #[.string r1, .int .i64 r2, .bool r3]) ∧ IsS123 w0 w' g r4 r5 r6 r7 ∧ Below w0.heap.size w0 w' ∧ KeepBut w w' g none := by
 induction k using Nat.strongRecOn with
 | _ k ih =>
 intro g s0_0 s0_1 s0_2 s0_3 a1 A2 c2 l2 r1 r2 r3 r4 r5 r6 r7 w0 w hI hB hr2 hc2 hf2 h
 cases k with
 | zero => exact absurd h (by simp [spec_l08Test_read1.f])
 | succ k =>
 simp only [spec_l08Test_read1.f] at h
 have hu97 := Try.underlying97
 have HR2 := Aside0.mk hr2
 have HC2 := Aside0.mk hc2
 clear hr2 hc2
 have HI0 := Aside0.mk hI
 have HK := Aside0.mk (KeepBut.refl w g none)
 have HL := Aside0.mk hB.size
 clear hI
 have HW0 := Aside0.mk hB.size
 have HB := Aside0.mk hB
 clear hB
 have H : (if s0_3 = true then (some ((⟨#[]⟩ : ByteArray), 0, false, s0_0, s0_1, s0_2, s0_3)) else (if a1 = 1 then ((spec_l08Test_row.f k s0_0 s0_1 s0_2 s0_3 1 124 l2).bind fun bt163 => (some (bt163.1, bt163.2.1, bt163.2.2.1, bt163.2.2.2.1, bt163.2.2.2.2.1, bt163.2.2.2.2.2.1, bt163.2.2.2.2.2.2))) else (if a1 = 2 then ((spec_l08Test_row.f k s0_0 s0_1 s0_2 s0_3 2 38 l2).bind fun bt170 => (some (bt170.1, bt170.2.1, bt170.2.2.1, bt170.2.2.2.1, bt170.2.2.2.2.1, bt170.2.2.2.2.2.1, bt170.2.2.2.2.2.2))) else ((spec_l08Test_takes.f s0_0 s0_1 s0_2 s0_3 33).bind fun bt177 => (if bt177.1 = true then ((spec_l08Test_read1.f k bt177.2.1 bt177.2.2.1 bt177.2.2.2.1 bt177.2.2.2.2 3 l2).bind fun bt182 => ((spec_l08In.f bt182.1 bt182.2.1 bt182.2.2.1 3).bind fun t190 => (if 1 + t190.size ≤ 9223372036854775807 then (some ((⟨#[33]⟩ : ByteArray) ++ t190, 3, !bt182.2.2.1, bt182.2.2.2.1, bt182.2.2.2.2.1, bt182.2.2.2.2.2.1, bt182.2.2.2.2.2.2)) else (none)))) else ((spec_l08Test_takes.f bt177.2.1 bt177.2.2.1 bt177.2.2.2.1 bt177.2.2.2.2 40).bind fun bt191 => (if bt191.1 = true then ((spec_l08Test_read1.f k bt191.2.1 bt191.2.2.1 (wrap64 (bt191.2.2.2.1 + 1)) bt191.2.2.2.2 1 l2).bind fun bt196 => ((spec_l08Test_takes.f bt196.2.2.2.1 bt196.2.2.2.2.1 bt196.2.2.2.2.2.1 bt196.2.2.2.2.2.2 41).bind fun bt204 => (if bt204.1 = true then (if bt204.2.2.2.1 > 10 then (some (bt196.1, bt196.2.1, bt196.2.2.1, bt204.2.1, bt204.2.2.1, wrap64 (bt204.2.2.2.1 - 1), true)) else (some (bt196.1, bt196.2.1, bt196.2.2.1, bt204.2.1, bt204.2.2.1, wrap64 (bt204.2.2.2.1 - 1), bt204.2.2.2.2))) else (some (bt196.1, bt196.2.1, bt196.2.2.1, bt204.2.1, bt204.2.2.1, wrap64 (bt204.2.2.2.1 - 1), true))))) else (spec_l08Test_read1.l0 k l2 bt191.2.2.1 bt191.2.1 bt191.2.2.1 bt191.2.2.2.1 bt191.2.2.2.2)))))))) = some (r1, r2, r3, r4, r5, r6, r7) := h
 clear h
 by_cases c4 : s0_3 = true
 ·subst c4
  rw [if_pos rfl] at H
  try dsimp only at H
  simp only [Option.some.injEq, Prod.mk.injEq] at H
  obtain ⟨rfl, rfl, rfl, rfl, rfl, rfl, rfl⟩ := H
  go_enter Try.func82, Try.ntmps82
  go_wp2_with (first | ((with_reducible refine gate_dst (N := 6) rfl ?_); refine box_event ?hg (N := 6) ?hd (cs := #[.string (⟨#[]⟩ : ByteArray), .int .i64 0, .bool false]) (t := 97) ?hr ?_; (case hd => rfl); (case hg => rfl); (case hr => first | (go_simp; done) | (go_simp; rfl)); intro gb162 hg w5 hbox hb; have n_ := c8_ (IsS123.below (a1_) hb) (KeepBut.trans (a2_) (KeepBut.of_below hb g none) (.inl rfl)) (below_step (a3_) hb) (hbox) ((by rw [hg]; exact (keep_size (w := w) (g := g) (row := none) (a2_)) : w.heap.size ≤ gb162)) ((Nat.le_trans HW0.out (by rw [hg]; exact (keep_size (w := w) (g := g) (row := none) (a2_)) : w.heap.size ≤ gb162) : w0.heap.size ≤ gb162)) ((by rw [hg]; exact Nat.ne_of_lt (IsS123.lt (show IsS123 w0 _ g s0_0 s0_1 s0_2 true from a1_)) : g ≠ gb162)) ((by rw [hg]; exact Nat.ne_of_gt (IsS123.lt (show IsS123 w0 _ g s0_0 s0_1 s0_2 true from a1_)) : gb162 ≠ g)); clear HI0 HK HB; obtain ⟨HI0, HK, HB, BK162, GW162, GE162, NB0_162, NB162_0⟩ := n_; clear hb hbox hg; obtain ⟨HGz6, hgz6⟩ := HI0.out; have hcz6_0 := cellS123_0 HGz6; have hcz6_1 := cellS123_1 HGz6; have hcz6_2 := cellS123_2 HGz6; have hcz6_3 := cellS123_3 HGz6; have hfz6_0 := blk_frozen HGz6 0; have hfz6_1 := blk_frozen HGz6 1; have hfz6_2 := blk_frozen HGz6 2; have hfz6_3 := blk_frozen HGz6 3; clear HGz6 hgz6; have hnb7 := NB162_0.out; have hnc7 := NB0_162.out; obtain ⟨hcz8_0, hcz8_1, hcz8_2, hfz8_0, hfz8_1, hfz8_2⟩ := cf3_ BK162.out))
  refine bodyPost_ret (results_cell_row rfl _ _ gb162 97 #[.string (⟨#[]⟩ : ByteArray), .int .i64 0, .bool false] (0, 0) _ rfl (by (with_reducible repeat (first | refine blk_drewN ?_ _ | refine blk_drew ?_ | refine blk_alloc ?_ _)); refine blk_put (cs := #[.string (⟨#[]⟩ : ByteArray), .int .i64 0, .bool false]) ?_ 2 _ rfl; (with_reducible repeat (first | refine blk_drewN ?_ _ | refine blk_drew ?_ | refine blk_alloc ?_ _)); refine blk_put (cs := #[.string (⟨#[]⟩ : ByteArray), .int .i64 0, .bool false]) ?_ 1 _ rfl; (with_reducible repeat (first | refine blk_drewN ?_ _ | refine blk_drew ?_ | refine blk_alloc ?_ _)); refine blk_put (cs := #[.string (⟨#[]⟩ : ByteArray), .int .i64 0, .bool false]) ?_ 0 _ rfl; (with_reducible repeat (first | refine blk_drewN ?_ _ | refine blk_drew ?_ | refine blk_alloc ?_ _)); exact BK162.out) Try.underlying97 rfl (by kernel_rfl)) rfl ?_
  exact ⟨a4_, a5_, a6_, a7_⟩
 ·replace c4 := Bool.eq_false_iff.mpr c4
  subst c4
  rw [if_neg (show ¬ (false = true) by decide)] at H
  try dsimp only at H
  by_cases c9 : a1 = 1
  ·rw [if_pos c9] at H
   have c9b0 : (a1 == 1) = true := beq_iff_eq.mpr c9
   have c9b1 : (a1 != 1) = false := bne_eq_false_iff_eq.mpr c9
   clear c9
   replace H := Option.bind_eq_some_iff.mp H
   obtain ⟨⟨t163, t164, t165, t166, t167, t168, t169⟩, A100, H⟩ := H
   try dsimp only at H
   have A10 := Aside0.mk A100
   clear A100
   simp only [Option.some.injEq, Prod.mk.injEq] at H
   obtain ⟨rfl, rfl, rfl, rfl, rfl, rfl, rfl⟩ := H
   go_enter Try.func82, Try.ntmps82
   go_wp2_with (first | ((with_reducible refine gate_dst (N := 6) rfl ?_); refine box_event ?hg (N := 6) ?hd (cs := #[.string (⟨#[]⟩ : ByteArray), .int .i64 0, .bool false]) (t := 97) ?hr ?_; (case hd => rfl); (case hg => rfl); (case hr => first | (go_simp; done) | (go_simp; rfl)); intro gb162 hg w11 hbox hb; have n_ := c8_ (IsS123.below (a1_) hb) (KeepBut.trans (a2_) (KeepBut.of_below hb g none) (.inl rfl)) (below_step (a3_) hb) (hbox) ((by rw [hg]; exact (keep_size (w := w) (g := g) (row := none) (a2_)) : w.heap.size ≤ gb162)) ((Nat.le_trans HW0.out (by rw [hg]; exact (keep_size (w := w) (g := g) (row := none) (a2_)) : w.heap.size ≤ gb162) : w0.heap.size ≤ gb162)) ((by rw [hg]; exact Nat.ne_of_lt (IsS123.lt (show IsS123 w0 _ g s0_0 s0_1 s0_2 false from a1_)) : g ≠ gb162)) ((by rw [hg]; exact Nat.ne_of_gt (IsS123.lt (show IsS123 w0 _ g s0_0 s0_1 s0_2 false from a1_)) : gb162 ≠ g)); clear HI0 HK HB; obtain ⟨HI0, HK, HB, BK162, GW162, GE162, NB0_162, NB162_0⟩ := n_; clear hb hbox hg; obtain ⟨HGz12, hgz12⟩ := HI0.out; have hcz12_0 := cellS123_0 HGz12; have hcz12_1 := cellS123_1 HGz12; have hcz12_2 := cellS123_2 HGz12; have hcz12_3 := cellS123_3 HGz12; have hfz12_0 := blk_frozen HGz12 0; have hfz12_1 := blk_frozen HGz12 1; have hfz12_2 := blk_frozen HGz12 2; have hfz12_3 := blk_frozen HGz12 3; clear HGz12 hgz12) | ((with_reducible refine gate_callee (f := 92) rfl ?_); refine goesL_ (some 21) rfl rfl Try.func92 (by kernel_rfl) rfl #[.pointer (some ⟨g, 0, none⟩), .int .i64 1, .int .u8 124, .slice A2 l2.length c2] rfl (a8_) ?_; (with_reducible refine (spec_l08Test_row.calls k g s0_0 s0_1 s0_2 false 1 124 _ _ l2 t163 t164 t165 t166 t167 t168 t169 w0 _ ?side1 ?side2 ?side3 ?side4 ?side5 A10.out).mono ?_); (case side1 => exact a5_); (case side2 => exact a6_); (case side3 => exact Kd.C_keep (⟨#[]⟩ : ByteArray) HR2.out (a7_) hf2); (case side4 => exact HC2.out); (case side5 => exact hf2); rintro e w13 ⟨rfl, hi, hb, hk⟩; refine ⟨_, rfl, ?_⟩; have n_ := c4_ (KeepBut.blk hk (g' := gb162) (o := .cells #[.string (⟨#[]⟩ : ByteArray), .int .i64 0, .bool false] 97 (0, 0)) (a9_) NB162_0.out (by simp)) (KeepBut.trans (a7_) hk (.inl rfl)) (hb) (hi); clear BK162 HK HB HI0; obtain ⟨BK162, HK, HB, HI0⟩ := n_; (try clear hb); (try clear hb2); (try clear hk); (try clear hi); have hnb14 := NB162_0.out; have hnc14 := NB0_162.out; obtain ⟨hcz15_0, hcz15_1, hcz15_2, hfz15_0, hfz15_1, hfz15_2⟩ := cf3_ BK162.out))
   refine bodyPost_ret (results_cell_row rfl _ _ gb162 97 #[.string t163, .int .i64 t164, .bool t165] (0, 0) _ rfl (by (with_reducible repeat (first | refine blk_drewN ?_ _ | refine blk_drew ?_ | refine blk_alloc ?_ _)); refine blk_put (cs := #[.string t163, .int .i64 t164, .bool false]) ?_ 2 _ rfl; (with_reducible repeat (first | refine blk_drewN ?_ _ | refine blk_drew ?_ | refine blk_alloc ?_ _)); refine blk_put (cs := #[.string t163, .int .i64 0, .bool false]) ?_ 1 _ rfl; (with_reducible repeat (first | refine blk_drewN ?_ _ | refine blk_drew ?_ | refine blk_alloc ?_ _)); refine blk_put (cs := #[.string (⟨#[]⟩ : ByteArray), .int .i64 0, .bool false]) ?_ 0 _ rfl; (with_reducible repeat (first | refine blk_drewN ?_ _ | refine blk_drew ?_ | refine blk_alloc ?_ _)); exact BK162.out) Try.underlying97 rfl (by kernel_rfl)) rfl ?_
   exact ⟨a4_, a5_, a6_, a7_⟩
  ·rw [if_neg c9] at H
   have c9b0 : (a1 == 1) = false := beq_eq_false_iff_ne.mpr c9
   have c9b1 : (a1 != 1) = true := bne_iff_ne.mpr c9
   by_cases c16 : a1 = 2
   ·rw [if_pos c16] at H
    have c16b0 : (a1 == 2) = true := beq_iff_eq.mpr c16
    have c16b1 : (a1 != 2) = false := bne_eq_false_iff_eq.mpr c16
    clear c16
    replace H := Option.bind_eq_some_iff.mp H
    obtain ⟨⟨t170, t171, t172, t173, t174, t175, t176⟩, A170, H⟩ := H
    try dsimp only at H
    have A17 := Aside0.mk A170
    clear A170
    simp only [Option.some.injEq, Prod.mk.injEq] at H
    obtain ⟨rfl, rfl, rfl, rfl, rfl, rfl, rfl⟩ := H
    go_enter Try.func82, Try.ntmps82
    go_wp2_with (first | ((with_reducible refine gate_dst (N := 6) rfl ?_); refine box_event ?hg (N := 6) ?hd (cs := #[.string (⟨#[]⟩ : ByteArray), .int .i64 0, .bool false]) (t := 97) ?hr ?_; (case hd => rfl); (case hg => rfl); (case hr => first | (go_simp; done) | (go_simp; rfl)); intro gb162 hg w18 hbox hb; have n_ := c8_ (IsS123.below (a1_) hb) (KeepBut.trans (a2_) (KeepBut.of_below hb g none) (.inl rfl)) (below_step (a3_) hb) (hbox) ((by rw [hg]; exact (keep_size (w := w) (g := g) (row := none) (a2_)) : w.heap.size ≤ gb162)) ((Nat.le_trans HW0.out (by rw [hg]; exact (keep_size (w := w) (g := g) (row := none) (a2_)) : w.heap.size ≤ gb162) : w0.heap.size ≤ gb162)) ((by rw [hg]; exact Nat.ne_of_lt (IsS123.lt (show IsS123 w0 _ g s0_0 s0_1 s0_2 false from a1_)) : g ≠ gb162)) ((by rw [hg]; exact Nat.ne_of_gt (IsS123.lt (show IsS123 w0 _ g s0_0 s0_1 s0_2 false from a1_)) : gb162 ≠ g)); clear HI0 HK HB; obtain ⟨HI0, HK, HB, BK162, GW162, GE162, NB0_162, NB162_0⟩ := n_; clear hb hbox hg; obtain ⟨HGz19, hgz19⟩ := HI0.out; have hcz19_0 := cellS123_0 HGz19; have hcz19_1 := cellS123_1 HGz19; have hcz19_2 := cellS123_2 HGz19; have hcz19_3 := cellS123_3 HGz19; have hfz19_0 := blk_frozen HGz19 0; have hfz19_1 := blk_frozen HGz19 1; have hfz19_2 := blk_frozen HGz19 2; have hfz19_3 := blk_frozen HGz19 3; clear HGz19 hgz19) | ((with_reducible refine gate_callee (f := 92) rfl ?_); refine goesL_ (some 27) rfl rfl Try.func92 (by kernel_rfl) rfl #[.pointer (some ⟨g, 0, none⟩), .int .i64 2, .int .u8 38, .slice A2 l2.length c2] rfl (a8_) ?_; (with_reducible refine (spec_l08Test_row.calls k g s0_0 s0_1 s0_2 false 2 38 _ _ l2 t170 t171 t172 t173 t174 t175 t176 w0 _ ?side1 ?side2 ?side3 ?side4 ?side5 A17.out).mono ?_); (case side1 => exact a5_); (case side2 => exact a6_); (case side3 => exact Kd.C_keep (⟨#[]⟩ : ByteArray) HR2.out (a7_) hf2); (case side4 => exact HC2.out); (case side5 => exact hf2); rintro e w20 ⟨rfl, hi, hb, hk⟩; refine ⟨_, rfl, ?_⟩; have n_ := c4_ (KeepBut.blk hk (g' := gb162) (o := .cells #[.string (⟨#[]⟩ : ByteArray), .int .i64 0, .bool false] 97 (0, 0)) (a9_) NB162_0.out (by simp)) (KeepBut.trans (a7_) hk (.inl rfl)) (hb) (hi); clear BK162 HK HB HI0; obtain ⟨BK162, HK, HB, HI0⟩ := n_; (try clear hb); (try clear hb2); (try clear hk); (try clear hi); have hnb21 := NB162_0.out; have hnc21 := NB0_162.out; obtain ⟨hcz22_0, hcz22_1, hcz22_2, hfz22_0, hfz22_1, hfz22_2⟩ := cf3_ BK162.out))
    refine bodyPost_ret (results_cell_row rfl _ _ gb162 97 #[.string t170, .int .i64 t171, .bool t172] (0, 0) _ rfl (by (with_reducible repeat (first | refine blk_drewN ?_ _ | refine blk_drew ?_ | refine blk_alloc ?_ _)); refine blk_put (cs := #[.string t170, .int .i64 t171, .bool false]) ?_ 2 _ rfl; (with_reducible repeat (first | refine blk_drewN ?_ _ | refine blk_drew ?_ | refine blk_alloc ?_ _)); refine blk_put (cs := #[.string t170, .int .i64 0, .bool false]) ?_ 1 _ rfl; (with_reducible repeat (first | refine blk_drewN ?_ _ | refine blk_drew ?_ | refine blk_alloc ?_ _)); refine blk_put (cs := #[.string (⟨#[]⟩ : ByteArray), .int .i64 0, .bool false]) ?_ 0 _ rfl; (with_reducible repeat (first | refine blk_drewN ?_ _ | refine blk_drew ?_ | refine blk_alloc ?_ _)); exact BK162.out) Try.underlying97 rfl (by kernel_rfl)) rfl ?_
    exact ⟨a4_, a5_, a6_, a7_⟩
   ·rw [if_neg c16] at H
    have c16b0 : (a1 == 2) = false := beq_eq_false_iff_ne.mpr c16
    have c16b1 : (a1 != 2) = true := bne_iff_ne.mpr c16
    replace H := Option.bind_eq_some_iff.mp H
    obtain ⟨⟨t177, t178, t179, t180, t181⟩, A230, H⟩ := H
    try dsimp only at H
    have A23 := Aside0.mk A230
    clear A230
    by_cases c24 : t177 = true
    ·subst c24
     rw [if_pos rfl] at H
     try dsimp only at H
     replace H := Option.bind_eq_some_iff.mp H
     obtain ⟨⟨t182, t183, t184, t185, t186, t187, t188⟩, A250, H⟩ := H
     try dsimp only at H
     have A25 := Aside0.mk A250
     clear A250
     replace H := Option.bind_eq_some_iff.mp H
     obtain ⟨t190, A260, H⟩ := H
     try dsimp only at H
     have A26 := Aside0.mk A260
     clear A260
     by_cases c27 : 1 + t190.size ≤ 9223372036854775807
     ·rw [if_pos c27] at H
      have c27b0 := eq_true c27
      have c27b1 : decide (1 + t190.size ≤ 9223372036854775807) = true := decide_eq_true c27
      try have c27b2 : (9223372036854775807 < 1 + t190.size) = False := eq_false (Nat.not_lt.2 c27)
      simp only [Option.some.injEq, Prod.mk.injEq] at H
      obtain ⟨rfl, rfl, rfl, rfl, rfl, rfl, rfl⟩ := H
      go_enter Try.func82, Try.ntmps82
      try go_wp2_with (first | ((with_reducible refine gate_dst (N := 6) rfl ?_); refine box_event ?hg (N := 6) ?hd (cs := #[.string (⟨#[]⟩ : ByteArray), .int .i64 0, .bool false]) (t := 97) ?hr ?_; (case hd => rfl); (case hg => rfl); (case hr => first | (go_simp; done) | (go_simp; rfl)); intro gb162 hg w28 hbox hb; have n_ := c8_ (IsS123.below (a1_) hb) (KeepBut.trans (a2_) (KeepBut.of_below hb g none) (.inl rfl)) (below_step (a3_) hb) (hbox) ((by rw [hg]; exact (keep_size (w := w) (g := g) (row := none) (a2_)) : w.heap.size ≤ gb162)) ((Nat.le_trans HW0.out (by rw [hg]; exact (keep_size (w := w) (g := g) (row := none) (a2_)) : w.heap.size ≤ gb162) : w0.heap.size ≤ gb162)) ((by rw [hg]; exact Nat.ne_of_lt (IsS123.lt (show IsS123 w0 _ g s0_0 s0_1 s0_2 false from a1_)) : g ≠ gb162)) ((by rw [hg]; exact Nat.ne_of_gt (IsS123.lt (show IsS123 w0 _ g s0_0 s0_1 s0_2 false from a1_)) : gb162 ≠ g)); clear HI0 HK HB; obtain ⟨HI0, HK, HB, BK162, GW162, GE162, NB0_162, NB162_0⟩ := n_; clear hb hbox hg; obtain ⟨HGz29, hgz29⟩ := HI0.out; have hcz29_0 := cellS123_0 HGz29; have hcz29_1 := cellS123_1 HGz29; have hcz29_2 := cellS123_2 HGz29; have hcz29_3 := cellS123_3 HGz29; have hfz29_0 := blk_frozen HGz29 0; have hfz29_1 := blk_frozen HGz29 1; have hfz29_2 := blk_frozen HGz29 2; have hfz29_3 := blk_frozen HGz29 3; clear HGz29 hgz29) | ((with_reducible refine gate_callee (f := 93) rfl ?_); refine goesL_ (some 30) rfl rfl Try.func93 (by kernel_rfl) rfl #[.pointer (some ⟨g, 0, none⟩), .int .u8 33] rfl (a8_) ?_; (with_reducible refine (spec_l08Test_takes.calls g s0_0 s0_1 s0_2 false 33 true t178 t179 t180 t181 w0 _ ?side1 ?side2 A23.out).mono ?_); (case side1 => exact a5_); (case side2 => exact a6_); rintro e w30 ⟨rfl, hi, hb, hk⟩; refine ⟨_, rfl, ?_⟩; have n_ := c4_ (KeepBut.blk hk (g' := gb162) (o := .cells #[.string (⟨#[]⟩ : ByteArray), .int .i64 0, .bool false] 97 (0, 0)) (a9_) NB162_0.out (by simp)) (KeepBut.trans (a7_) hk (.inl rfl)) (hb) (hi); clear BK162 HK HB HI0; obtain ⟨BK162, HK, HB, HI0⟩ := n_; (try clear hb); (try clear hb2); (try clear hk); (try clear hi)) | ((with_reducible refine gate_callee (f := 82) rfl ?_); refine goesL_ (some 33) rfl rfl Try.func82 (by kernel_rfl) rfl #[.pointer (some ⟨g, 0, none⟩), .int .i64 3, .slice A2 l2.length c2] rfl (a8_) ?_; (with_reducible refine (ih k (by omega) g t178 t179 t180 t181 3 _ _ l2 t182 t183 t184 t185 t186 t187 t188 w0 _ ?side1 ?side2 ?side3 ?side4 ?side5 A25.out).mono ?_); (case side1 => exact a5_); (case side2 => exact a6_); (case side3 => exact Kd.C_keep (⟨#[]⟩ : ByteArray) HR2.out (a7_) hf2); (case side4 => exact HC2.out); (case side5 => exact hf2); rintro e w31 ⟨rfl, hi, hb, hk⟩; refine ⟨_, rfl, ?_⟩; have n_ := c4_ (KeepBut.blk hk (g' := gb162) (o := .cells #[.string (⟨#[]⟩ : ByteArray), .int .i64 0, .bool false] 97 (0, 0)) (a9_) NB162_0.out (by simp)) (KeepBut.trans (a7_) hk (.inl rfl)) (hb) (hi); clear BK162 HK HB HI0; obtain ⟨BK162, HK, HB, HI0⟩ := n_; (try clear hb); (try clear hb2); (try clear hk); (try clear hi)) | ((with_reducible refine gate_dst (N := 7) rfl ?_); refine box_event ?hg (N := 7) ?hd (cs := #[.string (⟨#[]⟩ : ByteArray), .int .i64 0, .bool false]) (t := 97) ?hr ?_; (case hd => rfl); (case hg => rfl); (case hr => first | (go_simp; done) | (go_simp; rfl)); intro gb189 hg w32 hbox hb; have n_ := c11_ (IsS123.below (a5_) hb) (blk_below (g := gb162) (o := .cells #[.string (⟨#[]⟩ : ByteArray), .int .i64 0, .bool false] 97 (0, 0)) (a9_) hb) (KeepBut.trans (a7_) (KeepBut.of_below hb g none) (.inl rfl)) (below_step (a6_) hb) (hbox) ((by rw [hg]; exact (keep_size (w := w) (g := g) (row := none) (a7_)) : w.heap.size ≤ gb189)) ((Nat.le_trans HW0.out (by rw [hg]; exact (keep_size (w := w) (g := g) (row := none) (a7_)) : w.heap.size ≤ gb189) : w0.heap.size ≤ gb189)) ((by rw [hg]; exact Nat.ne_of_lt (blk_lt (g := gb162) (o := .cells #[.string (⟨#[]⟩ : ByteArray), .int .i64 0, .bool false] 97 (0, 0)) (a9_)) : gb162 ≠ gb189)) ((by rw [hg]; exact Nat.ne_of_gt (blk_lt (g := gb162) (o := .cells #[.string (⟨#[]⟩ : ByteArray), .int .i64 0, .bool false] 97 (0, 0)) (a9_)) : gb189 ≠ gb162)) ((by rw [hg]; exact Nat.ne_of_lt (IsS123.lt (show IsS123 w0 _ g t185 t186 t187 t188 from a5_)) : g ≠ gb189)) ((by rw [hg]; exact Nat.ne_of_gt (IsS123.lt (show IsS123 w0 _ g t185 t186 t187 t188 from a5_)) : gb189 ≠ g)); clear HI0 BK162 HK HB; obtain ⟨HI0, BK162, HK, HB, BK189, GW189, GE189, NB162_189, NB189_162, NB0_189, NB189_0⟩ := n_; clear hb hbox hg; have hnb33 := NB189_162.out; have hnc33 := NB162_189.out; have hnb34 := NB189_0.out; have hnc34 := NB0_189.out; obtain ⟨hcz35_0, hcz35_1, hcz35_2, hfz35_0, hfz35_1, hfz35_2⟩ := cf3_ BK189.out))
      have n_ := c5_ (show (((w32.setCell ⟨gb189, 0, none⟩ (.string t182)).setCell ⟨gb189, 1, none⟩ (.int .i64 t183)).setCell ⟨gb189, 2, none⟩ (.bool t184)).heap[gb162]? = some (.cells #[.string (⟨#[]⟩ : ByteArray), .int .i64 0, .bool false] 97 (0, 0)) from by (with_reducible repeat (first | refine blk_drewN ?_ _ | refine blk_drew ?_ | refine blk_alloc ?_ _)); refine blk_far ?_ NB162_189.out _; (with_reducible repeat (first | refine blk_drewN ?_ _ | refine blk_drew ?_ | refine blk_alloc ?_ _)); refine blk_far ?_ NB162_189.out _; (with_reducible repeat (first | refine blk_drewN ?_ _ | refine blk_drew ?_ | refine blk_alloc ?_ _)); refine blk_far ?_ NB162_189.out _; (with_reducible repeat (first | refine blk_drewN ?_ _ | refine blk_drew ?_ | refine blk_alloc ?_ _)); exact BK162.out) (show (((w32.setCell ⟨gb189, 0, none⟩ (.string t182)).setCell ⟨gb189, 1, none⟩ (.int .i64 t183)).setCell ⟨gb189, 2, none⟩ (.bool t184)).heap[gb189]? = some (.cells #[.string t182, .int .i64 t183, .bool t184] 97 (0, 0)) from by (with_reducible repeat (first | refine blk_drewN ?_ _ | refine blk_drew ?_ | refine blk_alloc ?_ _)); refine blk_put (cs := #[.string t182, .int .i64 t183, .bool false]) ?_ 2 _ rfl; (with_reducible repeat (first | refine blk_drewN ?_ _ | refine blk_drew ?_ | refine blk_alloc ?_ _)); refine blk_put (cs := #[.string t182, .int .i64 0, .bool false]) ?_ 1 _ rfl; (with_reducible repeat (first | refine blk_drewN ?_ _ | refine blk_drew ?_ | refine blk_alloc ?_ _)); refine blk_put (cs := #[.string (⟨#[]⟩ : ByteArray), .int .i64 0, .bool false]) ?_ 0 _ rfl; (with_reducible repeat (first | refine blk_drewN ?_ _ | refine blk_drew ?_ | refine blk_alloc ?_ _)); exact BK189.out) (show IsS123 w0 (((w32.setCell ⟨gb189, 0, none⟩ (.string t182)).setCell ⟨gb189, 1, none⟩ (.int .i64 t183)).setCell ⟨gb189, 2, none⟩ (.bool t184)) g t185 t186 t187 t188 from a10_) (show KeepBut w (((w32.setCell ⟨gb189, 0, none⟩ (.string t182)).setCell ⟨gb189, 1, none⟩ (.int .i64 t183)).setCell ⟨gb189, 2, none⟩ (.bool t184)) g none from a11_) (show Below w0.heap.size w0 (((w32.setCell ⟨gb189, 0, none⟩ (.string t182)).setCell ⟨gb189, 1, none⟩ (.int .i64 t183)).setCell ⟨gb189, 2, none⟩ (.bool t184)) from a12_)
      (try clear BK162)
      (try clear BK189)
      (try clear HI0)
      (try clear HK)
      (try clear HB)
      generalize (((w32.setCell ⟨gb189, 0, none⟩ (.string t182)).setCell ⟨gb189, 1, none⟩ (.int .i64 t183)).setCell ⟨gb189, 2, none⟩ (.bool t184)) = w36 at n_ ⊢
      obtain ⟨BK162, BK189, HI0, HK, HB⟩ := n_
      have n_ := c5_ (blk_drew BK162.out) (blk_drew BK189.out) (IsS123.drew HI0.out) (keep_drew HK.out) (below_drew1 HB.out)
      clear BK162 BK189 HI0 HK HB
      obtain ⟨BK162, BK189, HI0, HK, HB⟩ := n_
      refine start_ (n := 8) (S := fun w' => w'.cell? ⟨gb189, 0, none⟩ = some (.string t182) ∧ w'.cell? ⟨gb189, 1, none⟩ = some (.int .i64 t183) ∧ w'.cell? ⟨gb189, 2, none⟩ = some (.bool t184)) (ds := []) (bs_ 8 0) (by kernel_rfl) (by kernel_rfl) (by kernel_rfl) ⟨(blk_cell BK189.out 0).trans rfl, (blk_cell BK189.out 1).trans rfl, (blk_cell BK189.out 2).trans rfl⟩ (fun hHeld => ?_); refine with_tabW spec_l08Test_read1.tab9 spec_l08Test_read1.bits9 (fun HT_ HW_ => ?_)
      generalize w36.drew = w37 at BK162 BK189 HI0 HK HB hHeld ⊢
      refine pu_ (i := 3) (N := some 37) 8 rfl rfl HT_ (Or.inl ⟨by rfl, by intro w'; go_simp; with_reducible rfl⟩) (by simp only [pt_]; rfl) ?_
      refine tk_ (i := 0) (N := some 34) 9 rfl rfl HT_ HW_ (Or.inl ⟨by rfl, by rintro w' ⟨s0, s1, s2⟩; go_simp; with_reducible rfl⟩) hHeld (by simp only [pt_]; rfl) ?_
      refine tk_ (i := 4) (N := some 38) 25 rfl rfl HT_ HW_ (Or.inl ⟨by rfl, by rintro w' ⟨s0, s1, s2⟩; go_simp; with_reducible rfl⟩) hHeld (by simp only [pt_]; rfl) ?_
      refine pu_ (i := 5) (N := some 39) 57 rfl rfl HT_ (Or.inl ⟨by rfl, by intro w'; go_simp; with_reducible rfl⟩) (by simp only [pt_]; rfl) ?_
      refine one_ (i := 1) (N := some 35) (bs_ 8 59) rfl rfl (one_of HT_.out (by kernel_rfl)) (by decide) (fun K hK => ?_)
      refine goes_ Try.func94 (by kernel_rfl) rfl #[.agg #[.string t182, .int .i64 t183, .bool t184], .int .i64 3] (by rfl) rfl rfl (a8_) ?_
      with_reducible refine (spec_l08In.calls t182 t183 t184 3 t190 _ A26.out).mono ?_
      rintro e w38 ⟨rfl, hb⟩
      refine ⟨_, rfl, ?_⟩
      have n_ := c5_ (IsS123.below (a10_) hb) (blk_below (g := gb162) (o := .cells #[.string (⟨#[]⟩ : ByteArray), .int .i64 0, .bool false] 97 (0, 0)) (a9_) hb) (blk_below (g := gb189) (o := .cells #[.string t182, .int .i64 t183, .bool t184] 97 (0, 0)) (by (with_reducible repeat (first | refine blk_drewN ?_ _ | refine blk_drew ?_ | refine blk_alloc ?_ _)); exact BK189.out) hb) (KeepBut.trans (a11_) (KeepBut.of_below hb g none) (.inl rfl)) (below_step (a12_) hb)
      clear HI0 BK162 BK189 HK HB
      obtain ⟨HI0, BK162, BK189, HK, HB⟩ := n_
      (try clear hb)
      (try clear hb2)
      (try clear hk)
      (try clear hi)
      refine hK.out _ _ ⟨(blk_cell BK189.out 0).trans rfl, (blk_cell BK189.out 1).trans rfl, (blk_cell BK189.out 2).trans rfl⟩ (fun hHeld => ?_)
      clear hK K
      refine norm_ (a' := ?_) ?_ ?_
      rotate_left
      ·show Act.put _ (some 35) _ = _
       simp only [pt_]
       rfl
      refine pu_ (i := 2) (N := some 36) 63 rfl rfl HT_ (Or.inl ⟨by rfl, by intro w'; go_simp; with_reducible rfl⟩) (by simp only [pt_]; rfl) ?_
      refine pu_ (i := 6) (N := some 40) 127 rfl rfl HT_ (Or.inl ⟨by rfl, by intro w'; go_simp; with_reducible rfl⟩) (by simp only [pt_]; rfl) ?_
      refine one_ (i := 7) (N := none) (bs_ 8 255) rfl rfl (one_of HT_.out (by kernel_rfl)) (by decide) (fun K hK => ?_)
      have hs39 : w38.cell? ⟨gb162, 0, none⟩ = some (.string (⟨#[]⟩ : ByteArray)) := (blk_cell BK162.out 0).trans rfl
      have hfs39 := blk_frozen BK162.out 0
      have hns39_1 := NB189_162.out
      have hms39_1 := NB162_189.out
      have hs40 : w38.cell? ⟨gb162, 1, none⟩ = some (.int .i64 0) := (blk_cell BK162.out 1).trans rfl
      have hfs40 := blk_frozen BK162.out 1
      have hns40_1 := NB189_162.out
      have hms40_1 := NB162_189.out
      have hs41 : w38.cell? ⟨gb162, 2, none⟩ = some (.bool false) := (blk_cell BK162.out 2).trans rfl
      have hfs41 := blk_frozen BK162.out 2
      have hns41_1 := NB189_162.out
      have hms41_1 := NB162_189.out
      refine skip_ (w1 := ?_) (by rfl) rfl ?_ ?_
      rotate_left
      ·go_simp
       rfl
      refine hK.out _ _ ⟨((cell_far (p := ⟨gb162, _, none⟩) NB189_162.out _).trans (((cell_far (p := ⟨gb162, _, none⟩) NB189_162.out _).trans (((cell_far (p := ⟨gb162, _, none⟩) NB189_162.out _).trans (hHeld.1)))))), ((cell_far (p := ⟨gb162, _, none⟩) NB189_162.out _).trans (((cell_far (p := ⟨gb162, _, none⟩) NB189_162.out _).trans (((cell_far (p := ⟨gb162, _, none⟩) NB189_162.out _).trans (hHeld.2.1)))))), ((cell_far (p := ⟨gb162, _, none⟩) NB189_162.out _).trans (((cell_far (p := ⟨gb162, _, none⟩) NB189_162.out _).trans (((cell_far (p := ⟨gb162, _, none⟩) NB189_162.out _).trans (hHeld.2.2))))))⟩ (fun hHeld => ?_)
      clear hK K
      refine done_ (done_of HT_.out (by kernel_rfl)) ?_
      try go_wp2
      refine bodyPost_ret (results_cell_row rfl _ _ gb162 97 #[.string ((⟨#[33]⟩ : ByteArray) ++ t190), .int .i64 3, .bool (!t184)] (0, 0) _ rfl (by (with_reducible repeat (first | refine blk_drewN ?_ _ | refine blk_drew ?_ | refine blk_alloc ?_ _)); refine blk_put (cs := #[.string ((⟨#[33]⟩ : ByteArray) ++ t190), .int .i64 3, .bool false]) ?_ 2 _ rfl; (with_reducible repeat (first | refine blk_drewN ?_ _ | refine blk_drew ?_ | refine blk_alloc ?_ _)); refine blk_put (cs := #[.string ((⟨#[33]⟩ : ByteArray) ++ t190), .int .i64 0, .bool false]) ?_ 1 _ rfl; (with_reducible repeat (first | refine blk_drewN ?_ _ | refine blk_drew ?_ | refine blk_alloc ?_ _)); refine blk_put (cs := #[.string (⟨#[]⟩ : ByteArray), .int .i64 0, .bool false]) ?_ 0 _ rfl; (with_reducible repeat (first | refine blk_drewN ?_ _ | refine blk_drew ?_ | refine blk_alloc ?_ _)); exact BK162.out) Try.underlying97 rfl (by kernel_rfl)) rfl ?_
      exact ⟨a4_, a10_, a12_, a11_⟩
     ·rw [if_neg c27] at H
      exact absurd H (by simp)
    ·replace c24 := Bool.eq_false_iff.mpr c24
     subst c24
     rw [if_neg (show ¬ (false = true) by decide)] at H
     try dsimp only at H
     replace H := Option.bind_eq_some_iff.mp H
     obtain ⟨⟨t191, t192, t193, t194, t195⟩, A420, H⟩ := H
     try dsimp only at H
     have A42 := Aside0.mk A420
     clear A420
     by_cases c43 : t191 = true
     ·subst c43
      rw [if_pos rfl] at H
      try dsimp only at H
      replace H := Option.bind_eq_some_iff.mp H
      obtain ⟨⟨t196, t197, t198, t199, t200, t201, t202⟩, A440, H⟩ := H
      try dsimp only at H
      have A44 := Aside0.mk A440
      clear A440
      replace H := Option.bind_eq_some_iff.mp H
      obtain ⟨⟨t204, t205, t206, t207, t208⟩, A450, H⟩ := H
      try dsimp only at H
      have A45 := Aside0.mk A450
      clear A450
      by_cases c46 : t204 = true
      ·subst c46
       rw [if_pos rfl] at H
       try dsimp only at H
       by_cases c47 : t207 > 10
       ·rw [if_pos c47] at H
        have c47b0 : decide (10 < t207) = true := decide_eq_true c47
        clear c47
        simp only [Option.some.injEq, Prod.mk.injEq] at H
        obtain ⟨rfl, rfl, rfl, rfl, rfl, rfl, rfl⟩ := H
        go_enter Try.func82, Try.ntmps82
        go_wp2_with (first | ((with_reducible refine gate_dst (N := 6) rfl ?_); refine box_event ?hg (N := 6) ?hd (cs := #[.string (⟨#[]⟩ : ByteArray), .int .i64 0, .bool false]) (t := 97) ?hr ?_; (case hd => rfl); (case hg => rfl); (case hr => first | (go_simp; done) | (go_simp; rfl)); intro gb162 hg w48 hbox hb; have n_ := c8_ (IsS123.below (a1_) hb) (KeepBut.trans (a2_) (KeepBut.of_below hb g none) (.inl rfl)) (below_step (a3_) hb) (hbox) ((by rw [hg]; exact (keep_size (w := w) (g := g) (row := none) (a2_)) : w.heap.size ≤ gb162)) ((Nat.le_trans HW0.out (by rw [hg]; exact (keep_size (w := w) (g := g) (row := none) (a2_)) : w.heap.size ≤ gb162) : w0.heap.size ≤ gb162)) ((by rw [hg]; exact Nat.ne_of_lt (IsS123.lt (show IsS123 w0 _ g s0_0 s0_1 s0_2 false from a1_)) : g ≠ gb162)) ((by rw [hg]; exact Nat.ne_of_gt (IsS123.lt (show IsS123 w0 _ g s0_0 s0_1 s0_2 false from a1_)) : gb162 ≠ g)); clear HI0 HK HB; obtain ⟨HI0, HK, HB, BK162, GW162, GE162, NB0_162, NB162_0⟩ := n_; clear hb hbox hg; obtain ⟨HGz49, hgz49⟩ := HI0.out; have hcz49_0 := cellS123_0 HGz49; have hcz49_1 := cellS123_1 HGz49; have hcz49_2 := cellS123_2 HGz49; have hcz49_3 := cellS123_3 HGz49; have hfz49_0 := blk_frozen HGz49 0; have hfz49_1 := blk_frozen HGz49 1; have hfz49_2 := blk_frozen HGz49 2; have hfz49_3 := blk_frozen HGz49 3; clear HGz49 hgz49) | ((with_reducible refine gate_callee (f := 93) rfl ?_); refine goesL_ (some 30) rfl rfl Try.func93 (by kernel_rfl) rfl #[.pointer (some ⟨g, 0, none⟩), .int .u8 33] rfl (a8_) ?_; (with_reducible refine (spec_l08Test_takes.calls g s0_0 s0_1 s0_2 false 33 false t178 t179 t180 t181 w0 _ ?side1 ?side2 A23.out).mono ?_); (case side1 => exact a5_); (case side2 => exact a6_); rintro e w50 ⟨rfl, hi, hb, hk⟩; refine ⟨_, rfl, ?_⟩; have n_ := c4_ (KeepBut.blk hk (g' := gb162) (o := .cells #[.string (⟨#[]⟩ : ByteArray), .int .i64 0, .bool false] 97 (0, 0)) (a9_) NB162_0.out (by simp)) (KeepBut.trans (a7_) hk (.inl rfl)) (hb) (hi); clear BK162 HK HB HI0; obtain ⟨BK162, HK, HB, HI0⟩ := n_; (try clear hb); (try clear hb2); (try clear hk); (try clear hi)) | ((with_reducible refine gate_callee (f := 93) rfl ?_); refine goesL_ (some 43) rfl rfl Try.func93 (by kernel_rfl) rfl #[.pointer (some ⟨g, 0, none⟩), .int .u8 40] rfl (a8_) ?_; (with_reducible refine (spec_l08Test_takes.calls g t178 t179 t180 t181 40 true t192 t193 t194 t195 w0 _ ?side1 ?side2 A42.out).mono ?_); (case side1 => exact a5_); (case side2 => exact a6_); rintro e w51 ⟨rfl, hi, hb, hk⟩; refine ⟨_, rfl, ?_⟩; have n_ := c4_ (KeepBut.blk hk (g' := gb162) (o := .cells #[.string (⟨#[]⟩ : ByteArray), .int .i64 0, .bool false] 97 (0, 0)) (a9_) NB162_0.out (by simp)) (KeepBut.trans (a7_) hk (.inl rfl)) (hb) (hi); clear BK162 HK HB HI0; obtain ⟨BK162, HK, HB, HI0⟩ := n_; (try clear hb); (try clear hb2); (try clear hk); (try clear hi); obtain ⟨HGz52, hgz52⟩ := HI0.out; have hcz52_0 := cellS123_0 HGz52; have hcz52_1 := cellS123_1 HGz52; have hcz52_2 := cellS123_2 HGz52; have hcz52_3 := cellS123_3 HGz52; have hfz52_0 := blk_frozen HGz52 0; have hfz52_1 := blk_frozen HGz52 1; have hfz52_2 := blk_frozen HGz52 2; have hfz52_3 := blk_frozen HGz52 3; clear HGz52 hgz52) | ((with_reducible refine gate_callee (f := 82) rfl ?_); refine goesL_ (some 54) rfl rfl Try.func82 (by kernel_rfl) rfl #[.pointer (some ⟨g, 0, none⟩), .int .i64 1, .slice A2 l2.length c2] rfl (a8_) ?_; (with_reducible refine (ih k (by omega) g t192 t193 (wrap64 (t194 + 1)) t195 1 _ _ l2 t196 t197 t198 t199 t200 t201 t202 w0 _ ?side1 ?side2 ?side3 ?side4 ?side5 A44.out).mono ?_); (case side1 => exact a5_); (case side2 => exact a6_); (case side3 => exact Kd.C_keep (⟨#[]⟩ : ByteArray) HR2.out (a7_) hf2); (case side4 => exact HC2.out); (case side5 => exact hf2); rintro e w53 ⟨rfl, hi, hb, hk⟩; refine ⟨_, rfl, ?_⟩; have n_ := c4_ (KeepBut.blk hk (g' := gb162) (o := .cells #[.string (⟨#[]⟩ : ByteArray), .int .i64 0, .bool false] 97 (0, 0)) (a13_) NB162_0.out (by simp)) (KeepBut.trans (a7_) hk (.inl rfl)) (hb) (hi); clear BK162 HK HB HI0; obtain ⟨BK162, HK, HB, HI0⟩ := n_; (try clear hb); (try clear hb2); (try clear hk); (try clear hi)) | ((with_reducible refine gate_dst (N := 8) rfl ?_); refine box_event ?hg (N := 8) ?hd (cs := #[.string (⟨#[]⟩ : ByteArray), .int .i64 0, .bool false]) (t := 97) ?hr ?_; (case hd => rfl); (case hg => rfl); (case hr => first | (go_simp; done) | (go_simp; rfl)); intro gb203 hg w54 hbox hb; have n_ := c11_ (IsS123.below (a5_) hb) (blk_below (g := gb162) (o := .cells #[.string (⟨#[]⟩ : ByteArray), .int .i64 0, .bool false] 97 (0, 0)) (a9_) hb) (KeepBut.trans (a7_) (KeepBut.of_below hb g none) (.inl rfl)) (below_step (a6_) hb) (hbox) ((by rw [hg]; exact (keep_size (w := w) (g := g) (row := none) (a7_)) : w.heap.size ≤ gb203)) ((Nat.le_trans HW0.out (by rw [hg]; exact (keep_size (w := w) (g := g) (row := none) (a7_)) : w.heap.size ≤ gb203) : w0.heap.size ≤ gb203)) ((by rw [hg]; exact Nat.ne_of_lt (blk_lt (g := gb162) (o := .cells #[.string (⟨#[]⟩ : ByteArray), .int .i64 0, .bool false] 97 (0, 0)) (a9_)) : gb162 ≠ gb203)) ((by rw [hg]; exact Nat.ne_of_gt (blk_lt (g := gb162) (o := .cells #[.string (⟨#[]⟩ : ByteArray), .int .i64 0, .bool false] 97 (0, 0)) (a9_)) : gb203 ≠ gb162)) ((by rw [hg]; exact Nat.ne_of_lt (IsS123.lt (show IsS123 w0 _ g t199 t200 t201 t202 from a5_)) : g ≠ gb203)) ((by rw [hg]; exact Nat.ne_of_gt (IsS123.lt (show IsS123 w0 _ g t199 t200 t201 t202 from a5_)) : gb203 ≠ g)); clear HI0 BK162 HK HB; obtain ⟨HI0, BK162, HK, HB, BK203, GW203, GE203, NB162_203, NB203_162, NB0_203, NB203_0⟩ := n_; clear hb hbox hg; have hnb55 := NB203_162.out; have hnc55 := NB162_203.out; have hnb56 := NB203_0.out; have hnc56 := NB0_203.out; obtain ⟨hcz57_0, hcz57_1, hcz57_2, hfz57_0, hfz57_1, hfz57_2⟩ := cf3_ BK203.out) | ((with_reducible refine gate_callee (f := 93) rfl ?_); refine goesL_ (some 56) rfl rfl Try.func93 (by kernel_rfl) rfl #[.pointer (some ⟨g, 0, none⟩), .int .u8 41] rfl (a8_) ?_; (with_reducible refine (spec_l08Test_takes.calls g t199 t200 t201 t202 41 true t205 t206 t207 t208 w0 _ ?side1 ?side2 A45.out).mono ?_); (case side1 => exact a14_); (case side2 => exact a15_); rintro e w58 ⟨rfl, hi, hb, hk⟩; refine ⟨_, rfl, ?_⟩; have n_ := c5_ (KeepBut.blk hk (g' := gb162) (o := .cells #[.string (⟨#[]⟩ : ByteArray), .int .i64 0, .bool false] 97 (0, 0)) (a16_) NB162_0.out (by simp)) (KeepBut.blk hk (g' := gb203) (o := .cells #[.string t196, .int .i64 t197, .bool t198] 97 (0, 0)) (a17_) NB203_0.out (by simp)) (KeepBut.trans (a18_) hk (.inl rfl)) (hb) (hi); clear BK162 BK203 HK HB HI0; obtain ⟨BK162, BK203, HK, HB, HI0⟩ := n_; (try clear hb); (try clear hb2); (try clear hk); (try clear hi); obtain ⟨HGz59, hgz59⟩ := HI0.out; have hcz59_0 := cellS123_0 HGz59; have hcz59_1 := cellS123_1 HGz59; have hcz59_2 := cellS123_2 HGz59; have hcz59_3 := cellS123_3 HGz59; have hfz59_0 := blk_frozen HGz59 0; have hfz59_1 := blk_frozen HGz59 1; have hfz59_2 := blk_frozen HGz59 2; have hfz59_3 := blk_frozen HGz59 3; clear HGz59 hgz59; obtain ⟨hcz60_0, hcz60_1, hcz60_2, hfz60_0, hfz60_1, hfz60_2⟩ := cf3_ BK203.out; have hnb61 := NB162_0.out; have hnc61 := NB0_162.out; obtain ⟨hcz62_0, hcz62_1, hcz62_2, hfz62_0, hfz62_1, hfz62_2⟩ := cf3_ BK162.out))
        refine bodyPost_ret (results_cell_row rfl _ _ gb162 97 #[.string t196, .int .i64 t197, .bool t198] (0, 0) _ rfl (a19_) Try.underlying97 rfl (by kernel_rfl)) rfl ?_
        exact ⟨a4_, a14_, a15_, a18_⟩
       ·rw [if_neg c47] at H
        have c47b0 : decide (10 < t207) = false := decide_eq_false c47
        clear c47
        simp only [Option.some.injEq, Prod.mk.injEq] at H
        obtain ⟨rfl, rfl, rfl, rfl, rfl, rfl, rfl⟩ := H
        go_enter Try.func82, Try.ntmps82
        go_wp2_with (first | ((with_reducible refine gate_dst (N := 6) rfl ?_); refine box_event ?hg (N := 6) ?hd (cs := #[.string (⟨#[]⟩ : ByteArray), .int .i64 0, .bool false]) (t := 97) ?hr ?_; (case hd => rfl); (case hg => rfl); (case hr => first | (go_simp; done) | (go_simp; rfl)); intro gb162 hg w63 hbox hb; have n_ := c8_ (IsS123.below (a1_) hb) (KeepBut.trans (a2_) (KeepBut.of_below hb g none) (.inl rfl)) (below_step (a3_) hb) (hbox) ((by rw [hg]; exact (keep_size (w := w) (g := g) (row := none) (a2_)) : w.heap.size ≤ gb162)) ((Nat.le_trans HW0.out (by rw [hg]; exact (keep_size (w := w) (g := g) (row := none) (a2_)) : w.heap.size ≤ gb162) : w0.heap.size ≤ gb162)) ((by rw [hg]; exact Nat.ne_of_lt (IsS123.lt (show IsS123 w0 _ g s0_0 s0_1 s0_2 false from a1_)) : g ≠ gb162)) ((by rw [hg]; exact Nat.ne_of_gt (IsS123.lt (show IsS123 w0 _ g s0_0 s0_1 s0_2 false from a1_)) : gb162 ≠ g)); clear HI0 HK HB; obtain ⟨HI0, HK, HB, BK162, GW162, GE162, NB0_162, NB162_0⟩ := n_; clear hb hbox hg; obtain ⟨HGz64, hgz64⟩ := HI0.out; have hcz64_0 := cellS123_0 HGz64; have hcz64_1 := cellS123_1 HGz64; have hcz64_2 := cellS123_2 HGz64; have hcz64_3 := cellS123_3 HGz64; have hfz64_0 := blk_frozen HGz64 0; have hfz64_1 := blk_frozen HGz64 1; have hfz64_2 := blk_frozen HGz64 2; have hfz64_3 := blk_frozen HGz64 3; clear HGz64 hgz64) | ((with_reducible refine gate_callee (f := 93) rfl ?_); refine goesL_ (some 30) rfl rfl Try.func93 (by kernel_rfl) rfl #[.pointer (some ⟨g, 0, none⟩), .int .u8 33] rfl (a8_) ?_; (with_reducible refine (spec_l08Test_takes.calls g s0_0 s0_1 s0_2 false 33 false t178 t179 t180 t181 w0 _ ?side1 ?side2 A23.out).mono ?_); (case side1 => exact a5_); (case side2 => exact a6_); rintro e w65 ⟨rfl, hi, hb, hk⟩; refine ⟨_, rfl, ?_⟩; have n_ := c4_ (KeepBut.blk hk (g' := gb162) (o := .cells #[.string (⟨#[]⟩ : ByteArray), .int .i64 0, .bool false] 97 (0, 0)) (a9_) NB162_0.out (by simp)) (KeepBut.trans (a7_) hk (.inl rfl)) (hb) (hi); clear BK162 HK HB HI0; obtain ⟨BK162, HK, HB, HI0⟩ := n_; (try clear hb); (try clear hb2); (try clear hk); (try clear hi)) | ((with_reducible refine gate_callee (f := 93) rfl ?_); refine goesL_ (some 43) rfl rfl Try.func93 (by kernel_rfl) rfl #[.pointer (some ⟨g, 0, none⟩), .int .u8 40] rfl (a8_) ?_; (with_reducible refine (spec_l08Test_takes.calls g t178 t179 t180 t181 40 true t192 t193 t194 t195 w0 _ ?side1 ?side2 A42.out).mono ?_); (case side1 => exact a5_); (case side2 => exact a6_); rintro e w66 ⟨rfl, hi, hb, hk⟩; refine ⟨_, rfl, ?_⟩; have n_ := c4_ (KeepBut.blk hk (g' := gb162) (o := .cells #[.string (⟨#[]⟩ : ByteArray), .int .i64 0, .bool false] 97 (0, 0)) (a9_) NB162_0.out (by simp)) (KeepBut.trans (a7_) hk (.inl rfl)) (hb) (hi); clear BK162 HK HB HI0; obtain ⟨BK162, HK, HB, HI0⟩ := n_; (try clear hb); (try clear hb2); (try clear hk); (try clear hi); obtain ⟨HGz67, hgz67⟩ := HI0.out; have hcz67_0 := cellS123_0 HGz67; have hcz67_1 := cellS123_1 HGz67; have hcz67_2 := cellS123_2 HGz67; have hcz67_3 := cellS123_3 HGz67; have hfz67_0 := blk_frozen HGz67 0; have hfz67_1 := blk_frozen HGz67 1; have hfz67_2 := blk_frozen HGz67 2; have hfz67_3 := blk_frozen HGz67 3; clear HGz67 hgz67) | ((with_reducible refine gate_callee (f := 82) rfl ?_); refine goesL_ (some 54) rfl rfl Try.func82 (by kernel_rfl) rfl #[.pointer (some ⟨g, 0, none⟩), .int .i64 1, .slice A2 l2.length c2] rfl (a8_) ?_; (with_reducible refine (ih k (by omega) g t192 t193 (wrap64 (t194 + 1)) t195 1 _ _ l2 t196 t197 t198 t199 t200 t201 t202 w0 _ ?side1 ?side2 ?side3 ?side4 ?side5 A44.out).mono ?_); (case side1 => exact a5_); (case side2 => exact a6_); (case side3 => exact Kd.C_keep (⟨#[]⟩ : ByteArray) HR2.out (a7_) hf2); (case side4 => exact HC2.out); (case side5 => exact hf2); rintro e w68 ⟨rfl, hi, hb, hk⟩; refine ⟨_, rfl, ?_⟩; have n_ := c4_ (KeepBut.blk hk (g' := gb162) (o := .cells #[.string (⟨#[]⟩ : ByteArray), .int .i64 0, .bool false] 97 (0, 0)) (a13_) NB162_0.out (by simp)) (KeepBut.trans (a7_) hk (.inl rfl)) (hb) (hi); clear BK162 HK HB HI0; obtain ⟨BK162, HK, HB, HI0⟩ := n_; (try clear hb); (try clear hb2); (try clear hk); (try clear hi)) | ((with_reducible refine gate_dst (N := 8) rfl ?_); refine box_event ?hg (N := 8) ?hd (cs := #[.string (⟨#[]⟩ : ByteArray), .int .i64 0, .bool false]) (t := 97) ?hr ?_; (case hd => rfl); (case hg => rfl); (case hr => first | (go_simp; done) | (go_simp; rfl)); intro gb203 hg w69 hbox hb; have n_ := c11_ (IsS123.below (a5_) hb) (blk_below (g := gb162) (o := .cells #[.string (⟨#[]⟩ : ByteArray), .int .i64 0, .bool false] 97 (0, 0)) (a9_) hb) (KeepBut.trans (a7_) (KeepBut.of_below hb g none) (.inl rfl)) (below_step (a6_) hb) (hbox) ((by rw [hg]; exact (keep_size (w := w) (g := g) (row := none) (a7_)) : w.heap.size ≤ gb203)) ((Nat.le_trans HW0.out (by rw [hg]; exact (keep_size (w := w) (g := g) (row := none) (a7_)) : w.heap.size ≤ gb203) : w0.heap.size ≤ gb203)) ((by rw [hg]; exact Nat.ne_of_lt (blk_lt (g := gb162) (o := .cells #[.string (⟨#[]⟩ : ByteArray), .int .i64 0, .bool false] 97 (0, 0)) (a9_)) : gb162 ≠ gb203)) ((by rw [hg]; exact Nat.ne_of_gt (blk_lt (g := gb162) (o := .cells #[.string (⟨#[]⟩ : ByteArray), .int .i64 0, .bool false] 97 (0, 0)) (a9_)) : gb203 ≠ gb162)) ((by rw [hg]; exact Nat.ne_of_lt (IsS123.lt (show IsS123 w0 _ g t199 t200 t201 t202 from a5_)) : g ≠ gb203)) ((by rw [hg]; exact Nat.ne_of_gt (IsS123.lt (show IsS123 w0 _ g t199 t200 t201 t202 from a5_)) : gb203 ≠ g)); clear HI0 BK162 HK HB; obtain ⟨HI0, BK162, HK, HB, BK203, GW203, GE203, NB162_203, NB203_162, NB0_203, NB203_0⟩ := n_; clear hb hbox hg; have hnb70 := NB203_162.out; have hnc70 := NB162_203.out; have hnb71 := NB203_0.out; have hnc71 := NB0_203.out; obtain ⟨hcz72_0, hcz72_1, hcz72_2, hfz72_0, hfz72_1, hfz72_2⟩ := cf3_ BK203.out) | ((with_reducible refine gate_callee (f := 93) rfl ?_); refine goesL_ (some 56) rfl rfl Try.func93 (by kernel_rfl) rfl #[.pointer (some ⟨g, 0, none⟩), .int .u8 41] rfl (a8_) ?_; (with_reducible refine (spec_l08Test_takes.calls g t199 t200 t201 t202 41 true t205 t206 t207 t208 w0 _ ?side1 ?side2 A45.out).mono ?_); (case side1 => exact a14_); (case side2 => exact a15_); rintro e w73 ⟨rfl, hi, hb, hk⟩; refine ⟨_, rfl, ?_⟩; have n_ := c5_ (KeepBut.blk hk (g' := gb162) (o := .cells #[.string (⟨#[]⟩ : ByteArray), .int .i64 0, .bool false] 97 (0, 0)) (a16_) NB162_0.out (by simp)) (KeepBut.blk hk (g' := gb203) (o := .cells #[.string t196, .int .i64 t197, .bool t198] 97 (0, 0)) (a17_) NB203_0.out (by simp)) (KeepBut.trans (a18_) hk (.inl rfl)) (hb) (hi); clear BK162 BK203 HK HB HI0; obtain ⟨BK162, BK203, HK, HB, HI0⟩ := n_; (try clear hb); (try clear hb2); (try clear hk); (try clear hi); obtain ⟨HGz74, hgz74⟩ := HI0.out; have hcz74_0 := cellS123_0 HGz74; have hcz74_1 := cellS123_1 HGz74; have hcz74_2 := cellS123_2 HGz74; have hcz74_3 := cellS123_3 HGz74; have hfz74_0 := blk_frozen HGz74 0; have hfz74_1 := blk_frozen HGz74 1; have hfz74_2 := blk_frozen HGz74 2; have hfz74_3 := blk_frozen HGz74 3; clear HGz74 hgz74; obtain ⟨hcz75_0, hcz75_1, hcz75_2, hfz75_0, hfz75_1, hfz75_2⟩ := cf3_ BK203.out; have hnb76 := NB162_0.out; have hnc76 := NB0_162.out; obtain ⟨hcz77_0, hcz77_1, hcz77_2, hfz77_0, hfz77_1, hfz77_2⟩ := cf3_ BK162.out))
        refine bodyPost_ret (results_cell_row rfl _ _ gb162 97 #[.string t196, .int .i64 t197, .bool t198] (0, 0) _ rfl (by (with_reducible repeat (first | refine blk_drewN ?_ _ | refine blk_drew ?_ | refine blk_alloc ?_ _)); refine blk_put (cs := #[.string t196, .int .i64 t197, .bool false]) ?_ 2 _ rfl; (with_reducible repeat (first | refine blk_drewN ?_ _ | refine blk_drew ?_ | refine blk_alloc ?_ _)); refine blk_put (cs := #[.string t196, .int .i64 0, .bool false]) ?_ 1 _ rfl; (with_reducible repeat (first | refine blk_drewN ?_ _ | refine blk_drew ?_ | refine blk_alloc ?_ _)); refine blk_put (cs := #[.string (⟨#[]⟩ : ByteArray), .int .i64 0, .bool false]) ?_ 0 _ rfl; (with_reducible repeat (first | refine blk_drewN ?_ _ | refine blk_drew ?_ | refine blk_alloc ?_ _)); refine blk_far ?_ NB162_0.out _; (with_reducible repeat (first | refine blk_drewN ?_ _ | refine blk_drew ?_ | refine blk_alloc ?_ _)); exact BK162.out) Try.underlying97 rfl (by kernel_rfl)) rfl ?_
        exact ⟨a4_, a14_, a15_, a18_⟩
      ·replace c46 := Bool.eq_false_iff.mpr c46
       subst c46
       rw [if_neg (show ¬ (false = true) by decide)] at H
       try dsimp only at H
       simp only [Option.some.injEq, Prod.mk.injEq] at H
       obtain ⟨rfl, rfl, rfl, rfl, rfl, rfl, rfl⟩ := H
       go_enter Try.func82, Try.ntmps82
       go_wp2_with (first | ((with_reducible refine gate_dst (N := 6) rfl ?_); refine box_event ?hg (N := 6) ?hd (cs := #[.string (⟨#[]⟩ : ByteArray), .int .i64 0, .bool false]) (t := 97) ?hr ?_; (case hd => rfl); (case hg => rfl); (case hr => first | (go_simp; done) | (go_simp; rfl)); intro gb162 hg w78 hbox hb; have n_ := c8_ (IsS123.below (a1_) hb) (KeepBut.trans (a2_) (KeepBut.of_below hb g none) (.inl rfl)) (below_step (a3_) hb) (hbox) ((by rw [hg]; exact (keep_size (w := w) (g := g) (row := none) (a2_)) : w.heap.size ≤ gb162)) ((Nat.le_trans HW0.out (by rw [hg]; exact (keep_size (w := w) (g := g) (row := none) (a2_)) : w.heap.size ≤ gb162) : w0.heap.size ≤ gb162)) ((by rw [hg]; exact Nat.ne_of_lt (IsS123.lt (show IsS123 w0 _ g s0_0 s0_1 s0_2 false from a1_)) : g ≠ gb162)) ((by rw [hg]; exact Nat.ne_of_gt (IsS123.lt (show IsS123 w0 _ g s0_0 s0_1 s0_2 false from a1_)) : gb162 ≠ g)); clear HI0 HK HB; obtain ⟨HI0, HK, HB, BK162, GW162, GE162, NB0_162, NB162_0⟩ := n_; clear hb hbox hg; obtain ⟨HGz79, hgz79⟩ := HI0.out; have hcz79_0 := cellS123_0 HGz79; have hcz79_1 := cellS123_1 HGz79; have hcz79_2 := cellS123_2 HGz79; have hcz79_3 := cellS123_3 HGz79; have hfz79_0 := blk_frozen HGz79 0; have hfz79_1 := blk_frozen HGz79 1; have hfz79_2 := blk_frozen HGz79 2; have hfz79_3 := blk_frozen HGz79 3; clear HGz79 hgz79) | ((with_reducible refine gate_callee (f := 93) rfl ?_); refine goesL_ (some 30) rfl rfl Try.func93 (by kernel_rfl) rfl #[.pointer (some ⟨g, 0, none⟩), .int .u8 33] rfl (a8_) ?_; (with_reducible refine (spec_l08Test_takes.calls g s0_0 s0_1 s0_2 false 33 false t178 t179 t180 t181 w0 _ ?side1 ?side2 A23.out).mono ?_); (case side1 => exact a5_); (case side2 => exact a6_); rintro e w80 ⟨rfl, hi, hb, hk⟩; refine ⟨_, rfl, ?_⟩; have n_ := c4_ (KeepBut.blk hk (g' := gb162) (o := .cells #[.string (⟨#[]⟩ : ByteArray), .int .i64 0, .bool false] 97 (0, 0)) (a9_) NB162_0.out (by simp)) (KeepBut.trans (a7_) hk (.inl rfl)) (hb) (hi); clear BK162 HK HB HI0; obtain ⟨BK162, HK, HB, HI0⟩ := n_; (try clear hb); (try clear hb2); (try clear hk); (try clear hi)) | ((with_reducible refine gate_callee (f := 93) rfl ?_); refine goesL_ (some 43) rfl rfl Try.func93 (by kernel_rfl) rfl #[.pointer (some ⟨g, 0, none⟩), .int .u8 40] rfl (a8_) ?_; (with_reducible refine (spec_l08Test_takes.calls g t178 t179 t180 t181 40 true t192 t193 t194 t195 w0 _ ?side1 ?side2 A42.out).mono ?_); (case side1 => exact a5_); (case side2 => exact a6_); rintro e w81 ⟨rfl, hi, hb, hk⟩; refine ⟨_, rfl, ?_⟩; have n_ := c4_ (KeepBut.blk hk (g' := gb162) (o := .cells #[.string (⟨#[]⟩ : ByteArray), .int .i64 0, .bool false] 97 (0, 0)) (a9_) NB162_0.out (by simp)) (KeepBut.trans (a7_) hk (.inl rfl)) (hb) (hi); clear BK162 HK HB HI0; obtain ⟨BK162, HK, HB, HI0⟩ := n_; (try clear hb); (try clear hb2); (try clear hk); (try clear hi); obtain ⟨HGz82, hgz82⟩ := HI0.out; have hcz82_0 := cellS123_0 HGz82; have hcz82_1 := cellS123_1 HGz82; have hcz82_2 := cellS123_2 HGz82; have hcz82_3 := cellS123_3 HGz82; have hfz82_0 := blk_frozen HGz82 0; have hfz82_1 := blk_frozen HGz82 1; have hfz82_2 := blk_frozen HGz82 2; have hfz82_3 := blk_frozen HGz82 3; clear HGz82 hgz82) | ((with_reducible refine gate_callee (f := 82) rfl ?_); refine goesL_ (some 54) rfl rfl Try.func82 (by kernel_rfl) rfl #[.pointer (some ⟨g, 0, none⟩), .int .i64 1, .slice A2 l2.length c2] rfl (a8_) ?_; (with_reducible refine (ih k (by omega) g t192 t193 (wrap64 (t194 + 1)) t195 1 _ _ l2 t196 t197 t198 t199 t200 t201 t202 w0 _ ?side1 ?side2 ?side3 ?side4 ?side5 A44.out).mono ?_); (case side1 => exact a5_); (case side2 => exact a6_); (case side3 => exact Kd.C_keep (⟨#[]⟩ : ByteArray) HR2.out (a7_) hf2); (case side4 => exact HC2.out); (case side5 => exact hf2); rintro e w83 ⟨rfl, hi, hb, hk⟩; refine ⟨_, rfl, ?_⟩; have n_ := c4_ (KeepBut.blk hk (g' := gb162) (o := .cells #[.string (⟨#[]⟩ : ByteArray), .int .i64 0, .bool false] 97 (0, 0)) (a13_) NB162_0.out (by simp)) (KeepBut.trans (a7_) hk (.inl rfl)) (hb) (hi); clear BK162 HK HB HI0; obtain ⟨BK162, HK, HB, HI0⟩ := n_; (try clear hb); (try clear hb2); (try clear hk); (try clear hi)) | ((with_reducible refine gate_dst (N := 8) rfl ?_); refine box_event ?hg (N := 8) ?hd (cs := #[.string (⟨#[]⟩ : ByteArray), .int .i64 0, .bool false]) (t := 97) ?hr ?_; (case hd => rfl); (case hg => rfl); (case hr => first | (go_simp; done) | (go_simp; rfl)); intro gb203 hg w84 hbox hb; have n_ := c11_ (IsS123.below (a5_) hb) (blk_below (g := gb162) (o := .cells #[.string (⟨#[]⟩ : ByteArray), .int .i64 0, .bool false] 97 (0, 0)) (a9_) hb) (KeepBut.trans (a7_) (KeepBut.of_below hb g none) (.inl rfl)) (below_step (a6_) hb) (hbox) ((by rw [hg]; exact (keep_size (w := w) (g := g) (row := none) (a7_)) : w.heap.size ≤ gb203)) ((Nat.le_trans HW0.out (by rw [hg]; exact (keep_size (w := w) (g := g) (row := none) (a7_)) : w.heap.size ≤ gb203) : w0.heap.size ≤ gb203)) ((by rw [hg]; exact Nat.ne_of_lt (blk_lt (g := gb162) (o := .cells #[.string (⟨#[]⟩ : ByteArray), .int .i64 0, .bool false] 97 (0, 0)) (a9_)) : gb162 ≠ gb203)) ((by rw [hg]; exact Nat.ne_of_gt (blk_lt (g := gb162) (o := .cells #[.string (⟨#[]⟩ : ByteArray), .int .i64 0, .bool false] 97 (0, 0)) (a9_)) : gb203 ≠ gb162)) ((by rw [hg]; exact Nat.ne_of_lt (IsS123.lt (show IsS123 w0 _ g t199 t200 t201 t202 from a5_)) : g ≠ gb203)) ((by rw [hg]; exact Nat.ne_of_gt (IsS123.lt (show IsS123 w0 _ g t199 t200 t201 t202 from a5_)) : gb203 ≠ g)); clear HI0 BK162 HK HB; obtain ⟨HI0, BK162, HK, HB, BK203, GW203, GE203, NB162_203, NB203_162, NB0_203, NB203_0⟩ := n_; clear hb hbox hg; have hnb85 := NB203_162.out; have hnc85 := NB162_203.out; have hnb86 := NB203_0.out; have hnc86 := NB0_203.out; obtain ⟨hcz87_0, hcz87_1, hcz87_2, hfz87_0, hfz87_1, hfz87_2⟩ := cf3_ BK203.out) | ((with_reducible refine gate_callee (f := 93) rfl ?_); refine goesL_ (some 56) rfl rfl Try.func93 (by kernel_rfl) rfl #[.pointer (some ⟨g, 0, none⟩), .int .u8 41] rfl (a8_) ?_; (with_reducible refine (spec_l08Test_takes.calls g t199 t200 t201 t202 41 false t205 t206 t207 t208 w0 _ ?side1 ?side2 A45.out).mono ?_); (case side1 => exact a14_); (case side2 => exact a15_); rintro e w88 ⟨rfl, hi, hb, hk⟩; refine ⟨_, rfl, ?_⟩; have n_ := c5_ (KeepBut.blk hk (g' := gb162) (o := .cells #[.string (⟨#[]⟩ : ByteArray), .int .i64 0, .bool false] 97 (0, 0)) (a16_) NB162_0.out (by simp)) (KeepBut.blk hk (g' := gb203) (o := .cells #[.string t196, .int .i64 t197, .bool t198] 97 (0, 0)) (a17_) NB203_0.out (by simp)) (KeepBut.trans (a18_) hk (.inl rfl)) (hb) (hi); clear BK162 BK203 HK HB HI0; obtain ⟨BK162, BK203, HK, HB, HI0⟩ := n_; (try clear hb); (try clear hb2); (try clear hk); (try clear hi); obtain ⟨HGz89, hgz89⟩ := HI0.out; have hcz89_0 := cellS123_0 HGz89; have hcz89_1 := cellS123_1 HGz89; have hcz89_2 := cellS123_2 HGz89; have hcz89_3 := cellS123_3 HGz89; have hfz89_0 := blk_frozen HGz89 0; have hfz89_1 := blk_frozen HGz89 1; have hfz89_2 := blk_frozen HGz89 2; have hfz89_3 := blk_frozen HGz89 3; clear HGz89 hgz89; obtain ⟨hcz90_0, hcz90_1, hcz90_2, hfz90_0, hfz90_1, hfz90_2⟩ := cf3_ BK203.out; have hnb91 := NB162_0.out; have hnc91 := NB0_162.out; obtain ⟨hcz92_0, hcz92_1, hcz92_2, hfz92_0, hfz92_1, hfz92_2⟩ := cf3_ BK162.out))
       refine bodyPost_ret (results_cell_row rfl _ _ gb162 97 #[.string t196, .int .i64 t197, .bool t198] (0, 0) _ rfl (a19_) Try.underlying97 rfl (by kernel_rfl)) rfl ?_
       exact ⟨a4_, a14_, a15_, a18_⟩
     ·replace c43 := Bool.eq_false_iff.mpr c43
      subst c43
      rw [if_neg (show ¬ (false = true) by decide)] at H
      try dsimp only at H
      have HC93 := Aside0.mk H
      clear H
      go_enter Try.func82, Try.ntmps82
      go_upto_block 1 with (first | ((with_reducible refine gate_dst (N := 6) rfl ?_); refine box_event ?hg (N := 6) ?hd (cs := #[.string (⟨#[]⟩ : ByteArray), .int .i64 0, .bool false]) (t := 97) ?hr ?_; (case hd => rfl); (case hg => rfl); (case hr => first | (go_simp; done) | (go_simp; rfl)); intro gb162 hg w94 hbox hb; have n_ := c8_ (IsS123.below (a1_) hb) (KeepBut.trans (a2_) (KeepBut.of_below hb g none) (.inl rfl)) (below_step (a3_) hb) (hbox) ((by rw [hg]; exact (keep_size (w := w) (g := g) (row := none) (a2_)) : w.heap.size ≤ gb162)) ((Nat.le_trans HW0.out (by rw [hg]; exact (keep_size (w := w) (g := g) (row := none) (a2_)) : w.heap.size ≤ gb162) : w0.heap.size ≤ gb162)) ((by rw [hg]; exact Nat.ne_of_lt (IsS123.lt (show IsS123 w0 _ g s0_0 s0_1 s0_2 false from a1_)) : g ≠ gb162)) ((by rw [hg]; exact Nat.ne_of_gt (IsS123.lt (show IsS123 w0 _ g s0_0 s0_1 s0_2 false from a1_)) : gb162 ≠ g)); clear HI0 HK HB; obtain ⟨HI0, HK, HB, BK162, GW162, GE162, NB0_162, NB162_0⟩ := n_; clear hb hbox hg; obtain ⟨HGz95, hgz95⟩ := HI0.out; have hcz95_0 := cellS123_0 HGz95; have hcz95_1 := cellS123_1 HGz95; have hcz95_2 := cellS123_2 HGz95; have hcz95_3 := cellS123_3 HGz95; have hfz95_0 := blk_frozen HGz95 0; have hfz95_1 := blk_frozen HGz95 1; have hfz95_2 := blk_frozen HGz95 2; have hfz95_3 := blk_frozen HGz95 3; clear HGz95 hgz95) | ((with_reducible refine gate_callee (f := 93) rfl ?_); refine goesL_ (some 30) rfl rfl Try.func93 (by kernel_rfl) rfl #[.pointer (some ⟨g, 0, none⟩), .int .u8 33] rfl (a8_) ?_; (with_reducible refine (spec_l08Test_takes.calls g s0_0 s0_1 s0_2 false 33 false t178 t179 t180 t181 w0 _ ?side1 ?side2 A23.out).mono ?_); (case side1 => exact a5_); (case side2 => exact a6_); rintro e w96 ⟨rfl, hi, hb, hk⟩; refine ⟨_, rfl, ?_⟩; have n_ := c4_ (KeepBut.blk hk (g' := gb162) (o := .cells #[.string (⟨#[]⟩ : ByteArray), .int .i64 0, .bool false] 97 (0, 0)) (a9_) NB162_0.out (by simp)) (KeepBut.trans (a7_) hk (.inl rfl)) (hb) (hi); clear BK162 HK HB HI0; obtain ⟨BK162, HK, HB, HI0⟩ := n_; (try clear hb); (try clear hb2); (try clear hk); (try clear hi)) | ((with_reducible refine gate_callee (f := 93) rfl ?_); refine goesL_ (some 43) rfl rfl Try.func93 (by kernel_rfl) rfl #[.pointer (some ⟨g, 0, none⟩), .int .u8 40] rfl (a8_) ?_; (with_reducible refine (spec_l08Test_takes.calls g t178 t179 t180 t181 40 false t192 t193 t194 t195 w0 _ ?side1 ?side2 A42.out).mono ?_); (case side1 => exact a5_); (case side2 => exact a6_); rintro e w97 ⟨rfl, hi, hb, hk⟩; refine ⟨_, rfl, ?_⟩; have n_ := c4_ (KeepBut.blk hk (g' := gb162) (o := .cells #[.string (⟨#[]⟩ : ByteArray), .int .i64 0, .bool false] 97 (0, 0)) (a9_) NB162_0.out (by simp)) (KeepBut.trans (a7_) hk (.inl rfl)) (hb) (hi); clear BK162 HK HB HI0; obtain ⟨BK162, HK, HB, HI0⟩ := n_; (try clear hb); (try clear hb2); (try clear hk); (try clear hi); obtain ⟨HGz98, hgz98⟩ := HI0.out; have hcz98_0 := cellS123_0 HGz98; have hcz98_1 := cellS123_1 HGz98; have hcz98_2 := cellS123_2 HGz98; have hcz98_3 := cellS123_3 HGz98; have hfz98_0 := blk_frozen HGz98 0; have hfz98_1 := blk_frozen HGz98 1; have hfz98_2 := blk_frozen HGz98 2; have hfz98_3 := blk_frozen HGz98 3; clear HGz98 hgz98))
      (try simp only [Act.put, List.setIfInBounds_toArray, List.set_cons_zero, List.set_cons_succ])
      go_cut [] (fun wc => ∃ (kq : Nat) (x1001_92 : Int), Aside0 (spec_l08Test_read1.j1 kq l2 t193 t192 x1001_92 t194 t195 = some (r1, r2, r3, r4, r5, r6, r7)) ∧ Aside0 (kq ≤ k) ∧ Aside0 (wc.heap[gb162]? = some (.cells #[.string (⟨#[]⟩ : ByteArray), .int .i64 0, .bool false] 97 (0, 0))) ∧ Aside0 (IsS123 w0 wc g t192 x1001_92 t194 t195) ∧ Aside0 (KeepBut w wc g none) ∧ Aside0 (Below w0.heap.size w0 wc))
      case first =>
       have H := HC93.out
       clear HC93
       have H' := Aside0.mk H
       clear H
       go_wp2
       go_loopg [] k (fun kq w' => ∃ (x1001_1 : Int), Aside0 (spec_l08Test_read1.l0 kq l2 t193 t192 x1001_1 t194 t195 = some (r1, r2, r3, r4, r5, r6, r7)) ∧ Aside0 (kq ≤ k) ∧ Aside0 (w'.heap[gb162]? = some (.cells #[.string (⟨#[]⟩ : ByteArray), .int .i64 0, .bool false] 97 (0, 0))) ∧ Aside0 (IsS123 w0 w' g t192 x1001_1 t194 t195) ∧ Aside0 (KeepBut w w' g none) ∧ Aside0 (Below w0.heap.size w0 w'))
       case atStart => exact ⟨(t193), H', ⟨Nat.le_refl _⟩, ⟨a9_⟩, ⟨a5_⟩, ⟨a7_⟩, ⟨a6_⟩⟩
       case round =>
        clear H'
        try clear c1
        try clear c2
        try clear p2
        try clear c3
        try clear c4
        try clear c5
        try clear c6
        try clear p6
        try clear c7
        try clear c8
        try clear c9
        try clear c9b0
        try clear c9b1
        try clear c14
        try clear c16
        try clear c16b0
        try clear c16b1
        try clear c21
        try clear c24
        try clear c27
        try clear c27b0
        try clear c27b1
        try clear c27b2
        try clear c33
        try clear c34
        try clear c43
        try clear c46
        try clear c47
        try clear c47b0
        try clear c55
        try clear c56
        try clear c61
        try clear p64
        try clear c70
        try clear c71
        try clear c76
        try clear c82
        try clear c85
        try clear c86
        try clear c91
        try clear c92
        try clear c93
        try clear c94
        try clear hcz12_0
        try clear hcz12_1
        try clear hcz12_2
        try clear hcz12_3
        try clear hcz15_0
        try clear hcz15_1
        try clear hcz15_2
        try clear hcz19_0
        try clear hcz19_1
        try clear hcz19_2
        try clear hcz19_3
        try clear hcz22_0
        try clear hcz22_1
        try clear hcz22_2
        try clear hcz29_0
        try clear hcz29_1
        try clear hcz29_2
        try clear hcz29_3
        try clear hcz35_0
        try clear hcz35_1
        try clear hcz35_2
        try clear hcz49_0
        try clear hcz49_1
        try clear hcz49_2
        try clear hcz49_3
        try clear hcz52_0
        try clear hcz52_1
        try clear hcz52_2
        try clear hcz52_3
        try clear hcz57_0
        try clear hcz57_1
        try clear hcz57_2
        try clear hcz59_0
        try clear hcz59_1
        try clear hcz59_2
        try clear hcz59_3
        try clear hcz60_0
        try clear hcz60_1
        try clear hcz60_2
        try clear hcz62_0
        try clear hcz62_1
        try clear hcz62_2
        try clear hcz64_0
        try clear hcz64_1
        try clear hcz64_2
        try clear hcz64_3
        try clear hcz67_0
        try clear hcz67_1
        try clear hcz67_2
        try clear hcz67_3
        try clear hcz6_0
        try clear hcz6_1
        try clear hcz6_2
        try clear hcz6_3
        try clear hcz72_0
        try clear hcz72_1
        try clear hcz72_2
        try clear hcz74_0
        try clear hcz74_1
        try clear hcz74_2
        try clear hcz74_3
        try clear hcz75_0
        try clear hcz75_1
        try clear hcz75_2
        try clear hcz77_0
        try clear hcz77_1
        try clear hcz77_2
        try clear hcz79_0
        try clear hcz79_1
        try clear hcz79_2
        try clear hcz79_3
        try clear hcz82_0
        try clear hcz82_1
        try clear hcz82_2
        try clear hcz82_3
        try clear hcz87_0
        try clear hcz87_1
        try clear hcz87_2
        try clear hcz89_0
        try clear hcz89_1
        try clear hcz89_2
        try clear hcz89_3
        try clear hcz8_0
        try clear hcz8_1
        try clear hcz8_2
        try clear hcz90_0
        try clear hcz90_1
        try clear hcz90_2
        try clear hcz92_0
        try clear hcz92_1
        try clear hcz92_2
        try clear hcz95_0
        try clear hcz95_1
        try clear hcz95_2
        try clear hcz95_3
        try clear hcz98_0
        try clear hcz98_1
        try clear hcz98_2
        try clear hcz98_3
        try clear hfz12_0
        try clear hfz12_1
        try clear hfz12_2
        try clear hfz12_3
        try clear hfz15_0
        try clear hfz15_1
        try clear hfz15_2
        try clear hfz19_0
        try clear hfz19_1
        try clear hfz19_2
        try clear hfz19_3
        try clear hfz22_0
        try clear hfz22_1
        try clear hfz22_2
        try clear hfz29_0
        try clear hfz29_1
        try clear hfz29_2
        try clear hfz29_3
        try clear hfz35_0
        try clear hfz35_1
        try clear hfz35_2
        try clear hfz49_0
        try clear hfz49_1
        try clear hfz49_2
        try clear hfz49_3
        try clear hfz52_0
        try clear hfz52_1
        try clear hfz52_2
        try clear hfz52_3
        try clear hfz57_0
        try clear hfz57_1
        try clear hfz57_2
        try clear hfz59_0
        try clear hfz59_1
        try clear hfz59_2
        try clear hfz59_3
        try clear hfz60_0
        try clear hfz60_1
        try clear hfz60_2
        try clear hfz62_0
        try clear hfz62_1
        try clear hfz62_2
        try clear hfz64_0
        try clear hfz64_1
        try clear hfz64_2
        try clear hfz64_3
        try clear hfz67_0
        try clear hfz67_1
        try clear hfz67_2
        try clear hfz67_3
        try clear hfz6_0
        try clear hfz6_1
        try clear hfz6_2
        try clear hfz6_3
        try clear hfz72_0
        try clear hfz72_1
        try clear hfz72_2
        try clear hfz74_0
        try clear hfz74_1
        try clear hfz74_2
        try clear hfz74_3
        try clear hfz75_0
        try clear hfz75_1
        try clear hfz75_2
        try clear hfz77_0
        try clear hfz77_1
        try clear hfz77_2
        try clear hfz79_0
        try clear hfz79_1
        try clear hfz79_2
        try clear hfz79_3
        try clear hfz82_0
        try clear hfz82_1
        try clear hfz82_2
        try clear hfz82_3
        try clear hfz87_0
        try clear hfz87_1
        try clear hfz87_2
        try clear hfz89_0
        try clear hfz89_1
        try clear hfz89_2
        try clear hfz89_3
        try clear hfz8_0
        try clear hfz8_1
        try clear hfz8_2
        try clear hfz90_0
        try clear hfz90_1
        try clear hfz90_2
        try clear hfz92_0
        try clear hfz92_1
        try clear hfz92_2
        try clear hfz95_0
        try clear hfz95_1
        try clear hfz95_2
        try clear hfz95_3
        try clear hfz98_0
        try clear hfz98_1
        try clear hfz98_2
        try clear hfz98_3
        obtain ⟨x1001_1, HA, HK1, BK162, HI0, HK, HB⟩ := hrel
        cases gk with
        | zero => exact absurd HA.out (by simp [spec_l08Test_read1.l0])
        | succ k1 =>
         have H := HA.out
         clear HA
         simp only [spec_l08Test_read1.l0] at H
         by_cases c99 : x1001_1 < (t192.size : Int)
         ·rw [if_pos c99] at H
          have c99b0 : decide (x1001_1 < (t192.size : Int)) = true := decide_eq_true c99
          clear c99
          (first | rw [c99b0] | (simp only [i64_w, i32_w]; rw [c99b0]) | skip)
          by_cases c100 : 0 ≤ x1001_1
          ·rw [if_pos c100] at H
           have c100b0 : decide (0 ≤ x1001_1) = true := decide_eq_true c100
           clear c100
           replace H := Option.bind_eq_some_iff.mp H
           obtain ⟨t209, A1020, H⟩ := H
           try dsimp only at H
           have A102 := Aside0.mk A1020
           clear A1020
           by_cases c103 : t209 = true
           ·subst c103
            rw [if_pos rfl] at H
            try dsimp only at H
            have H' := Aside0.mk H
            clear H
            try go_wp2
            have p101 : 0 ≤ (x1001_1 : Int) := of_decide_eq_true (by first | (with_reducible assumption) | assumption)
            have q101 : x1001_1 < (t192.size : Int) := of_decide_eq_true (by first | (with_reducible assumption) | assumption)
            have hx101 := bt_at t192 x1001_1
            replace p101 := eq_true p101
            replace q101 := eq_true q101
            have hS_ : wr.cell? ⟨g, 0, none⟩ = some (.string t192) ∧ wr.cell? ⟨g, 1, none⟩ = some (.int .i64 x1001_1) ∧ wr.cell? ⟨g, 2, none⟩ = some (.int .i64 t194) ∧ wr.cell? ⟨g, 3, none⟩ = some (.bool t195) := ⟨cellS123_0 HI0.out.1, cellS123_1 HI0.out.1, cellS123_2 HI0.out.1, cellS123_3 HI0.out.1⟩
            obtain ⟨hS0_, hS1_, hS2_, hS3_⟩ := hS_
            go_quiet (first | (go_at_call 57; (with_reducible refine (spec_l01Letter.calls (bt t192 x1001_1) true _ A102.out).mono ?_); rintro e w' ⟨rfl, ⟨nd, rfl⟩⟩; (try first | exact ⟨rfl, _, World.drewN_drewN _ _ _⟩ | exact ⟨rfl, _, Eq.trans (World.drewN_drewN _ _ _) (congrArg (World.drewN _) (Nat.add_assoc _ _ _))⟩)))
            clear hS0_ hS1_ hS2_ hS3_
            generalize hq_ : World.drewN wr _ = w104
            have n_ := c4_ (blk_at hq_ BK162.out) (IsS123.at_ hq_ HI0.out) (keep_at hq_ HK.out) (below_at hq_ HB.out)
            clear BK162 HI0 HK HB hq_
            obtain ⟨BK162, HI0, HK, HB⟩ := n_
            obtain ⟨HGz105, hgz105⟩ := HI0.out
            have hcz105_0 := cellS123_0 HGz105
            have hcz105_1 := cellS123_1 HGz105
            have hcz105_2 := cellS123_2 HGz105
            have hcz105_3 := cellS123_3 HGz105
            have hfz105_0 := blk_frozen HGz105 0
            have hfz105_1 := blk_frozen HGz105 1
            have hfz105_2 := blk_frozen HGz105 2
            have hfz105_3 := blk_frozen HGz105 3
            clear HGz105 hgz105
            try go_wp2
            go_roundg k1
            case measure => have := HK1.out; omega
            case rel => exact ⟨(wrap64 (x1001_1 + 1)), H', ⟨by have := HK1.out; omega⟩, ⟨a13_⟩, ⟨a5_⟩, ⟨a7_⟩, ⟨a6_⟩⟩
           ·replace c103 := Bool.eq_false_iff.mpr c103
            subst c103
            rw [if_neg (show ¬ (false = true) by decide)] at H
            try dsimp only at H
            replace H := Option.bind_eq_some_iff.mp H
            obtain ⟨t210, A1070, H⟩ := H
            try dsimp only at H
            have A107 := Aside0.mk A1070
            clear A1070
            by_cases c108 : t210 = true
            ·subst c108
             rw [if_pos rfl] at H
             try dsimp only at H
             have H' := Aside0.mk H
             clear H
             try go_wp2
             have p101 : 0 ≤ (x1001_1 : Int) := of_decide_eq_true (by first | (with_reducible assumption) | assumption)
             have q101 : x1001_1 < (t192.size : Int) := of_decide_eq_true (by first | (with_reducible assumption) | assumption)
             have hx101 := bt_at t192 x1001_1
             replace p101 := eq_true p101
             replace q101 := eq_true q101
             have p106 : 0 ≤ (x1001_1 : Int) := of_decide_eq_true (by first | (with_reducible assumption) | assumption)
             have q106 : x1001_1 < (t192.size : Int) := of_decide_eq_true (by first | (with_reducible assumption) | assumption)
             have hx106 := bt_at t192 x1001_1
             replace p106 := eq_true p106
             replace q106 := eq_true q106
             have hS_ : wr.cell? ⟨g, 0, none⟩ = some (.string t192) ∧ wr.cell? ⟨g, 1, none⟩ = some (.int .i64 x1001_1) ∧ wr.cell? ⟨g, 2, none⟩ = some (.int .i64 t194) ∧ wr.cell? ⟨g, 3, none⟩ = some (.bool t195) := ⟨cellS123_0 HI0.out.1, cellS123_1 HI0.out.1, cellS123_2 HI0.out.1, cellS123_3 HI0.out.1⟩
             obtain ⟨hS0_, hS1_, hS2_, hS3_⟩ := hS_
             go_quiet (first | (go_at_call 57; (with_reducible refine (spec_l01Letter.calls (bt t192 x1001_1) false _ A102.out).mono ?_); rintro e w' ⟨rfl, ⟨nd, rfl⟩⟩; (try first | exact ⟨rfl, _, World.drewN_drewN _ _ _⟩ | exact ⟨rfl, _, Eq.trans (World.drewN_drewN _ _ _) (congrArg (World.drewN _) (Nat.add_assoc _ _ _))⟩)) | (go_at_call 58; (with_reducible refine (spec_l01Digit.calls (bt t192 x1001_1) true _ A107.out).mono ?_); rintro e w' ⟨rfl, ⟨nd, rfl⟩⟩; (try first | exact ⟨rfl, _, World.drewN_drewN _ _ _⟩ | exact ⟨rfl, _, Eq.trans (World.drewN_drewN _ _ _) (congrArg (World.drewN _) (Nat.add_assoc _ _ _))⟩)))
             clear hS0_ hS1_ hS2_ hS3_
             generalize hq_ : World.drewN wr _ = w109
             have n_ := c4_ (blk_at hq_ BK162.out) (IsS123.at_ hq_ HI0.out) (keep_at hq_ HK.out) (below_at hq_ HB.out)
             clear BK162 HI0 HK HB hq_
             obtain ⟨BK162, HI0, HK, HB⟩ := n_
             obtain ⟨HGz110, hgz110⟩ := HI0.out
             have hcz110_0 := cellS123_0 HGz110
             have hcz110_1 := cellS123_1 HGz110
             have hcz110_2 := cellS123_2 HGz110
             have hcz110_3 := cellS123_3 HGz110
             have hfz110_0 := blk_frozen HGz110 0
             have hfz110_1 := blk_frozen HGz110 1
             have hfz110_2 := blk_frozen HGz110 2
             have hfz110_3 := blk_frozen HGz110 3
             clear HGz110 hgz110
             try go_wp2
             go_roundg k1
             case measure => have := HK1.out; omega
             case rel => exact ⟨(wrap64 (x1001_1 + 1)), H', ⟨by have := HK1.out; omega⟩, ⟨a13_⟩, ⟨a5_⟩, ⟨a7_⟩, ⟨a6_⟩⟩
            ·replace c108 := Bool.eq_false_iff.mpr c108
             subst c108
             rw [if_neg (show ¬ (false = true) by decide)] at H
             try dsimp only at H
             by_cases c112 : (bt t192 x1001_1) = 95
             ·rw [if_pos c112] at H
              have c112b0 : ((bt t192 x1001_1) == 95) = true := beq_iff_eq.mpr c112
              have c112b1 : ((bt t192 x1001_1) != 95) = false := bne_eq_false_iff_eq.mpr c112
              clear c112
              have H' := Aside0.mk H
              clear H
              try go_wp2
              have p101 : 0 ≤ (x1001_1 : Int) := of_decide_eq_true (by first | (with_reducible assumption) | assumption)
              have q101 : x1001_1 < (t192.size : Int) := of_decide_eq_true (by first | (with_reducible assumption) | assumption)
              have hx101 := bt_at t192 x1001_1
              replace p101 := eq_true p101
              replace q101 := eq_true q101
              have p106 : 0 ≤ (x1001_1 : Int) := of_decide_eq_true (by first | (with_reducible assumption) | assumption)
              have q106 : x1001_1 < (t192.size : Int) := of_decide_eq_true (by first | (with_reducible assumption) | assumption)
              have hx106 := bt_at t192 x1001_1
              replace p106 := eq_true p106
              replace q106 := eq_true q106
              have p111 : 0 ≤ (x1001_1 : Int) := of_decide_eq_true (by first | (with_reducible assumption) | assumption)
              have q111 : x1001_1 < (t192.size : Int) := of_decide_eq_true (by first | (with_reducible assumption) | assumption)
              have hx111 := bt_at t192 x1001_1
              replace p111 := eq_true p111
              replace q111 := eq_true q111
              have hS_ : wr.cell? ⟨g, 0, none⟩ = some (.string t192) ∧ wr.cell? ⟨g, 1, none⟩ = some (.int .i64 x1001_1) ∧ wr.cell? ⟨g, 2, none⟩ = some (.int .i64 t194) ∧ wr.cell? ⟨g, 3, none⟩ = some (.bool t195) := ⟨cellS123_0 HI0.out.1, cellS123_1 HI0.out.1, cellS123_2 HI0.out.1, cellS123_3 HI0.out.1⟩
              obtain ⟨hS0_, hS1_, hS2_, hS3_⟩ := hS_
              go_quiet (first | (go_at_call 57; (with_reducible refine (spec_l01Letter.calls (bt t192 x1001_1) false _ A102.out).mono ?_); rintro e w' ⟨rfl, ⟨nd, rfl⟩⟩; (try first | exact ⟨rfl, _, World.drewN_drewN _ _ _⟩ | exact ⟨rfl, _, Eq.trans (World.drewN_drewN _ _ _) (congrArg (World.drewN _) (Nat.add_assoc _ _ _))⟩)) | (go_at_call 58; (with_reducible refine (spec_l01Digit.calls (bt t192 x1001_1) false _ A107.out).mono ?_); rintro e w' ⟨rfl, ⟨nd, rfl⟩⟩; (try first | exact ⟨rfl, _, World.drewN_drewN _ _ _⟩ | exact ⟨rfl, _, Eq.trans (World.drewN_drewN _ _ _) (congrArg (World.drewN _) (Nat.add_assoc _ _ _))⟩)))
              clear hS0_ hS1_ hS2_ hS3_
              generalize hq_ : World.drewN wr _ = w113
              have n_ := c4_ (blk_at hq_ BK162.out) (IsS123.at_ hq_ HI0.out) (keep_at hq_ HK.out) (below_at hq_ HB.out)
              clear BK162 HI0 HK HB hq_
              obtain ⟨BK162, HI0, HK, HB⟩ := n_
              obtain ⟨HGz114, hgz114⟩ := HI0.out
              have hcz114_0 := cellS123_0 HGz114
              have hcz114_1 := cellS123_1 HGz114
              have hcz114_2 := cellS123_2 HGz114
              have hcz114_3 := cellS123_3 HGz114
              have hfz114_0 := blk_frozen HGz114 0
              have hfz114_1 := blk_frozen HGz114 1
              have hfz114_2 := blk_frozen HGz114 2
              have hfz114_3 := blk_frozen HGz114 3
              clear HGz114 hgz114
              try go_wp2
              go_roundg k1
              case measure => have := HK1.out; omega
              case rel => exact ⟨(wrap64 (x1001_1 + 1)), H', ⟨by have := HK1.out; omega⟩, ⟨a13_⟩, ⟨a5_⟩, ⟨a7_⟩, ⟨a6_⟩⟩
             ·rw [if_neg c112] at H
              have c112b0 : ((bt t192 x1001_1) == 95) = false := beq_eq_false_iff_ne.mpr c112
              have c112b1 : ((bt t192 x1001_1) != 95) = true := bne_iff_ne.mpr c112
              have H' := Aside0.mk H
              clear H
              try go_wp2
              have p101 : 0 ≤ (x1001_1 : Int) := of_decide_eq_true (by first | (with_reducible assumption) | assumption)
              have q101 : x1001_1 < (t192.size : Int) := of_decide_eq_true (by first | (with_reducible assumption) | assumption)
              have hx101 := bt_at t192 x1001_1
              replace p101 := eq_true p101
              replace q101 := eq_true q101
              have p106 : 0 ≤ (x1001_1 : Int) := of_decide_eq_true (by first | (with_reducible assumption) | assumption)
              have q106 : x1001_1 < (t192.size : Int) := of_decide_eq_true (by first | (with_reducible assumption) | assumption)
              have hx106 := bt_at t192 x1001_1
              replace p106 := eq_true p106
              replace q106 := eq_true q106
              have p111 : 0 ≤ (x1001_1 : Int) := of_decide_eq_true (by first | (with_reducible assumption) | assumption)
              have q111 : x1001_1 < (t192.size : Int) := of_decide_eq_true (by first | (with_reducible assumption) | assumption)
              have hx111 := bt_at t192 x1001_1
              replace p111 := eq_true p111
              replace q111 := eq_true q111
              have hS_ : wr.cell? ⟨g, 0, none⟩ = some (.string t192) ∧ wr.cell? ⟨g, 1, none⟩ = some (.int .i64 x1001_1) ∧ wr.cell? ⟨g, 2, none⟩ = some (.int .i64 t194) ∧ wr.cell? ⟨g, 3, none⟩ = some (.bool t195) := ⟨cellS123_0 HI0.out.1, cellS123_1 HI0.out.1, cellS123_2 HI0.out.1, cellS123_3 HI0.out.1⟩
              obtain ⟨hS0_, hS1_, hS2_, hS3_⟩ := hS_
              go_quiet (first | (go_at_call 57; (with_reducible refine (spec_l01Letter.calls (bt t192 x1001_1) false _ A102.out).mono ?_); rintro e w' ⟨rfl, ⟨nd, rfl⟩⟩; (try first | exact ⟨rfl, _, World.drewN_drewN _ _ _⟩ | exact ⟨rfl, _, Eq.trans (World.drewN_drewN _ _ _) (congrArg (World.drewN _) (Nat.add_assoc _ _ _))⟩)) | (go_at_call 58; (with_reducible refine (spec_l01Digit.calls (bt t192 x1001_1) false _ A107.out).mono ?_); rintro e w' ⟨rfl, ⟨nd, rfl⟩⟩; (try first | exact ⟨rfl, _, World.drewN_drewN _ _ _⟩ | exact ⟨rfl, _, Eq.trans (World.drewN_drewN _ _ _) (congrArg (World.drewN _) (Nat.add_assoc _ _ _))⟩)))
              clear hS0_ hS1_ hS2_ hS3_
              generalize hq_ : World.drewN wr _ = w115
              have n_ := c4_ (blk_at hq_ BK162.out) (IsS123.at_ hq_ HI0.out) (keep_at hq_ HK.out) (below_at hq_ HB.out)
              clear BK162 HI0 HK HB hq_
              obtain ⟨BK162, HI0, HK, HB⟩ := n_
              try go_wp2
              go_meet
              case rel => exact ⟨_, (x1001_1), H', ⟨by have := HK1.out; first | omega | exact Nat.le_refl _⟩, ⟨a9_⟩, ⟨a5_⟩, ⟨a7_⟩, ⟨a6_⟩⟩
          ·rw [if_neg c100] at H
           exact absurd H (by simp)
         ·rw [if_neg c99] at H
          have c99b0 : decide (x1001_1 < (t192.size : Int)) = false := decide_eq_false c99
          clear c99
          (first | rw [c99b0] | (simp only [i64_w, i32_w]; rw [c99b0]) | skip)
          have H' := Aside0.mk H
          clear H
          try go_wp2
          have hS_ : wr.cell? ⟨g, 0, none⟩ = some (.string t192) ∧ wr.cell? ⟨g, 1, none⟩ = some (.int .i64 x1001_1) ∧ wr.cell? ⟨g, 2, none⟩ = some (.int .i64 t194) ∧ wr.cell? ⟨g, 3, none⟩ = some (.bool t195) := ⟨cellS123_0 HI0.out.1, cellS123_1 HI0.out.1, cellS123_2 HI0.out.1, cellS123_3 HI0.out.1⟩
          obtain ⟨hS0_, hS1_, hS2_, hS3_⟩ := hS_
          go_quiet (fail)
          clear hS0_ hS1_ hS2_ hS3_
          generalize hq_ : World.drewN wr _ = w116
          have n_ := c4_ (blk_at hq_ BK162.out) (IsS123.at_ hq_ HI0.out) (keep_at hq_ HK.out) (below_at hq_ HB.out)
          clear BK162 HI0 HK HB hq_
          obtain ⟨BK162, HI0, HK, HB⟩ := n_
          try go_wp2
          go_meet
          case rel => exact ⟨_, (x1001_1), H', ⟨by have := HK1.out; first | omega | exact Nat.le_refl _⟩, ⟨a9_⟩, ⟨a5_⟩, ⟨a7_⟩, ⟨a6_⟩⟩
      case rest =>
       clear HC93
       try clear c1
       try clear p1
       try clear q1
       try clear hx1
       try clear p2
       try clear c5
       try clear c9
       try clear c10
       try clear p10
       try clear q10
       try clear hx10
       try clear p11
       try clear q11
       try clear hx11
       try clear c57
       try clear c58
       try clear c99
       try clear c99b0
       try clear c100
       try clear p106
       try clear q106
       try clear hx106
       try clear p111
       try clear q111
       try clear hx111
       try clear p106
       try clear p111
       try clear q106
       try clear q111
       obtain ⟨kq, x1001_92, HA, HJ92, BK162, HI0, HK, HB⟩ := hcut
       cases kq with
       | zero => exact absurd HA.out (by simp [spec_l08Test_read1.j1])
       | succ kj92 =>
        have H := HA.out
        clear HA
        simp only [spec_l08Test_read1.j1] at H
        by_cases c117 : 0 ≤ t193
        ·rw [if_pos c117] at H
         have c117b0 := eq_true c117
         have c117b1 : decide (0 ≤ t193) = true := decide_eq_true c117
         clear c117
         by_cases c118 : t193 ≤ x1001_92
         ·rw [if_pos c118] at H
          have c118b0 := eq_true c118
          have c118b1 : decide (t193 ≤ x1001_92) = true := decide_eq_true c118
          clear c118
          by_cases c119 : x1001_92 ≤ (t192.size : Int)
          ·rw [if_pos c119] at H
           have c119b0 := eq_true c119
           have c119b1 : decide (x1001_92 ≤ (t192.size : Int)) = true := decide_eq_true c119
           clear c119
           replace H := Option.bind_eq_some_iff.mp H
           obtain ⟨t211, A1200, H⟩ := H
           try dsimp only at H
           have A120 := Aside0.mk A1200
           clear A1200
           by_cases c121 : t211 = true
           ·subst c121
            rw [if_pos rfl] at H
            try dsimp only at H
            replace H := Option.bind_eq_some_iff.mp H
            obtain ⟨t212, A1220, H⟩ := H
            try dsimp only at H
            have A122 := Aside0.mk A1220
            clear A1220
            simp only [Option.some.injEq, Prod.mk.injEq] at H
            obtain ⟨rfl, rfl, rfl, rfl, rfl, rfl, rfl⟩ := H
            try go_wp2
            have hS_ : wc.cell? ⟨g, 0, none⟩ = some (.string t192) ∧ wc.cell? ⟨g, 1, none⟩ = some (.int .i64 x1001_92) ∧ wc.cell? ⟨g, 2, none⟩ = some (.int .i64 t194) ∧ wc.cell? ⟨g, 3, none⟩ = some (.bool t195) := ⟨cellS123_0 HI0.out.1, cellS123_1 HI0.out.1, cellS123_2 HI0.out.1, cellS123_3 HI0.out.1⟩
            obtain ⟨hS0_, hS1_, hS2_, hS3_⟩ := hS_
            go_quiet (fail)
            clear hS0_ hS1_ hS2_ hS3_
            generalize hq_ : World.drewN wc _ = w123
            have n_ := c4_ (blk_at hq_ BK162.out) (IsS123.at_ hq_ HI0.out) (keep_at hq_ HK.out) (below_at hq_ HB.out)
            clear BK162 HI0 HK HB hq_
            obtain ⟨BK162, HI0, HK, HB⟩ := n_
            try go_wp2_with (first | ((with_reducible refine gate_callee (f := 31) rfl ?_); refine goesL_ (some 146) rfl rfl Try.func31 (by kernel_rfl) rfl #[.string (t192.extract (t193 : Int).toNat (x1001_92 : Int).toNat)] rfl (a8_) ?_; (with_reducible refine (spec_l01Name.calls kj92 (t192.extract (t193 : Int).toNat (x1001_92 : Int).toNat) true _ A120.out).mono ?_); rintro e w' ⟨rfl, ⟨nd, rfl⟩⟩; refine ⟨_, rfl, ?_⟩; (try (rw [drewN_self w123]; generalize hq_ : World.drewN w123 _ = w123; have n_ := c4_ (show w123.heap[gb162]? = some (.cells #[.string (⟨#[]⟩ : ByteArray), .int .i64 0, .bool false] 97 (0, 0)) from a20_) (show IsS123 w0 w123 g t192 x1001_92 t194 t195 from a21_) (show KeepBut w w123 g none from a22_) (show Below w0.heap.size w0 w123 from a23_); clear BK162 HI0 HK HB hq_; obtain ⟨BK162, HI0, HK, HB⟩ := n_))) | ((with_reducible refine gate_callee (f := 51) rfl ?_); refine goesL_ (some 158) rfl rfl Try.func51 (by kernel_rfl) rfl #[.slice A2 l2.length c2, .string (t192.extract (t193 : Int).toNat (x1001_92 : Int).toNat)] rfl (a8_) ?_; (with_reducible refine (spec_l01InTexts.calls kj92 _ _ l2 (t192.extract (t193 : Int).toNat (x1001_92 : Int).toNat) t212 _ ?side1 ?side2 A122.out).mono ?_); (case side1 => exact Kd.C_keep (⟨#[]⟩ : ByteArray) HR2.out (a7_) hf2); (case side2 => exact HC2.out); rintro e w' ⟨rfl, ⟨nd, rfl⟩⟩; refine ⟨_, rfl, ?_⟩; (try (rw [drewN_self w123]; generalize hq_ : World.drewN w123 _ = w123; have n_ := c4_ (show w123.heap[gb162]? = some (.cells #[.string (⟨#[]⟩ : ByteArray), .int .i64 0, .bool false] 97 (0, 0)) from a20_) (show IsS123 w0 w123 g t192 x1001_92 t194 t195 from a21_) (show KeepBut w w123 g none from a22_) (show Below w0.heap.size w0 w123 from a23_); clear BK162 HI0 HK HB hq_; obtain ⟨BK162, HI0, HK, HB⟩ := n_)); have hnb124 := NB162_0.out; have hnc124 := NB0_162.out; obtain ⟨hcz125_0, hcz125_1, hcz125_2, hfz125_0, hfz125_1, hfz125_2⟩ := cf3_ BK162.out))
            refine bodyPost_ret (results_cell_row rfl _ _ gb162 97 #[.string (t192.extract (t193 : Int).toNat (x1001_92 : Int).toNat), .int .i64 3, .bool t212] (0, 0) _ rfl (by (with_reducible repeat (first | refine blk_drewN ?_ _ | refine blk_drew ?_ | refine blk_alloc ?_ _)); refine blk_put (cs := #[.string (t192.extract (t193 : Int).toNat (x1001_92 : Int).toNat), .int .i64 3, .bool false]) ?_ 2 _ rfl; (with_reducible repeat (first | refine blk_drewN ?_ _ | refine blk_drew ?_ | refine blk_alloc ?_ _)); refine blk_put (cs := #[.string (t192.extract (t193 : Int).toNat (x1001_92 : Int).toNat), .int .i64 0, .bool false]) ?_ 1 _ rfl; (with_reducible repeat (first | refine blk_drewN ?_ _ | refine blk_drew ?_ | refine blk_alloc ?_ _)); refine blk_put (cs := #[.string (⟨#[]⟩ : ByteArray), .int .i64 0, .bool false]) ?_ 0 _ rfl; (with_reducible repeat (first | refine blk_drewN ?_ _ | refine blk_drew ?_ | refine blk_alloc ?_ _)); exact BK162.out) Try.underlying97 rfl (by kernel_rfl)) rfl ?_
            exact ⟨a4_, a5_, a6_, a7_⟩
           ·replace c121 := Bool.eq_false_iff.mpr c121
            subst c121
            rw [if_neg (show ¬ (false = true) by decide)] at H
            try dsimp only at H
            replace H := Option.bind_eq_some_iff.mp H
            obtain ⟨t213, A1260, H⟩ := H
            try dsimp only at H
            have A126 := Aside0.mk A1260
            clear A1260
            simp only [Option.some.injEq, Prod.mk.injEq] at H
            obtain ⟨rfl, rfl, rfl, rfl, rfl, rfl, rfl⟩ := H
            try go_wp2
            have hS_ : wc.cell? ⟨g, 0, none⟩ = some (.string t192) ∧ wc.cell? ⟨g, 1, none⟩ = some (.int .i64 x1001_92) ∧ wc.cell? ⟨g, 2, none⟩ = some (.int .i64 t194) ∧ wc.cell? ⟨g, 3, none⟩ = some (.bool t195) := ⟨cellS123_0 HI0.out.1, cellS123_1 HI0.out.1, cellS123_2 HI0.out.1, cellS123_3 HI0.out.1⟩
            obtain ⟨hS0_, hS1_, hS2_, hS3_⟩ := hS_
            go_quiet (fail)
            clear hS0_ hS1_ hS2_ hS3_
            generalize hq_ : World.drewN wc _ = w127
            have n_ := c4_ (blk_at hq_ BK162.out) (IsS123.at_ hq_ HI0.out) (keep_at hq_ HK.out) (below_at hq_ HB.out)
            clear BK162 HI0 HK HB hq_
            obtain ⟨BK162, HI0, HK, HB⟩ := n_
            try go_wp2_with (first | ((with_reducible refine gate_callee (f := 31) rfl ?_); refine goesL_ (some 146) rfl rfl Try.func31 (by kernel_rfl) rfl #[.string (t192.extract (t193 : Int).toNat (x1001_92 : Int).toNat)] rfl (a8_) ?_; (with_reducible refine (spec_l01Name.calls kj92 (t192.extract (t193 : Int).toNat (x1001_92 : Int).toNat) false _ A120.out).mono ?_); rintro e w' ⟨rfl, ⟨nd, rfl⟩⟩; refine ⟨_, rfl, ?_⟩; (try (rw [drewN_self w127]; generalize hq_ : World.drewN w127 _ = w127; have n_ := c4_ (show w127.heap[gb162]? = some (.cells #[.string (⟨#[]⟩ : ByteArray), .int .i64 0, .bool false] 97 (0, 0)) from a20_) (show IsS123 w0 w127 g t192 x1001_92 t194 t195 from a21_) (show KeepBut w w127 g none from a22_) (show Below w0.heap.size w0 w127 from a23_); clear BK162 HI0 HK HB hq_; obtain ⟨BK162, HI0, HK, HB⟩ := n_)); obtain ⟨HGz128, hgz128⟩ := HI0.out; have hcz128_0 := cellS123_0 HGz128; have hcz128_1 := cellS123_1 HGz128; have hcz128_2 := cellS123_2 HGz128; have hcz128_3 := cellS123_3 HGz128; have hfz128_0 := blk_frozen HGz128 0; have hfz128_1 := blk_frozen HGz128 1; have hfz128_2 := blk_frozen HGz128 2; have hfz128_3 := blk_frozen HGz128 3; clear HGz128 hgz128) | ((with_reducible refine gate_callee (f := 51) rfl ?_); refine goesL_ (some 158) rfl rfl Try.func51 (by kernel_rfl) rfl #[.slice A2 l2.length c2, .string (t192.extract (t193 : Int).toNat (x1001_92 : Int).toNat)] rfl (a8_) ?_; (with_reducible refine (spec_l01InTexts.calls kj92 _ _ l2 (t192.extract (t193 : Int).toNat (x1001_92 : Int).toNat) t213 _ ?side1 ?side2 A126.out).mono ?_); (case side1 => exact Kd.C_keep (⟨#[]⟩ : ByteArray) HR2.out (a7_) hf2); (case side2 => exact HC2.out); rintro e w' ⟨rfl, ⟨nd, rfl⟩⟩; refine ⟨_, rfl, ?_⟩; have hnb129 := NB162_0.out; have hnc129 := NB0_162.out; obtain ⟨hcz130_0, hcz130_1, hcz130_2, hfz130_0, hfz130_1, hfz130_2⟩ := cf3_ BK162.out))
            refine bodyPost_ret (results_cell_row rfl _ _ gb162 97 #[.string (t192.extract (t193 : Int).toNat (x1001_92 : Int).toNat), .int .i64 3, .bool t213] (0, 0) _ rfl (by (with_reducible repeat (first | refine blk_drewN ?_ _ | refine blk_drew ?_ | refine blk_alloc ?_ _)); refine blk_put (cs := #[.string (t192.extract (t193 : Int).toNat (x1001_92 : Int).toNat), .int .i64 3, .bool false]) ?_ 2 _ rfl; (with_reducible repeat (first | refine blk_drewN ?_ _ | refine blk_drew ?_ | refine blk_alloc ?_ _)); refine blk_put (cs := #[.string (t192.extract (t193 : Int).toNat (x1001_92 : Int).toNat), .int .i64 0, .bool false]) ?_ 1 _ rfl; (with_reducible repeat (first | refine blk_drewN ?_ _ | refine blk_drew ?_ | refine blk_alloc ?_ _)); refine blk_put (cs := #[.string (⟨#[]⟩ : ByteArray), .int .i64 0, .bool false]) ?_ 0 _ rfl; (with_reducible repeat (first | refine blk_drewN ?_ _ | refine blk_drew ?_ | refine blk_alloc ?_ _)); refine blk_far ?_ NB162_0.out _; (with_reducible repeat (first | refine blk_drewN ?_ _ | refine blk_drew ?_ | refine blk_alloc ?_ _)); refine blk_far ?_ NB162_0.out _; (with_reducible repeat (first | refine blk_drewN ?_ _ | refine blk_drew ?_ | refine blk_alloc ?_ _)); exact BK162.out) Try.underlying97 rfl (by kernel_rfl)) rfl ?_
            exact ⟨a4_, a5_, a6_, a7_⟩
          ·rw [if_neg c119] at H
           exact absurd H (by simp)
         ·rw [if_neg c118] at H
          exact absurd H (by simp)
        ·rw [if_neg c117] at H
         exact absurd H (by simp)
end

end Go.Proofs.Ytmecapnpgedcnaa.PFnExactShowSteps
