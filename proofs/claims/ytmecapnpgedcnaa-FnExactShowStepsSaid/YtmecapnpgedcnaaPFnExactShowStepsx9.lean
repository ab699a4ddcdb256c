/- Walks of Go functions, written by program out of the print of the translation, with contracts of our own where the print has none. -/
import Derived.Test.YtmecapnpgedcnaaPFnExactShowStepsx0
import Derived.Test.YtmecapnpgedcnaaPFnExactShowStepsx7
import Derived.Test.YtmecapnpgedcnaaPFnExactShowStepsx8
namespace Go.Proofs.Ytmecapnpgedcnaa.PFnExactShowSteps
open Go.RowKit Go.Proofs.YtmecapnpgedcnaaW.PrintWords Go.Proofs.YtmecapnpgedcnaaW.PrintLast Go.Proofs.YtmecapnpgedcnaaW.PrintMore
attribute [local go_sem] max2_int min2_int max_two min_two max_three min_three max_four min_four   -- for this text's walks alone
set_option linter.unusedVariables false
set_option linter.unusedSimpArgs false

/-! ### impl_testReader_not: function 108 -/
def impl_testReader_not.T19 : Bool × List (List Nat × List Nat) := (true, [([], []), ([0], [0]), ([1], [1]), ([2], [2]), ([], []), ([4], [4]), ([5], [5]), ([6], [6]), ([7], [7]), ([3, 8], [3, 8]), ([9], [9]), ([10], [10]), ([11, 10], [10, 11]), ([12, 10], [10, 12]), ([13, 10], [10, 13]), ([10], [10]), ([15, 10], [10, 15]), ([16, 10], [10, 16]), ([17, 10], [10, 17]), ([14, 18, 10], [10, 14, 18]), ([19, 10, 10], [10, 19]), ([10, 20], [10, 20])])
def impl_testReader_not.B19 : List Nat := [0, 1, 3, 7, 0, 16, 48, 112, 240, 511, 1023, 2047, 4095, 8191, 16383, 2047, 34815, 100351, 231423, 524287, 1048575, 2097151]
theorem impl_testReader_not.tab19 : rtab .any (opsOf Try.f108 19) = impl_testReader_not.T19 := by kernel_rfl
theorem impl_testReader_not.bits19 : waitsOk impl_testReader_not.T19.2 impl_testReader_not.B19 = true := by kernel_rfl
def impl_testReader_not.T21 : Bool × List (List Nat × List Nat) := (true, [([], []), ([0], [0]), ([1], [1]), ([2], [2]), ([], []), ([], []), ([5], [5]), ([6], [6]), ([7], [7]), ([3, 4, 8], [3, 4, 8]), ([9], [9]), ([10], [10])])
def impl_testReader_not.B21 : List Nat := [0, 1, 3, 7, 0, 0, 32, 96, 224, 511, 1023, 2047]
theorem impl_testReader_not.tab21 : rtab .any (opsOf Try.f108 21) = impl_testReader_not.T21 := by kernel_rfl
theorem impl_testReader_not.bits21 : waitsOk impl_testReader_not.T21.2 impl_testReader_not.B21 = true := by kernel_rfl
def impl_testReader_not.T23 : Bool × List (List Nat × List Nat) := (true, [([], []), ([0], [0]), ([1], [1]), ([2], [2]), ([], []), ([], []), ([5], [5]), ([6], [6]), ([7], [7]), ([3, 4, 8], [3, 4, 8]), ([9], [9]), ([10, 0, 1, 2, 3, 4, 5, 6, 7, 8, 9, 10], [10])])
def impl_testReader_not.B23 : List Nat := [0, 1, 3, 7, 0, 0, 32, 96, 224, 511, 1023, 2047]
theorem impl_testReader_not.tab23 : rtab .any (opsOf Try.f108 23) = impl_testReader_not.T23 := by kernel_rfl
theorem impl_testReader_not.bits23 : waitsOk impl_testReader_not.T23.2 impl_testReader_not.B23 = true := by kernel_rfl
theorem impl_testReader_not.a1_ {p : Prop} (h : p := by repeat (first | (with_reducible first | exact HI0.out | apply IsS142.alloc | apply IsS142.drewN | apply IsS142.drew | apply IsS142.set_0 | apply IsS142.set_1 | apply IsS142.set_2 | apply IsS142.set_3) | exact HI0.out)) : p := h
theorem impl_testReader_not.a2_ {p : Prop} (h : p := by repeat (first | (with_reducible first | exact HK.out | apply KeepBut.set_ | apply keep_drewN | apply keep_drew | apply keep_alloc) | exact HK.out)) : p := h
theorem impl_testReader_not.a3_ {p : Prop} (h : p := by repeat (first | (with_reducible first | exact HB.out | apply below_alloc | apply pw_below_drewN | apply below_drew1 | refine below_set ?_ (IsS142.ge HI0.out)) | exact HB.out)) : p := h
theorem impl_testReader_not.a4_ {p : Prop} (h : p := by (try simp only [List.map_toArray, List.map_cons, List.map_nil]); first | done | rfl | (simp only [List.length_drop, List.length_take]; rfl)) : p := h
theorem impl_testReader_not.a5_ {p : Prop} (h : p := by repeat (first | (with_reducible first | exact HI0.out | apply IsS142.alloc | apply IsS142.drewN | apply IsS142.drew | apply IsS142.set_0 | apply IsS142.set_1 | apply IsS142.set_2 | apply IsS142.set_3 | apply IsS142.far (p := ⟨gb282, _, none⟩) (hne := NB0_282.out)) | exact HI0.out)) : p := h
theorem impl_testReader_not.a6_ {p : Prop} (h : p := by repeat (first | (with_reducible first | exact HB.out | apply below_alloc | apply pw_below_drewN | apply below_drew1 | refine below_set ?_ (IsS142.ge HI0.out) | refine below_set ?_ GE282.out) | exact HB.out)) : p := h
theorem impl_testReader_not.a7_ {p : Prop} (h : p := by (with_reducible repeat (first | refine blk_drewN ?_ _ | refine blk_drew ?_ | refine blk_alloc ?_ _)); exact BK282.out) : p := h
theorem impl_testReader_not.a8_ {p : Prop} (h : p := by repeat (first | (with_reducible first | exact HK.out | apply KeepBut.set_ | apply keep_drewN | apply keep_drew | apply keep_alloc | refine keep_far ?_ GW282.out _) | exact HK.out)) : p := h
theorem impl_testReader_not.a9_ {p : Prop} (h : p := by (with_reducible repeat (first | refine blk_drewN ?_ _ | refine blk_drew ?_ | refine blk_alloc ?_ _)); refine blk_far ?_ NB282_0.out _; (with_reducible repeat (first | refine blk_drewN ?_ _ | refine blk_drew ?_ | refine blk_alloc ?_ _)); exact BK282.out) : p := h
theorem impl_testReader_not.a10_ {p : Prop} (h : p := by first | rfl | (simp [errW_none, errW_some] <;> rfl) | (simp [*, errW_none, errW_some] <;> rfl)) : p := h
theorem impl_testReader_not.a11_ {p : Prop} (h : p := by (with_reducible repeat (first | refine blk_drewN ?_ _ | refine blk_drew ?_ | refine blk_alloc ?_ _)); refine blk_far ?_ NB282_0.out _; (with_reducible repeat (first | refine blk_drewN ?_ _ | refine blk_drew ?_ | refine blk_alloc ?_ _)); refine blk_far ?_ NB282_0.out _; (with_reducible repeat (first | refine blk_drewN ?_ _ | refine blk_drew ?_ | refine blk_alloc ?_ _)); exact BK282.out) : p := h
theorem impl_testReader_not.a12_ {p : Prop} (h : p := by repeat (first | (with_reducible first | exact HI0.out | apply IsS142.alloc | apply IsS142.drewN | apply IsS142.drew | apply IsS142.set_0 | apply IsS142.set_1 | apply IsS142.set_2 | apply IsS142.set_3 | apply IsS142.far (p := ⟨gb282, _, none⟩) (hne := NB0_282.out) | apply IsS142.far (p := ⟨gb309, _, none⟩) (hne := NB0_309.out)) | exact HI0.out)) : p := h
theorem impl_testReader_not.a13_ {p : Prop} (h : p := by repeat (first | (with_reducible first | exact HB.out | apply below_alloc | apply pw_below_drewN | apply below_drew1 | refine below_set ?_ (IsS142.ge HI0.out) | refine below_set ?_ GE282.out | refine below_set ?_ GE309.out) | exact HB.out)) : p := h
theorem impl_testReader_not.a14_ {p : Prop} (h : p := by (with_reducible repeat (first | refine blk_drewN ?_ _ | refine blk_drew ?_ | refine blk_alloc ?_ _)); refine blk_far ?_ NB282_0.out _; (with_reducible repeat (first | refine blk_drewN ?_ _ | refine blk_drew ?_ | refine blk_alloc ?_ _)); refine blk_far ?_ NB282_309.out _; (with_reducible repeat (first | refine blk_drewN ?_ _ | refine blk_drew ?_ | refine blk_alloc ?_ _)); refine blk_far ?_ NB282_309.out _; (with_reducible repeat (first | refine blk_drewN ?_ _ | refine blk_drew ?_ | refine blk_alloc ?_ _)); refine blk_far ?_ NB282_309.out _; (with_reducible repeat (first | refine blk_drewN ?_ _ | refine blk_drew ?_ | refine blk_alloc ?_ _)); exact BK282.out) : p := h
theorem impl_testReader_not.a15_ {p : Prop} (h : p := by (with_reducible repeat (first | refine blk_drewN ?_ _ | refine blk_drew ?_ | refine blk_alloc ?_ _)); refine blk_far ?_ NB309_0.out _; (with_reducible repeat (first | refine blk_drewN ?_ _ | refine blk_drew ?_ | refine blk_alloc ?_ _)); refine blk_put (cs := #[.int .u8 t300, .string t301, .slice none 0 0]) ?_ 2 _ rfl; (with_reducible repeat (first | refine blk_drewN ?_ _ | refine blk_drew ?_ | refine blk_alloc ?_ _)); refine blk_put (cs := #[.int .u8 t300, .string (⟨#[]⟩ : ByteArray), .slice none 0 0]) ?_ 1 _ rfl; (with_reducible repeat (first | refine blk_drewN ?_ _ | refine blk_drew ?_ | refine blk_alloc ?_ _)); refine blk_put (cs := #[.int .u8 0, .string (⟨#[]⟩ : ByteArray), .slice none 0 0]) ?_ 0 _ rfl; (with_reducible repeat (first | refine blk_drewN ?_ _ | refine blk_drew ?_ | refine blk_alloc ?_ _)); exact BK309.out) : p := h
theorem impl_testReader_not.a16_ {p : Prop} (h : p := by repeat (first | (with_reducible first | exact HK.out | apply KeepBut.set_ | apply keep_drewN | apply keep_drew | apply keep_alloc | refine keep_far ?_ GW282.out _ | refine keep_far ?_ GW309.out _) | exact HK.out)) : p := h
theorem impl_testReader_not.a17_ {p : Prop} (h : p := by rw [← hq_]; exact (by (with_reducible repeat (first | refine blk_drewN ?_ _ | refine blk_drew ?_ | refine blk_alloc ?_ _)); exact BK282.out)) : p := h
theorem impl_testReader_not.a18_ {p : Prop} (h : p := by rw [← hq_]; exact (by repeat (first | (with_reducible first | exact HI0.out | apply IsS142.alloc | apply IsS142.drewN | apply IsS142.drew | apply IsS142.set_0 | apply IsS142.set_1 | apply IsS142.set_2 | apply IsS142.set_3 | apply IsS142.far (p := ⟨gb282, _, none⟩) (hne := NB0_282.out)) | exact HI0.out))) : p := h
theorem impl_testReader_not.a19_ {p : Prop} (h : p := by rw [← hq_]; exact (by repeat (first | (with_reducible first | exact HK.out | apply KeepBut.set_ | apply keep_drewN | apply keep_drew | apply keep_alloc | refine keep_far ?_ GW282.out _) | exact HK.out))) : p := h
theorem impl_testReader_not.a20_ {p : Prop} (h : p := by rw [← hq_]; exact (by repeat (first | (with_reducible first | exact HB.out | apply below_alloc | apply pw_below_drewN | apply below_drew1 | refine below_set ?_ (IsS142.ge HI0.out) | refine below_set ?_ GE282.out) | exact HB.out))) : p := h
theorem impl_testReader_not.a21_ {p : Prop} (h : p := by (with_reducible repeat (first | refine blk_drewN ?_ _ | refine blk_drew ?_ | refine blk_alloc ?_ _)); refine blk_put (cs := #[.int .u8 0, .string (t284.extract (t285 : Int).toNat (x1001_1 : Int).toNat), .slice none 0 0]) ?_ 2 _ rfl; (with_reducible repeat (first | refine blk_drewN ?_ _ | refine blk_drew ?_ | refine blk_alloc ?_ _)); refine blk_put (cs := #[.int .u8 0, .string (⟨#[]⟩ : ByteArray), .slice none 0 0]) ?_ 1 _ rfl; (with_reducible repeat (first | refine blk_drewN ?_ _ | refine blk_drew ?_ | refine blk_alloc ?_ _)); refine blk_put (cs := #[.int .u8 0, .string (⟨#[]⟩ : ByteArray), .slice none 0 0]) ?_ 0 _ rfl; (with_reducible repeat (first | refine blk_drewN ?_ _ | refine blk_drew ?_ | refine blk_alloc ?_ _)); exact BK282.out) : p := h
section
variable [impl_testReader_or.C]
mutual
def impl_testReader_not.l0 : Nat → Int → ByteArray → Int → Int → Bool → Option (Int × ByteArray × (List (S133)) × ByteArray × Int × Int × Bool)
 | 0, _, _, _, _, _ => none
 | k + 1, x5, x1000, x1001, x1002, x1003 => if x1001 < (x1000.size : Int) then (if 0 ≤ x1001 then ((impl_wordByte.f (bt x1000 x1001)).bind fun t315 => (if t315 = true then (impl_testReader_not.l0 k x5 x1000 (wrap64 (x1001 + 1)) x1002 x1003) else (if 0 ≤ x5 then (if x5 ≤ x1001 then (if x1001 ≤ (x1000.size : Int) then ((impl_isName.f k (x1000.extract (x5 : Int).toNat (x1001 : Int).toNat)).bind fun t316 => (if t316 = true then (some (0, x1000.extract (x5 : Int).toNat (x1001 : Int).toNat, ([] : List (S133)), x1000, x1001, x1002, x1003)) else (some (0, x1000.extract (x5 : Int).toNat (x1001 : Int).toNat, ([] : List (S133)), x1000, x1001, x1002, true)))) else (none)) else (none)) else (none)))) else (none)) else (if 0 ≤ x5 then (if x5 ≤ x1001 then (if x1001 ≤ (x1000.size : Int) then ((impl_isName.f k (x1000.extract (x5 : Int).toNat (x1001 : Int).toNat)).bind fun t317 => (if t317 = true then (some (0, x1000.extract (x5 : Int).toNat (x1001 : Int).toNat, ([] : List (S133)), x1000, x1001, x1002, x1003)) else (some (0, x1000.extract (x5 : Int).toNat (x1001 : Int).toNat, ([] : List (S133)), x1000, x1001, x1002, true)))) else (none)) else (none)) else (none))
def impl_testReader_not.f : Nat → ByteArray → Int → Int → Bool → Option (Int × ByteArray × (List (S133)) × ByteArray × Int × Int × Bool)
 | 0, _, _, _, _ => none
 | k + 1, s0_0, s0_1, s0_2, s0_3 => (impl_testReader_peek.f s0_0 s0_1 s0_2 s0_3).bind fun bt283 => (if bt283.1 = 33 then ((impl_testReader_not.f k bt283.2.1 (wrap64 (bt283.2.2.1 + 1)) bt283.2.2.2.1 bt283.2.2.2.2).bind fun bt288 => (some (33, (⟨#[]⟩ : ByteArray), (([(⟨bt288.1, bt288.2.1, bt288.2.2.1⟩ : S133)] : List (S133))), bt288.2.2.2.1, bt288.2.2.2.2.1, bt288.2.2.2.2.2.1, bt288.2.2.2.2.2.2))) else (if bt283.1 = 40 then (if (wrap64 (bt283.2.2.2.1 + 1)) > 10 then (some (0, (⟨#[]⟩ : ByteArray), ([] : List (S133)), bt283.2.1, wrap64 (bt283.2.2.1 + 1), wrap64 (bt283.2.2.2.1 + 1), true)) else ((impl_testReader_or.f bt283.2.1 (wrap64 (bt283.2.2.1 + 1)) (wrap64 (bt283.2.2.2.1 + 1)) bt283.2.2.2.2).bind fun bt300 => ((impl_testReader_peek.f bt300.2.2.2.1 bt300.2.2.2.2.1 (wrap64 (bt300.2.2.2.2.2.1 - 1)) bt300.2.2.2.2.2.2).bind fun bt310 => (if bt310.1 = 41 then (some (bt300.1, bt300.2.1, bt300.2.2.1, bt310.2.1, wrap64 (bt310.2.2.1 + 1), bt310.2.2.2.1, bt310.2.2.2.2)) else (some (0, (⟨#[]⟩ : ByteArray), ([] : List (S133)), bt310.2.1, bt310.2.2.1, bt310.2.2.2.1, true)))))) else (impl_testReader_not.l0 k bt283.2.2.1 bt283.2.1 bt283.2.2.1 bt283.2.2.2.1 bt283.2.2.2.2)))
end
theorem impl_testReader_not.mono_l : ∀ k, (∀ y0 y1 y2 y3, LeO (impl_testReader_not.f k y0 y1 y2 y3) (impl_testReader_not.f (k + 1) y0 y1 y2 y3)) ∧ (∀ y0 y1 y2 y3 y4, LeO (impl_testReader_not.l0 k y0 y1 y2 y3 y4) (impl_testReader_not.l0 (k + 1) y0 y1 y2 y3 y4))
 | 0 => ⟨fun _ _ _ _ r h => by simp [impl_testReader_not.f] at h, fun _ _ _ _ _ r h => by simp [impl_testReader_not.l0] at h⟩
 | k + 1 => by
  obtain ⟨ih0, ih1⟩ := impl_testReader_not.mono_l k
  refine ⟨?_, ?_⟩
  ·intro y0 y1 y2 y3
   unfold impl_testReader_not.f
   repeat' first
   | (with_reducible exact ih0 _ _ _ _)
   | (with_reducible exact ih1 _ _ _ _ _)
   | (with_reducible exact impl_isName.mono _ _)
   | (with_reducible exact LeO.refl _)
   | (with_reducible exact LeO.none _)
   | (with_reducible refine LeO.ite ?_ ?_)
   | (with_reducible refine LeO.bind ?_ (fun _ => ?_))
   | exact ih0 _ _ _ _
   | exact ih1 _ _ _ _ _
   | exact impl_isName.mono _ _
   | exact LeO.none _
   | refine LeO.ite ?_ ?_
   | refine LeO.bind ?_ (fun _ => ?_)
  ·intro y0 y1 y2 y3 y4
   unfold impl_testReader_not.l0
   repeat' first
   | (with_reducible exact ih0 _ _ _ _)
   | (with_reducible exact ih1 _ _ _ _ _)
   | (with_reducible exact impl_isName.mono _ _)
   | (with_reducible exact LeO.refl _)
   | (with_reducible exact LeO.none _)
   | (with_reducible refine LeO.ite ?_ ?_)
   | (with_reducible refine LeO.bind ?_ (fun _ => ?_))
   | exact ih0 _ _ _ _
   | exact ih1 _ _ _ _ _
   | exact impl_isName.mono _ _
   | exact LeO.none _
   | refine LeO.ite ?_ ?_
   | refine LeO.bind ?_ (fun _ => ?_)
theorem impl_testReader_not.mono : ∀ a0 a1 a2 a3 k, LeO (impl_testReader_not.f k a0 a1 a2 a3) (impl_testReader_not.f (k + 1) a0 a1 a2 a3) := by
 intro a0 a1 a2 a3 k
 obtain ⟨ih0, ih1⟩ := impl_testReader_not.mono_l k
 exact ih0 a0 a1 a2 a3
set_option maxHeartbeats 8000000 in
set_option maxRecDepth 100000 in
theorem impl_testReader_not.calls (k : Nat) : ∀ (g : Nat) (s0_0 : ByteArray) (s0_1 : Int) (s0_2 : Int) (s0_3 : Bool) (r1 : Int) (r2 : ByteArray) (r3 : List (S133)) (r4 : ByteArray) (r5 : Int) (r6 : Int) (r7 : Bool) (w0 w : World) (hI : IsS142 w0 w g s0_0 s0_1 s0_2 s0_3) (hB : Below w0.heap.size w0 w) (h : impl_testReader_not.f k s0_0 s0_1 s0_2 s0_3 = some (r1, r2, r3, r4, r5, r6, r7)),
  Calls Try.prog 108 #[.pointer (some ⟨g, 0, none⟩)] w fun e w' => ∃ v2_ : Value, e = .returned (.agg #[.int .u8 r1, .string r2, v2_]) ∧ Kd.V k133 133 w' w.heap.size (fun k_ => (w.heap.size ≤ k_)) v2_ r3 ∧ IsS142 w0 w' g r4 r5 r6 r7 ∧ Below w0.heap.size w0 w' ∧ KeepBut w w' g none := by
 induction k using Nat.strongRecOn with
 | _ k ih =>
 intro g s0_0 s0_1 s0_2 s0_3 r1 r2 r3 r4 r5 r6 r7 w0 w hI hB h
 cases k with
 | zero => exact absurd h (by simp [impl_testReader_not.f])
 | succ k =>
 simp only [impl_testReader_not.f] at h
 have hu133 := Try.underlying133
 have HI0 := Aside0.mk hI
 have HK := Aside0.mk (KeepBut.refl w g none)
 have HL := Aside0.mk hB.size
 clear hI
 have HW0 := Aside0.mk hB.size
 have HB := Aside0.mk hB
 clear hB
 have H : ((impl_testReader_peek.f s0_0 s0_1 s0_2 s0_3).bind fun bt283 => (if bt283.1 = 33 then ((impl_testReader_not.f k bt283.2.1 (wrap64 (bt283.2.2.1 + 1)) bt283.2.2.2.1 bt283.2.2.2.2).bind fun bt288 => (some (33, (⟨#[]⟩ : ByteArray), (([(⟨bt288.1, bt288.2.1, bt288.2.2.1⟩ : S133)] : List (S133))), bt288.2.2.2.1, bt288.2.2.2.2.1, bt288.2.2.2.2.2.1, bt288.2.2.2.2.2.2))) else (if bt283.1 = 40 then (if (wrap64 (bt283.2.2.2.1 + 1)) > 10 then (some (0, (⟨#[]⟩ : ByteArray), ([] : List (S133)), bt283.2.1, wrap64 (bt283.2.2.1 + 1), wrap64 (bt283.2.2.2.1 + 1), true)) else ((impl_testReader_or.f bt283.2.1 (wrap64 (bt283.2.2.1 + 1)) (wrap64 (bt283.2.2.2.1 + 1)) bt283.2.2.2.2).bind fun bt300 => ((impl_testReader_peek.f bt300.2.2.2.1 bt300.2.2.2.2.1 (wrap64 (bt300.2.2.2.2.2.1 - 1)) bt300.2.2.2.2.2.2).bind fun bt310 => (if bt310.1 = 41 then (some (bt300.1, bt300.2.1, bt300.2.2.1, bt310.2.1, wrap64 (bt310.2.2.1 + 1), bt310.2.2.2.1, bt310.2.2.2.2)) else (some (0, (⟨#[]⟩ : ByteArray), ([] : List (S133)), bt310.2.1, bt310.2.2.1, bt310.2.2.2.1, true)))))) else (impl_testReader_not.l0 k bt283.2.2.1 bt283.2.1 bt283.2.2.1 bt283.2.2.2.1 bt283.2.2.2.2)))) = some (r1, r2, r3, r4, r5, r6, r7) := h
 clear h
 replace H := Option.bind_eq_some_iff.mp H
 obtain ⟨⟨t283, t284, t285, t286, t287⟩, A20, H⟩ := H
 try dsimp only at H
 have A2 := Aside0.mk A20
 clear A20
 by_cases c3 : t283 = 33
 ·rw [if_pos c3] at H
  have c3b0 : (t283 == 33) = true := beq_iff_eq.mpr c3
  have c3b1 : (t283 != 33) = false := bne_eq_false_iff_eq.mpr c3
  clear c3
  replace H := Option.bind_eq_some_iff.mp H
  obtain ⟨⟨t288, t289, t290, t293, t294, t295, t296⟩, A40, H⟩ := H
  try dsimp only at H
  have A4 := Aside0.mk A40
  clear A40
  obtain ⟨y297, hy297⟩ : ∃ y_ : List (S133), y_ = (([(⟨t288, t289, t290⟩ : S133)] : List (S133))) := ⟨_, rfl⟩
  replace H : (some (33, (⟨#[]⟩ : ByteArray), y297, t293, t294, t295, t296)) = some (r1, r2, r3, r4, r5, r6, r7) := by first | (rw [hy297]; with_reducible exact H) | (have H2_ := (Option.bind_some _ _).symm.trans H; rw [hy297]; with_reducible exact H2_) | (have H2_ := (Option.bind_some _ _).symm.trans H; with_reducible exact H2_) | with_reducible exact H | (rw [hy297]; exact H) | exact H
  have Ny297 := Aside0.mk hy297
  clear hy297
  simp only [Option.some.injEq, Prod.mk.injEq] at H
  obtain ⟨rfl, rfl, rfl, rfl, rfl, rfl, rfl⟩ := H
  go_enter Try.func108, Try.ntmps108
  go_wp2_with (first | ((with_reducible refine gate_dst (N := 2) rfl ?_); refine box_event ?hg (N := 2) ?hd (cs := #[.int .u8 0, .string (⟨#[]⟩ : ByteArray), .slice none 0 0]) (t := 133) ?hr ?_; (case hd => rfl); (case hg => rfl); (case hr => first | (go_simp; done) | (go_simp; rfl)); intro gb282 hg w5 hbox hb; have n_ := c8_ (IsS142.below (a1_) hb) (KeepBut.trans (a2_) (KeepBut.of_below hb g none) (.inl rfl)) (below_step (a3_) hb) (hbox) ((by rw [hg]; exact (keep_size (w := w) (g := g) (row := none) (a2_)) : w.heap.size ≤ gb282)) ((Nat.le_trans HW0.out (by rw [hg]; exact (keep_size (w := w) (g := g) (row := none) (a2_)) : w.heap.size ≤ gb282) : w0.heap.size ≤ gb282)) ((by rw [hg]; exact Nat.ne_of_lt (IsS142.lt (show IsS142 w0 _ g s0_0 s0_1 s0_2 s0_3 from a1_)) : g ≠ gb282)) ((by rw [hg]; exact Nat.ne_of_gt (IsS142.lt (show IsS142 w0 _ g s0_0 s0_1 s0_2 s0_3 from a1_)) : gb282 ≠ g)); clear HI0 HK HB; obtain ⟨HI0, HK, HB, BK282, GW282, GE282, NB0_282, NB282_0⟩ := n_; clear hb hbox hg) | ((with_reducible refine gate_callee (f := 107) rfl ?_); refine goesL_ (some 7) rfl rfl Try.func107 (by kernel_rfl) rfl #[.pointer (some ⟨g, 0, none⟩)] rfl (a4_) ?_; (with_reducible refine (impl_testReader_peek.calls g s0_0 s0_1 s0_2 s0_3 t283 t284 t285 t286 t287 w0 _ ?side1 ?side2 A2.out).mono ?_); (case side1 => exact a5_); (case side2 => exact a6_); rintro e w6 ⟨rfl, hi, hb, hk⟩; refine ⟨_, rfl, ?_⟩; have n_ := c4_ (KeepBut.blk hk (g' := gb282) (o := .cells #[.int .u8 0, .string (⟨#[]⟩ : ByteArray), .slice none 0 0] 133 (0, 0)) (a7_) NB282_0.out (by simp)) (KeepBut.trans (a8_) hk (.inl rfl)) (hb) (hi); clear BK282 HK HB HI0; obtain ⟨BK282, HK, HB, HI0⟩ := n_; (try clear hb); (try clear hb2); (try clear hk); (try clear hi); obtain ⟨HGz7, hgz7⟩ := HI0.out; have hcz7_0 := cellS142_0 HGz7; have hcz7_1 := cellS142_1 HGz7; have hcz7_2 := cellS142_2 HGz7; have hcz7_3 := cellS142_3 HGz7; have hfz7_0 := blk_frozen HGz7 0; have hfz7_1 := blk_frozen HGz7 1; have hfz7_2 := blk_frozen HGz7 2; have hfz7_3 := blk_frozen HGz7 3; clear HGz7 hgz7) | ((with_reducible refine gate_callee (f := 108) rfl ?_); refine goesL_ (some 19) rfl rfl Try.func108 (by kernel_rfl) rfl #[.pointer (some ⟨g, 0, none⟩)] rfl (a4_) ?_; (with_reducible refine (ih k (by omega) g t284 (wrap64 (t285 + 1)) t286 t287 t288 t289 t290 t293 t294 t295 t296 w0 _ ?side1 ?side2 A4.out).mono ?_); (case side1 => exact a5_); (case side2 => exact a6_); rintro e w8 ⟨v291, rfl, ho0, hi, hb, hk⟩; refine ⟨_, rfl, ?_⟩; have n_ := c5_ (KeepBut.blk hk (g' := gb282) (o := .cells #[.int .u8 0, .string (⟨#[]⟩ : ByteArray), .slice none 0 0] 133 (0, 0)) (a9_) NB282_0.out (by simp)) (Kd.V_lower (Kd.V_mono (ok' := fun k_ => (w.heap.size ≤ k_) ∧ k_ ≠ gb282 ∧ k_ ≠ g) ho0 (fun k_ hk_ => ⟨(Nat.le_trans (keep_size (w := w) (g := g) (row := none) (a8_)) hk_), (Kd.freshB (g := gb282) (o := .cells #[.int .u8 0, .string (⟨#[]⟩ : ByteArray), .slice none 0 0] 133 (0, 0)) (a9_) k_ hk_), (IsS142.fresh (a5_) k_ hk_)⟩)) (keep_size (w := w) (g := g) (row := none) (a8_))) (KeepBut.trans (a8_) hk (.inl rfl)) (hb) (hi); clear BK282 HK HB HI0; obtain ⟨BK282, HO292, HK, HB, HI0⟩ := n_; (try clear hb); (try clear hb2); (try clear hk); (try clear hi); (try clear ho0); obtain ⟨Ao9, co9, eo9⟩ := Kd.V_slice HO292.out; subst eo9) | ((with_reducible refine gate_dst (N := 20) rfl ?_); refine Kd.N_lit k133 _ 133 ?hg (N' := 20) ?hd (xs := ([(⟨t288, t289, t290⟩ : S133)] : List (S133))) (inner := [.int .u8 t288, .string t289, .slice Ao9 t290.length co9]) (ok := (fun k_ => (w.heap.size ≤ k_) ∧ k_ ≠ gb282 ∧ k_ ≠ g)) (okp := (fun k_ => (w.heap.size ≤ k_) ∧ k_ ≠ gb282 ∧ k_ ≠ g)) ?hr ?hp (fun _ hk => hk) ((show ∀ k_, w8.heap.size ≤ k_ → (fun k_ => (w.heap.size ≤ k_) ∧ k_ ≠ gb282 ∧ k_ ≠ g) k_ from fun k_ hk => ⟨(Nat.le_trans (keep_size (w := w) (g := g) (row := none) (a8_)) hk), Kd.freshB (g := gb282) (o := .cells #[.int .u8 0, .string (⟨#[]⟩ : ByteArray), .slice none 0 0] 133 (0, 0)) (a7_) k_ hk, IsS142.fresh (a5_) k_ hk⟩) _ (Nat.le_refl _)) (Below.refl _ _) (Nat.le_refl _) (by simp) ?_; (case hd => rfl); (case hg => rfl); (case hr => first | (go_simp; done) | (go_simp; rfl)); (case hp => exact (Reps.c3 (show Kd.FK k133 _ _ (⟨t288, t289, t290⟩ : S133) [.int .u8 t288, .string t289, .slice Ao9 t290.length co9] from (k133_mkF _ _ (⟨t288, t289, t290⟩ : S133) (Kd.V_reads' (Kd.V_mono (ok' := (fun k_ => (w.heap.size ≤ k_) ∧ k_ ≠ gb282 ∧ k_ ≠ g)) (HO292.out) (fun k_ hk => ⟨hk.1, ⟨hk.2.1, hk.2.2⟩⟩))).2.1 (Kd.V_F (Kd.V_mono (ok' := (fun k_ => (w.heap.size ≤ k_) ∧ k_ ≠ gb282 ∧ k_ ≠ g)) (HO292.out) (fun k_ hk => ⟨hk.1, ⟨hk.2.1, hk.2.2⟩⟩))))) (Reps.none _ _))); intro v298 w10 ho11 hb hg_ hnew_; clear hg_ hnew_; (first | rw [← Ny297.out] at ho11 | (simp only [Int.reduceToNat] at ho11; rw [← Ny297.out] at ho11)); have n_ := c6_ (Kd.V_elder' (by (with_reducible repeat (first | apply Kd.V_alloc | apply Kd.V_drewN | apply Kd.V_drew)); exact HO292.out) (Kd.N_base ho11) hb) (Kd.N_lower ho11 (keep_size (w := w) (g := g) (row := none) (a8_))) (IsS142.below (a5_) hb) (blk_below (g := gb282) (o := .cells #[.int .u8 0, .string (⟨#[]⟩ : ByteArray), .slice none 0 0] 133 (0, 0)) (a7_) hb) (KeepBut.trans (a8_) (KeepBut.of_below hb g none) (.inl rfl)) (below_step (a6_) hb); clear HO292 HI0 BK282 HK HB; obtain ⟨HO292, HO299, HI0, BK282, HK, HB⟩ := n_; clear hb ho11; obtain ⟨Ao12, co12, eo12⟩ := Kd.N_slice HO299.out; subst eo12; have hnb13 := NB282_0.out; have hnc13 := NB0_282.out; obtain ⟨hcz14_0, hcz14_1, hcz14_2, hfz14_0, hfz14_1, hfz14_2⟩ := cf3_ BK282.out))
  refine bodyPost_ret (results_cell_row rfl _ _ gb282 133 #[.int .u8 33, .string (⟨#[]⟩ : ByteArray), .slice Ao12 y297.length co12] (0, 0) _ rfl (by (with_reducible repeat (first | refine blk_drewN ?_ _ | refine blk_drew ?_ | refine blk_alloc ?_ _)); refine blk_put (cs := #[.int .u8 33, .string (⟨#[]⟩ : ByteArray), .slice none 0 0]) ?_ 2 _ rfl; (with_reducible repeat (first | refine blk_drewN ?_ _ | refine blk_drew ?_ | refine blk_alloc ?_ _)); refine blk_put (cs := #[.int .u8 33, .string (⟨#[]⟩ : ByteArray), .slice none 0 0]) ?_ 1 _ rfl; (with_reducible repeat (first | refine blk_drewN ?_ _ | refine blk_drew ?_ | refine blk_alloc ?_ _)); refine blk_put (cs := #[.int .u8 0, .string (⟨#[]⟩ : ByteArray), .slice none 0 0]) ?_ 0 _ rfl; (with_reducible repeat (first | refine blk_drewN ?_ _ | refine blk_drew ?_ | refine blk_alloc ?_ _)); exact BK282.out) Try.underlying133 rfl (by kernel_rfl)) rfl ?_
  exact ⟨_, a10_, Kd.N_V (by (with_reducible repeat (first | apply Kd.N_alloc | apply Kd.N_drewN | apply Kd.N_drew)); exact Kd.N_mono (Kd.N_far (p := ⟨gb282, 2, none⟩) (Kd.N_far (p := ⟨gb282, 1, none⟩) (Kd.N_far (p := ⟨gb282, 0, none⟩) (Kd.N_mono HO299.out (fun k_ hk => (⟨hk, hk.2.1⟩ : _ ∧ k_ ≠ gb282))) (fun _ hk => hk.2) (.int .u8 33)) (fun _ hk => hk.2) (.string (⟨#[]⟩ : ByteArray))) (fun _ hk => hk.2) (.slice Ao12 y297.length co12)) (fun _ hk => hk.1.1)), a5_, a6_, a8_⟩
 ·rw [if_neg c3] at H
  have c3b0 : (t283 == 33) = false := beq_eq_false_iff_ne.mpr c3
  have c3b1 : (t283 != 33) = true := bne_iff_ne.mpr c3
  by_cases c15 : t283 = 40
  ·rw [if_pos c15] at H
   have c15b0 : (t283 == 40) = true := beq_iff_eq.mpr c15
   have c15b1 : (t283 != 40) = false := bne_eq_false_iff_eq.mpr c15
   clear c15
   by_cases c16 : (wrap64 (t286 + 1)) > 10
   ·rw [if_pos c16] at H
    have c16b0 : decide (10 < (wrap64 (t286 + 1))) = true := decide_eq_true c16
    clear c16
    simp only [Option.some.injEq, Prod.mk.injEq] at H
    obtain ⟨rfl, rfl, rfl, rfl, rfl, rfl, rfl⟩ := H
    go_enter Try.func108, Try.ntmps108
    go_wp2_with (first | ((with_reducible refine gate_dst (N := 2) rfl ?_); refine box_event ?hg (N := 2) ?hd (cs := #[.int .u8 0, .string (⟨#[]⟩ : ByteArray), .slice none 0 0]) (t := 133) ?hr ?_; (case hd => rfl); (case hg => rfl); (case hr => first | (go_simp; done) | (go_simp; rfl)); intro gb282 hg w17 hbox hb; have n_ := c8_ (IsS142.below (a1_) hb) (KeepBut.trans (a2_) (KeepBut.of_below hb g none) (.inl rfl)) (below_step (a3_) hb) (hbox) ((by rw [hg]; exact (keep_size (w := w) (g := g) (row := none) (a2_)) : w.heap.size ≤ gb282)) ((Nat.le_trans HW0.out (by rw [hg]; exact (keep_size (w := w) (g := g) (row := none) (a2_)) : w.heap.size ≤ gb282) : w0.heap.size ≤ gb282)) ((by rw [hg]; exact Nat.ne_of_lt (IsS142.lt (show IsS142 w0 _ g s0_0 s0_1 s0_2 s0_3 from a1_)) : g ≠ gb282)) ((by rw [hg]; exact Nat.ne_of_gt (IsS142.lt (show IsS142 w0 _ g s0_0 s0_1 s0_2 s0_3 from a1_)) : gb282 ≠ g)); clear HI0 HK HB; obtain ⟨HI0, HK, HB, BK282, GW282, GE282, NB0_282, NB282_0⟩ := n_; clear hb hbox hg) | ((with_reducible refine gate_callee (f := 107) rfl ?_); refine goesL_ (some 7) rfl rfl Try.func107 (by kernel_rfl) rfl #[.pointer (some ⟨g, 0, none⟩)] rfl (a4_) ?_; (with_reducible refine (impl_testReader_peek.calls g s0_0 s0_1 s0_2 s0_3 t283 t284 t285 t286 t287 w0 _ ?side1 ?side2 A2.out).mono ?_); (case side1 => exact a5_); (case side2 => exact a6_); rintro e w18 ⟨rfl, hi, hb, hk⟩; refine ⟨_, rfl, ?_⟩; have n_ := c4_ (KeepBut.blk hk (g' := gb282) (o := .cells #[.int .u8 0, .string (⟨#[]⟩ : ByteArray), .slice none 0 0] 133 (0, 0)) (a7_) NB282_0.out (by simp)) (KeepBut.trans (a8_) hk (.inl rfl)) (hb) (hi); clear BK282 HK HB HI0; obtain ⟨BK282, HK, HB, HI0⟩ := n_; (try clear hb); (try clear hb2); (try clear hk); (try clear hi); obtain ⟨HGz19, hgz19⟩ := HI0.out; have hcz19_0 := cellS142_0 HGz19; have hcz19_1 := cellS142_1 HGz19; have hcz19_2 := cellS142_2 HGz19; have hcz19_3 := cellS142_3 HGz19; have hfz19_0 := blk_frozen HGz19 0; have hfz19_1 := blk_frozen HGz19 1; have hfz19_2 := blk_frozen HGz19 2; have hfz19_3 := blk_frozen HGz19 3; clear HGz19 hgz19; have hnb20 := NB282_0.out; have hnc20 := NB0_282.out; obtain ⟨hcz21_0, hcz21_1, hcz21_2, hfz21_0, hfz21_1, hfz21_2⟩ := cf3_ BK282.out))
    refine bodyPost_ret (results_cell_row rfl _ _ gb282 133 #[.int .u8 0, .string (⟨#[]⟩ : ByteArray), .slice none 0 0] (0, 0) _ rfl (by (with_reducible repeat (first | refine blk_drewN ?_ _ | refine blk_drew ?_ | refine blk_alloc ?_ _)); refine blk_put (cs := #[.int .u8 0, .string (⟨#[]⟩ : ByteArray), .slice none 0 0]) ?_ 2 _ rfl; (with_reducible repeat (first | refine blk_drewN ?_ _ | refine blk_drew ?_ | refine blk_alloc ?_ _)); refine blk_put (cs := #[.int .u8 0, .string (⟨#[]⟩ : ByteArray), .slice none 0 0]) ?_ 1 _ rfl; (with_reducible repeat (first | refine blk_drewN ?_ _ | refine blk_drew ?_ | refine blk_alloc ?_ _)); refine blk_put (cs := #[.int .u8 0, .string (⟨#[]⟩ : ByteArray), .slice none 0 0]) ?_ 0 _ rfl; (with_reducible repeat (first | refine blk_drewN ?_ _ | refine blk_drew ?_ | refine blk_alloc ?_ _)); refine blk_far ?_ NB282_0.out _; (with_reducible repeat (first | refine blk_drewN ?_ _ | refine blk_drew ?_ | refine blk_alloc ?_ _)); refine blk_far ?_ NB282_0.out _; (with_reducible repeat (first | refine blk_drewN ?_ _ | refine blk_drew ?_ | refine blk_alloc ?_ _)); refine blk_far ?_ NB282_0.out _; (with_reducible repeat (first | refine blk_drewN ?_ _ | refine blk_drew ?_ | refine blk_alloc ?_ _)); exact BK282.out) Try.underlying133 rfl (by kernel_rfl)) rfl ?_
    exact ⟨_, a10_, by first | exact Kd.V_nil _ _ _ _ _, a5_, a6_, a8_⟩
   ·rw [if_neg c16] at H
    have c16b0 : decide (10 < (wrap64 (t286 + 1))) = false := decide_eq_false c16
    clear c16
    replace H := Option.bind_eq_some_iff.mp H
    obtain ⟨⟨t300, t301, t302, t305, t306, t307, t308⟩, A220, H⟩ := H
    try dsimp only at H
    have A22 := Aside0.mk A220
    clear A220
    replace H := Option.bind_eq_some_iff.mp H
    obtain ⟨⟨t310, t311, t312, t313, t314⟩, A230, H⟩ := H
    try dsimp only at H
    have A23 := Aside0.mk A230
    clear A230
    by_cases c24 : t310 = 41
    ·rw [if_pos c24] at H
     have c24b0 : (t310 == 41) = true := beq_iff_eq.mpr c24
     have c24b1 : (t310 != 41) = false := bne_eq_false_iff_eq.mpr c24
     clear c24
     simp only [Option.some.injEq, Prod.mk.injEq] at H
     obtain ⟨rfl, rfl, rfl, rfl, rfl, rfl, rfl⟩ := H
     go_enter Try.func108, Try.ntmps108
     go_wp2_with (first | ((with_reducible refine gate_dst (N := 2) rfl ?_); refine box_event ?hg (N := 2) ?hd (cs := #[.int .u8 0, .string (⟨#[]⟩ : ByteArray), .slice none 0 0]) (t := 133) ?hr ?_; (case hd => rfl); (case hg => rfl); (case hr => first | (go_simp; done) | (go_simp; rfl)); intro gb282 hg w25 hbox hb; have n_ := c8_ (IsS142.below (a1_) hb) (KeepBut.trans (a2_) (KeepBut.of_below hb g none) (.inl rfl)) (below_step (a3_) hb) (hbox) ((by rw [hg]; exact (keep_size (w := w) (g := g) (row := none) (a2_)) : w.heap.size ≤ gb282)) ((Nat.le_trans HW0.out (by rw [hg]; exact (keep_size (w := w) (g := g) (row := none) (a2_)) : w.heap.size ≤ gb282) : w0.heap.size ≤ gb282)) ((by rw [hg]; exact Nat.ne_of_lt (IsS142.lt (show IsS142 w0 _ g s0_0 s0_1 s0_2 s0_3 from a1_)) : g ≠ gb282)) ((by rw [hg]; exact Nat.ne_of_gt (IsS142.lt (show IsS142 w0 _ g s0_0 s0_1 s0_2 s0_3 from a1_)) : gb282 ≠ g)); clear HI0 HK HB; obtain ⟨HI0, HK, HB, BK282, GW282, GE282, NB0_282, NB282_0⟩ := n_; clear hb hbox hg) | ((with_reducible refine gate_callee (f := 107) rfl ?_); refine goesL_ (some 7) rfl rfl Try.func107 (by kernel_rfl) rfl #[.pointer (some ⟨g, 0, none⟩)] rfl (a4_) ?_; (with_reducible refine (impl_testReader_peek.calls g s0_0 s0_1 s0_2 s0_3 t283 t284 t285 t286 t287 w0 _ ?side1 ?side2 A2.out).mono ?_); (case side1 => exact a5_); (case side2 => exact a6_); rintro e w26 ⟨rfl, hi, hb, hk⟩; refine ⟨_, rfl, ?_⟩; have n_ := c4_ (KeepBut.blk hk (g' := gb282) (o := .cells #[.int .u8 0, .string (⟨#[]⟩ : ByteArray), .slice none 0 0] 133 (0, 0)) (a7_) NB282_0.out (by simp)) (KeepBut.trans (a8_) hk (.inl rfl)) (hb) (hi); clear BK282 HK HB HI0; obtain ⟨BK282, HK, HB, HI0⟩ := n_; (try clear hb); (try clear hb2); (try clear hk); (try clear hi); obtain ⟨HGz27, hgz27⟩ := HI0.out; have hcz27_0 := cellS142_0 HGz27; have hcz27_1 := cellS142_1 HGz27; have hcz27_2 := cellS142_2 HGz27; have hcz27_3 := cellS142_3 HGz27; have hfz27_0 := blk_frozen HGz27 0; have hfz27_1 := blk_frozen HGz27 1; have hfz27_2 := blk_frozen HGz27 2; have hfz27_3 := blk_frozen HGz27 3; clear HGz27 hgz27) | ((with_reducible refine gate_callee (f := 98) rfl ?_); refine goesL_ (some 49) rfl rfl Try.func98 (by kernel_rfl) rfl #[.pointer (some ⟨g, 0, none⟩)] rfl (a4_) ?_; (with_reducible refine (impl_testReader_or.calls g t284 (wrap64 (t285 + 1)) (wrap64 (t286 + 1)) t287 t300 t301 t302 t305 t306 t307 t308 w0 _ ?side1 ?side2 A22.out).mono ?_); (case side1 => exact a5_); (case side2 => exact a6_); rintro e w28 ⟨v303, rfl, ho0, hi, hb, hk⟩; refine ⟨_, rfl, ?_⟩; have n_ := c5_ (KeepBut.blk hk (g' := gb282) (o := .cells #[.int .u8 0, .string (⟨#[]⟩ : ByteArray), .slice none 0 0] 133 (0, 0)) (a11_) NB282_0.out (by simp)) (Kd.V_lower (Kd.V_mono (ok' := fun k_ => (w.heap.size ≤ k_) ∧ k_ ≠ gb282 ∧ k_ ≠ g) ho0 (fun k_ hk_ => ⟨(Nat.le_trans (keep_size (w := w) (g := g) (row := none) (a8_)) hk_), (Kd.freshB (g := gb282) (o := .cells #[.int .u8 0, .string (⟨#[]⟩ : ByteArray), .slice none 0 0] 133 (0, 0)) (a11_) k_ hk_), (IsS142.fresh (a5_) k_ hk_)⟩)) (keep_size (w := w) (g := g) (row := none) (a8_))) (KeepBut.trans (a8_) hk (.inl rfl)) (hb) (hi); clear BK282 HK HB HI0; obtain ⟨BK282, HO304, HK, HB, HI0⟩ := n_; (try clear hb); (try clear hb2); (try clear hk); (try clear hi); (try clear ho0)) | ((with_reducible refine gate_dst (N := 4) rfl ?_); refine box_event ?hg (N := 4) ?hd (cs := #[.int .u8 0, .string (⟨#[]⟩ : ByteArray), .slice none 0 0]) (t := 133) ?hr ?_; (case hd => rfl); (case hg => rfl); (case hr => first | (go_simp; done) | (go_simp; rfl)); intro gb309 hg w29 hbox hb; have n_ := c12_ (Kd.V_below (Kd.V_elderB (by (with_reducible repeat (first | apply Kd.V_alloc | apply Kd.V_drewN | apply Kd.V_drew)); exact HO304.out) gb309 (Nat.le_of_eq hg.symm)) hb) (IsS142.below (a5_) hb) (blk_below (g := gb282) (o := .cells #[.int .u8 0, .string (⟨#[]⟩ : ByteArray), .slice none 0 0] 133 (0, 0)) (a7_) hb) (KeepBut.trans (a8_) (KeepBut.of_below hb g none) (.inl rfl)) (below_step (a6_) hb) (hbox) ((by rw [hg]; exact (keep_size (w := w) (g := g) (row := none) (a8_)) : w.heap.size ≤ gb309)) ((Nat.le_trans HW0.out (by rw [hg]; exact (keep_size (w := w) (g := g) (row := none) (a8_)) : w.heap.size ≤ gb309) : w0.heap.size ≤ gb309)) ((by rw [hg]; exact Nat.ne_of_lt (blk_lt (g := gb282) (o := .cells #[.int .u8 0, .string (⟨#[]⟩ : ByteArray), .slice none 0 0] 133 (0, 0)) (a7_)) : gb282 ≠ gb309)) ((by rw [hg]; exact Nat.ne_of_gt (blk_lt (g := gb282) (o := .cells #[.int .u8 0, .string (⟨#[]⟩ : ByteArray), .slice none 0 0] 133 (0, 0)) (a7_)) : gb309 ≠ gb282)) ((by rw [hg]; exact Nat.ne_of_lt (IsS142.lt (show IsS142 w0 _ g t305 t306 t307 t308 from a5_)) : g ≠ gb309)) ((by rw [hg]; exact Nat.ne_of_gt (IsS142.lt (show IsS142 w0 _ g t305 t306 t307 t308 from a5_)) : gb309 ≠ g)); clear HO304 HI0 BK282 HK HB; obtain ⟨HO304, HI0, BK282, HK, HB, BK309, GW309, GE309, NB282_309, NB309_282, NB0_309, NB309_0⟩ := n_; clear hb hbox hg; have hnb30 := NB309_282.out; have hnc30 := NB282_309.out; have hnb31 := NB309_0.out; have hnc31 := NB0_309.out; obtain ⟨hcz32_0, hcz32_1, hcz32_2, hfz32_0, hfz32_1, hfz32_2⟩ := cf3_ BK309.out; obtain ⟨Ao33, co33, eo33⟩ := Kd.V_slice HO304.out; subst eo33; obtain ⟨HGz34, hgz34⟩ := HI0.out; have hcz34_0 := cellS142_0 HGz34; have hcz34_1 := cellS142_1 HGz34; have hcz34_2 := cellS142_2 HGz34; have hcz34_3 := cellS142_3 HGz34; have hfz34_0 := blk_frozen HGz34 0; have hfz34_1 := blk_frozen HGz34 1; have hfz34_2 := blk_frozen HGz34 2; have hfz34_3 := blk_frozen HGz34 3; clear HGz34 hgz34) | ((with_reducible refine gate_callee (f := 107) rfl ?_); refine goesL_ (some 58) rfl rfl Try.func107 (by kernel_rfl) rfl #[.pointer (some ⟨g, 0, none⟩)] rfl (a4_) ?_; (with_reducible refine (impl_testReader_peek.calls g t305 t306 (wrap64 (t307 - 1)) t308 t310 t311 t312 t313 t314 w0 _ ?side1 ?side2 A23.out).mono ?_); (case side1 => exact a12_); (case side2 => exact a13_); rintro e w35 ⟨rfl, hi, hb, hk⟩; refine ⟨_, rfl, ?_⟩; have n_ := c6_ (KeepBut.blk hk (g' := gb282) (o := .cells #[.int .u8 0, .string (⟨#[]⟩ : ByteArray), .slice none 0 0] 133 (0, 0)) (a14_) NB282_0.out (by simp)) (Kd.V_mono (Kd.V_keep (Kd.V_mono (ok := fun k_ => ((((w.heap.size ≤ k_)) ∧ (k_ ≠ gb282 ∧ k_ ≠ g)) ∧ k_ ≠ gb309)) (by (with_reducible repeat (first | apply Kd.V_alloc | apply Kd.V_drewN | apply Kd.V_drew)); exact (Kd.V_mono (Kd.V_mono (Kd.V_far (p := ⟨g, 2, none⟩) (Kd.V_far (p := ⟨gb309, 2, none⟩) (Kd.V_far (p := ⟨gb309, 1, none⟩) (Kd.V_far (p := ⟨gb309, 0, none⟩) (Kd.V_mono (Kd.V_mono HO304.out (fun k_ hk => (⟨hk, hk.2⟩ : _ ∧ k_ ≠ gb309))) (fun k_ hk => (⟨hk, hk.1.1.2.2⟩ : _ ∧ k_ ≠ g))) (fun _ hk => hk.1.2) (.int .u8 t300)) (fun _ hk => hk.1.2) (.string t301)) (fun _ hk => hk.1.2) (.slice Ao33 t302.length co33)) (fun _ hk => hk.2) (.int .i64 (wrap64 (t307 - 1)))) (fun _ h_ => h_.1)) (fun _ h_ => h_.1))) (fun k_ hk_ => (⟨hk_, hk_.1.2.2⟩ : _ ∧ k_ ≠ g))) hk (fun _ h => h.2)) (fun _ h => h.1)) (KeepBut.blk hk (g' := gb309) (o := .cells #[.int .u8 t300, .string t301, .slice Ao33 t302.length co33] 133 (0, 0)) (a15_) NB309_0.out (by simp)) (KeepBut.trans (a16_) hk (.inl rfl)) (hb) (hi); clear BK282 HO304 BK309 HK HB HI0; obtain ⟨BK282, HO304, BK309, HK, HB, HI0⟩ := n_; (try clear hb); (try clear hb2); (try clear hk); (try clear hi); obtain ⟨HGz36, hgz36⟩ := HI0.out; have hcz36_0 := cellS142_0 HGz36; have hcz36_1 := cellS142_1 HGz36; have hcz36_2 := cellS142_2 HGz36; have hcz36_3 := cellS142_3 HGz36; have hfz36_0 := blk_frozen HGz36 0; have hfz36_1 := blk_frozen HGz36 1; have hfz36_2 := blk_frozen HGz36 2; have hfz36_3 := blk_frozen HGz36 3; clear HGz36 hgz36; obtain ⟨hcz37_0, hcz37_1, hcz37_2, hfz37_0, hfz37_1, hfz37_2⟩ := cf3_ BK309.out; have hnb38 := NB282_0.out; have hnc38 := NB0_282.out; obtain ⟨hcz39_0, hcz39_1, hcz39_2, hfz39_0, hfz39_1, hfz39_2⟩ := cf3_ BK282.out))
     refine bodyPost_ret (results_cell_row rfl _ _ gb282 133 #[.int .u8 t300, .string t301, .slice Ao33 t302.length co33] (0, 0) _ rfl (by (with_reducible repeat (first | refine blk_drewN ?_ _ | refine blk_drew ?_ | refine blk_alloc ?_ _)); refine blk_put (cs := #[.int .u8 t300, .string t301, .slice none 0 0]) ?_ 2 _ rfl; (with_reducible repeat (first | refine blk_drewN ?_ _ | refine blk_drew ?_ | refine blk_alloc ?_ _)); refine blk_put (cs := #[.int .u8 t300, .string (⟨#[]⟩ : ByteArray), .slice none 0 0]) ?_ 1 _ rfl; (with_reducible repeat (first | refine blk_drewN ?_ _ | refine blk_drew ?_ | refine blk_alloc ?_ _)); refine blk_put (cs := #[.int .u8 0, .string (⟨#[]⟩ : ByteArray), .slice none 0 0]) ?_ 0 _ rfl; (with_reducible repeat (first | refine blk_drewN ?_ _ | refine blk_drew ?_ | refine blk_alloc ?_ _)); refine blk_far ?_ NB282_0.out _; (with_reducible repeat (first | refine blk_drewN ?_ _ | refine blk_drew ?_ | refine blk_alloc ?_ _)); exact BK282.out) Try.underlying133 rfl (by kernel_rfl)) rfl ?_
     exact ⟨_, a10_, by (with_reducible repeat (first | apply Kd.V_alloc | apply Kd.V_drewN | apply Kd.V_drew)); exact Kd.V_mono (Kd.V_far (p := ⟨gb282, 2, none⟩) (Kd.V_far (p := ⟨gb282, 1, none⟩) (Kd.V_far (p := ⟨gb282, 0, none⟩) (Kd.V_far (p := ⟨g, 1, none⟩) (Kd.V_mono (Kd.V_mono HO304.out (fun k_ hk => (⟨hk, hk.1.2.2⟩ : _ ∧ k_ ≠ g))) (fun k_ hk => (⟨hk, hk.1.1.2.1⟩ : _ ∧ k_ ≠ gb282))) (fun _ hk => hk.1.2) (.int .i64 (wrap64 (t312 + 1)))) (fun _ hk => hk.2) (.int .u8 t300)) (fun _ hk => hk.2) (.string t301)) (fun _ hk => hk.2) (.slice Ao33 t302.length co33)) (fun _ hk => hk.1.1.1.1), a12_, a13_, a16_⟩
    ·rw [if_neg c24] at H
     have c24b0 : (t310 == 41) = false := beq_eq_false_iff_ne.mpr c24
     have c24b1 : (t310 != 41) = true := bne_iff_ne.mpr c24
     simp only [Option.some.injEq, Prod.mk.injEq] at H
     obtain ⟨rfl, rfl, rfl, rfl, rfl, rfl, rfl⟩ := H
     go_enter Try.func108, Try.ntmps108
     go_wp2_with (first | ((with_reducible refine gate_dst (N := 2) rfl ?_); refine box_event ?hg (N := 2) ?hd (cs := #[.int .u8 0, .string (⟨#[]⟩ : ByteArray), .slice none 0 0]) (t := 133) ?hr ?_; (case hd => rfl); (case hg => rfl); (case hr => first | (go_simp; done) | (go_simp; rfl)); intro gb282 hg w40 hbox hb; have n_ := c8_ (IsS142.below (a1_) hb) (KeepBut.trans (a2_) (KeepBut.of_below hb g none) (.inl rfl)) (below_step (a3_) hb) (hbox) ((by rw [hg]; exact (keep_size (w := w) (g := g) (row := none) (a2_)) : w.heap.size ≤ gb282)) ((Nat.le_trans HW0.out (by rw [hg]; exact (keep_size (w := w) (g := g) (row := none) (a2_)) : w.heap.size ≤ gb282) : w0.heap.size ≤ gb282)) ((by rw [hg]; exact Nat.ne_of_lt (IsS142.lt (show IsS142 w0 _ g s0_0 s0_1 s0_2 s0_3 from a1_)) : g ≠ gb282)) ((by rw [hg]; exact Nat.ne_of_gt (IsS142.lt (show IsS142 w0 _ g s0_0 s0_1 s0_2 s0_3 from a1_)) : gb282 ≠ g)); clear HI0 HK HB; obtain ⟨HI0, HK, HB, BK282, GW282, GE282, NB0_282, NB282_0⟩ := n_; clear hb hbox hg) | ((with_reducible refine gate_callee (f := 107) rfl ?_); refine goesL_ (some 7) rfl rfl Try.func107 (by kernel_rfl) rfl #[.pointer (some ⟨g, 0, none⟩)] rfl (a4_) ?_; (with_reducible refine (impl_testReader_peek.calls g s0_0 s0_1 s0_2 s0_3 t283 t284 t285 t286 t287 w0 _ ?side1 ?side2 A2.out).mono ?_); (case side1 => exact a5_); (case side2 => exact a6_); rintro e w41 ⟨rfl, hi, hb, hk⟩; refine ⟨_, rfl, ?_⟩; have n_ := c4_ (KeepBut.blk hk (g' := gb282) (o := .cells #[.int .u8 0, .string (⟨#[]⟩ : ByteArray), .slice none 0 0] 133 (0, 0)) (a7_) NB282_0.out (by simp)) (KeepBut.trans (a8_) hk (.inl rfl)) (hb) (hi); clear BK282 HK HB HI0; obtain ⟨BK282, HK, HB, HI0⟩ := n_; (try clear hb); (try clear hb2); (try clear hk); (try clear hi); obtain ⟨HGz42, hgz42⟩ := HI0.out; have hcz42_0 := cellS142_0 HGz42; have hcz42_1 := cellS142_1 HGz42; have hcz42_2 := cellS142_2 HGz42; have hcz42_3 := cellS142_3 HGz42; have hfz42_0 := blk_frozen HGz42 0; have hfz42_1 := blk_frozen HGz42 1; have hfz42_2 := blk_frozen HGz42 2; have hfz42_3 := blk_frozen HGz42 3; clear HGz42 hgz42) | ((with_reducible refine gate_callee (f := 98) rfl ?_); refine goesL_ (some 49) rfl rfl Try.func98 (by kernel_rfl) rfl #[.pointer (some ⟨g, 0, none⟩)] rfl (a4_) ?_; (with_reducible refine (impl_testReader_or.calls g t284 (wrap64 (t285 + 1)) (wrap64 (t286 + 1)) t287 t300 t301 t302 t305 t306 t307 t308 w0 _ ?side1 ?side2 A22.out).mono ?_); (case side1 => exact a5_); (case side2 => exact a6_); rintro e w43 ⟨v303, rfl, ho0, hi, hb, hk⟩; refine ⟨_, rfl, ?_⟩; have n_ := c5_ (KeepBut.blk hk (g' := gb282) (o := .cells #[.int .u8 0, .string (⟨#[]⟩ : ByteArray), .slice none 0 0] 133 (0, 0)) (a11_) NB282_0.out (by simp)) (Kd.V_lower (Kd.V_mono (ok' := fun k_ => (w.heap.size ≤ k_) ∧ k_ ≠ gb282 ∧ k_ ≠ g) ho0 (fun k_ hk_ => ⟨(Nat.le_trans (keep_size (w := w) (g := g) (row := none) (a8_)) hk_), (Kd.freshB (g := gb282) (o := .cells #[.int .u8 0, .string (⟨#[]⟩ : ByteArray), .slice none 0 0] 133 (0, 0)) (a11_) k_ hk_), (IsS142.fresh (a5_) k_ hk_)⟩)) (keep_size (w := w) (g := g) (row := none) (a8_))) (KeepBut.trans (a8_) hk (.inl rfl)) (hb) (hi); clear BK282 HK HB HI0; obtain ⟨BK282, HO304, HK, HB, HI0⟩ := n_; (try clear hb); (try clear hb2); (try clear hk); (try clear hi); (try clear ho0)) | ((with_reducible refine gate_dst (N := 4) rfl ?_); refine box_event ?hg (N := 4) ?hd (cs := #[.int .u8 0, .string (⟨#[]⟩ : ByteArray), .slice none 0 0]) (t := 133) ?hr ?_; (case hd => rfl); (case hg => rfl); (case hr => first | (go_simp; done) | (go_simp; rfl)); intro gb309 hg w44 hbox hb; have n_ := c12_ (Kd.V_below (Kd.V_elderB (by (with_reducible repeat (first | apply Kd.V_alloc | apply Kd.V_drewN | apply Kd.V_drew)); exact HO304.out) gb309 (Nat.le_of_eq hg.symm)) hb) (IsS142.below (a5_) hb) (blk_below (g := gb282) (o := .cells #[.int .u8 0, .string (⟨#[]⟩ : ByteArray), .slice none 0 0] 133 (0, 0)) (a7_) hb) (KeepBut.trans (a8_) (KeepBut.of_below hb g none) (.inl rfl)) (below_step (a6_) hb) (hbox) ((by rw [hg]; exact (keep_size (w := w) (g := g) (row := none) (a8_)) : w.heap.size ≤ gb309)) ((Nat.le_trans HW0.out (by rw [hg]; exact (keep_size (w := w) (g := g) (row := none) (a8_)) : w.heap.size ≤ gb309) : w0.heap.size ≤ gb309)) ((by rw [hg]; exact Nat.ne_of_lt (blk_lt (g := gb282) (o := .cells #[.int .u8 0, .string (⟨#[]⟩ : ByteArray), .slice none 0 0] 133 (0, 0)) (a7_)) : gb282 ≠ gb309)) ((by rw [hg]; exact Nat.ne_of_gt (blk_lt (g := gb282) (o := .cells #[.int .u8 0, .string (⟨#[]⟩ : ByteArray), .slice none 0 0] 133 (0, 0)) (a7_)) : gb309 ≠ gb282)) ((by rw [hg]; exact Nat.ne_of_lt (IsS142.lt (show IsS142 w0 _ g t305 t306 t307 t308 from a5_)) : g ≠ gb309)) ((by rw [hg]; exact Nat.ne_of_gt (IsS142.lt (show IsS142 w0 _ g t305 t306 t307 t308 from a5_)) : gb309 ≠ g)); clear HO304 HI0 BK282 HK HB; obtain ⟨HO304, HI0, BK282, HK, HB, BK309, GW309, GE309, NB282_309, NB309_282, NB0_309, NB309_0⟩ := n_; clear hb hbox hg; have hnb45 := NB309_282.out; have hnc45 := NB282_309.out; have hnb46 := NB309_0.out; have hnc46 := NB0_309.out; obtain ⟨hcz47_0, hcz47_1, hcz47_2, hfz47_0, hfz47_1, hfz47_2⟩ := cf3_ BK309.out; obtain ⟨Ao48, co48, eo48⟩ := Kd.V_slice HO304.out; subst eo48; obtain ⟨HGz49, hgz49⟩ := HI0.out; have hcz49_0 := cellS142_0 HGz49; have hcz49_1 := cellS142_1 HGz49; have hcz49_2 := cellS142_2 HGz49; have hcz49_3 := cellS142_3 HGz49; have hfz49_0 := blk_frozen HGz49 0; have hfz49_1 := blk_frozen HGz49 1; have hfz49_2 := blk_frozen HGz49 2; have hfz49_3 := blk_frozen HGz49 3; clear HGz49 hgz49) | ((with_reducible refine gate_callee (f := 107) rfl ?_); refine goesL_ (some 58) rfl rfl Try.func107 (by kernel_rfl) rfl #[.pointer (some ⟨g, 0, none⟩)] rfl (a4_) ?_; (with_reducible refine (impl_testReader_peek.calls g t305 t306 (wrap64 (t307 - 1)) t308 t310 t311 t312 t313 t314 w0 _ ?side1 ?side2 A23.out).mono ?_); (case side1 => exact a12_); (case side2 => exact a13_); rintro e w50 ⟨rfl, hi, hb, hk⟩; refine ⟨_, rfl, ?_⟩; have n_ := c6_ (KeepBut.blk hk (g' := gb282) (o := .cells #[.int .u8 0, .string (⟨#[]⟩ : ByteArray), .slice none 0 0] 133 (0, 0)) (a14_) NB282_0.out (by simp)) (Kd.V_mono (Kd.V_keep (Kd.V_mono (ok := fun k_ => ((((w.heap.size ≤ k_)) ∧ (k_ ≠ gb282 ∧ k_ ≠ g)) ∧ k_ ≠ gb309)) (by (with_reducible repeat (first | apply Kd.V_alloc | apply Kd.V_drewN | apply Kd.V_drew)); exact (Kd.V_mono (Kd.V_mono (Kd.V_far (p := ⟨g, 2, none⟩) (Kd.V_far (p := ⟨gb309, 2, none⟩) (Kd.V_far (p := ⟨gb309, 1, none⟩) (Kd.V_far (p := ⟨gb309, 0, none⟩) (Kd.V_mono (Kd.V_mono HO304.out (fun k_ hk => (⟨hk, hk.2⟩ : _ ∧ k_ ≠ gb309))) (fun k_ hk => (⟨hk, hk.1.1.2.2⟩ : _ ∧ k_ ≠ g))) (fun _ hk => hk.1.2) (.int .u8 t300)) (fun _ hk => hk.1.2) (.string t301)) (fun _ hk => hk.1.2) (.slice Ao48 t302.length co48)) (fun _ hk => hk.2) (.int .i64 (wrap64 (t307 - 1)))) (fun _ h_ => h_.1)) (fun _ h_ => h_.1))) (fun k_ hk_ => (⟨hk_, hk_.1.2.2⟩ : _ ∧ k_ ≠ g))) hk (fun _ h => h.2)) (fun _ h => h.1)) (KeepBut.blk hk (g' := gb309) (o := .cells #[.int .u8 t300, .string t301, .slice Ao48 t302.length co48] 133 (0, 0)) (a15_) NB309_0.out (by simp)) (KeepBut.trans (a16_) hk (.inl rfl)) (hb) (hi); clear BK282 HO304 BK309 HK HB HI0; obtain ⟨BK282, HO304, BK309, HK, HB, HI0⟩ := n_; (try clear hb); (try clear hb2); (try clear hk); (try clear hi); obtain ⟨HGz51, hgz51⟩ := HI0.out; have hcz51_0 := cellS142_0 HGz51; have hcz51_1 := cellS142_1 HGz51; have hcz51_2 := cellS142_2 HGz51; have hcz51_3 := cellS142_3 HGz51; have hfz51_0 := blk_frozen HGz51 0; have hfz51_1 := blk_frozen HGz51 1; have hfz51_2 := blk_frozen HGz51 2; have hfz51_3 := blk_frozen HGz51 3; clear HGz51 hgz51; have hnb52 := NB282_0.out; have hnc52 := NB0_282.out; obtain ⟨hcz53_0, hcz53_1, hcz53_2, hfz53_0, hfz53_1, hfz53_2⟩ := cf3_ BK282.out))
     refine bodyPost_ret (results_cell_row rfl _ _ gb282 133 #[.int .u8 0, .string (⟨#[]⟩ : ByteArray), .slice none 0 0] (0, 0) _ rfl (by (with_reducible repeat (first | refine blk_drewN ?_ _ | refine blk_drew ?_ | refine blk_alloc ?_ _)); refine blk_put (cs := #[.int .u8 0, .string (⟨#[]⟩ : ByteArray), .slice none 0 0]) ?_ 2 _ rfl; (with_reducible repeat (first | refine blk_drewN ?_ _ | refine blk_drew ?_ | refine blk_alloc ?_ _)); refine blk_put (cs := #[.int .u8 0, .string (⟨#[]⟩ : ByteArray), .slice none 0 0]) ?_ 1 _ rfl; (with_reducible repeat (first | refine blk_drewN ?_ _ | refine blk_drew ?_ | refine blk_alloc ?_ _)); refine blk_put (cs := #[.int .u8 0, .string (⟨#[]⟩ : ByteArray), .slice none 0 0]) ?_ 0 _ rfl; (with_reducible repeat (first | refine blk_drewN ?_ _ | refine blk_drew ?_ | refine blk_alloc ?_ _)); refine blk_far ?_ NB282_0.out _; (with_reducible repeat (first | refine blk_drewN ?_ _ | refine blk_drew ?_ | refine blk_alloc ?_ _)); exact BK282.out) Try.underlying133 rfl (by kernel_rfl)) rfl ?_
     exact ⟨_, a10_, by first | exact Kd.V_nil _ _ _ _ _, a12_, a13_, a16_⟩
  ·rw [if_neg c15] at H
   have c15b0 : (t283 == 40) = false := beq_eq_false_iff_ne.mpr c15
   have c15b1 : (t283 != 40) = true := bne_iff_ne.mpr c15
   have H' := Aside0.mk H
   clear H
   go_enter Try.func108, Try.ntmps108
   go_wp2_with (first | ((with_reducible refine gate_dst (N := 2) rfl ?_); refine box_event ?hg (N := 2) ?hd (cs := #[.int .u8 0, .string (⟨#[]⟩ : ByteArray), .slice none 0 0]) (t := 133) ?hr ?_; (case hd => rfl); (case hg => rfl); (case hr => first | (go_simp; done) | (go_simp; rfl)); intro gb282 hg w54 hbox hb; have n_ := c8_ (IsS142.below (a1_) hb) (KeepBut.trans (a2_) (KeepBut.of_below hb g none) (.inl rfl)) (below_step (a3_) hb) (hbox) ((by rw [hg]; exact (keep_size (w := w) (g := g) (row := none) (a2_)) : w.heap.size ≤ gb282)) ((Nat.le_trans HW0.out (by rw [hg]; exact (keep_size (w := w) (g := g) (row := none) (a2_)) : w.heap.size ≤ gb282) : w0.heap.size ≤ gb282)) ((by rw [hg]; exact Nat.ne_of_lt (IsS142.lt (show IsS142 w0 _ g s0_0 s0_1 s0_2 s0_3 from a1_)) : g ≠ gb282)) ((by rw [hg]; exact Nat.ne_of_gt (IsS142.lt (show IsS142 w0 _ g s0_0 s0_1 s0_2 s0_3 from a1_)) : gb282 ≠ g)); clear HI0 HK HB; obtain ⟨HI0, HK, HB, BK282, GW282, GE282, NB0_282, NB282_0⟩ := n_; clear hb hbox hg) | ((with_reducible refine gate_callee (f := 107) rfl ?_); refine goesL_ (some 7) rfl rfl Try.func107 (by kernel_rfl) rfl #[.pointer (some ⟨g, 0, none⟩)] rfl (a4_) ?_; (with_reducible refine (impl_testReader_peek.calls g s0_0 s0_1 s0_2 s0_3 t283 t284 t285 t286 t287 w0 _ ?side1 ?side2 A2.out).mono ?_); (case side1 => exact a5_); (case side2 => exact a6_); rintro e w55 ⟨rfl, hi, hb, hk⟩; refine ⟨_, rfl, ?_⟩; have n_ := c4_ (KeepBut.blk hk (g' := gb282) (o := .cells #[.int .u8 0, .string (⟨#[]⟩ : ByteArray), .slice none 0 0] 133 (0, 0)) (a7_) NB282_0.out (by simp)) (KeepBut.trans (a8_) hk (.inl rfl)) (hb) (hi); clear BK282 HK HB HI0; obtain ⟨BK282, HK, HB, HI0⟩ := n_; (try clear hb); (try clear hb2); (try clear hk); (try clear hi); obtain ⟨HGz56, hgz56⟩ := HI0.out; have hcz56_0 := cellS142_0 HGz56; have hcz56_1 := cellS142_1 HGz56; have hcz56_2 := cellS142_2 HGz56; have hcz56_3 := cellS142_3 HGz56; have hfz56_0 := blk_frozen HGz56 0; have hfz56_1 := blk_frozen HGz56 1; have hfz56_2 := blk_frozen HGz56 2; have hfz56_3 := blk_frozen HGz56 3; clear HGz56 hgz56))
   go_loopg [] k (fun kq w' => ∃ (x1001_1 : Int), Aside0 (impl_testReader_not.l0 kq t285 t284 x1001_1 t286 t287 = some (r1, r2, r3, r4, r5, r6, r7)) ∧ Aside0 (kq ≤ k) ∧ Aside0 (w'.heap[gb282]? = some (.cells #[.int .u8 0, .string (⟨#[]⟩ : ByteArray), (.slice none 0 0)] 133 (0, 0))) ∧ Aside0 (IsS142 w0 w' g t284 x1001_1 t286 t287) ∧ Aside0 (KeepBut w w' g none) ∧ Aside0 (Below w0.heap.size w0 w'))
   case atStart => exact ⟨(t285), H', ⟨Nat.le_refl _⟩, ⟨a7_⟩, ⟨a5_⟩, ⟨a8_⟩, ⟨a6_⟩⟩
   case round =>
    clear H'
    try clear c1
    try clear c2
    try clear p2
    try clear c3
    try clear c3b0
    try clear c3b1
    try clear c4
    try clear c5
    try clear p6
    try clear c9
    try clear c10
    try clear c13
    try clear c15
    try clear c15b0
    try clear c15b1
    try clear c16
    try clear c16b0
    try clear c20
    try clear c24
    try clear c24b0
    try clear c24b1
    try clear c30
    try clear c31
    try clear c38
    try clear c45
    try clear c46
    try clear c52
    try clear hcz14_0
    try clear hcz14_1
    try clear hcz14_2
    try clear hcz19_0
    try clear hcz19_1
    try clear hcz19_2
    try clear hcz19_3
    try clear hcz21_0
    try clear hcz21_1
    try clear hcz21_2
    try clear hcz27_0
    try clear hcz27_1
    try clear hcz27_2
    try clear hcz27_3
    try clear hcz32_0
    try clear hcz32_1
    try clear hcz32_2
    try clear hcz34_0
    try clear hcz34_1
    try clear hcz34_2
    try clear hcz34_3
    try clear hcz36_0
    try clear hcz36_1
    try clear hcz36_2
    try clear hcz36_3
    try clear hcz37_0
    try clear hcz37_1
    try clear hcz37_2
    try clear hcz39_0
    try clear hcz39_1
    try clear hcz39_2
    try clear hcz42_0
    try clear hcz42_1
    try clear hcz42_2
    try clear hcz42_3
    try clear hcz47_0
    try clear hcz47_1
    try clear hcz47_2
    try clear hcz49_0
    try clear hcz49_1
    try clear hcz49_2
    try clear hcz49_3
    try clear hcz51_0
    try clear hcz51_1
    try clear hcz51_2
    try clear hcz51_3
    try clear hcz53_0
    try clear hcz53_1
    try clear hcz53_2
    try clear hcz56_0
    try clear hcz56_1
    try clear hcz56_2
    try clear hcz56_3
    try clear hcz7_0
    try clear hcz7_1
    try clear hcz7_2
    try clear hcz7_3
    try clear hfz14_0
    try clear hfz14_1
    try clear hfz14_2
    try clear hfz19_0
    try clear hfz19_1
    try clear hfz19_2
    try clear hfz19_3
    try clear hfz21_0
    try clear hfz21_1
    try clear hfz21_2
    try clear hfz27_0
    try clear hfz27_1
    try clear hfz27_2
    try clear hfz27_3
    try clear hfz32_0
    try clear hfz32_1
    try clear hfz32_2
    try clear hfz34_0
    try clear hfz34_1
    try clear hfz34_2
    try clear hfz34_3
    try clear hfz36_0
    try clear hfz36_1
    try clear hfz36_2
    try clear hfz36_3
    try clear hfz37_0
    try clear hfz37_1
    try clear hfz37_2
    try clear hfz39_0
    try clear hfz39_1
    try clear hfz39_2
    try clear hfz42_0
    try clear hfz42_1
    try clear hfz42_2
    try clear hfz42_3
    try clear hfz47_0
    try clear hfz47_1
    try clear hfz47_2
    try clear hfz49_0
    try clear hfz49_1
    try clear hfz49_2
    try clear hfz49_3
    try clear hfz51_0
    try clear hfz51_1
    try clear hfz51_2
    try clear hfz51_3
    try clear hfz53_0
    try clear hfz53_1
    try clear hfz53_2
    try clear hfz56_0
    try clear hfz56_1
    try clear hfz56_2
    try clear hfz56_3
    try clear hfz7_0
    try clear hfz7_1
    try clear hfz7_2
    try clear hfz7_3
    obtain ⟨x1001_1, HA, HK1, BK282, HI0, HK, HB⟩ := hrel
    cases gk with
    | zero => exact absurd HA.out (by simp [impl_testReader_not.l0])
    | succ k1 =>
     have H := HA.out
     clear HA
     simp only [impl_testReader_not.l0] at H
     by_cases c57 : x1001_1 < (t284.size : Int)
     ·rw [if_pos c57] at H
      have c57b0 : decide (x1001_1 < (t284.size : Int)) = true := decide_eq_true c57
      clear c57
      by_cases c58 : 0 ≤ x1001_1
      ·rw [if_pos c58] at H
       have c58b0 : decide (0 ≤ x1001_1) = true := decide_eq_true c58
       clear c58
       replace H := Option.bind_eq_some_iff.mp H
       obtain ⟨t315, A600, H⟩ := H
       try dsimp only at H
       have A60 := Aside0.mk A600
       clear A600
       by_cases c61 : t315 = true
       ·subst c61
        rw [if_pos rfl] at H
        try dsimp only at H
        have H' := Aside0.mk H
        clear H
        try go_wp2
        have p59 : 0 ≤ (x1001_1 : Int) := of_decide_eq_true (by first | (with_reducible assumption) | assumption)
        have q59 : x1001_1 < (t284.size : Int) := of_decide_eq_true (by first | (with_reducible assumption) | assumption)
        have hx59 := bt_at t284 x1001_1
        replace p59 := eq_true p59
        replace q59 := eq_true q59
        have hS_ : wr.cell? ⟨g, 0, none⟩ = some (.string t284) ∧ wr.cell? ⟨g, 1, none⟩ = some (.int .i64 x1001_1) ∧ wr.cell? ⟨g, 2, none⟩ = some (.int .i64 t286) ∧ wr.cell? ⟨g, 3, none⟩ = some (.bool t287) := ⟨cellS142_0 HI0.out.1, cellS142_1 HI0.out.1, cellS142_2 HI0.out.1, cellS142_3 HI0.out.1⟩
        obtain ⟨hS0_, hS1_, hS2_, hS3_⟩ := hS_
        go_quiet (first | (go_at_call 116; (with_reducible refine (impl_wordByte.calls (bt t284 x1001_1) true _ A60.out).mono ?_); rintro e w' ⟨rfl, ⟨nd, rfl⟩⟩; (try first | exact ⟨rfl, _, World.drewN_drewN _ _ _⟩ | exact ⟨rfl, _, Eq.trans (World.drewN_drewN _ _ _) (congrArg (World.drewN _) (Nat.add_assoc _ _ _))⟩)))
        clear hS0_ hS1_ hS2_ hS3_
        generalize hq_ : World.drewN wr _ = w62
        have n_ := c4_ (blk_at hq_ BK282.out) (IsS142.at_ hq_ HI0.out) (keep_at hq_ HK.out) (below_at hq_ HB.out)
        clear BK282 HI0 HK HB hq_
        obtain ⟨BK282, HI0, HK, HB⟩ := n_
        obtain ⟨HGz63, hgz63⟩ := HI0.out
        have hcz63_0 := cellS142_0 HGz63
        have hcz63_1 := cellS142_1 HGz63
        have hcz63_2 := cellS142_2 HGz63
        have hcz63_3 := cellS142_3 HGz63
        have hfz63_0 := blk_frozen HGz63 0
        have hfz63_1 := blk_frozen HGz63 1
        have hfz63_2 := blk_frozen HGz63 2
        have hfz63_3 := blk_frozen HGz63 3
        clear HGz63 hgz63
        try go_wp2
        go_roundg k1
        case measure => have := HK1.out; omega
        case rel => exact ⟨(wrap64 (x1001_1 + 1)), H', ⟨by have := HK1.out; omega⟩, ⟨a9_⟩, ⟨a5_⟩, ⟨a8_⟩, ⟨a6_⟩⟩
       ·replace c61 := Bool.eq_false_iff.mpr c61
        subst c61
        rw [if_neg (show ¬ (false = true) by decide)] at H
        try dsimp only at H
        by_cases c64 : 0 ≤ t285
        ·rw [if_pos c64] at H
         have c64b0 := eq_true c64
         have c64b1 : decide (0 ≤ t285) = true := decide_eq_true c64
         clear c64
         by_cases c65 : t285 ≤ x1001_1
         ·rw [if_pos c65] at H
          have c65b0 := eq_true c65
          have c65b1 : decide (t285 ≤ x1001_1) = true := decide_eq_true c65
          clear c65
          by_cases c66 : x1001_1 ≤ (t284.size : Int)
          ·rw [if_pos c66] at H
           have c66b0 := eq_true c66
           have c66b1 : decide (x1001_1 ≤ (t284.size : Int)) = true := decide_eq_true c66
           clear c66
           replace H := Option.bind_eq_some_iff.mp H
           obtain ⟨t316, A670, H⟩ := H
           try dsimp only at H
           have A67 := Aside0.mk A670
           clear A670
           by_cases c68 : t316 = true
           ·subst c68
            rw [if_pos rfl] at H
            try dsimp only at H
            have c69b0 := eq_true (of_decide_eq_true (by first | (with_reducible assumption) | assumption) : 0 ≤ t285)
            have c70b0 := eq_true (of_decide_eq_true (by first | (with_reducible assumption) | assumption) : t285 ≤ x1001_1)
            have c71b0 := eq_true (of_decide_eq_true (by first | (with_reducible assumption) | assumption) : x1001_1 ≤ (t284.size : Int))
            simp only [Option.some.injEq, Prod.mk.injEq] at H
            obtain ⟨rfl, rfl, rfl, rfl, rfl, rfl, rfl⟩ := H
            try go_wp2
            have p59 : 0 ≤ (x1001_1 : Int) := of_decide_eq_true (by first | (with_reducible assumption) | assumption)
            have q59 : x1001_1 < (t284.size : Int) := of_decide_eq_true (by first | (with_reducible assumption) | assumption)
            have hx59 := bt_at t284 x1001_1
            replace p59 := eq_true p59
            replace q59 := eq_true q59
            have hS_ : wr.cell? ⟨g, 0, none⟩ = some (.string t284) ∧ wr.cell? ⟨g, 1, none⟩ = some (.int .i64 x1001_1) ∧ wr.cell? ⟨g, 2, none⟩ = some (.int .i64 t286) ∧ wr.cell? ⟨g, 3, none⟩ = some (.bool t287) := ⟨cellS142_0 HI0.out.1, cellS142_1 HI0.out.1, cellS142_2 HI0.out.1, cellS142_3 HI0.out.1⟩
            obtain ⟨hS0_, hS1_, hS2_, hS3_⟩ := hS_
            go_quiet (first | (go_at_call 116; (with_reducible refine (impl_wordByte.calls (bt t284 x1001_1) false _ A60.out).mono ?_); rintro e w' ⟨rfl, ⟨nd, rfl⟩⟩; (try first | exact ⟨rfl, _, World.drewN_drewN _ _ _⟩ | exact ⟨rfl, _, Eq.trans (World.drewN_drewN _ _ _) (congrArg (World.drewN _) (Nat.add_assoc _ _ _))⟩)))
            clear hS0_ hS1_ hS2_ hS3_
            generalize hq_ : World.drewN wr _ = w72
            have n_ := c4_ (blk_at hq_ BK282.out) (IsS142.at_ hq_ HI0.out) (keep_at hq_ HK.out) (below_at hq_ HB.out)
            clear BK282 HI0 HK HB hq_
            obtain ⟨BK282, HI0, HK, HB⟩ := n_
            try go_wp2
            (try (rw [drewN_self w72]; generalize hq_ : World.drewN w72 _ = w72; have n_ := c4_ (show w72.heap[gb282]? = some (.cells #[.int .u8 0, .string (⟨#[]⟩ : ByteArray), .slice none 0 0] 133 (0, 0)) from a17_) (show IsS142 w0 w72 g t284 x1001_1 t286 t287 from a18_) (show KeepBut w w72 g none from a19_) (show Below w0.heap.size w0 w72 from a20_); clear BK282 HI0 HK HB hq_; obtain ⟨BK282, HI0, HK, HB⟩ := n_))
            have hS_ : w72.cell? ⟨g, 0, none⟩ = some (.string t284) ∧ w72.cell? ⟨g, 1, none⟩ = some (.int .i64 x1001_1) ∧ w72.cell? ⟨g, 2, none⟩ = some (.int .i64 t286) ∧ w72.cell? ⟨g, 3, none⟩ = some (.bool t287) := ⟨cellS142_0 HI0.out.1, cellS142_1 HI0.out.1, cellS142_2 HI0.out.1, cellS142_3 HI0.out.1⟩
            obtain ⟨hS0_, hS1_, hS2_, hS3_⟩ := hS_
            go_quiet (first | (go_at_call 84; (with_reducible refine (impl_isName.calls k1 (t284.extract (t285 : Int).toNat (x1001_1 : Int).toNat) true _ A67.out).mono ?_); rintro e w' ⟨rfl, ⟨nd, rfl⟩⟩; (try first | exact ⟨rfl, _, World.drewN_drewN _ _ _⟩ | exact ⟨rfl, _, Eq.trans (World.drewN_drewN _ _ _) (congrArg (World.drewN _) (Nat.add_assoc _ _ _))⟩)))
            clear hS0_ hS1_ hS2_ hS3_
            generalize hq_ : World.drewN w72 _ = w73
            have n_ := c4_ (blk_at hq_ BK282.out) (IsS142.at_ hq_ HI0.out) (keep_at hq_ HK.out) (below_at hq_ HB.out)
            clear BK282 HI0 HK HB hq_
            obtain ⟨BK282, HI0, HK, HB⟩ := n_
            try go_wp2
            (try (rw [drewN_self w73]; generalize hq_ : World.drewN w73 _ = w73; have n_ := c4_ (show w73.heap[gb282]? = some (.cells #[.int .u8 0, .string (⟨#[]⟩ : ByteArray), .slice none 0 0] 133 (0, 0)) from a17_) (show IsS142 w0 w73 g t284 x1001_1 t286 t287 from a18_) (show KeepBut w w73 g none from a19_) (show Below w0.heap.size w0 w73 from a20_); clear BK282 HI0 HK HB hq_; obtain ⟨BK282, HI0, HK, HB⟩ := n_))
            have n_ := c4_ (blk_drew BK282.out) (IsS142.drew HI0.out) (keep_drew HK.out) (below_drew1 HB.out)
            clear BK282 HI0 HK HB
            obtain ⟨BK282, HI0, HK, HB⟩ := n_
            refine start_ (n := 12) (S := fun w' => w'.cell? ⟨g, 0, none⟩ = some (.string t284) ∧ w'.cell? ⟨g, 1, none⟩ = some (.int .i64 x1001_1) ∧ w'.cell? ⟨g, 2, none⟩ = some (.int .i64 t286) ∧ w'.cell? ⟨g, 3, none⟩ = some (.bool t287)) (ds := []) (bs_ 12 0) (by kernel_rfl) (by kernel_rfl) (by kernel_rfl) ⟨cellS142_0 HI0.out.1, cellS142_1 HI0.out.1, cellS142_2 HI0.out.1, cellS142_3 HI0.out.1⟩ (fun hHeld => ?_); refine with_tabW impl_testReader_not.tab23 impl_testReader_not.bits23 (fun HT_ HW_ => ?_)
            generalize w73.drew = w74 at BK282 HI0 HK HB hHeld ⊢
            refine pu_ (i := 0) (N := some 120) 1 rfl rfl HT_ (Or.inl ⟨by rfl, by intro w'; go_simp; with_reducible rfl⟩) (by simp only [pt_]; rfl) ?_
            refine pu_ (i := 1) (N := some 121) 3 rfl rfl HT_ (Or.inl ⟨by rfl, by intro w'; go_simp; with_reducible rfl⟩) (by simp only [pt_]; rfl) ?_
            refine pu_ (i := 2) (N := some 122) 7 rfl rfl HT_ (Or.inl ⟨by rfl, by intro w'; go_simp; with_reducible rfl⟩) (by simp only [pt_]; rfl) ?_
            refine pu_ (i := 4) (N := some 124) 23 rfl rfl HT_ (Or.inl ⟨by rfl, by intro w'; go_simp; with_reducible rfl⟩) (by simp only [pt_]; rfl) ?_
            refine pu_ (i := 5) (N := some 125) 55 rfl rfl HT_ (Or.inl ⟨by rfl, by intro w'; go_simp; with_reducible rfl⟩) (by simp only [pt_]; rfl) ?_
            refine pu_ (i := 6) (N := some 126) 119 rfl rfl HT_ (Or.inl ⟨by rfl, by intro w'; go_simp; with_reducible rfl⟩) (by simp only [pt_]; rfl) ?_
            refine pu_ (i := 7) (N := some 127) 247 rfl rfl HT_ (Or.inl ⟨by rfl, by intro w'; go_simp; with_reducible rfl⟩) (by simp only [pt_]; rfl) ?_
            refine tk_ (i := 3) (N := some 123) 255 rfl rfl HT_ HW_ (Or.inl ⟨by rfl, by rintro w' ⟨s0, s1, s2, s3⟩; go_simp; with_reducible rfl⟩) hHeld (by simp only [pt_]; rfl) ?_
            refine tk_ (i := 8) (N := some 128) 511 rfl rfl HT_ HW_ (Or.inl ⟨by rfl, by rintro w' ⟨s0, s1, s2, s3⟩; go_simp; with_reducible rfl⟩) hHeld (by simp only [pt_]; rfl) ?_
            refine pu_ (i := 9) (N := some 129) 1023 rfl rfl HT_ (Or.inl ⟨by rfl, by intro w'; go_simp; with_reducible rfl⟩) (by simp only [pt_]; rfl) ?_
            refine pu_ (i := 10) (N := some 130) 2047 rfl rfl HT_ (Or.inl ⟨by rfl, by intro w'; go_simp; with_reducible rfl⟩) (by simp only [pt_]; rfl) ?_
            refine one_ (i := 11) (N := none) (bs_ 12 4095) rfl rfl (one_of HT_.out (by kernel_rfl)) (by decide) (fun K hK => ?_)
            have hs75 : w74.cell? ⟨gb282, 0, none⟩ = some (.int .u8 0) := (blk_cell BK282.out 0).trans rfl
            have hfs75 := blk_frozen BK282.out 0
            have hs76 : w74.cell? ⟨gb282, 1, none⟩ = some (.string (⟨#[]⟩ : ByteArray)) := (blk_cell BK282.out 1).trans rfl
            have hfs76 := blk_frozen BK282.out 1
            have hs77 : w74.cell? ⟨gb282, 2, none⟩ = some (.slice none 0 0) := (blk_cell BK282.out 2).trans rfl
            have hfs77 := blk_frozen BK282.out 2
            refine skip_ (w1 := ?_) (by rfl) rfl ?_ ?_
            rotate_left
            ·go_simp
             rfl
            refine hK.out _ _ ⟨((cell_far (p := ⟨gb282, _, none⟩) NB0_282.out _).trans (((cell_far (p := ⟨gb282, _, none⟩) NB0_282.out _).trans (((cell_far (p := ⟨gb282, _, none⟩) NB0_282.out _).trans (hHeld.1)))))), ((cell_far (p := ⟨gb282, _, none⟩) NB0_282.out _).trans (((cell_far (p := ⟨gb282, _, none⟩) NB0_282.out _).trans (((cell_far (p := ⟨gb282, _, none⟩) NB0_282.out _).trans (hHeld.2.1)))))), ((cell_far (p := ⟨gb282, _, none⟩) NB0_282.out _).trans (((cell_far (p := ⟨gb282, _, none⟩) NB0_282.out _).trans (((cell_far (p := ⟨gb282, _, none⟩) NB0_282.out _).trans (hHeld.2.2.1)))))), ((cell_far (p := ⟨gb282, _, none⟩) NB0_282.out _).trans (((cell_far (p := ⟨gb282, _, none⟩) NB0_282.out _).trans (((cell_far (p := ⟨gb282, _, none⟩) NB0_282.out _).trans (hHeld.2.2.2))))))⟩ (fun hHeld => ?_)
            clear hK K
            refine done_ (done_of HT_.out (by kernel_rfl)) ?_
            try go_wp2
            refine bodyPost_ret (results_cell_row rfl _ _ gb282 133 #[.int .u8 0, .string (t284.extract (t285 : Int).toNat (x1001_1 : Int).toNat), .slice none 0 0] (0, 0) _ rfl (a21_) Try.underlying133 rfl (by kernel_rfl)) rfl ?_
            exact ⟨_, a10_, by first | exact Kd.V_nil _ _ _ _ _, a5_, a6_, a8_⟩
           ·replace c68 := Bool.eq_false_iff.mpr c68
            subst c68
            rw [if_neg (show ¬ (false = true) by decide)] at H
            try dsimp only at H
            have c78b0 := eq_true (of_decide_eq_true (by first | (with_reducible assumption) | assumption) : 0 ≤ t285)
            have c79b0 := eq_true (of_decide_eq_true (by first | (with_reducible assumption) | assumption) : t285 ≤ x1001_1)
            have c80b0 := eq_true (of_decide_eq_true (by first | (with_reducible assumption) | assumption) : x1001_1 ≤ (t284.size : Int))
            simp only [Option.some.injEq, Prod.mk.injEq] at H
            obtain ⟨rfl, rfl, rfl, rfl, rfl, rfl, rfl⟩ := H
            try go_wp2
            have p59 : 0 ≤ (x1001_1 : Int) := of_decide_eq_true (by first | (with_reducible assumption) | assumption)
            have q59 : x1001_1 < (t284.size : Int) := of_decide_eq_true (by first | (with_reducible assumption) | assumption)
            have hx59 := bt_at t284 x1001_1
            replace p59 := eq_true p59
            replace q59 := eq_true q59
            have hS_ : wr.cell? ⟨g, 0, none⟩ = some (.string t284) ∧ wr.cell? ⟨g, 1, none⟩ = some (.int .i64 x1001_1) ∧ wr.cell? ⟨g, 2, none⟩ = some (.int .i64 t286) ∧ wr.cell? ⟨g, 3, none⟩ = some (.bool t287) := ⟨cellS142_0 HI0.out.1, cellS142_1 HI0.out.1, cellS142_2 HI0.out.1, cellS142_3 HI0.out.1⟩
            obtain ⟨hS0_, hS1_, hS2_, hS3_⟩ := hS_
            go_quiet (first | (go_at_call 116; (with_reducible refine (impl_wordByte.calls (bt t284 x1001_1) false _ A60.out).mono ?_); rintro e w' ⟨rfl, ⟨nd, rfl⟩⟩; (try first | exact ⟨rfl, _, World.drewN_drewN _ _ _⟩ | exact ⟨rfl, _, Eq.trans (World.drewN_drewN _ _ _) (congrArg (World.drewN _) (Nat.add_assoc _ _ _))⟩)))
            clear hS0_ hS1_ hS2_ hS3_
            generalize hq_ : World.drewN wr _ = w81
            have n_ := c4_ (blk_at hq_ BK282.out) (IsS142.at_ hq_ HI0.out) (keep_at hq_ HK.out) (below_at hq_ HB.out)
            clear BK282 HI0 HK HB hq_
            obtain ⟨BK282, HI0, HK, HB⟩ := n_
            try go_wp2
            (try (rw [drewN_self w81]; generalize hq_ : World.drewN w81 _ = w81; have n_ := c4_ (show w81.heap[gb282]? = some (.cells #[.int .u8 0, .string (⟨#[]⟩ : ByteArray), .slice none 0 0] 133 (0, 0)) from a17_) (show IsS142 w0 w81 g t284 x1001_1 t286 t287 from a18_) (show KeepBut w w81 g none from a19_) (show Below w0.heap.size w0 w81 from a20_); clear BK282 HI0 HK HB hq_; obtain ⟨BK282, HI0, HK, HB⟩ := n_))
            have hS_ : w81.cell? ⟨g, 0, none⟩ = some (.string t284) ∧ w81.cell? ⟨g, 1, none⟩ = some (.int .i64 x1001_1) ∧ w81.cell? ⟨g, 2, none⟩ = some (.int .i64 t286) ∧ w81.cell? ⟨g, 3, none⟩ = some (.bool t287) := ⟨cellS142_0 HI0.out.1, cellS142_1 HI0.out.1, cellS142_2 HI0.out.1, cellS142_3 HI0.out.1⟩
            obtain ⟨hS0_, hS1_, hS2_, hS3_⟩ := hS_
            go_quiet (first | (go_at_call 84; (with_reducible refine (impl_isName.calls k1 (t284.extract (t285 : Int).toNat (x1001_1 : Int).toNat) false _ A67.out).mono ?_); rintro e w' ⟨rfl, ⟨nd, rfl⟩⟩; (try first | exact ⟨rfl, _, World.drewN_drewN _ _ _⟩ | exact ⟨rfl, _, Eq.trans (World.drewN_drewN _ _ _) (congrArg (World.drewN _) (Nat.add_assoc _ _ _))⟩)))
            clear hS0_ hS1_ hS2_ hS3_
            generalize hq_ : World.drewN w81 _ = w82
            have n_ := c4_ (blk_at hq_ BK282.out) (IsS142.at_ hq_ HI0.out) (keep_at hq_ HK.out) (below_at hq_ HB.out)
            clear BK282 HI0 HK HB hq_
            obtain ⟨BK282, HI0, HK, HB⟩ := n_
            obtain ⟨HGz83, hgz83⟩ := HI0.out
            have hcz83_0 := cellS142_0 HGz83
            have hcz83_1 := cellS142_1 HGz83
            have hcz83_2 := cellS142_2 HGz83
            have hcz83_3 := cellS142_3 HGz83
            have hfz83_0 := blk_frozen HGz83 0
            have hfz83_1 := blk_frozen HGz83 1
            have hfz83_2 := blk_frozen HGz83 2
            have hfz83_3 := blk_frozen HGz83 3
            clear HGz83 hgz83
            try go_wp2
            have n_ := c4_ (show (w82.setCell ⟨g, 3, none⟩ (.bool true)).heap[gb282]? = some (.cells #[.int .u8 0, .string (⟨#[]⟩ : ByteArray), .slice none 0 0] 133 (0, 0)) from a9_) (show IsS142 w0 (w82.setCell ⟨g, 3, none⟩ (.bool true)) g t284 x1001_1 t286 true from a5_) (show KeepBut w (w82.setCell ⟨g, 3, none⟩ (.bool true)) g none from a8_) (show Below w0.heap.size w0 (w82.setCell ⟨g, 3, none⟩ (.bool true)) from a6_)
            (try clear BK282)
            (try clear HI0)
            (try clear HK)
            (try clear HB)
            generalize (w82.setCell ⟨g, 3, none⟩ (.bool true)) = w84 at n_ ⊢
            obtain ⟨BK282, HI0, HK, HB⟩ := n_
            (try (rw [drewN_self w84]; generalize hq_ : World.drewN w84 _ = w84; have n_ := c4_ (show w84.heap[gb282]? = some (.cells #[.int .u8 0, .string (⟨#[]⟩ : ByteArray), .slice none 0 0] 133 (0, 0)) from a17_) (show IsS142 w0 w84 g t284 x1001_1 t286 true from a18_) (show KeepBut w w84 g none from a19_) (show Below w0.heap.size w0 w84 from a20_); clear BK282 HI0 HK HB hq_; obtain ⟨BK282, HI0, HK, HB⟩ := n_))
            have n_ := c4_ (blk_drew BK282.out) (IsS142.drew HI0.out) (keep_drew HK.out) (below_drew1 HB.out)
            clear BK282 HI0 HK HB
            obtain ⟨BK282, HI0, HK, HB⟩ := n_
            refine start_ (n := 12) (S := fun w' => w'.cell? ⟨g, 0, none⟩ = some (.string t284) ∧ w'.cell? ⟨g, 1, none⟩ = some (.int .i64 x1001_1) ∧ w'.cell? ⟨g, 2, none⟩ = some (.int .i64 t286) ∧ w'.cell? ⟨g, 3, none⟩ = some (.bool true)) (ds := []) (bs_ 12 0) (by kernel_rfl) (by kernel_rfl) (by kernel_rfl) ⟨cellS142_0 HI0.out.1, cellS142_1 HI0.out.1, cellS142_2 HI0.out.1, cellS142_3 HI0.out.1⟩ (fun hHeld => ?_); refine with_tabW impl_testReader_not.tab23 impl_testReader_not.bits23 (fun HT_ HW_ => ?_)
            generalize w84.drew = w85 at BK282 HI0 HK HB hHeld ⊢
            refine pu_ (i := 0) (N := some 120) 1 rfl rfl HT_ (Or.inl ⟨by rfl, by intro w'; go_simp; with_reducible rfl⟩) (by simp only [pt_]; rfl) ?_
            refine pu_ (i := 1) (N := some 121) 3 rfl rfl HT_ (Or.inl ⟨by rfl, by intro w'; go_simp; with_reducible rfl⟩) (by simp only [pt_]; rfl) ?_
            refine pu_ (i := 2) (N := some 122) 7 rfl rfl HT_ (Or.inl ⟨by rfl, by intro w'; go_simp; with_reducible rfl⟩) (by simp only [pt_]; rfl) ?_
            refine pu_ (i := 4) (N := some 124) 23 rfl rfl HT_ (Or.inl ⟨by rfl, by intro w'; go_simp; with_reducible rfl⟩) (by simp only [pt_]; rfl) ?_
            refine pu_ (i := 5) (N := some 125) 55 rfl rfl HT_ (Or.inl ⟨by rfl, by intro w'; go_simp; with_reducible rfl⟩) (by simp only [pt_]; rfl) ?_
            refine pu_ (i := 6) (N := some 126) 119 rfl rfl HT_ (Or.inl ⟨by rfl, by intro w'; go_simp; with_reducible rfl⟩) (by simp only [pt_]; rfl) ?_
            refine pu_ (i := 7) (N := some 127) 247 rfl rfl HT_ (Or.inl ⟨by rfl, by intro w'; go_simp; with_reducible rfl⟩) (by simp only [pt_]; rfl) ?_
            refine tk_ (i := 3) (N := some 123) 255 rfl rfl HT_ HW_ (Or.inl ⟨by rfl, by rintro w' ⟨s0, s1, s2, s3⟩; go_simp; with_reducible rfl⟩) hHeld (by simp only [pt_]; rfl) ?_
            refine tk_ (i := 8) (N := some 128) 511 rfl rfl HT_ HW_ (Or.inl ⟨by rfl, by rintro w' ⟨s0, s1, s2, s3⟩; go_simp; with_reducible rfl⟩) hHeld (by simp only [pt_]; rfl) ?_
            refine pu_ (i := 9) (N := some 129) 1023 rfl rfl HT_ (Or.inl ⟨by rfl, by intro w'; go_simp; with_reducible rfl⟩) (by simp only [pt_]; rfl) ?_
            refine pu_ (i := 10) (N := some 130) 2047 rfl rfl HT_ (Or.inl ⟨by rfl, by intro w'; go_simp; with_reducible rfl⟩) (by simp only [pt_]; rfl) ?_
            refine one_ (i := 11) (N := none) (bs_ 12 4095) rfl rfl (one_of HT_.out (by kernel_rfl)) (by decide) (fun K hK => ?_)
            have hs86 : w85.cell? ⟨gb282, 0, none⟩ = some (.int .u8 0) := (blk_cell BK282.out 0).trans rfl
            have hfs86 := blk_frozen BK282.out 0
            have hs87 : w85.cell? ⟨gb282, 1, none⟩ = some (.string (⟨#[]⟩ : ByteArray)) := (blk_cell BK282.out 1).trans rfl
            have hfs87 := blk_frozen BK282.out 1
            have hs88 : w85.cell? ⟨gb282, 2, none⟩ = some (.slice none 0 0) := (blk_cell BK282.out 2).trans rfl
            have hfs88 := blk_frozen BK282.out 2
            refine skip_ (w1 := ?_) (by rfl) rfl ?_ ?_
            rotate_left
            ·go_simp
             rfl
            refine hK.out _ _ ⟨((cell_far (p := ⟨gb282, _, none⟩) NB0_282.out _).trans (((cell_far (p := ⟨gb282, _, none⟩) NB0_282.out _).trans (((cell_far (p := ⟨gb282, _, none⟩) NB0_282.out _).trans (hHeld.1)))))), ((cell_far (p := ⟨gb282, _, none⟩) NB0_282.out _).trans (((cell_far (p := ⟨gb282, _, none⟩) NB0_282.out _).trans (((cell_far (p := ⟨gb282, _, none⟩) NB0_282.out _).trans (hHeld.2.1)))))), ((cell_far (p := ⟨gb282, _, none⟩) NB0_282.out _).trans (((cell_far (p := ⟨gb282, _, none⟩) NB0_282.out _).trans (((cell_far (p := ⟨gb282, _, none⟩) NB0_282.out _).trans (hHeld.2.2.1)))))), ((cell_far (p := ⟨gb282, _, none⟩) NB0_282.out _).trans (((cell_far (p := ⟨gb282, _, none⟩) NB0_282.out _).trans (((cell_far (p := ⟨gb282, _, none⟩) NB0_282.out _).trans (hHeld.2.2.2))))))⟩ (fun hHeld => ?_)
            clear hK K
            refine done_ (done_of HT_.out (by kernel_rfl)) ?_
            try go_wp2
            refine bodyPost_ret (results_cell_row rfl _ _ gb282 133 #[.int .u8 0, .string (t284.extract (t285 : Int).toNat (x1001_1 : Int).toNat), .slice none 0 0] (0, 0) _ rfl (a21_) Try.underlying133 rfl (by kernel_rfl)) rfl ?_
            exact ⟨_, a10_, by first | exact Kd.V_nil _ _ _ _ _, a5_, a6_, a8_⟩
          ·rw [if_neg c66] at H
           exact absurd H (by simp)
         ·rw [if_neg c65] at H
          exact absurd H (by simp)
        ·rw [if_neg c64] at H
         exact absurd H (by simp)
      ·rw [if_neg c58] at H
       exact absurd H (by simp)
     ·rw [if_neg c57] at H
      have c57b0 : decide (x1001_1 < (t284.size : Int)) = false := decide_eq_false c57
      clear c57
      by_cases c89 : 0 ≤ t285
      ·rw [if_pos c89] at H
       have c89b0 := eq_true c89
       have c89b1 : decide (0 ≤ t285) = true := decide_eq_true c89
       clear c89
       by_cases c90 : t285 ≤ x1001_1
       ·rw [if_pos c90] at H
        have c90b0 := eq_true c90
        have c90b1 : decide (t285 ≤ x1001_1) = true := decide_eq_true c90
        clear c90
        by_cases c91 : x1001_1 ≤ (t284.size : Int)
        ·rw [if_pos c91] at H
         have c91b0 := eq_true c91
         have c91b1 : decide (x1001_1 ≤ (t284.size : Int)) = true := decide_eq_true c91
         clear c91
         replace H := Option.bind_eq_some_iff.mp H
         obtain ⟨t317, A920, H⟩ := H
         try dsimp only at H
         have A92 := Aside0.mk A920
         clear A920
         by_cases c93 : t317 = true
         ·subst c93
          rw [if_pos rfl] at H
          try dsimp only at H
          have c94b0 := eq_true (of_decide_eq_true (by first | (with_reducible assumption) | assumption) : 0 ≤ t285)
          have c95b0 := eq_true (of_decide_eq_true (by first | (with_reducible assumption) | assumption) : t285 ≤ x1001_1)
          have c96b0 := eq_true (of_decide_eq_true (by first | (with_reducible assumption) | assumption) : x1001_1 ≤ (t284.size : Int))
          simp only [Option.some.injEq, Prod.mk.injEq] at H
          obtain ⟨rfl, rfl, rfl, rfl, rfl, rfl, rfl⟩ := H
          try go_wp2
          have hS_ : wr.cell? ⟨g, 0, none⟩ = some (.string t284) ∧ wr.cell? ⟨g, 1, none⟩ = some (.int .i64 x1001_1) ∧ wr.cell? ⟨g, 2, none⟩ = some (.int .i64 t286) ∧ wr.cell? ⟨g, 3, none⟩ = some (.bool t287) := ⟨cellS142_0 HI0.out.1, cellS142_1 HI0.out.1, cellS142_2 HI0.out.1, cellS142_3 HI0.out.1⟩
          obtain ⟨hS0_, hS1_, hS2_, hS3_⟩ := hS_
          go_quiet (fail)
          clear hS0_ hS1_ hS2_ hS3_
          generalize hq_ : World.drewN wr _ = w97
          have n_ := c4_ (blk_at hq_ BK282.out) (IsS142.at_ hq_ HI0.out) (keep_at hq_ HK.out) (below_at hq_ HB.out)
          clear BK282 HI0 HK HB hq_
          obtain ⟨BK282, HI0, HK, HB⟩ := n_
          try go_wp2
          have hS_ : w97.cell? ⟨g, 0, none⟩ = some (.string t284) ∧ w97.cell? ⟨g, 1, none⟩ = some (.int .i64 x1001_1) ∧ w97.cell? ⟨g, 2, none⟩ = some (.int .i64 t286) ∧ w97.cell? ⟨g, 3, none⟩ = some (.bool t287) := ⟨cellS142_0 HI0.out.1, cellS142_1 HI0.out.1, cellS142_2 HI0.out.1, cellS142_3 HI0.out.1⟩
          obtain ⟨hS0_, hS1_, hS2_, hS3_⟩ := hS_
          go_quiet (first | (go_at_call 84; (with_reducible refine (impl_isName.calls k1 (t284.extract (t285 : Int).toNat (x1001_1 : Int).toNat) true _ A92.out).mono ?_); rintro e w' ⟨rfl, ⟨nd, rfl⟩⟩; (try first | exact ⟨rfl, _, World.drewN_drewN _ _ _⟩ | exact ⟨rfl, _, Eq.trans (World.drewN_drewN _ _ _) (congrArg (World.drewN _) (Nat.add_assoc _ _ _))⟩)))
          clear hS0_ hS1_ hS2_ hS3_
          generalize hq_ : World.drewN w97 _ = w98
          have n_ := c4_ (blk_at hq_ BK282.out) (IsS142.at_ hq_ HI0.out) (keep_at hq_ HK.out) (below_at hq_ HB.out)
          clear BK282 HI0 HK HB hq_
          obtain ⟨BK282, HI0, HK, HB⟩ := n_
          try go_wp2
          (try (rw [drewN_self w98]; generalize hq_ : World.drewN w98 _ = w98; have n_ := c4_ (show w98.heap[gb282]? = some (.cells #[.int .u8 0, .string (⟨#[]⟩ : ByteArray), .slice none 0 0] 133 (0, 0)) from a17_) (show IsS142 w0 w98 g t284 x1001_1 t286 t287 from a18_) (show KeepBut w w98 g none from a19_) (show Below w0.heap.size w0 w98 from a20_); clear BK282 HI0 HK HB hq_; obtain ⟨BK282, HI0, HK, HB⟩ := n_))
          have n_ := c4_ (blk_drew BK282.out) (IsS142.drew HI0.out) (keep_drew HK.out) (below_drew1 HB.out)
          clear BK282 HI0 HK HB
          obtain ⟨BK282, HI0, HK, HB⟩ := n_
          refine start_ (n := 12) (S := fun w' => w'.cell? ⟨g, 0, none⟩ = some (.string t284) ∧ w'.cell? ⟨g, 1, none⟩ = some (.int .i64 x1001_1) ∧ w'.cell? ⟨g, 2, none⟩ = some (.int .i64 t286) ∧ w'.cell? ⟨g, 3, none⟩ = some (.bool t287)) (ds := []) (bs_ 12 0) (by kernel_rfl) (by kernel_rfl) (by kernel_rfl) ⟨cellS142_0 HI0.out.1, cellS142_1 HI0.out.1, cellS142_2 HI0.out.1, cellS142_3 HI0.out.1⟩ (fun hHeld => ?_); refine with_tabW impl_testReader_not.tab23 impl_testReader_not.bits23 (fun HT_ HW_ => ?_)
          generalize w98.drew = w99 at BK282 HI0 HK HB hHeld ⊢
          refine pu_ (i := 0) (N := some 120) 1 rfl rfl HT_ (Or.inl ⟨by rfl, by intro w'; go_simp; with_reducible rfl⟩) (by simp only [pt_]; rfl) ?_
          refine pu_ (i := 1) (N := some 121) 3 rfl rfl HT_ (Or.inl ⟨by rfl, by intro w'; go_simp; with_reducible rfl⟩) (by simp only [pt_]; rfl) ?_
          refine pu_ (i := 2) (N := some 122) 7 rfl rfl HT_ (Or.inl ⟨by rfl, by intro w'; go_simp; with_reducible rfl⟩) (by simp only [pt_]; rfl) ?_
          refine pu_ (i := 4) (N := some 124) 23 rfl rfl HT_ (Or.inl ⟨by rfl, by intro w'; go_simp; with_reducible rfl⟩) (by simp only [pt_]; rfl) ?_
          refine pu_ (i := 5) (N := some 125) 55 rfl rfl HT_ (Or.inl ⟨by rfl, by intro w'; go_simp; with_reducible rfl⟩) (by simp only [pt_]; rfl) ?_
          refine pu_ (i := 6) (N := some 126) 119 rfl rfl HT_ (Or.inl ⟨by rfl, by intro w'; go_simp; with_reducible rfl⟩) (by simp only [pt_]; rfl) ?_
          refine pu_ (i := 7) (N := some 127) 247 rfl rfl HT_ (Or.inl ⟨by rfl, by intro w'; go_simp; with_reducible rfl⟩) (by simp only [pt_]; rfl) ?_
          refine tk_ (i := 3) (N := some 123) 255 rfl rfl HT_ HW_ (Or.inl ⟨by rfl, by rintro w' ⟨s0, s1, s2, s3⟩; go_simp; with_reducible rfl⟩) hHeld (by simp only [pt_]; rfl) ?_
          refine tk_ (i := 8) (N := some 128) 511 rfl rfl HT_ HW_ (Or.inl ⟨by rfl, by rintro w' ⟨s0, s1, s2, s3⟩; go_simp; with_reducible rfl⟩) hHeld (by simp only [pt_]; rfl) ?_
          refine pu_ (i := 9) (N := some 129) 1023 rfl rfl HT_ (Or.inl ⟨by rfl, by intro w'; go_simp; with_reducible rfl⟩) (by simp only [pt_]; rfl) ?_
          refine pu_ (i := 10) (N := some 130) 2047 rfl rfl HT_ (Or.inl ⟨by rfl, by intro w'; go_simp; with_reducible rfl⟩) (by simp only [pt_]; rfl) ?_
          refine one_ (i := 11) (N := none) (bs_ 12 4095) rfl rfl (one_of HT_.out (by kernel_rfl)) (by decide) (fun K hK => ?_)
          have hs100 : w99.cell? ⟨gb282, 0, none⟩ = some (.int .u8 0) := (blk_cell BK282.out 0).trans rfl
          have hfs100 := blk_frozen BK282.out 0
          have hs101 : w99.cell? ⟨gb282, 1, none⟩ = some (.string (⟨#[]⟩ : ByteArray)) := (blk_cell BK282.out 1).trans rfl
          have hfs101 := blk_frozen BK282.out 1
          have hs102 : w99.cell? ⟨gb282, 2, none⟩ = some (.slice none 0 0) := (blk_cell BK282.out 2).trans rfl
          have hfs102 := blk_frozen BK282.out 2
          refine skip_ (w1 := ?_) (by rfl) rfl ?_ ?_
          rotate_left
          ·go_simp
           rfl
          refine hK.out _ _ ⟨((cell_far (p := ⟨gb282, _, none⟩) NB0_282.out _).trans (((cell_far (p := ⟨gb282, _, none⟩) NB0_282.out _).trans (((cell_far (p := ⟨gb282, _, none⟩) NB0_282.out _).trans (hHeld.1)))))), ((cell_far (p := ⟨gb282, _, none⟩) NB0_282.out _).trans (((cell_far (p := ⟨gb282, _, none⟩) NB0_282.out _).trans (((cell_far (p := ⟨gb282, _, none⟩) NB0_282.out _).trans (hHeld.2.1)))))), ((cell_far (p := ⟨gb282, _, none⟩) NB0_282.out _).trans (((cell_far (p := ⟨gb282, _, none⟩) NB0_282.out _).trans (((cell_far (p := ⟨gb282, _, none⟩) NB0_282.out _).trans (hHeld.2.2.1)))))), ((cell_far (p := ⟨gb282, _, none⟩) NB0_282.out _).trans (((cell_far (p := ⟨gb282, _, none⟩) NB0_282.out _).trans (((cell_far (p := ⟨gb282, _, none⟩) NB0_282.out _).trans (hHeld.2.2.2))))))⟩ (fun hHeld => ?_)
          clear hK K
          refine done_ (done_of HT_.out (by kernel_rfl)) ?_
          try go_wp2
          refine bodyPost_ret (results_cell_row rfl _ _ gb282 133 #[.int .u8 0, .string (t284.extract (t285 : Int).toNat (x1001_1 : Int).toNat), .slice none 0 0] (0, 0) _ rfl (a21_) Try.underlying133 rfl (by kernel_rfl)) rfl ?_
          exact ⟨_, a10_, by first | exact Kd.V_nil _ _ _ _ _, a5_, a6_, a8_⟩
         ·replace c93 := Bool.eq_false_iff.mpr c93
          subst c93
          rw [if_neg (show ¬ (false = true) by decide)] at H
          try dsimp only at H
          have c103b0 := eq_true (of_decide_eq_true (by first | (with_reducible assumption) | assumption) : 0 ≤ t285)
          have c104b0 := eq_true (of_decide_eq_true (by first | (with_reducible assumption) | assumption) : t285 ≤ x1001_1)
          have c105b0 := eq_true (of_decide_eq_true (by first | (with_reducible assumption) | assumption) : x1001_1 ≤ (t284.size : Int))
          simp only [Option.some.injEq, Prod.mk.injEq] at H
          obtain ⟨rfl, rfl, rfl, rfl, rfl, rfl, rfl⟩ := H
          try go_wp2
          have hS_ : wr.cell? ⟨g, 0, none⟩ = some (.string t284) ∧ wr.cell? ⟨g, 1, none⟩ = some (.int .i64 x1001_1) ∧ wr.cell? ⟨g, 2, none⟩ = some (.int .i64 t286) ∧ wr.cell? ⟨g, 3, none⟩ = some (.bool t287) := ⟨cellS142_0 HI0.out.1, cellS142_1 HI0.out.1, cellS142_2 HI0.out.1, cellS142_3 HI0.out.1⟩
          obtain ⟨hS0_, hS1_, hS2_, hS3_⟩ := hS_
          go_quiet (fail)
          clear hS0_ hS1_ hS2_ hS3_
          generalize hq_ : World.drewN wr _ = w106
          have n_ := c4_ (blk_at hq_ BK282.out) (IsS142.at_ hq_ HI0.out) (keep_at hq_ HK.out) (below_at hq_ HB.out)
          clear BK282 HI0 HK HB hq_
          obtain ⟨BK282, HI0, HK, HB⟩ := n_
          try go_wp2
          have hS_ : w106.cell? ⟨g, 0, none⟩ = some (.string t284) ∧ w106.cell? ⟨g, 1, none⟩ = some (.int .i64 x1001_1) ∧ w106.cell? ⟨g, 2, none⟩ = some (.int .i64 t286) ∧ w106.cell? ⟨g, 3, none⟩ = some (.bool t287) := ⟨cellS142_0 HI0.out.1, cellS142_1 HI0.out.1, cellS142_2 HI0.out.1, cellS142_3 HI0.out.1⟩
          obtain ⟨hS0_, hS1_, hS2_, hS3_⟩ := hS_
          go_quiet (first | (go_at_call 84; (with_reducible refine (impl_isName.calls k1 (t284.extract (t285 : Int).toNat (x1001_1 : Int).toNat) false _ A92.out).mono ?_); rintro e w' ⟨rfl, ⟨nd, rfl⟩⟩; (try first | exact ⟨rfl, _, World.drewN_drewN _ _ _⟩ | exact ⟨rfl, _, Eq.trans (World.drewN_drewN _ _ _) (congrArg (World.drewN _) (Nat.add_assoc _ _ _))⟩)))
          clear hS0_ hS1_ hS2_ hS3_
          generalize hq_ : World.drewN w106 _ = w107
          have n_ := c4_ (blk_at hq_ BK282.out) (IsS142.at_ hq_ HI0.out) (keep_at hq_ HK.out) (below_at hq_ HB.out)
          clear BK282 HI0 HK HB hq_
          obtain ⟨BK282, HI0, HK, HB⟩ := n_
          obtain ⟨HGz108, hgz108⟩ := HI0.out
          have hcz108_0 := cellS142_0 HGz108
          have hcz108_1 := cellS142_1 HGz108
          have hcz108_2 := cellS142_2 HGz108
          have hcz108_3 := cellS142_3 HGz108
          have hfz108_0 := blk_frozen HGz108 0
          have hfz108_1 := blk_frozen HGz108 1
          have hfz108_2 := blk_frozen HGz108 2
          have hfz108_3 := blk_frozen HGz108 3
          clear HGz108 hgz108
          try go_wp2
          have n_ := c4_ (show (w107.setCell ⟨g, 3, none⟩ (.bool true)).heap[gb282]? = some (.cells #[.int .u8 0, .string (⟨#[]⟩ : ByteArray), .slice none 0 0] 133 (0, 0)) from a9_) (show IsS142 w0 (w107.setCell ⟨g, 3, none⟩ (.bool true)) g t284 x1001_1 t286 true from a5_) (show KeepBut w (w107.setCell ⟨g, 3, none⟩ (.bool true)) g none from a8_) (show Below w0.heap.size w0 (w107.setCell ⟨g, 3, none⟩ (.bool true)) from a6_)
          (try clear BK282)
          (try clear HI0)
          (try clear HK)
          (try clear HB)
          generalize (w107.setCell ⟨g, 3, none⟩ (.bool true)) = w109 at n_ ⊢
          obtain ⟨BK282, HI0, HK, HB⟩ := n_
          (try (rw [drewN_self w109]; generalize hq_ : World.drewN w109 _ = w109; have n_ := c4_ (show w109.heap[gb282]? = some (.cells #[.int .u8 0, .string (⟨#[]⟩ : ByteArray), .slice none 0 0] 133 (0, 0)) from a17_) (show IsS142 w0 w109 g t284 x1001_1 t286 true from a18_) (show KeepBut w w109 g none from a19_) (show Below w0.heap.size w0 w109 from a20_); clear BK282 HI0 HK HB hq_; obtain ⟨BK282, HI0, HK, HB⟩ := n_))
          have n_ := c4_ (blk_drew BK282.out) (IsS142.drew HI0.out) (keep_drew HK.out) (below_drew1 HB.out)
          clear BK282 HI0 HK HB
          obtain ⟨BK282, HI0, HK, HB⟩ := n_
          refine start_ (n := 12) (S := fun w' => w'.cell? ⟨g, 0, none⟩ = some (.string t284) ∧ w'.cell? ⟨g, 1, none⟩ = some (.int .i64 x1001_1) ∧ w'.cell? ⟨g, 2, none⟩ = some (.int .i64 t286) ∧ w'.cell? ⟨g, 3, none⟩ = some (.bool true)) (ds := []) (bs_ 12 0) (by kernel_rfl) (by kernel_rfl) (by kernel_rfl) ⟨cellS142_0 HI0.out.1, cellS142_1 HI0.out.1, cellS142_2 HI0.out.1, cellS142_3 HI0.out.1⟩ (fun hHeld => ?_); refine with_tabW impl_testReader_not.tab23 impl_testReader_not.bits23 (fun HT_ HW_ => ?_)
          generalize w109.drew = w110 at BK282 HI0 HK HB hHeld ⊢
          refine pu_ (i := 0) (N := some 120) 1 rfl rfl HT_ (Or.inl ⟨by rfl, by intro w'; go_simp; with_reducible rfl⟩) (by simp only [pt_]; rfl) ?_
          refine pu_ (i := 1) (N := some 121) 3 rfl rfl HT_ (Or.inl ⟨by rfl, by intro w'; go_simp; with_reducible rfl⟩) (by simp only [pt_]; rfl) ?_
          refine pu_ (i := 2) (N := some 122) 7 rfl rfl HT_ (Or.inl ⟨by rfl, by intro w'; go_simp; with_reducible rfl⟩) (by simp only [pt_]; rfl) ?_
          refine pu_ (i := 4) (N := some 124) 23 rfl rfl HT_ (Or.inl ⟨by rfl, by intro w'; go_simp; with_reducible rfl⟩) (by simp only [pt_]; rfl) ?_
          refine pu_ (i := 5) (N := some 125) 55 rfl rfl HT_ (Or.inl ⟨by rfl, by intro w'; go_simp; with_reducible rfl⟩) (by simp only [pt_]; rfl) ?_
          refine pu_ (i := 6) (N := some 126) 119 rfl rfl HT_ (Or.inl ⟨by rfl, by intro w'; go_simp; with_reducible rfl⟩) (by simp only [pt_]; rfl) ?_
          refine pu_ (i := 7) (N := some 127) 247 rfl rfl HT_ (Or.inl ⟨by rfl, by intro w'; go_simp; with_reducible rfl⟩) (by simp only [pt_]; rfl) ?_
          refine tk_ (i := 3) (N := some 123) 255 rfl rfl HT_ HW_ (Or.inl ⟨by rfl, by rintro w' ⟨s0, s1, s2, s3⟩; go_simp; with_reducible rfl⟩) hHeld (by simp only [pt_]; rfl) ?_
          refine tk_ (i := 8) (N := some 128) 511 rfl rfl HT_ HW_ (Or.inl ⟨by rfl, by rintro w' ⟨s0, s1, s2, s3⟩; go_simp; with_reducible rfl⟩) hHeld (by simp only [pt_]; rfl) ?_
          refine pu_ (i := 9) (N := some 129) 1023 rfl rfl HT_ (Or.inl ⟨by rfl, by intro w'; go_simp; with_reducible rfl⟩) (by simp only [pt_]; rfl) ?_
          refine pu_ (i := 10) (N := some 130) 2047 rfl rfl HT_ (Or.inl ⟨by rfl, by intro w'; go_simp; with_reducible rfl⟩) (by simp only [pt_]; rfl) ?_
          refine one_ (i := 11) (N := none) (bs_ 12 4095) rfl rfl (one_of HT_.out (by kernel_rfl)) (by decide) (fun K hK => ?_)
          have hs111 : w110.cell? ⟨gb282, 0, none⟩ = some (.int .u8 0) := (blk_cell BK282.out 0).trans rfl
          have hfs111 := blk_frozen BK282.out 0
          have hs112 : w110.cell? ⟨gb282, 1, none⟩ = some (.string (⟨#[]⟩ : ByteArray)) := (blk_cell BK282.out 1).trans rfl
          have hfs112 := blk_frozen BK282.out 1
          have hs113 : w110.cell? ⟨gb282, 2, none⟩ = some (.slice none 0 0) := (blk_cell BK282.out 2).trans rfl
          have hfs113 := blk_frozen BK282.out 2
          refine skip_ (w1 := ?_) (by rfl) rfl ?_ ?_
          rotate_left
          ·go_simp
           rfl
          refine hK.out _ _ ⟨((cell_far (p := ⟨gb282, _, none⟩) NB0_282.out _).trans (((cell_far (p := ⟨gb282, _, none⟩) NB0_282.out _).trans (((cell_far (p := ⟨gb282, _, none⟩) NB0_282.out _).trans (hHeld.1)))))), ((cell_far (p := ⟨gb282, _, none⟩) NB0_282.out _).trans (((cell_far (p := ⟨gb282, _, none⟩) NB0_282.out _).trans (((cell_far (p := ⟨gb282, _, none⟩) NB0_282.out _).trans (hHeld.2.1)))))), ((cell_far (p := ⟨gb282, _, none⟩) NB0_282.out _).trans (((cell_far (p := ⟨gb282, _, none⟩) NB0_282.out _).trans (((cell_far (p := ⟨gb282, _, none⟩) NB0_282.out _).trans (hHeld.2.2.1)))))), ((cell_far (p := ⟨gb282, _, none⟩) NB0_282.out _).trans (((cell_far (p := ⟨gb282, _, none⟩) NB0_282.out _).trans (((cell_far (p := ⟨gb282, _, none⟩) NB0_282.out _).trans (hHeld.2.2.2))))))⟩ (fun hHeld => ?_)
          clear hK K
          refine done_ (done_of HT_.out (by kernel_rfl)) ?_
          try go_wp2
          refine bodyPost_ret (results_cell_row rfl _ _ gb282 133 #[.int .u8 0, .string (t284.extract (t285 : Int).toNat (x1001_1 : Int).toNat), .slice none 0 0] (0, 0) _ rfl (a21_) Try.underlying133 rfl (by kernel_rfl)) rfl ?_
          exact ⟨_, a10_, by first | exact Kd.V_nil _ _ _ _ _, a5_, a6_, a8_⟩
        ·rw [if_neg c91] at H
         exact absurd H (by simp)
       ·rw [if_neg c90] at H
        exact absurd H (by simp)
      ·rw [if_neg c89] at H
       exact absurd H (by simp)
end

end Go.Proofs.Ytmecapnpgedcnaa.PFnExactShowSteps
