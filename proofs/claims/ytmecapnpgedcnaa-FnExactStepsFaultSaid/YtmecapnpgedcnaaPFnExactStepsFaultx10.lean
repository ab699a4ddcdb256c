/- Walks of Go functions, written by program out of the print of the translation, with contracts of our own where the print has none. -/
import Derived.Test.YtmecapnpgedcnaaPFnExactStepsFaultx8
import Derived.Test.YtmecapnpgedcnaaPFnExactStepsFaultx0
import Derived.Test.YtmecapnpgedcnaaPFnExactStepsFaultx7
import Derived.Test.YtmecapnpgedcnaaPFnExactStepsFaultx9
namespace Go.Proofs.Ytmecapnpgedcnaa.PFnExactStepsFault
open Go.RowKit Go.Proofs.YtmecapnpgedcnaaW.PrintWords Go.Proofs.YtmecapnpgedcnaaW.PrintLast Go.Proofs.YtmecapnpgedcnaaW.PrintMore
attribute [local go_sem] max2_int min2_int max_two min_two max_three min_three max_four min_four   -- for this text's walks alone
set_option linter.unusedVariables false
set_option linter.unusedSimpArgs false

/-! ### impl_testReader_row: function 101 -/
class impl_testReader_row.NX where
 F : FuncId
 h : ∃ fn : Func, Try.prog.funcs[F]? = some fn ∧ (fn.name == "runtime.NumGoroutine") = false ∧ fn.body.isSome = true
 f : Nat → ByteArray → Int → Int → Bool → Option (Int × ByteArray × (List (S133)) × ByteArray × Int × Int × Bool)
 calls : ∀ (k : Nat) (g : Nat) (s0_0 : ByteArray) (s0_1 : Int) (s0_2 : Int) (s0_3 : Bool) (r1 : Int) (r2 : ByteArray) (r3 : List (S133)) (r4 : ByteArray) (r5 : Int) (r6 : Int) (r7 : Bool) (w0 w : World) (hI : IsS142 w0 w g s0_0 s0_1 s0_2 s0_3) (hB : Below w0.heap.size w0 w) (h : f k s0_0 s0_1 s0_2 s0_3 = some (r1, r2, r3, r4, r5, r6, r7)), Calls Try.prog F #[.pointer (some ⟨g, 0, none⟩)] w fun e w' => ∃ v2_ : Value, e = .returned (.agg #[.int .u8 r1, .string r2, v2_]) ∧ Kd.V k133 133 w' w.heap.size (fun k_ => (w.heap.size ≤ k_)) v2_ r3 ∧ IsS142 w0 w' g r4 r5 r6 r7 ∧ Below w0.heap.size w0 w' ∧ KeepBut w w' g none
def impl_testReader_row.T4 : Bool × List (List Nat × List Nat) := (true, [([], []), ([0], [0]), ([], []), ([2], [2]), ([3], [3]), ([1, 4, 3], [1, 4]), ([0, 1, 2, 3, 4, 5], []), ([6, 5, 5, 0, 1, 2, 3, 4, 5], [5, 6])])
def impl_testReader_row.B4 : List Nat := [0, 1, 0, 4, 12, 31, 63, 127]
theorem impl_testReader_row.tab4 : rtab .any (opsOf Try.f101 4) = impl_testReader_row.T4 := by kernel_rfl
theorem impl_testReader_row.bits4 : waitsOk impl_testReader_row.T4.2 impl_testReader_row.B4 = true := by kernel_rfl
theorem impl_testReader_row.a1_ {p : Prop} (h : p := by repeat (first | (with_reducible first | exact HI0.out | apply IsS142.alloc | apply IsS142.drewN | apply IsS142.drew | apply IsS142.set_0 | apply IsS142.set_1 | apply IsS142.set_2 | apply IsS142.set_3) | exact HI0.out)) : p := h
theorem impl_testReader_row.a2_ {p : Prop} (h : p := by repeat (first | (with_reducible first | exact HK.out | apply KeepBut.set_ | apply keep_drewN | apply keep_drew | apply keep_alloc) | exact HK.out)) : p := h
theorem impl_testReader_row.a3_ {p : Prop} (h : p := by repeat (first | (with_reducible first | exact HI0.out | apply IsS142.alloc | apply IsS142.drewN | apply IsS142.drew | apply IsS142.set_0 | apply IsS142.set_1 | apply IsS142.set_2 | apply IsS142.set_3 | apply IsS142.far (p := ⟨gb293, _, none⟩) (hne := NB0_293.out)) | exact HI0.out)) : p := h
theorem impl_testReader_row.a4_ {p : Prop} (h : p := by repeat (first | (with_reducible first | exact HB.out | apply below_alloc | apply pw_below_drewN | apply below_drew1 | refine below_set ?_ (IsS142.ge HI0.out) | refine below_set ?_ GE293.out) | exact HB.out)) : p := h
theorem impl_testReader_row.a5_ {p : Prop} (h : p := by (with_reducible repeat (first | refine blk_drewN ?_ _ | refine blk_drew ?_ | refine blk_alloc ?_ _)); exact BK293.out) : p := h
theorem impl_testReader_row.a6_ {p : Prop} (h : p := by repeat (first | (with_reducible first | exact HK.out | apply KeepBut.set_ | apply keep_drewN | apply keep_drew | apply keep_alloc | refine keep_far ?_ GW293.out _) | exact HK.out)) : p := h
theorem impl_testReader_row.a7_ {p : Prop} (h : p := by repeat (first | (with_reducible first | exact HI0.out | apply IsS142.alloc | apply IsS142.drewN | apply IsS142.drew | apply IsS142.set_0 | apply IsS142.set_1 | apply IsS142.set_2 | apply IsS142.set_3 | apply IsS142.far (p := ⟨gb293, _, none⟩) (hne := NB0_293.out) | apply IsS142.far (p := ⟨gb306, _, none⟩) (hne := NB0_306.out)) | exact HI0.out)) : p := h
theorem impl_testReader_row.a8_ {p : Prop} (h : p := by repeat (first | (with_reducible first | exact HK.out | apply KeepBut.set_ | apply keep_drewN | apply keep_drew | apply keep_alloc | refine keep_far ?_ GW293.out _ | refine keep_far ?_ GW306.out _) | exact HK.out)) : p := h
theorem impl_testReader_row.a9_ {p : Prop} (h : p := by repeat (first | (with_reducible first | exact HB.out | apply below_alloc | apply pw_below_drewN | apply below_drew1 | refine below_set ?_ (IsS142.ge HI0.out) | refine below_set ?_ GE293.out | refine below_set ?_ GE306.out) | exact HB.out)) : p := h
theorem impl_testReader_row.a10_ {p : Prop} (h : p := by (with_reducible repeat (first | refine blk_drewN ?_ _ | refine blk_drew ?_ | refine blk_alloc ?_ _)); refine blk_put (cs := #[.int .u8 ((rd_T133 x307002_1 0).f0), .string ((rd_T133 x307002_1 0).f1), .slice none 0 0]) ?_ 2 _ rfl; (with_reducible repeat (first | refine blk_drewN ?_ _ | refine blk_drew ?_ | refine blk_alloc ?_ _)); refine blk_put (cs := #[.int .u8 ((rd_T133 x307002_1 0).f0), .string (⟨#[]⟩ : ByteArray), .slice none 0 0]) ?_ 1 _ rfl; (with_reducible repeat (first | refine blk_drewN ?_ _ | refine blk_drew ?_ | refine blk_alloc ?_ _)); refine blk_put (cs := #[.int .u8 0, .string (⟨#[]⟩ : ByteArray), .slice none 0 0]) ?_ 0 _ rfl; (with_reducible repeat (first | refine blk_drewN ?_ _ | refine blk_drew ?_ | refine blk_alloc ?_ _)); exact BK293.out) : p := h
theorem impl_testReader_row.a11_ {p : Prop} (h : p := by first | rfl | (simp [errW_none, errW_some] <;> rfl) | (simp [*, errW_none, errW_some] <;> rfl)) : p := h
theorem impl_testReader_row.a12_ {p : Prop} (h : p := by (with_reducible repeat (first | refine blk_drewN ?_ _ | refine blk_drew ?_ | refine blk_alloc ?_ _)); refine blk_put (cs := #[.int .u8 a1, .string (⟨#[]⟩ : ByteArray), .slice none 0 0]) ?_ 2 _ rfl; (with_reducible repeat (first | refine blk_drewN ?_ _ | refine blk_drew ?_ | refine blk_alloc ?_ _)); refine blk_put (cs := #[.int .u8 a1, .string (⟨#[]⟩ : ByteArray), .slice none 0 0]) ?_ 1 _ rfl; (with_reducible repeat (first | refine blk_drewN ?_ _ | refine blk_drew ?_ | refine blk_alloc ?_ _)); refine blk_put (cs := #[.int .u8 0, .string (⟨#[]⟩ : ByteArray), .slice none 0 0]) ?_ 0 _ rfl; (with_reducible repeat (first | refine blk_drewN ?_ _ | refine blk_drew ?_ | refine blk_alloc ?_ _)); exact BK293.out) : p := h
theorem impl_testReader_row.a13_ {p : Prop} (h : p := by (with_reducible repeat (first | apply Kd.N_alloc | apply Kd.N_drewN | apply Kd.N_drew)); exact HO_307002.out) : p := h
theorem impl_testReader_row.a14_ {p : Prop} (h : p := by (with_reducible repeat (first | refine blk_drewN ?_ _ | refine blk_drew ?_ | refine blk_alloc ?_ _)); exact BK306.out) : p := h
section
variable [impl_testReader_row.NX]
def impl_testReader_row.l0 : Nat → Int → ByteArray → Int → Int → Bool → Int → ByteArray → List (S133) → Option (Int × ByteArray × (List (S133)) × ByteArray × Int × Int × Bool)
 | 0, _, _, _, _, _, _, _, _ => none
 | k + 1, x1, x1000, x1001, x1002, x1003, x307000, x307001, x307002 => if x1003 = true then (if (x307002.length : Int) = 1 then (if 0 < (x307002.length : Int) then (some ((rd_T133 x307002 0).f0, (rd_T133 x307002 0).f1, (rd_T133 x307002 0).f2, x1000, x1001, x1002, x1003)) else (none)) else (some (x307000, x307001, x307002, x1000, x1001, x1002, x1003))) else ((impl_testReader_peek.f x1000 x1001 x1002 x1003).bind fun bt308 => (if bt308.1 = x1 then ((impl_testReader_row.NX.f k bt308.2.1 (wrap64 (bt308.2.2.1 + 1)) bt308.2.2.2.1 bt308.2.2.2.2).bind fun bt313 => (if x307002.length < 2932031007402 then (impl_testReader_row.l0 k x1 bt313.2.2.2.1 bt313.2.2.2.2.1 bt313.2.2.2.2.2.1 bt313.2.2.2.2.2.2 x307000 x307001 (x307002 ++ [(⟨bt313.1, bt313.2.1, bt313.2.2.1⟩ : S133)])) else (none))) else (if (x307002.length : Int) = 1 then (if 0 < (x307002.length : Int) then (some ((rd_T133 x307002 0).f0, (rd_T133 x307002 0).f1, (rd_T133 x307002 0).f2, bt308.2.1, bt308.2.2.1, bt308.2.2.2.1, bt308.2.2.2.2)) else (none)) else (some (x307000, x307001, x307002, bt308.2.1, bt308.2.2.1, bt308.2.2.2.1, bt308.2.2.2.2)))))
def impl_testReader_row.f (k : Nat) (s0_0 : ByteArray) (s0_1 : Int) (s0_2 : Int) (s0_3 : Bool) (a1 : Int) : Option (Int × ByteArray × (List (S133)) × ByteArray × Int × Int × Bool) := (impl_testReader_row.NX.f k s0_0 s0_1 s0_2 s0_3).bind fun bt294 => (impl_testReader_row.l0 k a1 bt294.2.2.2.1 bt294.2.2.2.2.1 bt294.2.2.2.2.2.1 bt294.2.2.2.2.2.2 a1 (⟨#[]⟩ : ByteArray) (([(⟨bt294.1, bt294.2.1, bt294.2.2.1⟩ : S133)] : List (S133))))
set_option maxHeartbeats 8000000 in
set_option maxRecDepth 100000 in
theorem impl_testReader_row.calls (k : Nat) (g : Nat) (s0_0 : ByteArray) (s0_1 : Int) (s0_2 : Int) (s0_3 : Bool) (a1 : Int) (r1 : Int) (r2 : ByteArray) (r3 : List (S133)) (r4 : ByteArray) (r5 : Int) (r6 : Int) (r7 : Bool) (w0 w : World) (hI : IsS142 w0 w g s0_0 s0_1 s0_2 s0_3) (hB : Below w0.heap.size w0 w) (h : impl_testReader_row.f k s0_0 s0_1 s0_2 s0_3 a1 = some (r1, r2, r3, r4, r5, r6, r7)) :
  Calls Try.prog 101 #[.pointer (some ⟨g, 0, none⟩), .int .u8 a1, .func (Fn.func impl_testReader_row.NX.F) #[.pointer (some ⟨g, 0, none⟩)] #[]] w fun e w' => ∃ v2_ : Value, e = .returned (.agg #[.int .u8 r1, .string r2, v2_]) ∧ Kd.V k133 133 w' w.heap.size (fun k_ => (w.heap.size ≤ k_)) v2_ r3 ∧ IsS142 w0 w' g r4 r5 r6 r7 ∧ Below w0.heap.size w0 w' ∧ KeepBut w w' g none := by
 have hu133 := Try.underlying133
 have HI0 := Aside0.mk hI
 have HK := Aside0.mk (KeepBut.refl w g none)
 have HL := Aside0.mk hB.size
 clear hI
 have HW0 := Aside0.mk hB.size
 have HB := Aside0.mk hB
 clear hB
 have H : ((impl_testReader_row.NX.f k s0_0 s0_1 s0_2 s0_3).bind fun bt294 => (impl_testReader_row.l0 k a1 bt294.2.2.2.1 bt294.2.2.2.2.1 bt294.2.2.2.2.2.1 bt294.2.2.2.2.2.2 a1 (⟨#[]⟩ : ByteArray) (([(⟨bt294.1, bt294.2.1, bt294.2.2.1⟩ : S133)] : List (S133))))) = some (r1, r2, r3, r4, r5, r6, r7) := h
 clear h
 replace H := Option.bind_eq_some_iff.mp H
 obtain ⟨⟨t294, t295, t296, t299, t300, t301, t302⟩, A30, H⟩ := H
 replace H : (impl_testReader_row.l0 k a1 t299 t300 t301 t302 a1 (⟨#[]⟩ : ByteArray) (([(⟨t294, t295, t296⟩ : S133)] : List (S133)))) = some (r1, r2, r3, r4, r5, r6, r7) := H
 have A3 := Aside0.mk A30
 clear A30
 obtain ⟨y303, hy303⟩ : ∃ y_ : List (S133), y_ = (([(⟨t294, t295, t296⟩ : S133)] : List (S133))) := ⟨_, rfl⟩
 replace H : (impl_testReader_row.l0 k a1 t299 t300 t301 t302 a1 (⟨#[]⟩ : ByteArray) y303) = some (r1, r2, r3, r4, r5, r6, r7) := by first | (rw [hy303]; with_reducible exact H) | (have H2_ := (Option.bind_some _ _).symm.trans H; rw [hy303]; with_reducible exact H2_) | (have H2_ := (Option.bind_some _ _).symm.trans H; with_reducible exact H2_) | with_reducible exact H | (rw [hy303]; exact H) | exact H
 have Ny303 := Aside0.mk hy303
 clear hy303
 have H' := Aside0.mk H
 clear H
 go_enter Try.func101, Try.ntmps101
 go_wp2_with (first | ((with_reducible refine gate_dst (N := 6) rfl ?_); refine box_event ?hg (N := 6) ?hd (cs := #[.int .u8 0, .string (⟨#[]⟩ : ByteArray), .slice none 0 0]) (t := 133) ?hr ?_; (case hd => rfl); (case hg => rfl); (case hr => first | (go_simp; done) | (go_simp; rfl)); intro gb293 hg w4 hbox hb; have n_ := c8_ (IsS142.below (a1_) hb) (KeepBut.trans (a2_) (KeepBut.of_below hb g none) (.inl rfl)) (below_step (by repeat (first | (with_reducible first | exact HB.out | apply below_alloc | apply pw_below_drewN | apply below_drew1 | refine below_set ?_ (IsS142.ge HI0.out)) | exact HB.out)) hb) (hbox) ((by rw [hg]; exact (keep_size (w := w) (g := g) (row := none) (a2_)) : w.heap.size ≤ gb293)) ((Nat.le_trans HW0.out (by rw [hg]; exact (keep_size (w := w) (g := g) (row := none) (a2_)) : w.heap.size ≤ gb293) : w0.heap.size ≤ gb293)) ((by rw [hg]; exact Nat.ne_of_lt (IsS142.lt (show IsS142 w0 _ g s0_0 s0_1 s0_2 s0_3 from a1_)) : g ≠ gb293)) ((by rw [hg]; exact Nat.ne_of_gt (IsS142.lt (show IsS142 w0 _ g s0_0 s0_1 s0_2 s0_3 from a1_)) : gb293 ≠ g)); clear HI0 HK HB; obtain ⟨HI0, HK, HB, BK293, GW293, GE293, NB0_293, NB293_0⟩ := n_; clear hb hbox hg) | ((with_reducible refine gate_dst (N := 10) rfl ?_); refine goesLbx_ (some 10) rfl rfl impl_testReader_row.NX.h #[.pointer (some ⟨g, 0, none⟩)] rfl (by first | rfl | (go_simp; done)) ?_; (with_reducible refine (impl_testReader_row.NX.calls k g s0_0 s0_1 s0_2 s0_3 t294 t295 t296 t299 t300 t301 t302 w0 _ ?side1 ?side2 A3.out).mono ?_); (case side1 => exact a3_); (case side2 => exact a4_); rintro e w5 ⟨v297, rfl, ho0, hi, hb, hk⟩; refine ⟨_, rfl, ?_⟩; have n_ := c5_ (KeepBut.blk hk (g' := gb293) (o := .cells #[.int .u8 0, .string (⟨#[]⟩ : ByteArray), .slice none 0 0] 133 (0, 0)) (a5_) NB293_0.out (by simp)) (Kd.V_lower (Kd.V_mono (ok' := fun k_ => (w.heap.size ≤ k_) ∧ k_ ≠ gb293 ∧ k_ ≠ g) ho0 (fun k_ hk_ => ⟨(Nat.le_trans (keep_size (w := w) (g := g) (row := none) (a6_)) hk_), (Kd.freshB (g := gb293) (o := .cells #[.int .u8 0, .string (⟨#[]⟩ : ByteArray), .slice none 0 0] 133 (0, 0)) (a5_) k_ hk_), (IsS142.fresh (a3_) k_ hk_)⟩)) (keep_size (w := w) (g := g) (row := none) (a6_))) (KeepBut.trans (a6_) hk (.inl rfl)) (hb) (hi); clear BK293 HK HB HI0; obtain ⟨BK293, HO298, HK, HB, HI0⟩ := n_; (try clear hb); (try clear hb2); (try clear hk); (try clear hi); (try clear ho0); obtain ⟨Ao6, co6, eo6⟩ := Kd.V_slice HO298.out; subst eo6) | ((with_reducible refine gate_dst (N := 11) rfl ?_); refine Kd.N_lit k133 _ 133 ?hg (N' := 11) ?hd (xs := ([(⟨t294, t295, t296⟩ : S133)] : List (S133))) (inner := [.int .u8 t294, .string t295, .slice Ao6 t296.length co6]) (ok := (fun k_ => (w.heap.size ≤ k_) ∧ k_ ≠ gb293 ∧ k_ ≠ g)) (okp := (fun k_ => (w.heap.size ≤ k_) ∧ k_ ≠ gb293 ∧ k_ ≠ g)) ?hr ?hp (fun _ hk => hk) ((show ∀ k_, w5.heap.size ≤ k_ → (fun k_ => (w.heap.size ≤ k_) ∧ k_ ≠ gb293 ∧ k_ ≠ g) k_ from fun k_ hk => ⟨(Nat.le_trans (keep_size (w := w) (g := g) (row := none) (a6_)) hk), Kd.freshB (g := gb293) (o := .cells #[.int .u8 0, .string (⟨#[]⟩ : ByteArray), .slice none 0 0] 133 (0, 0)) (a5_) k_ hk, IsS142.fresh (a3_) k_ hk⟩) _ (Nat.le_refl _)) (Below.refl _ _) (Nat.le_refl _) (by simp) ?_; (case hd => rfl); (case hg => rfl); (case hr => first | (go_simp; done) | (go_simp; rfl)); (case hp => exact (Reps.c3 (show Kd.FK k133 _ _ (⟨t294, t295, t296⟩ : S133) [.int .u8 t294, .string t295, .slice Ao6 t296.length co6] from (k133_mkF _ _ (⟨t294, t295, t296⟩ : S133) (Kd.V_reads' (Kd.V_mono (ok' := (fun k_ => (w.heap.size ≤ k_) ∧ k_ ≠ gb293 ∧ k_ ≠ g)) (HO298.out) (fun k_ hk => ⟨hk.1, ⟨hk.2.1, hk.2.2⟩⟩))).2.1 (Kd.V_F (Kd.V_mono (ok' := (fun k_ => (w.heap.size ≤ k_) ∧ k_ ≠ gb293 ∧ k_ ≠ g)) (HO298.out) (fun k_ hk => ⟨hk.1, ⟨hk.2.1, hk.2.2⟩⟩))))) (Reps.none _ _))); intro v304 w7 ho8 hb hg_ hnew_; clear hg_ hnew_; (first | rw [← Ny303.out] at ho8 | (simp only [Int.reduceToNat] at ho8; rw [← Ny303.out] at ho8)); have n_ := c6_ (Kd.V_elder' (by (with_reducible repeat (first | apply Kd.V_alloc | apply Kd.V_drewN | apply Kd.V_drew)); exact HO298.out) (Kd.N_base ho8) hb) (Kd.N_lower ho8 (keep_size (w := w) (g := g) (row := none) (a6_))) (IsS142.below (a3_) hb) (blk_below (g := gb293) (o := .cells #[.int .u8 0, .string (⟨#[]⟩ : ByteArray), .slice none 0 0] 133 (0, 0)) (a5_) hb) (KeepBut.trans (a6_) (KeepBut.of_below hb g none) (.inl rfl)) (below_step (a4_) hb); clear HO298 HI0 BK293 HK HB; obtain ⟨HO298, HO305, HI0, BK293, HK, HB⟩ := n_; clear hb ho8; obtain ⟨Ao9, co9, eo9⟩ := Kd.N_slice HO305.out; subst eo9) | ((with_reducible refine gate_dst (N := 7) rfl ?_); refine box_event ?hg (N := 7) ?hd (cs := #[.int .u8 0, .string (⟨#[]⟩ : ByteArray), .slice none 0 0]) (t := 133) ?hr ?_; (case hd => rfl); (case hg => rfl); (case hr => first | (go_simp; done) | (go_simp; rfl)); intro gb306 hg w10 hbox hb; have n_ := c13_ (Kd.V_below (Kd.V_elderB (by (with_reducible repeat (first | apply Kd.V_alloc | apply Kd.V_drewN | apply Kd.V_drew)); exact HO298.out) gb306 (Nat.le_of_eq hg.symm)) hb) (Kd.N_below (Kd.N_elderB (by (with_reducible repeat (first | apply Kd.N_alloc | apply Kd.N_drewN | apply Kd.N_drew)); exact HO305.out) gb306 (Nat.le_of_eq hg.symm)) hb) (IsS142.below (a3_) hb) (blk_below (g := gb293) (o := .cells #[.int .u8 0, .string (⟨#[]⟩ : ByteArray), .slice none 0 0] 133 (0, 0)) (a5_) hb) (KeepBut.trans (a6_) (KeepBut.of_below hb g none) (.inl rfl)) (below_step (a4_) hb) (hbox) ((by rw [hg]; exact (keep_size (w := w) (g := g) (row := none) (a6_)) : w.heap.size ≤ gb306)) ((Nat.le_trans HW0.out (by rw [hg]; exact (keep_size (w := w) (g := g) (row := none) (a6_)) : w.heap.size ≤ gb306) : w0.heap.size ≤ gb306)) ((by rw [hg]; exact Nat.ne_of_lt (blk_lt (g := gb293) (o := .cells #[.int .u8 0, .string (⟨#[]⟩ : ByteArray), .slice none 0 0] 133 (0, 0)) (a5_)) : gb293 ≠ gb306)) ((by rw [hg]; exact Nat.ne_of_gt (blk_lt (g := gb293) (o := .cells #[.int .u8 0, .string (⟨#[]⟩ : ByteArray), .slice none 0 0] 133 (0, 0)) (a5_)) : gb306 ≠ gb293)) ((by rw [hg]; exact Nat.ne_of_lt (IsS142.lt (show IsS142 w0 _ g t299 t300 t301 t302 from a3_)) : g ≠ gb306)) ((by rw [hg]; exact Nat.ne_of_gt (IsS142.lt (show IsS142 w0 _ g t299 t300 t301 t302 from a3_)) : gb306 ≠ g)); clear HO298 HO305 HI0 BK293 HK HB; obtain ⟨HO298, HO305, HI0, BK293, HK, HB, BK306, GW306, GE306, NB293_306, NB306_293, NB0_306, NB306_0⟩ := n_; clear hb hbox hg; have hnb11 := NB306_293.out; have hnc11 := NB293_306.out; have hnb12 := NB306_0.out; have hnc12 := NB0_306.out; have hcz13_0 : w10.cell? ⟨gb306, 0, none⟩ = some (.int .u8 0) := (blk_cell BK306.out 0).trans rfl; have hcz13_1 : w10.cell? ⟨gb306, 1, none⟩ = some (.string (⟨#[]⟩ : ByteArray)) := (blk_cell BK306.out 1).trans rfl; have hcz13_2 : w10.cell? ⟨gb306, 2, none⟩ = some (.slice none 0 0) := (blk_cell BK306.out 2).trans rfl; have hfz13_0 := blk_frozen BK306.out 0; have hfz13_1 := blk_frozen BK306.out 1; have hfz13_2 := blk_frozen BK306.out 2))
 go_loopg [] k (fun kq w' => ∃ (x1000_1 : ByteArray) (x1001_1 : Int) (x1002_1 : Int) (x1003_1 : Bool) (x307002_1 : List (S133)) (u307002 : Value), Aside0 (impl_testReader_row.l0 kq a1 x1000_1 x1001_1 x1002_1 x1003_1 a1 (⟨#[]⟩ : ByteArray) x307002_1 = some (r1, r2, r3, r4, r5, r6, r7)) ∧ Aside0 (kq ≤ k) ∧ Aside0 (Kd.N k133 133 w' w.heap.size (fun k_ => (w.heap.size ≤ k_) ∧ k_ ≠ gb293 ∧ k_ ≠ gb306 ∧ k_ ≠ g) u307002 x307002_1) ∧ Aside0 (w'.heap[gb293]? = some (.cells #[.int .u8 0, .string (⟨#[]⟩ : ByteArray), (.slice none 0 0)] 133 (0, 0))) ∧ Aside0 (w'.heap[gb306]? = some (.cells #[.int .u8 a1, .string (⟨#[]⟩ : ByteArray), u307002] 133 (0, 0))) ∧ Aside0 (IsS142 w0 w' g x1000_1 x1001_1 x1002_1 x1003_1) ∧ Aside0 (KeepBut w w' g none) ∧ Aside0 (Below w0.heap.size w0 w'))
 case atStart => exact ⟨(t299), (t300), (t301), (t302), (y303), (.slice Ao9 y303.length co9), H', ⟨Nat.le_refl _⟩, ⟨by (with_reducible repeat (first | apply Kd.N_alloc | apply Kd.N_drewN | apply Kd.N_drew)); exact Kd.N_mono (Kd.N_far (p := ⟨gb306, 2, none⟩) (Kd.N_far (p := ⟨gb306, 1, none⟩) (Kd.N_far (p := ⟨gb306, 0, none⟩) (Kd.N_mono HO305.out (fun k_ hk => (⟨hk, hk.2⟩ : _ ∧ k_ ≠ gb306))) (fun _ hk => hk.2) (.int .u8 a1)) (fun _ hk => hk.2) (.string (⟨#[]⟩ : ByteArray))) (fun _ hk => hk.2) (.slice Ao9 y303.length co9)) (fun _ hk => ⟨hk.1.1.1, ⟨hk.1.1.2.1, ⟨hk.1.2, hk.1.1.2.2⟩⟩⟩)⟩, ⟨by (with_reducible repeat (first | refine blk_drewN ?_ _ | refine blk_drew ?_ | refine blk_alloc ?_ _)); refine blk_far ?_ NB293_306.out _; (with_reducible repeat (first | refine blk_drewN ?_ _ | refine blk_drew ?_ | refine blk_alloc ?_ _)); refine blk_far ?_ NB293_306.out _; (with_reducible repeat (first | refine blk_drewN ?_ _ | refine blk_drew ?_ | refine blk_alloc ?_ _)); refine blk_far ?_ NB293_306.out _; (with_reducible repeat (first | refine blk_drewN ?_ _ | refine blk_drew ?_ | refine blk_alloc ?_ _)); exact BK293.out⟩, ⟨by (with_reducible repeat (first | refine blk_drewN ?_ _ | refine blk_drew ?_ | refine blk_alloc ?_ _)); refine blk_put (cs := #[.int .u8 a1, .string (⟨#[]⟩ : ByteArray), .slice none 0 0]) ?_ 2 _ rfl; (with_reducible repeat (first | refine blk_drewN ?_ _ | refine blk_drew ?_ | refine blk_alloc ?_ _)); refine blk_put (cs := #[.int .u8 a1, .string (⟨#[]⟩ : ByteArray), .slice none 0 0]) ?_ 1 _ rfl; (with_reducible repeat (first | refine blk_drewN ?_ _ | refine blk_drew ?_ | refine blk_alloc ?_ _)); refine blk_put (cs := #[.int .u8 0, .string (⟨#[]⟩ : ByteArray), .slice none 0 0]) ?_ 0 _ rfl; (with_reducible repeat (first | refine blk_drewN ?_ _ | refine blk_drew ?_ | refine blk_alloc ?_ _)); exact BK306.out⟩, ⟨a7_⟩, ⟨a8_⟩, ⟨a9_⟩⟩
 case round =>
  clear H'
  try clear c1
  try clear p2
  try clear c3
  try clear c10
  try clear c11
  try clear c12
  try clear hcz13_0
  try clear hcz13_1
  try clear hcz13_2
  try clear hfz13_0
  try clear hfz13_1
  try clear hfz13_2
  obtain ⟨x1000_1, x1001_1, x1002_1, x1003_1, x307002_1, u307002, HA, HK1, HO_307002, BK293, BK306, HI0, HK, HB⟩ := hrel
  cases gk with
  | zero => exact absurd HA.out (by simp [impl_testReader_row.l0])
  | succ k1 =>
   have H := HA.out
   clear HA
   simp only [impl_testReader_row.l0] at H
   by_cases c14 : x1003_1 = true
   ·subst c14
    have H1 : (if (x307002_1.length : Int) = 1 then (if 0 < (x307002_1.length : Int) then (some ((rd_T133 x307002_1 0).f0, (rd_T133 x307002_1 0).f1, (rd_T133 x307002_1 0).f2, x1000_1, x1001_1, x1002_1, true)) else (none)) else (some (a1, (⟨#[]⟩ : ByteArray), x307002_1, x1000_1, x1001_1, x1002_1, true))) = some (r1, r2, r3, r4, r5, r6, r7) := by rw [if_pos rfl] at H; exact H
    clear H
    have H := H1
    clear H1
    by_cases c15 : (x307002_1.length : Int) = 1
    ·rw [if_pos c15] at H
     have c15b0 : ((x307002_1.length : Int) == 1) = true := beq_iff_eq.mpr c15
     have c15b1 : ((x307002_1.length : Int) != 1) = false := bne_eq_false_iff_eq.mpr c15
     clear c15
     by_cases c16 : 0 < (x307002_1.length : Int)
     ·rw [if_pos c16] at H
      have c16b0 : decide (0 < (x307002_1.length : Int)) = true := decide_eq_true c16
      have c16b1 : decide (0 < x307002_1.length) = true := decide_eq_true (by omega)
      clear c16
      simp only [Option.some.injEq, Prod.mk.injEq] at H
      obtain ⟨rfl, rfl, rfl, rfl, rfl, rfl, rfl⟩ := H
      obtain ⟨HGz17, hgz17⟩ := HI0.out
      have hcz17_0 := cellS142_0 HGz17
      have hcz17_1 := cellS142_1 HGz17
      have hcz17_2 := cellS142_2 HGz17
      have hcz17_3 := cellS142_3 HGz17
      have hfz17_0 := blk_frozen HGz17 0
      have hfz17_1 := blk_frozen HGz17 1
      have hfz17_2 := blk_frozen HGz17 2
      have hfz17_3 := blk_frozen HGz17 3
      clear HGz17 hgz17
      have hnb18 := NB306_293.out
      have hnc18 := NB293_306.out
      have hnb19 := NB306_0.out
      have hnc19 := NB0_306.out
      have hcz20_0 : wr.cell? ⟨gb306, 0, none⟩ = some (.int .u8 a1) := (blk_cell BK306.out 0).trans rfl
      have hcz20_1 : wr.cell? ⟨gb306, 1, none⟩ = some (.string (⟨#[]⟩ : ByteArray)) := (blk_cell BK306.out 1).trans rfl
      have hcz20_2 : wr.cell? ⟨gb306, 2, none⟩ = some (u307002) := (blk_cell BK306.out 2).trans rfl
      have hfz20_0 := blk_frozen BK306.out 0
      have hfz20_1 := blk_frozen BK306.out 1
      have hfz20_2 := blk_frozen BK306.out 2
      obtain ⟨Ao21, co21, eo21⟩ := Kd.N_slice HO_307002.out
      subst eo21
      have p307 : 0 ≤ (0 : Int) := (by omega)
      have q307 : 0 < (x307002_1.length : Int) := of_decide_eq_true (by first | (with_reducible assumption) | assumption)
      obtain ⟨ad307, A307_2, c307_2, e307, hx307_0, hx307_1, hx307_2, hl307_2, hi307_2⟩ := at_T133 (Kd.N_reads' HO_307002.out).2.2 0 p307 q307
      cases e307
      obtain ⟨ce307, hce307, hMe307, hcc307⟩ := Kd.N_get HO_307002.out z133 0 p307 (by first | exact q307 | exact of_decide_eq_true (by first | (with_reducible assumption) | assumption) | (have e_ := (Kd.N_reads' HO_307002.out).1; omega))
      obtain ⟨ua307_2, uc307_2, rfl, ul307_2, ge307_2⟩ := k133_openF hMe307
      have hv307_2 := hcc307 2 _ rfl
      rw [add_field _ _ 2 (by omega)] at hv307_2
      replace hv307_2 := Option.some.inj (hv307_2.symm.trans hx307_2)
      injection hv307_2 with hva_ hvn_ hvc_
      rw [hva_] at ge307_2
      rw [hvc_] at ul307_2
      have HL307_2 := Aside0.mk (show Kd.V k133 133 _ w.heap.size _ _ ((rd_T133 x307002_1 0).f2) from Kd.V_mk ul307_2 ge307_2)
      clear hva_ hvn_ hvc_ ge307_2 ul307_2
      clear hcc307 hce307
      have qi307 : (0 < x307002_1.length) = True := eq_true (by omega)
      (try rw [show ((0 : Int)).toNat = 0 from rfl] at hx307_0)
      (try rw [show 0 * 3 = 0 from rfl] at hx307_0)
      (try rw [Addr.add_zero'] at hx307_0)
      (try rw [show ((0 : Int)).toNat = 0 from rfl] at hx307_1)
      (try rw [show 0 * 3 = 0 from rfl] at hx307_1)
      (try rw [Addr.add_zero'] at hx307_1)
      (try rw [show ((0 : Int)).toNat = 0 from rfl] at hx307_2)
      (try rw [show 0 * 3 = 0 from rfl] at hx307_2)
      (try rw [Addr.add_zero'] at hx307_2)
      have HR307_2 := Aside0.mk hi307_2
      have HC307_2 := Aside0.mk hl307_2
      clear hi307_2 hl307_2
      replace p307 := eq_true p307
      replace q307 := eq_true q307
      have hnb22 := NB293_0.out
      have hnc22 := NB0_293.out
      have hcz23_0 : wr.cell? ⟨gb293, 0, none⟩ = some (.int .u8 0) := (blk_cell BK293.out 0).trans rfl
      have hcz23_1 : wr.cell? ⟨gb293, 1, none⟩ = some (.string (⟨#[]⟩ : ByteArray)) := (blk_cell BK293.out 1).trans rfl
      have hcz23_2 : wr.cell? ⟨gb293, 2, none⟩ = some (.slice none 0 0) := (blk_cell BK293.out 2).trans rfl
      have hfz23_0 := blk_frozen BK293.out 0
      have hfz23_1 := blk_frozen BK293.out 1
      have hfz23_2 := blk_frozen BK293.out 2
      go_wp2
      refine bodyPost_ret (results_cell_row rfl _ _ gb293 133 #[.int .u8 ((rd_T133 x307002_1 0).f0), .string ((rd_T133 x307002_1 0).f1), .slice A307_2 ((rd_T133 x307002_1 0).f2).length c307_2] (0, 0) _ rfl (a10_) Try.underlying133 rfl (by kernel_rfl)) rfl ?_
      exact ⟨_, a11_, by (with_reducible repeat (first | apply Kd.V_alloc | apply Kd.V_drewN | apply Kd.V_drew)); exact Kd.V_mono (Kd.V_far (p := ⟨gb293, 2, none⟩) (Kd.V_far (p := ⟨gb293, 1, none⟩) (Kd.V_far (p := ⟨gb293, 0, none⟩) (Kd.V_mono HL307_2.out (fun k_ hk => (⟨hk, hk.1.2.1⟩ : _ ∧ k_ ≠ gb293))) (fun _ hk => hk.2) (.int .u8 ((rd_T133 x307002_1 0).f0))) (fun _ hk => hk.2) (.string ((rd_T133 x307002_1 0).f1))) (fun _ hk => hk.2) (.slice A307_2 ((rd_T133 x307002_1 0).f2).length c307_2)) (fun _ hk => hk.1.1.1), a7_, a9_, a8_⟩
     ·rw [if_neg c16] at H
      exact absurd H (by simp)
    ·rw [if_neg c15] at H
     have c15b0 : ((x307002_1.length : Int) == 1) = false := beq_eq_false_iff_ne.mpr c15
     have c15b1 : ((x307002_1.length : Int) != 1) = true := bne_iff_ne.mpr c15
     simp only [Option.some.injEq, Prod.mk.injEq] at H
     obtain ⟨rfl, rfl, rfl, rfl, rfl, rfl, rfl⟩ := H
     obtain ⟨HGz24, hgz24⟩ := HI0.out
     have hcz24_0 := cellS142_0 HGz24
     have hcz24_1 := cellS142_1 HGz24
     have hcz24_2 := cellS142_2 HGz24
     have hcz24_3 := cellS142_3 HGz24
     have hfz24_0 := blk_frozen HGz24 0
     have hfz24_1 := blk_frozen HGz24 1
     have hfz24_2 := blk_frozen HGz24 2
     have hfz24_3 := blk_frozen HGz24 3
     clear HGz24 hgz24
     have hnb25 := NB306_293.out
     have hnc25 := NB293_306.out
     have hnb26 := NB306_0.out
     have hnc26 := NB0_306.out
     have hcz27_0 : wr.cell? ⟨gb306, 0, none⟩ = some (.int .u8 a1) := (blk_cell BK306.out 0).trans rfl
     have hcz27_1 : wr.cell? ⟨gb306, 1, none⟩ = some (.string (⟨#[]⟩ : ByteArray)) := (blk_cell BK306.out 1).trans rfl
     have hcz27_2 : wr.cell? ⟨gb306, 2, none⟩ = some (u307002) := (blk_cell BK306.out 2).trans rfl
     have hfz27_0 := blk_frozen BK306.out 0
     have hfz27_1 := blk_frozen BK306.out 1
     have hfz27_2 := blk_frozen BK306.out 2
     obtain ⟨Ao28, co28, eo28⟩ := Kd.N_slice HO_307002.out
     subst eo28
     have hnb29 := NB293_0.out
     have hnc29 := NB0_293.out
     have hcz30_0 : wr.cell? ⟨gb293, 0, none⟩ = some (.int .u8 0) := (blk_cell BK293.out 0).trans rfl
     have hcz30_1 : wr.cell? ⟨gb293, 1, none⟩ = some (.string (⟨#[]⟩ : ByteArray)) := (blk_cell BK293.out 1).trans rfl
     have hcz30_2 : wr.cell? ⟨gb293, 2, none⟩ = some (.slice none 0 0) := (blk_cell BK293.out 2).trans rfl
     have hfz30_0 := blk_frozen BK293.out 0
     have hfz30_1 := blk_frozen BK293.out 1
     have hfz30_2 := blk_frozen BK293.out 2
     go_wp2
     refine bodyPost_ret (results_cell_row rfl _ _ gb293 133 #[.int .u8 a1, .string (⟨#[]⟩ : ByteArray), .slice Ao28 x307002_1.length co28] (0, 0) _ rfl (a12_) Try.underlying133 rfl (by kernel_rfl)) rfl ?_
     exact ⟨_, a11_, Kd.N_V (by (with_reducible repeat (first | apply Kd.N_alloc | apply Kd.N_drewN | apply Kd.N_drew)); exact Kd.N_mono (Kd.N_far (p := ⟨gb293, 2, none⟩) (Kd.N_far (p := ⟨gb293, 1, none⟩) (Kd.N_far (p := ⟨gb293, 0, none⟩) (Kd.N_mono HO_307002.out (fun k_ hk => (⟨hk, hk.2.1⟩ : _ ∧ k_ ≠ gb293))) (fun _ hk => hk.2) (.int .u8 a1)) (fun _ hk => hk.2) (.string (⟨#[]⟩ : ByteArray))) (fun _ hk => hk.2) (.slice Ao28 x307002_1.length co28)) (fun _ hk => hk.1.1)), a7_, a9_, a8_⟩
   ·replace c14 := Bool.eq_false_iff.mpr c14
    subst c14
    have H1 : ((impl_testReader_peek.f x1000_1 x1001_1 x1002_1 false).bind fun bt308 => (if bt308.1 = a1 then ((impl_testReader_row.NX.f k1 bt308.2.1 (wrap64 (bt308.2.2.1 + 1)) bt308.2.2.2.1 bt308.2.2.2.2).bind fun bt313 => (if x307002_1.length < 2932031007402 then (impl_testReader_row.l0 k1 a1 bt313.2.2.2.1 bt313.2.2.2.2.1 bt313.2.2.2.2.2.1 bt313.2.2.2.2.2.2 a1 (⟨#[]⟩ : ByteArray) (x307002_1 ++ [(⟨bt313.1, bt313.2.1, bt313.2.2.1⟩ : S133)])) else (none))) else (if (x307002_1.length : Int) = 1 then (if 0 < (x307002_1.length : Int) then (some ((rd_T133 x307002_1 0).f0, (rd_T133 x307002_1 0).f1, (rd_T133 x307002_1 0).f2, bt308.2.1, bt308.2.2.1, bt308.2.2.2.1, bt308.2.2.2.2)) else (none)) else (some (a1, (⟨#[]⟩ : ByteArray), x307002_1, bt308.2.1, bt308.2.2.1, bt308.2.2.2.1, bt308.2.2.2.2))))) = some (r1, r2, r3, r4, r5, r6, r7) := by rw [if_neg (show ¬ (false = true) by decide)] at H; exact H
    clear H
    have H := H1
    clear H1
    replace H := Option.bind_eq_some_iff.mp H
    obtain ⟨⟨t308, t309, t310, t311, t312⟩, A310, H⟩ := H
    replace H : (if t308 = a1 then ((impl_testReader_row.NX.f k1 t309 (wrap64 (t310 + 1)) t311 t312).bind fun bt313 => (if x307002_1.length < 2932031007402 then (impl_testReader_row.l0 k1 a1 bt313.2.2.2.1 bt313.2.2.2.2.1 bt313.2.2.2.2.2.1 bt313.2.2.2.2.2.2 a1 (⟨#[]⟩ : ByteArray) (x307002_1 ++ [(⟨bt313.1, bt313.2.1, bt313.2.2.1⟩ : S133)])) else (none))) else (if (x307002_1.length : Int) = 1 then (if 0 < (x307002_1.length : Int) then (some ((rd_T133 x307002_1 0).f0, (rd_T133 x307002_1 0).f1, (rd_T133 x307002_1 0).f2, t309, t310, t311, t312)) else (none)) else (some (a1, (⟨#[]⟩ : ByteArray), x307002_1, t309, t310, t311, t312)))) = some (r1, r2, r3, r4, r5, r6, r7) := H
    have A31 := Aside0.mk A310
    clear A310
    by_cases c32 : t308 = a1
    ·rw [if_pos c32] at H
     have c32b0 : (t308 == a1) = true := beq_iff_eq.mpr c32
     have c32b1 : (t308 != a1) = false := bne_eq_false_iff_eq.mpr c32
     clear c32
     replace H := Option.bind_eq_some_iff.mp H
     obtain ⟨⟨t313, t314, t315, t318, t319, t320, t321⟩, A330, H⟩ := H
     replace H : (if x307002_1.length < 2932031007402 then (impl_testReader_row.l0 k1 a1 t318 t319 t320 t321 a1 (⟨#[]⟩ : ByteArray) (x307002_1 ++ [(⟨t313, t314, t315⟩ : S133)])) else (none)) = some (r1, r2, r3, r4, r5, r6, r7) := H
     have A33 := Aside0.mk A330
     clear A330
     by_cases c34 : x307002_1.length < 2932031007402
     ·rw [if_pos c34] at H
      have LMc34 := Aside0.mk c34
      clear c34
      obtain ⟨y322, hy322⟩ : ∃ y_ : List (S133), y_ = (x307002_1 ++ [(⟨t313, t314, t315⟩ : S133)]) := ⟨_, rfl⟩
      replace H : (impl_testReader_row.l0 k1 a1 t318 t319 t320 t321 a1 (⟨#[]⟩ : ByteArray) y322) = some (r1, r2, r3, r4, r5, r6, r7) := by first | (rw [hy322]; with_reducible exact H) | (have H2_ := (Option.bind_some _ _).symm.trans H; rw [hy322]; with_reducible exact H2_) | (have H2_ := (Option.bind_some _ _).symm.trans H; with_reducible exact H2_) | with_reducible exact H | (rw [hy322]; exact H) | exact H
      have Ny322 := Aside0.mk hy322
      clear hy322
      have H' := Aside0.mk H
      clear H
      obtain ⟨HGz35, hgz35⟩ := HI0.out
      have hcz35_0 := cellS142_0 HGz35
      have hcz35_1 := cellS142_1 HGz35
      have hcz35_2 := cellS142_2 HGz35
      have hcz35_3 := cellS142_3 HGz35
      have hfz35_0 := blk_frozen HGz35 0
      have hfz35_1 := blk_frozen HGz35 1
      have hfz35_2 := blk_frozen HGz35 2
      have hfz35_3 := blk_frozen HGz35 3
      clear HGz35 hgz35
      try go_wp2_with (first | (go_at_call 107; (with_reducible refine (impl_testReader_peek.calls g x1000_1 x1001_1 x1002_1 false t308 t309 t310 t311 t312 w0 _ ?side1 ?side2 A31.out).mono ?_); (case side1 => exact a7_); (case side2 => exact a9_); rintro e w36 ⟨rfl, hi, hb, hk⟩; have n_ := c6_ (Kd.N_mono (Kd.N_keep (Kd.N_mono (ok := fun k_ => (((w.heap.size ≤ k_)) ∧ (k_ ≠ gb293 ∧ (k_ ≠ gb306 ∧ k_ ≠ g)))) (a13_) (fun k_ hk_ => (⟨hk_, hk_.2.2.2⟩ : _ ∧ k_ ≠ g))) hk (fun _ h => h.2)) (fun _ h => h.1)) (KeepBut.blk hk (g' := gb293) (o := .cells #[.int .u8 0, .string (⟨#[]⟩ : ByteArray), .slice none 0 0] 133 (0, 0)) (a5_) NB293_0.out (by simp)) (KeepBut.blk hk (g' := gb306) (o := .cells #[.int .u8 a1, .string (⟨#[]⟩ : ByteArray), u307002] 133 (0, 0)) (a14_) NB306_0.out (by simp)) (KeepBut.trans (a8_) hk (.inl rfl)) (hb) (hi); clear HO_307002 BK293 BK306 HK HB HI0; obtain ⟨HO_307002, BK293, BK306, HK, HB, HI0⟩ := n_; (try clear hb); (try clear hb2); (try clear hk); (try clear hi); obtain ⟨HGz37, hgz37⟩ := HI0.out; have hcz37_0 := cellS142_0 HGz37; have hcz37_1 := cellS142_1 HGz37; have hcz37_2 := cellS142_2 HGz37; have hcz37_3 := cellS142_3 HGz37; have hfz37_0 := blk_frozen HGz37 0; have hfz37_1 := blk_frozen HGz37 1; have hfz37_2 := blk_frozen HGz37 2; have hfz37_3 := blk_frozen HGz37 3; clear HGz37 hgz37))
      have n_ := c6_ (show Kd.N k133 133 (w36.setCell ⟨g, 1, none⟩ (.int .i64 (wrap64 (t310 + 1)))) w.heap.size (fun k_ => (w.heap.size ≤ k_) ∧ k_ ≠ gb293 ∧ k_ ≠ gb306 ∧ k_ ≠ g) u307002 x307002_1 from by (with_reducible repeat (first | apply Kd.N_alloc | apply Kd.N_drewN | apply Kd.N_drew)); exact Kd.N_mono (Kd.N_far (p := ⟨g, 1, none⟩) (Kd.N_mono HO_307002.out (fun k_ hk => (⟨hk, hk.2.2.2⟩ : _ ∧ k_ ≠ g))) (fun _ hk => hk.2) (.int .i64 (wrap64 (t310 + 1)))) (fun _ hk => ⟨hk.1.1, ⟨hk.1.2.1, ⟨hk.1.2.2.1, hk.1.2.2.2⟩⟩⟩)) (show (w36.setCell ⟨g, 1, none⟩ (.int .i64 (wrap64 (t310 + 1)))).heap[gb293]? = some (.cells #[.int .u8 0, .string (⟨#[]⟩ : ByteArray), .slice none 0 0] 133 (0, 0)) from by (with_reducible repeat (first | refine blk_drewN ?_ _ | refine blk_drew ?_ | refine blk_alloc ?_ _)); refine blk_far ?_ NB293_0.out _; (with_reducible repeat (first | refine blk_drewN ?_ _ | refine blk_drew ?_ | refine blk_alloc ?_ _)); exact BK293.out) (show (w36.setCell ⟨g, 1, none⟩ (.int .i64 (wrap64 (t310 + 1)))).heap[gb306]? = some (.cells #[.int .u8 a1, .string (⟨#[]⟩ : ByteArray), u307002] 133 (0, 0)) from by (with_reducible repeat (first | refine blk_drewN ?_ _ | refine blk_drew ?_ | refine blk_alloc ?_ _)); refine blk_far ?_ NB306_0.out _; (with_reducible repeat (first | refine blk_drewN ?_ _ | refine blk_drew ?_ | refine blk_alloc ?_ _)); exact BK306.out) (show IsS142 w0 (w36.setCell ⟨g, 1, none⟩ (.int .i64 (wrap64 (t310 + 1)))) g t309 (wrap64 (t310 + 1)) t311 t312 from a7_) (show KeepBut w (w36.setCell ⟨g, 1, none⟩ (.int .i64 (wrap64 (t310 + 1)))) g none from a8_) (show Below w0.heap.size w0 (w36.setCell ⟨g, 1, none⟩ (.int .i64 (wrap64 (t310 + 1)))) from a9_)
      (try clear HO_307002)
      (try clear BK293)
      (try clear BK306)
      (try clear HI0)
      (try clear HK)
      (try clear HB)
      generalize (w36.setCell ⟨g, 1, none⟩ (.int .i64 (wrap64 (t310 + 1)))) = w38 at n_ ⊢
      obtain ⟨HO_307002, BK293, BK306, HI0, HK, HB⟩ := n_
      have n_ := c6_ (Kd.N_drew HO_307002.out) (blk_drew BK293.out) (blk_drew BK306.out) (IsS142.drew HI0.out) (keep_drew HK.out) (below_drew1 HB.out)
      clear HO_307002 BK293 BK306 HI0 HK HB
      obtain ⟨HO_307002, BK293, BK306, HI0, HK, HB⟩ := n_
      refine start_ (n := 8) (S := fun w' => w'.cell? ⟨gb306, 0, none⟩ = some (.int .u8 a1) ∧ w'.cell? ⟨gb306, 1, none⟩ = some (.string (⟨#[]⟩ : ByteArray)) ∧ w'.cell? ⟨gb306, 2, none⟩ = some (u307002)) (ds := [7]) (bs_ 8 0) (by kernel_rfl) (by kernel_rfl) (by kernel_rfl) ⟨(blk_cell BK306.out 0).trans rfl, (blk_cell BK306.out 1).trans rfl, (blk_cell BK306.out 2).trans rfl⟩ (fun hHeld => ?_); refine with_tabW impl_testReader_row.tab4 impl_testReader_row.bits4 (fun HT_ HW_ => ?_)
      generalize w38.drew = w39 at HO_307002 BK293 BK306 HI0 HK HB hHeld ⊢
      refine pu_ (i := 0) (N := some 31) (v := ?_) (a' := ?_) 1 rfl rfl HT_ (Or.inl ⟨by rfl, ?_⟩) ?_ ?_
      rotate_left
      ·intro w'
       go_simp
       with_reducible rfl
      rotate_left
      ·simp only [pt_]
       rfl
      refine pu_ (i := 2) (N := some 33) (v := ?_) (a' := ?_) 5 rfl rfl HT_ (Or.inl ⟨by rfl, ?_⟩) ?_ ?_
      rotate_left
      ·intro w'
       go_simp
       with_reducible rfl
      rotate_left
      ·simp only [pt_]
       rfl
      refine tk_ (i := 1) (N := some 32) (v := ?_) (a' := ?_) 7 rfl rfl HT_ HW_ (Or.inl ⟨by rfl, ?_⟩) hHeld ?_ ?_
      rotate_left
      ·rintro w' ⟨s0, s1, s2⟩
       go_simp
       with_reducible rfl
      rotate_left
      ·simp only [pt_]
       rfl
      refine one_ (i := 3) (N := some 34) (bs_ 8 15) rfl rfl (one_of HT_.out (by kernel_rfl)) (by decide) (fun K hK => ?_)
      refine goesbx_ impl_testReader_row.NX.h #[.pointer (some ⟨g, 0, none⟩)] (by rfl) rfl rfl (by first | rfl | (go_simp; done)) ?_
      with_reducible refine (impl_testReader_row.NX.calls k1 g t309 (wrap64 (t310 + 1)) t311 t312 t313 t314 t315 t318 t319 t320 t321 w0 _ ?side1 ?side2 A33.out).mono ?_
      (case side1 => exact a7_)
      (case side2 => exact a9_)
      rintro e w40 ⟨v316, rfl, ho0, hi, hb, hk⟩
      refine ⟨_, rfl, ?_⟩
      have n_ := c7_ (Kd.N_mono (Kd.N_keep (Kd.N_mono (ok := fun k_ => (((w.heap.size ≤ k_)) ∧ (k_ ≠ gb293 ∧ (k_ ≠ gb306 ∧ k_ ≠ g)))) (a13_) (fun k_ hk_ => (⟨hk_, hk_.2.2.2⟩ : _ ∧ k_ ≠ g))) hk (fun _ h => h.2)) (fun _ h => h.1)) (KeepBut.blk hk (g' := gb293) (o := .cells #[.int .u8 0, .string (⟨#[]⟩ : ByteArray), .slice none 0 0] 133 (0, 0)) (a5_) NB293_0.out (by simp)) (KeepBut.blk hk (g' := gb306) (o := .cells #[.int .u8 a1, .string (⟨#[]⟩ : ByteArray), u307002] 133 (0, 0)) (a14_) NB306_0.out (by simp)) (Kd.V_lower (Kd.V_mono (ok' := fun k_ => (w.heap.size ≤ k_) ∧ some k_ ≠ (u307002 : Value).ownBlock ∧ k_ ≠ gb293 ∧ k_ ≠ gb306 ∧ k_ ≠ g) ho0 (fun k_ hk_ => ⟨(Nat.le_trans (keep_size (w := w) (g := g) (row := none) (a8_)) hk_), (Kd.fresh' (Kd.N_lt (a13_)) k_ hk_), (Kd.freshB (g := gb293) (o := .cells #[.int .u8 0, .string (⟨#[]⟩ : ByteArray), .slice none 0 0] 133 (0, 0)) (a5_) k_ hk_), (Kd.freshB (g := gb306) (o := .cells #[.int .u8 a1, .string (⟨#[]⟩ : ByteArray), u307002] 133 (0, 0)) (a14_) k_ hk_), (IsS142.fresh (a7_) k_ hk_)⟩)) (keep_size (w := w) (g := g) (row := none) (a8_))) (KeepBut.trans (a8_) hk (.inl rfl)) (hb) (hi)
      clear HO_307002 BK293 BK306 HK HB HI0
      obtain ⟨HO_307002, BK293, BK306, HO317, HK, HB, HI0⟩ := n_
      (try clear hb)
      (try clear hb2)
      (try clear hk)
      (try clear hi)
      (try clear ho0)
      obtain ⟨Ao42, co42, eo42⟩ := Kd.V_slice HO317.out
      (first | subst eo42 | (injection eo42 with f1_ f2_ f3_; have f4_ := f1_.symm; have f5_ := f3_.symm; clear f1_ f2_ f3_; subst f4_; subst f5_))
      refine hK.out _ _ ⟨(blk_cell BK306.out 0).trans rfl, (blk_cell BK306.out 1).trans rfl, (blk_cell BK306.out 2).trans rfl⟩ (fun hHeld => ?_)
      clear hK K
      refine norm_ (a' := ?_) ?_ ?_
      rotate_left
      ·show Act.put _ (some 34) _ = _
       simp only [pt_]
       rfl
      refine one_ (i := 4) (N := some 35) (bs_ 8 31) rfl rfl (one_of HT_.out (by kernel_rfl)) (by decide) (fun K hK => ?_)
      refine value_ (w1 := ?_) (v := ?_) (by rfl) rfl ?_ ?_
      rotate_left 2
      ·go_simp
       constructor
       ·rfl
       ·rfl
      refine hK.out _ _ ⟨(blk_cell (blk_alloc BK306.out _) 0).trans rfl, (blk_cell (blk_alloc BK306.out _) 1).trans rfl, (blk_cell (blk_alloc BK306.out _) 2).trans rfl⟩ (fun hHeld => ?_)
      clear hK K
      refine norm_ (a' := ?_) ?_ ?_
      rotate_left
      ·show Act.put _ (some 35) _ = _
       simp only [pt_]
       rfl
      refine one_ (i := 5) (N := some 36) (bs_ 8 63) rfl rfl (one_of HT_.out (by kernel_rfl)) (by decide) (fun K hK => ?_)
      refine Kd.N_append_step k133 w.heap.size (by rfl) (.tmp 32) (.tmp 35) 131 133 (.agg #[(.int .u8 0), (.string ⟨#[]⟩), (.slice none 0 0)]) 48 rfl Try.underlying131 info133 rfl (by decide) (by omega) u307002 x307002_1 (⟨t313, t314, t315⟩ : S133) [.int .u8 t313, .string t314, .slice Ao42 t315.length co42] (fun k_ => (w.heap.size ≤ k_) ∧ k_ ≠ gb293 ∧ k_ ≠ gb306 ∧ k_ ≠ g) (fun k_ => ((fun k_ => (w.heap.size ≤ k_) ∧ k_ ≠ gb293 ∧ k_ ≠ gb306 ∧ k_ ≠ g)) k_ ∧ some k_ ≠ (u307002 : Value).ownBlock) rfl rfl ?aP (fun _ hk => hk) ?aF ?aO (Below.refl _ _) ?aS ?aL ?_
      (case aP => exact (k133_mkF _ _ (⟨t313, t314, t315⟩ : S133) (Kd.V_reads' (Kd.V_mono (ok' := (fun k_ => ((fun k_ => (w.heap.size ≤ k_) ∧ k_ ≠ gb293 ∧ k_ ≠ gb306 ∧ k_ ≠ g)) k_ ∧ some k_ ≠ (u307002 : Value).ownBlock)) (HO317.out) (fun k_ hk => ⟨⟨hk.1, ⟨hk.2.2.1, ⟨hk.2.2.2.1, hk.2.2.2.2⟩⟩⟩, hk.2.1⟩))).2.1 (Kd.V_F (Kd.V_mono (ok' := (fun k_ => ((fun k_ => (w.heap.size ≤ k_) ∧ k_ ≠ gb293 ∧ k_ ≠ gb306 ∧ k_ ≠ g)) k_ ∧ some k_ ≠ (u307002 : Value).ownBlock)) (HO317.out) (fun k_ hk => ⟨⟨hk.1, ⟨hk.2.2.1, ⟨hk.2.2.2.1, hk.2.2.2.2⟩⟩⟩, hk.2.1⟩)))))
      (case aF => exact (fun k_ hk => ⟨(Nat.le_trans (keep_size (w := w) (g := g) (row := none) (a8_)) hk), Kd.freshB (g := gb293) (o := .cells #[.int .u8 0, .string (⟨#[]⟩ : ByteArray), .slice none 0 0] 133 (0, 0)) (a5_) k_ hk, Kd.freshB (g := gb306) (o := .cells #[.int .u8 a1, .string (⟨#[]⟩ : ByteArray), u307002] 133 (0, 0)) (a14_) k_ hk, IsS142.fresh (a7_) k_ hk⟩))
      (case aO => exact (a13_))
      (case aS => exact (keep_size (w := w) (g := g) (row := none) (a8_)))
      (case aL => have := LMc34.out; omega)
      intro v323 w41 ho hb hg hat
      rw [← Ny322.out] at ho
      have n_ := c7_ (blk_grown (g := gb293) (o := .cells #[.int .u8 0, .string (⟨#[]⟩ : ByteArray), .slice none 0 0] 133 (0, 0)) (a5_) hg (Kd.N_away HO_307002.out (fun _ hk => hk.2.1))) (blk_grown (g := gb306) (o := .cells #[.int .u8 a1, .string (⟨#[]⟩ : ByteArray), u307002] 133 (0, 0)) (a14_) hg (Kd.N_away HO_307002.out (fun _ hk => hk.2.2.1))) (IsS142.grown (a7_) hg (IsS142.own_neN HI0.out HO_307002.out (by decide))) (Kd.V_afterv (ok := (fun k_ => (w.heap.size ≤ k_) ∧ k_ ≠ gb293 ∧ k_ ≠ gb306 ∧ k_ ≠ g)) (by (with_reducible repeat (first | apply Kd.V_alloc | apply Kd.V_drewN | apply Kd.V_drew)); exact Kd.V_mono HO317.out (fun _ hk => ⟨⟨hk.1, ⟨hk.2.2.1, ⟨hk.2.2.2.1, hk.2.2.2.2⟩⟩⟩, hk.2.1⟩)) hg hat) (below_weaken (a9_) HL.out hb) (KeepBut.trans (a8_) (KeepBut.of_grown hg g) (Kd.N_base2 HO_307002.out)) (ho)
      clear BK293 BK306 HI0 HO317 HB HK HO_307002
      obtain ⟨BK293, BK306, HI0, HO317, HB, HK, HO324⟩ := n_
      clear ho hb hg hat
      obtain ⟨Ao43, co43, eo43⟩ := Kd.N_slice HO324.out
      (first | subst eo43 | (injection eo43 with f1_ f2_ f3_; have f4_ := f1_.symm; have f5_ := f3_.symm; clear f1_ f2_ f3_; subst f4_; subst f5_))
      refine hK.out _ _ ⟨(blk_cell BK306.out 0).trans rfl, (blk_cell BK306.out 1).trans rfl, (blk_cell BK306.out 2).trans rfl⟩ (fun hHeld => ?_)
      clear hK K
      refine norm_ (a' := ?_) ?_ ?_
      rotate_left
      ·show Act.put _ (some 36) _ = _
       simp only [pt_]
       rfl
      refine pu_ (i := 6) (N := some 37) (v := ?_) (a' := ?_) 127 rfl rfl HT_ (Or.inl ⟨by rfl, ?_⟩) ?_ ?_
      rotate_left
      ·intro w'
       go_simp
       with_reducible rfl
      rotate_left
      ·simp only [pt_]
       rfl
      refine last_ (i := 7) (N := none) (bs_ 8 255) rfl rfl (one_of HT_.out (by kernel_rfl)) (by decide) (fun K hK => ?_)
      have hs44 : w41.cell? ⟨gb306, 2, none⟩ = some (u307002) := (blk_cell BK306.out 2).trans rfl
      have hfs44 := blk_frozen BK306.out 2
      have hns44_0 := NB293_306.out
      have hms44_0 := NB306_293.out
      refine skip_ (w1 := ?_) (by rfl) rfl ?_ ?_
      rotate_left
      ·go_simp
       rfl
      refine hK.out _ _ ?_
      clear hK K
      refine done_ (done_of HT_.out (by kernel_rfl)) ?_
      try go_wp2
      go_roundg k1
      case measure => have := HK1.out; omega
      case rel => exact ⟨(t318), (t319), (t320), (t321), (y322), (.slice Ao43 y322.length co43), H', ⟨by have := HK1.out; omega⟩, ⟨by (with_reducible repeat (first | apply Kd.N_alloc | apply Kd.N_drewN | apply Kd.N_drew)); exact Kd.N_mono (Kd.N_far (p := ⟨gb306, 2, none⟩) (Kd.N_mono HO324.out (fun k_ hk => (⟨hk, hk.2.2.1⟩ : _ ∧ k_ ≠ gb306))) (fun _ hk => hk.2) (.slice Ao43 y322.length co43)) (fun _ hk => ⟨hk.1.1, ⟨hk.1.2.1, ⟨hk.1.2.2.1, hk.1.2.2.2⟩⟩⟩)⟩, ⟨by (with_reducible repeat (first | refine blk_drewN ?_ _ | refine blk_drew ?_ | refine blk_alloc ?_ _)); refine blk_far ?_ NB293_306.out _; (with_reducible repeat (first | refine blk_drewN ?_ _ | refine blk_drew ?_ | refine blk_alloc ?_ _)); exact BK293.out⟩, ⟨by (with_reducible repeat (first | refine blk_drewN ?_ _ | refine blk_drew ?_ | refine blk_alloc ?_ _)); refine blk_put (cs := #[.int .u8 a1, .string (⟨#[]⟩ : ByteArray), u307002]) ?_ 2 _ rfl; (with_reducible repeat (first | refine blk_drewN ?_ _ | refine blk_drew ?_ | refine blk_alloc ?_ _)); exact BK306.out⟩, ⟨a7_⟩, ⟨a8_⟩, ⟨a9_⟩⟩
     ·rw [if_neg c34] at H
      exact absurd H (by simp)
    ·rw [if_neg c32] at H
     have c32b0 : (t308 == a1) = false := beq_eq_false_iff_ne.mpr c32
     have c32b1 : (t308 != a1) = true := bne_iff_ne.mpr c32
     by_cases c45 : (x307002_1.length : Int) = 1
     ·rw [if_pos c45] at H
      have c45b0 : ((x307002_1.length : Int) == 1) = true := beq_iff_eq.mpr c45
      have c45b1 : ((x307002_1.length : Int) != 1) = false := bne_eq_false_iff_eq.mpr c45
      clear c45
      by_cases c46 : 0 < (x307002_1.length : Int)
      ·rw [if_pos c46] at H
       have c46b0 : decide (0 < (x307002_1.length : Int)) = true := decide_eq_true c46
       have c46b1 : decide (0 < x307002_1.length) = true := decide_eq_true (by omega)
       clear c46
       simp only [Option.some.injEq, Prod.mk.injEq] at H
       obtain ⟨rfl, rfl, rfl, rfl, rfl, rfl, rfl⟩ := H
       obtain ⟨HGz47, hgz47⟩ := HI0.out
       have hcz47_0 := cellS142_0 HGz47
       have hcz47_1 := cellS142_1 HGz47
       have hcz47_2 := cellS142_2 HGz47
       have hcz47_3 := cellS142_3 HGz47
       have hfz47_0 := blk_frozen HGz47 0
       have hfz47_1 := blk_frozen HGz47 1
       have hfz47_2 := blk_frozen HGz47 2
       have hfz47_3 := blk_frozen HGz47 3
       clear HGz47 hgz47
       go_wp2_with (first | (go_at_call 107; (with_reducible refine (impl_testReader_peek.calls g x1000_1 x1001_1 x1002_1 false t308 t309 t310 t311 t312 w0 _ ?side1 ?side2 A31.out).mono ?_); (case side1 => exact a7_); (case side2 => exact a9_); rintro e w48 ⟨rfl, hi, hb, hk⟩; have n_ := c6_ (Kd.N_mono (Kd.N_keep (Kd.N_mono (ok := fun k_ => (((w.heap.size ≤ k_)) ∧ (k_ ≠ gb293 ∧ (k_ ≠ gb306 ∧ k_ ≠ g)))) (a13_) (fun k_ hk_ => (⟨hk_, hk_.2.2.2⟩ : _ ∧ k_ ≠ g))) hk (fun _ h => h.2)) (fun _ h => h.1)) (KeepBut.blk hk (g' := gb293) (o := .cells #[.int .u8 0, .string (⟨#[]⟩ : ByteArray), .slice none 0 0] 133 (0, 0)) (a5_) NB293_0.out (by simp)) (KeepBut.blk hk (g' := gb306) (o := .cells #[.int .u8 a1, .string (⟨#[]⟩ : ByteArray), u307002] 133 (0, 0)) (a14_) NB306_0.out (by simp)) (KeepBut.trans (a8_) hk (.inl rfl)) (hb) (hi); clear HO_307002 BK293 BK306 HK HB HI0; obtain ⟨HO_307002, BK293, BK306, HK, HB, HI0⟩ := n_; (try clear hb); (try clear hb2); (try clear hk); (try clear hi); have hnb49 := NB306_293.out; have hnc49 := NB293_306.out; have hnb50 := NB306_0.out; have hnc50 := NB0_306.out; have hcz51_0 : w48.cell? ⟨gb306, 0, none⟩ = some (.int .u8 a1) := (blk_cell BK306.out 0).trans rfl; have hcz51_1 : w48.cell? ⟨gb306, 1, none⟩ = some (.string (⟨#[]⟩ : ByteArray)) := (blk_cell BK306.out 1).trans rfl; have hcz51_2 : w48.cell? ⟨gb306, 2, none⟩ = some (u307002) := (blk_cell BK306.out 2).trans rfl; have hfz51_0 := blk_frozen BK306.out 0; have hfz51_1 := blk_frozen BK306.out 1; have hfz51_2 := blk_frozen BK306.out 2; obtain ⟨Ao52, co52, eo52⟩ := Kd.N_slice HO_307002.out; subst eo52; have p325 : 0 ≤ (0 : Int) := (by omega); have q325 : 0 < (x307002_1.length : Int) := of_decide_eq_true (by first | (with_reducible assumption) | assumption); obtain ⟨ad325, A325_2, c325_2, e325, hx325_0, hx325_1, hx325_2, hl325_2, hi325_2⟩ := at_T133 (Kd.N_reads' HO_307002.out).2.2 0 p325 q325; cases e325; obtain ⟨ce325, hce325, hMe325, hcc325⟩ := Kd.N_get HO_307002.out z133 0 p325 (by first | exact q325 | exact of_decide_eq_true (by first | (with_reducible assumption) | assumption) | (have e_ := (Kd.N_reads' HO_307002.out).1; omega)); obtain ⟨ua325_2, uc325_2, rfl, ul325_2, ge325_2⟩ := k133_openF hMe325; have hv325_2 := hcc325 2 _ rfl; rw [add_field _ _ 2 (by omega)] at hv325_2; replace hv325_2 := Option.some.inj (hv325_2.symm.trans hx325_2); injection hv325_2 with hva_ hvn_ hvc_; rw [hva_] at ge325_2; rw [hvc_] at ul325_2; have HL325_2 := Aside0.mk (show Kd.V k133 133 _ w.heap.size _ _ ((rd_T133 x307002_1 0).f2) from Kd.V_mk ul325_2 ge325_2); clear hva_ hvn_ hvc_ ge325_2 ul325_2; clear hcc325 hce325; have qi325 : (0 < x307002_1.length) = True := eq_true (by omega); (try rw [show ((0 : Int)).toNat = 0 from rfl] at hx325_0); (try rw [show 0 * 3 = 0 from rfl] at hx325_0); (try rw [Addr.add_zero'] at hx325_0); (try rw [show ((0 : Int)).toNat = 0 from rfl] at hx325_1); (try rw [show 0 * 3 = 0 from rfl] at hx325_1); (try rw [Addr.add_zero'] at hx325_1); (try rw [show ((0 : Int)).toNat = 0 from rfl] at hx325_2); (try rw [show 0 * 3 = 0 from rfl] at hx325_2); (try rw [Addr.add_zero'] at hx325_2); have HR325_2 := Aside0.mk hi325_2; have HC325_2 := Aside0.mk hl325_2; clear hi325_2 hl325_2; replace p325 := eq_true p325; replace q325 := eq_true q325; have hnb53 := NB293_0.out; have hnc53 := NB0_293.out; have hcz54_0 : w48.cell? ⟨gb293, 0, none⟩ = some (.int .u8 0) := (blk_cell BK293.out 0).trans rfl; have hcz54_1 : w48.cell? ⟨gb293, 1, none⟩ = some (.string (⟨#[]⟩ : ByteArray)) := (blk_cell BK293.out 1).trans rfl; have hcz54_2 : w48.cell? ⟨gb293, 2, none⟩ = some (.slice none 0 0) := (blk_cell BK293.out 2).trans rfl; have hfz54_0 := blk_frozen BK293.out 0; have hfz54_1 := blk_frozen BK293.out 1; have hfz54_2 := blk_frozen BK293.out 2))
       refine bodyPost_ret (results_cell_row rfl _ _ gb293 133 #[.int .u8 ((rd_T133 x307002_1 0).f0), .string ((rd_T133 x307002_1 0).f1), .slice A325_2 ((rd_T133 x307002_1 0).f2).length c325_2] (0, 0) _ rfl (a10_) Try.underlying133 rfl (by kernel_rfl)) rfl ?_
       exact ⟨_, a11_, by (with_reducible repeat (first | apply Kd.V_alloc | apply Kd.V_drewN | apply Kd.V_drew)); exact Kd.V_mono (Kd.V_far (p := ⟨gb293, 2, none⟩) (Kd.V_far (p := ⟨gb293, 1, none⟩) (Kd.V_far (p := ⟨gb293, 0, none⟩) (Kd.V_mono HL325_2.out (fun k_ hk => (⟨hk, hk.1.2.1⟩ : _ ∧ k_ ≠ gb293))) (fun _ hk => hk.2) (.int .u8 ((rd_T133 x307002_1 0).f0))) (fun _ hk => hk.2) (.string ((rd_T133 x307002_1 0).f1))) (fun _ hk => hk.2) (.slice A325_2 ((rd_T133 x307002_1 0).f2).length c325_2)) (fun _ hk => hk.1.1.1), a7_, a9_, a8_⟩
      ·rw [if_neg c46] at H
       exact absurd H (by simp)
     ·rw [if_neg c45] at H
      have c45b0 : ((x307002_1.length : Int) == 1) = false := beq_eq_false_iff_ne.mpr c45
      have c45b1 : ((x307002_1.length : Int) != 1) = true := bne_iff_ne.mpr c45
      simp only [Option.some.injEq, Prod.mk.injEq] at H
      obtain ⟨rfl, rfl, rfl, rfl, rfl, rfl, rfl⟩ := H
      obtain ⟨HGz55, hgz55⟩ := HI0.out
      have hcz55_0 := cellS142_0 HGz55
      have hcz55_1 := cellS142_1 HGz55
      have hcz55_2 := cellS142_2 HGz55
      have hcz55_3 := cellS142_3 HGz55
      have hfz55_0 := blk_frozen HGz55 0
      have hfz55_1 := blk_frozen HGz55 1
      have hfz55_2 := blk_frozen HGz55 2
      have hfz55_3 := blk_frozen HGz55 3
      clear HGz55 hgz55
      go_wp2_with (first | (go_at_call 107; (with_reducible refine (impl_testReader_peek.calls g x1000_1 x1001_1 x1002_1 false t308 t309 t310 t311 t312 w0 _ ?side1 ?side2 A31.out).mono ?_); (case side1 => exact a7_); (case side2 => exact a9_); rintro e w56 ⟨rfl, hi, hb, hk⟩; have n_ := c6_ (Kd.N_mono (Kd.N_keep (Kd.N_mono (ok := fun k_ => (((w.heap.size ≤ k_)) ∧ (k_ ≠ gb293 ∧ (k_ ≠ gb306 ∧ k_ ≠ g)))) (a13_) (fun k_ hk_ => (⟨hk_, hk_.2.2.2⟩ : _ ∧ k_ ≠ g))) hk (fun _ h => h.2)) (fun _ h => h.1)) (KeepBut.blk hk (g' := gb293) (o := .cells #[.int .u8 0, .string (⟨#[]⟩ : ByteArray), .slice none 0 0] 133 (0, 0)) (a5_) NB293_0.out (by simp)) (KeepBut.blk hk (g' := gb306) (o := .cells #[.int .u8 a1, .string (⟨#[]⟩ : ByteArray), u307002] 133 (0, 0)) (a14_) NB306_0.out (by simp)) (KeepBut.trans (a8_) hk (.inl rfl)) (hb) (hi); clear HO_307002 BK293 BK306 HK HB HI0; obtain ⟨HO_307002, BK293, BK306, HK, HB, HI0⟩ := n_; (try clear hb); (try clear hb2); (try clear hk); (try clear hi); have hnb57 := NB306_293.out; have hnc57 := NB293_306.out; have hnb58 := NB306_0.out; have hnc58 := NB0_306.out; have hcz59_0 : w56.cell? ⟨gb306, 0, none⟩ = some (.int .u8 a1) := (blk_cell BK306.out 0).trans rfl; have hcz59_1 : w56.cell? ⟨gb306, 1, none⟩ = some (.string (⟨#[]⟩ : ByteArray)) := (blk_cell BK306.out 1).trans rfl; have hcz59_2 : w56.cell? ⟨gb306, 2, none⟩ = some (u307002) := (blk_cell BK306.out 2).trans rfl; have hfz59_0 := blk_frozen BK306.out 0; have hfz59_1 := blk_frozen BK306.out 1; have hfz59_2 := blk_frozen BK306.out 2; obtain ⟨Ao60, co60, eo60⟩ := Kd.N_slice HO_307002.out; subst eo60; have hnb61 := NB293_0.out; have hnc61 := NB0_293.out; have hcz62_0 : w56.cell? ⟨gb293, 0, none⟩ = some (.int .u8 0) := (blk_cell BK293.out 0).trans rfl; have hcz62_1 : w56.cell? ⟨gb293, 1, none⟩ = some (.string (⟨#[]⟩ : ByteArray)) := (blk_cell BK293.out 1).trans rfl; have hcz62_2 : w56.cell? ⟨gb293, 2, none⟩ = some (.slice none 0 0) := (blk_cell BK293.out 2).trans rfl; have hfz62_0 := blk_frozen BK293.out 0; have hfz62_1 := blk_frozen BK293.out 1; have hfz62_2 := blk_frozen BK293.out 2))
      refine bodyPost_ret (results_cell_row rfl _ _ gb293 133 #[.int .u8 a1, .string (⟨#[]⟩ : ByteArray), .slice Ao60 x307002_1.length co60] (0, 0) _ rfl (a12_) Try.underlying133 rfl (by kernel_rfl)) rfl ?_
      exact ⟨_, a11_, Kd.N_V (by (with_reducible repeat (first | apply Kd.N_alloc | apply Kd.N_drewN | apply Kd.N_drew)); exact Kd.N_mono (Kd.N_far (p := ⟨gb293, 2, none⟩) (Kd.N_far (p := ⟨gb293, 1, none⟩) (Kd.N_far (p := ⟨gb293, 0, none⟩) (Kd.N_mono HO_307002.out (fun k_ hk => (⟨hk, hk.2.1⟩ : _ ∧ k_ ≠ gb293))) (fun _ hk => hk.2) (.int .u8 a1)) (fun _ hk => hk.2) (.string (⟨#[]⟩ : ByteArray))) (fun _ hk => hk.2) (.slice Ao60 x307002_1.length co60)) (fun _ hk => hk.1.1)), a7_, a9_, a8_⟩
end

/-! ### impl_testReader_and: function 102 -/
instance impl_testReader_not.nx [impl_testReader_or.C] : impl_testReader_row.NX := ⟨108, ⟨_, Try.func108, by kernel_rfl, rfl⟩, impl_testReader_not.f, impl_testReader_not.calls⟩
theorem impl_testReader_and.rw_ [impl_testReader_or.C] (k : Nat) (g : Nat) (s0_0 : ByteArray) (s0_1 : Int) (s0_2 : Int) (s0_3 : Bool) (a1 : Int) (r1 : Int) (r2 : ByteArray) (r3 : List (S133)) (r4 : ByteArray) (r5 : Int) (r6 : Int) (r7 : Bool) (w0 w : World) (hI : IsS142 w0 w g s0_0 s0_1 s0_2 s0_3) (hB : Below w0.heap.size w0 w) (h : @impl_testReader_row.f impl_testReader_not.nx k s0_0 s0_1 s0_2 s0_3 a1 = some (r1, r2, r3, r4, r5, r6, r7)) : Calls Try.prog 101 #[.pointer (some ⟨g, 0, none⟩), .int .u8 a1, .func (Fn.func 108) #[.pointer (some ⟨g, 0, none⟩)] #[]] w fun e w' => ∃ v2_ : Value, e = .returned (.agg #[.int .u8 r1, .string r2, v2_]) ∧ Kd.V k133 133 w' w.heap.size (fun k_ => (w.heap.size ≤ k_)) v2_ r3 ∧ IsS142 w0 w' g r4 r5 r6 r7 ∧ Below w0.heap.size w0 w' ∧ KeepBut w w' g none := @impl_testReader_row.calls impl_testReader_not.nx k g s0_0 s0_1 s0_2 s0_3 a1 r1 r2 r3 r4 r5 r6 r7 w0 w hI hB h
theorem impl_testReader_and.a1_ {p : Prop} (h : p := by repeat (first | (with_reducible first | exact HI0.out | apply IsS142.alloc | apply IsS142.drewN | apply IsS142.drew | apply IsS142.set_0 | apply IsS142.set_1 | apply IsS142.set_2 | apply IsS142.set_3) | exact HI0.out)) : p := h
theorem impl_testReader_and.a2_ {p : Prop} (h : p := by repeat (first | (with_reducible first | exact HK.out | apply KeepBut.set_ | apply keep_drewN | apply keep_drew | apply keep_alloc) | exact HK.out)) : p := h
theorem impl_testReader_and.a3_ {p : Prop} (h : p := by repeat (first | (with_reducible first | exact HI0.out | apply IsS142.alloc | apply IsS142.drewN | apply IsS142.drew | apply IsS142.set_0 | apply IsS142.set_1 | apply IsS142.set_2 | apply IsS142.set_3 | apply IsS142.far (p := ⟨gb326, _, none⟩) (hne := NB0_326.out)) | exact HI0.out)) : p := h
theorem impl_testReader_and.a4_ {p : Prop} (h : p := by repeat (first | (with_reducible first | exact HK.out | apply KeepBut.set_ | apply keep_drewN | apply keep_drew | apply keep_alloc | refine keep_far ?_ GW326.out _) | exact HK.out)) : p := h
section
variable [impl_testReader_or.C]
def impl_testReader_and.f (k : Nat) (s0_0 : ByteArray) (s0_1 : Int) (s0_2 : Int) (s0_3 : Bool) : Option (Int × ByteArray × (List (S133)) × ByteArray × Int × Int × Bool) := (@impl_testReader_row.f impl_testReader_not.nx k s0_0 s0_1 s0_2 s0_3 38).bind fun bt327 => (some (bt327.1, bt327.2.1, bt327.2.2.1, bt327.2.2.2.1, bt327.2.2.2.2.1, bt327.2.2.2.2.2.1, bt327.2.2.2.2.2.2))
set_option maxHeartbeats 8000000 in
set_option maxRecDepth 100000 in
theorem impl_testReader_and.calls (k : Nat) (g : Nat) (s0_0 : ByteArray) (s0_1 : Int) (s0_2 : Int) (s0_3 : Bool) (r1 : Int) (r2 : ByteArray) (r3 : List (S133)) (r4 : ByteArray) (r5 : Int) (r6 : Int) (r7 : Bool) (w0 w : World) (hI : IsS142 w0 w g s0_0 s0_1 s0_2 s0_3) (hB : Below w0.heap.size w0 w) (h : impl_testReader_and.f k s0_0 s0_1 s0_2 s0_3 = some (r1, r2, r3, r4, r5, r6, r7)) :
  Calls Try.prog 102 #[.pointer (some ⟨g, 0, none⟩)] w fun e w' => ∃ v2_ : Value, e = .returned (.agg #[.int .u8 r1, .string r2, v2_]) ∧ Kd.V k133 133 w' w.heap.size (fun k_ => (w.heap.size ≤ k_)) v2_ r3 ∧ IsS142 w0 w' g r4 r5 r6 r7 ∧ Below w0.heap.size w0 w' ∧ KeepBut w w' g none := by
 have hu133 := Try.underlying133
 have HI0 := Aside0.mk hI
 have HK := Aside0.mk (KeepBut.refl w g none)
 have HL := Aside0.mk hB.size
 clear hI
 have HW0 := Aside0.mk hB.size
 have HB := Aside0.mk hB
 clear hB
 have H : ((@impl_testReader_row.f impl_testReader_not.nx k s0_0 s0_1 s0_2 s0_3 38).bind fun bt327 => (some (bt327.1, bt327.2.1, bt327.2.2.1, bt327.2.2.2.1, bt327.2.2.2.2.1, bt327.2.2.2.2.2.1, bt327.2.2.2.2.2.2))) = some (r1, r2, r3, r4, r5, r6, r7) := h
 clear h
 replace H := Option.bind_eq_some_iff.mp H
 obtain ⟨⟨t327, t328, t329, t332, t333, t334, t335⟩, A20, H⟩ := H
 replace H : (some (t327, t328, t329, t332, t333, t334, t335)) = some (r1, r2, r3, r4, r5, r6, r7) := H
 have A2 := Aside0.mk A20
 clear A20
 simp only [Option.some.injEq, Prod.mk.injEq] at H
 obtain ⟨rfl, rfl, rfl, rfl, rfl, rfl, rfl⟩ := H
 go_enter Try.func102, Try.ntmps102
 go_wp2_with (first | ((with_reducible refine gate_dst (N := 2) rfl ?_); refine box_event ?hg (N := 2) ?hd (cs := #[.int .u8 0, .string (⟨#[]⟩ : ByteArray), .slice none 0 0]) (t := 133) ?hr ?_; (case hd => rfl); (case hg => rfl); (case hr => first | (go_simp; done) | (go_simp; rfl)); intro gb326 hg w3 hbox hb; have n_ := c8_ (IsS142.below (a1_) hb) (KeepBut.trans (a2_) (KeepBut.of_below hb g none) (.inl rfl)) (below_step (by repeat (first | (with_reducible first | exact HB.out | apply below_alloc | apply pw_below_drewN | apply below_drew1 | refine below_set ?_ (IsS142.ge HI0.out)) | exact HB.out)) hb) (hbox) ((by rw [hg]; exact (keep_size (w := w) (g := g) (row := none) (a2_)) : w.heap.size ≤ gb326)) ((Nat.le_trans HW0.out (by rw [hg]; exact (keep_size (w := w) (g := g) (row := none) (a2_)) : w.heap.size ≤ gb326) : w0.heap.size ≤ gb326)) ((by rw [hg]; exact Nat.ne_of_lt (IsS142.lt (show IsS142 w0 _ g s0_0 s0_1 s0_2 s0_3 from a1_)) : g ≠ gb326)) ((by rw [hg]; exact Nat.ne_of_gt (IsS142.lt (show IsS142 w0 _ g s0_0 s0_1 s0_2 s0_3 from a1_)) : gb326 ≠ g)); clear HI0 HK HB; obtain ⟨HI0, HK, HB, BK326, GW326, GE326, NB0_326, NB326_0⟩ := n_; clear hb hbox hg) | ((with_reducible refine gate_callee (f := 101) rfl ?_); refine goesL_ (some 6) rfl rfl Try.func101 (by kernel_rfl) rfl #[.pointer (some ⟨g, 0, none⟩), .int .u8 38, .func (Fn.func 108) #[.pointer (some ⟨g, 0, none⟩)] #[]] rfl (by (try simp only [List.map_toArray, List.map_cons, List.map_nil]); first | done | rfl | (simp only [List.length_drop, List.length_take]; rfl)) ?_; (with_reducible refine (impl_testReader_and.rw_ k g s0_0 s0_1 s0_2 s0_3 38 t327 t328 t329 t332 t333 t334 t335 w0 _ ?side1 ?side2 A2.out).mono ?_); (case side1 => exact a3_); (case side2 => exact by repeat (first | (with_reducible first | exact HB.out | apply below_alloc | apply pw_below_drewN | apply below_drew1 | refine below_set ?_ (IsS142.ge HI0.out) | refine below_set ?_ GE326.out) | exact HB.out)); rintro e w4 ⟨v330, rfl, ho0, hi, hb, hk⟩; refine ⟨_, rfl, ?_⟩; have n_ := c5_ (KeepBut.blk hk (g' := gb326) (o := .cells #[.int .u8 0, .string (⟨#[]⟩ : ByteArray), .slice none 0 0] 133 (0, 0)) (by (with_reducible repeat (first | refine blk_drewN ?_ _ | refine blk_drew ?_ | refine blk_alloc ?_ _)); exact BK326.out) NB326_0.out (by simp)) (Kd.V_lower (Kd.V_mono (ok' := fun k_ => (w.heap.size ≤ k_) ∧ k_ ≠ gb326 ∧ k_ ≠ g) ho0 (fun k_ hk_ => ⟨(Nat.le_trans (keep_size (w := w) (g := g) (row := none) (a4_)) hk_), (Kd.freshB (g := gb326) (o := .cells #[.int .u8 0, .string (⟨#[]⟩ : ByteArray), .slice none 0 0] 133 (0, 0)) (by (with_reducible repeat (first | refine blk_drewN ?_ _ | refine blk_drew ?_ | refine blk_alloc ?_ _)); exact BK326.out) k_ hk_), (IsS142.fresh (a3_) k_ hk_)⟩)) (keep_size (w := w) (g := g) (row := none) (a4_))) (KeepBut.trans (a4_) hk (.inl rfl)) (hb) (hi); clear BK326 HK HB HI0; obtain ⟨BK326, HO331, HK, HB, HI0⟩ := n_; (try clear hb); (try clear hb2); (try clear hk); (try clear hi); (try clear ho0); have hnb5 := NB326_0.out; have hnc5 := NB0_326.out; have hcz6_0 : w4.cell? ⟨gb326, 0, none⟩ = some (.int .u8 0) := (blk_cell BK326.out 0).trans rfl; have hcz6_1 : w4.cell? ⟨gb326, 1, none⟩ = some (.string (⟨#[]⟩ : ByteArray)) := (blk_cell BK326.out 1).trans rfl; have hcz6_2 : w4.cell? ⟨gb326, 2, none⟩ = some (.slice none 0 0) := (blk_cell BK326.out 2).trans rfl; have hfz6_0 := blk_frozen BK326.out 0; have hfz6_1 := blk_frozen BK326.out 1; have hfz6_2 := blk_frozen BK326.out 2; obtain ⟨Ao7, co7, eo7⟩ := Kd.V_slice HO331.out; subst eo7))
 refine bodyPost_ret (results_cell_row rfl _ _ gb326 133 #[.int .u8 t327, .string t328, .slice Ao7 t329.length co7] (0, 0) _ rfl (by (with_reducible repeat (first | refine blk_drewN ?_ _ | refine blk_drew ?_ | refine blk_alloc ?_ _)); refine blk_put (cs := #[.int .u8 t327, .string t328, .slice none 0 0]) ?_ 2 _ rfl; (with_reducible repeat (first | refine blk_drewN ?_ _ | refine blk_drew ?_ | refine blk_alloc ?_ _)); refine blk_put (cs := #[.int .u8 t327, .string (⟨#[]⟩ : ByteArray), .slice none 0 0]) ?_ 1 _ rfl; (with_reducible repeat (first | refine blk_drewN ?_ _ | refine blk_drew ?_ | refine blk_alloc ?_ _)); refine blk_put (cs := #[.int .u8 0, .string (⟨#[]⟩ : ByteArray), .slice none 0 0]) ?_ 0 _ rfl; (with_reducible repeat (first | refine blk_drewN ?_ _ | refine blk_drew ?_ | refine blk_alloc ?_ _)); exact BK326.out) Try.underlying133 rfl (by kernel_rfl)) rfl ?_
 exact ⟨_, by first | rfl | (simp [errW_none, errW_some] <;> rfl) | (simp [*, errW_none, errW_some] <;> rfl), by (with_reducible repeat (first | apply Kd.V_alloc | apply Kd.V_drewN | apply Kd.V_drew)); exact Kd.V_mono (Kd.V_far (p := ⟨gb326, 2, none⟩) (Kd.V_far (p := ⟨gb326, 1, none⟩) (Kd.V_far (p := ⟨gb326, 0, none⟩) (Kd.V_mono HO331.out (fun k_ hk => (⟨hk, hk.2.1⟩ : _ ∧ k_ ≠ gb326))) (fun _ hk => hk.2) (.int .u8 t327)) (fun _ hk => hk.2) (.string t328)) (fun _ hk => hk.2) (.slice Ao7 t329.length co7)) (fun _ hk => hk.1.1), a3_, by repeat (first | (with_reducible first | exact HB.out | apply below_alloc | apply pw_below_drewN | apply below_drew1 | refine below_set ?_ (IsS142.ge HI0.out) | refine below_set ?_ GE326.out) | exact HB.out), a4_⟩
end

/-! ### impl_testReader_or1: function 98 -/
instance impl_testReader_and.nx [impl_testReader_or.C] : impl_testReader_row.NX := ⟨102, ⟨_, Try.func102, by kernel_rfl, rfl⟩, impl_testReader_and.f, impl_testReader_and.calls⟩
theorem impl_testReader_or1.rw_ [impl_testReader_or.C] (k : Nat) (g : Nat) (s0_0 : ByteArray) (s0_1 : Int) (s0_2 : Int) (s0_3 : Bool) (a1 : Int) (r1 : Int) (r2 : ByteArray) (r3 : List (S133)) (r4 : ByteArray) (r5 : Int) (r6 : Int) (r7 : Bool) (w0 w : World) (hI : IsS142 w0 w g s0_0 s0_1 s0_2 s0_3) (hB : Below w0.heap.size w0 w) (h : @impl_testReader_row.f impl_testReader_and.nx k s0_0 s0_1 s0_2 s0_3 a1 = some (r1, r2, r3, r4, r5, r6, r7)) : Calls Try.prog 101 #[.pointer (some ⟨g, 0, none⟩), .int .u8 a1, .func (Fn.func 102) #[.pointer (some ⟨g, 0, none⟩)] #[]] w fun e w' => ∃ v2_ : Value, e = .returned (.agg #[.int .u8 r1, .string r2, v2_]) ∧ Kd.V k133 133 w' w.heap.size (fun k_ => (w.heap.size ≤ k_)) v2_ r3 ∧ IsS142 w0 w' g r4 r5 r6 r7 ∧ Below w0.heap.size w0 w' ∧ KeepBut w w' g none := @impl_testReader_row.calls impl_testReader_and.nx k g s0_0 s0_1 s0_2 s0_3 a1 r1 r2 r3 r4 r5 r6 r7 w0 w hI hB h
theorem impl_testReader_or1.a1_ {p : Prop} (h : p := by repeat (first | (with_reducible first | exact HI0.out | apply IsS142.alloc | apply IsS142.drewN | apply IsS142.drew | apply IsS142.set_0 | apply IsS142.set_1 | apply IsS142.set_2 | apply IsS142.set_3) | exact HI0.out)) : p := h
theorem impl_testReader_or1.a2_ {p : Prop} (h : p := by repeat (first | (with_reducible first | exact HK.out | apply KeepBut.set_ | apply keep_drewN | apply keep_drew | apply keep_alloc) | exact HK.out)) : p := h
theorem impl_testReader_or1.a3_ {p : Prop} (h : p := by repeat (first | (with_reducible first | exact HI0.out | apply IsS142.alloc | apply IsS142.drewN | apply IsS142.drew | apply IsS142.set_0 | apply IsS142.set_1 | apply IsS142.set_2 | apply IsS142.set_3 | apply IsS142.far (p := ⟨gb336, _, none⟩) (hne := NB0_336.out)) | exact HI0.out)) : p := h
theorem impl_testReader_or1.a4_ {p : Prop} (h : p := by repeat (first | (with_reducible first | exact HK.out | apply KeepBut.set_ | apply keep_drewN | apply keep_drew | apply keep_alloc | refine keep_far ?_ GW336.out _) | exact HK.out)) : p := h
section
variable [impl_testReader_or.C]
def impl_testReader_or1.f (k : Nat) (s0_0 : ByteArray) (s0_1 : Int) (s0_2 : Int) (s0_3 : Bool) : Option (Int × ByteArray × (List (S133)) × ByteArray × Int × Int × Bool) := (@impl_testReader_row.f impl_testReader_and.nx k s0_0 s0_1 s0_2 s0_3 124).bind fun bt337 => (some (bt337.1, bt337.2.1, bt337.2.2.1, bt337.2.2.2.1, bt337.2.2.2.2.1, bt337.2.2.2.2.2.1, bt337.2.2.2.2.2.2))
set_option maxHeartbeats 8000000 in
set_option maxRecDepth 100000 in
theorem impl_testReader_or1.calls (k : Nat) (g : Nat) (s0_0 : ByteArray) (s0_1 : Int) (s0_2 : Int) (s0_3 : Bool) (r1 : Int) (r2 : ByteArray) (r3 : List (S133)) (r4 : ByteArray) (r5 : Int) (r6 : Int) (r7 : Bool) (w0 w : World) (hI : IsS142 w0 w g s0_0 s0_1 s0_2 s0_3) (hB : Below w0.heap.size w0 w) (h : impl_testReader_or1.f k s0_0 s0_1 s0_2 s0_3 = some (r1, r2, r3, r4, r5, r6, r7)) :
  Calls Try.prog 98 #[.pointer (some ⟨g, 0, none⟩)] w fun e w' => ∃ v2_ : Value, e = .returned (.agg #[.int .u8 r1, .string r2, v2_]) ∧ Kd.V k133 133 w' w.heap.size (fun k_ => (w.heap.size ≤ k_)) v2_ r3 ∧ IsS142 w0 w' g r4 r5 r6 r7 ∧ Below w0.heap.size w0 w' ∧ KeepBut w w' g none := by
 have hu133 := Try.underlying133
 have HI0 := Aside0.mk hI
 have HK := Aside0.mk (KeepBut.refl w g none)
 have HL := Aside0.mk hB.size
 clear hI
 have HW0 := Aside0.mk hB.size
 have HB := Aside0.mk hB
 clear hB
 have H : ((@impl_testReader_row.f impl_testReader_and.nx k s0_0 s0_1 s0_2 s0_3 124).bind fun bt337 => (some (bt337.1, bt337.2.1, bt337.2.2.1, bt337.2.2.2.1, bt337.2.2.2.2.1, bt337.2.2.2.2.2.1, bt337.2.2.2.2.2.2))) = some (r1, r2, r3, r4, r5, r6, r7) := h
 clear h
 replace H := Option.bind_eq_some_iff.mp H
 obtain ⟨⟨t337, t338, t339, t342, t343, t344, t345⟩, A20, H⟩ := H
 replace H : (some (t337, t338, t339, t342, t343, t344, t345)) = some (r1, r2, r3, r4, r5, r6, r7) := H
 have A2 := Aside0.mk A20
 clear A20
 simp only [Option.some.injEq, Prod.mk.injEq] at H
 obtain ⟨rfl, rfl, rfl, rfl, rfl, rfl, rfl⟩ := H
 go_enter Try.func98, Try.ntmps98
 go_wp2_with (first | ((with_reducible refine gate_dst (N := 2) rfl ?_); refine box_event ?hg (N := 2) ?hd (cs := #[.int .u8 0, .string (⟨#[]⟩ : ByteArray), .slice none 0 0]) (t := 133) ?hr ?_; (case hd => rfl); (case hg => rfl); (case hr => first | (go_simp; done) | (go_simp; rfl)); intro gb336 hg w3 hbox hb; have n_ := c8_ (IsS142.below (a1_) hb) (KeepBut.trans (a2_) (KeepBut.of_below hb g none) (.inl rfl)) (below_step (by repeat (first | (with_reducible first | exact HB.out | apply below_alloc | apply pw_below_drewN | apply below_drew1 | refine below_set ?_ (IsS142.ge HI0.out)) | exact HB.out)) hb) (hbox) ((by rw [hg]; exact (keep_size (w := w) (g := g) (row := none) (a2_)) : w.heap.size ≤ gb336)) ((Nat.le_trans HW0.out (by rw [hg]; exact (keep_size (w := w) (g := g) (row := none) (a2_)) : w.heap.size ≤ gb336) : w0.heap.size ≤ gb336)) ((by rw [hg]; exact Nat.ne_of_lt (IsS142.lt (show IsS142 w0 _ g s0_0 s0_1 s0_2 s0_3 from a1_)) : g ≠ gb336)) ((by rw [hg]; exact Nat.ne_of_gt (IsS142.lt (show IsS142 w0 _ g s0_0 s0_1 s0_2 s0_3 from a1_)) : gb336 ≠ g)); clear HI0 HK HB; obtain ⟨HI0, HK, HB, BK336, GW336, GE336, NB0_336, NB336_0⟩ := n_; clear hb hbox hg) | ((with_reducible refine gate_callee (f := 101) rfl ?_); refine goesL_ (some 6) rfl rfl Try.func101 (by kernel_rfl) rfl #[.pointer (some ⟨g, 0, none⟩), .int .u8 124, .func (Fn.func 102) #[.pointer (some ⟨g, 0, none⟩)] #[]] rfl (by (try simp only [List.map_toArray, List.map_cons, List.map_nil]); first | done | rfl | (simp only [List.length_drop, List.length_take]; rfl)) ?_; (with_reducible refine (impl_testReader_or1.rw_ k g s0_0 s0_1 s0_2 s0_3 124 t337 t338 t339 t342 t343 t344 t345 w0 _ ?side1 ?side2 A2.out).mono ?_); (case side1 => exact a3_); (case side2 => exact by repeat (first | (with_reducible first | exact HB.out | apply below_alloc | apply pw_below_drewN | apply below_drew1 | refine below_set ?_ (IsS142.ge HI0.out) | refine below_set ?_ GE336.out) | exact HB.out)); rintro e w4 ⟨v340, rfl, ho0, hi, hb, hk⟩; refine ⟨_, rfl, ?_⟩; have n_ := c5_ (KeepBut.blk hk (g' := gb336) (o := .cells #[.int .u8 0, .string (⟨#[]⟩ : ByteArray), .slice none 0 0] 133 (0, 0)) (by (with_reducible repeat (first | refine blk_drewN ?_ _ | refine blk_drew ?_ | refine blk_alloc ?_ _)); exact BK336.out) NB336_0.out (by simp)) (Kd.V_lower (Kd.V_mono (ok' := fun k_ => (w.heap.size ≤ k_) ∧ k_ ≠ gb336 ∧ k_ ≠ g) ho0 (fun k_ hk_ => ⟨(Nat.le_trans (keep_size (w := w) (g := g) (row := none) (a4_)) hk_), (Kd.freshB (g := gb336) (o := .cells #[.int .u8 0, .string (⟨#[]⟩ : ByteArray), .slice none 0 0] 133 (0, 0)) (by (with_reducible repeat (first | refine blk_drewN ?_ _ | refine blk_drew ?_ | refine blk_alloc ?_ _)); exact BK336.out) k_ hk_), (IsS142.fresh (a3_) k_ hk_)⟩)) (keep_size (w := w) (g := g) (row := none) (a4_))) (KeepBut.trans (a4_) hk (.inl rfl)) (hb) (hi); clear BK336 HK HB HI0; obtain ⟨BK336, HO341, HK, HB, HI0⟩ := n_; (try clear hb); (try clear hb2); (try clear hk); (try clear hi); (try clear ho0); have hnb5 := NB336_0.out; have hnc5 := NB0_336.out; have hcz6_0 : w4.cell? ⟨gb336, 0, none⟩ = some (.int .u8 0) := (blk_cell BK336.out 0).trans rfl; have hcz6_1 : w4.cell? ⟨gb336, 1, none⟩ = some (.string (⟨#[]⟩ : ByteArray)) := (blk_cell BK336.out 1).trans rfl; have hcz6_2 : w4.cell? ⟨gb336, 2, none⟩ = some (.slice none 0 0) := (blk_cell BK336.out 2).trans rfl; have hfz6_0 := blk_frozen BK336.out 0; have hfz6_1 := blk_frozen BK336.out 1; have hfz6_2 := blk_frozen BK336.out 2; obtain ⟨Ao7, co7, eo7⟩ := Kd.V_slice HO341.out; subst eo7))
 refine bodyPost_ret (results_cell_row rfl _ _ gb336 133 #[.int .u8 t337, .string t338, .slice Ao7 t339.length co7] (0, 0) _ rfl (by (with_reducible repeat (first | refine blk_drewN ?_ _ | refine blk_drew ?_ | refine blk_alloc ?_ _)); refine blk_put (cs := #[.int .u8 t337, .string t338, .slice none 0 0]) ?_ 2 _ rfl; (with_reducible repeat (first | refine blk_drewN ?_ _ | refine blk_drew ?_ | refine blk_alloc ?_ _)); refine blk_put (cs := #[.int .u8 t337, .string (⟨#[]⟩ : ByteArray), .slice none 0 0]) ?_ 1 _ rfl; (with_reducible repeat (first | refine blk_drewN ?_ _ | refine blk_drew ?_ | refine blk_alloc ?_ _)); refine blk_put (cs := #[.int .u8 0, .string (⟨#[]⟩ : ByteArray), .slice none 0 0]) ?_ 0 _ rfl; (with_reducible repeat (first | refine blk_drewN ?_ _ | refine blk_drew ?_ | refine blk_alloc ?_ _)); exact BK336.out) Try.underlying133 rfl (by kernel_rfl)) rfl ?_
 exact ⟨_, by first | rfl | (simp [errW_none, errW_some] <;> rfl) | (simp [*, errW_none, errW_some] <;> rfl), by (with_reducible repeat (first | apply Kd.V_alloc | apply Kd.V_drewN | apply Kd.V_drew)); exact Kd.V_mono (Kd.V_far (p := ⟨gb336, 2, none⟩) (Kd.V_far (p := ⟨gb336, 1, none⟩) (Kd.V_far (p := ⟨gb336, 0, none⟩) (Kd.V_mono HO341.out (fun k_ hk => (⟨hk, hk.2.1⟩ : _ ∧ k_ ≠ gb336))) (fun _ hk => hk.2) (.int .u8 t337)) (fun _ hk => hk.2) (.string t338)) (fun _ hk => hk.2) (.slice Ao7 t339.length co7)) (fun _ hk => hk.1.1), a3_, by repeat (first | (with_reducible first | exact HB.out | apply below_alloc | apply pw_below_drewN | apply below_drew1 | refine below_set ?_ (IsS142.ge HI0.out) | refine below_set ?_ GE336.out) | exact HB.out), a4_⟩
end

/-! ### impl_testReader_or2: function 98 -/
structure impl_testReader_or2.B where
 c : impl_testReader_or.C
def impl_testReader_or2.I : Nat → impl_testReader_or2.B
 | 0 => ⟨⟨fun _ _ _ _ => none, fun g s0_0 s0_1 s0_2 s0_3 r1 r2 r3 r4 r5 r6 r7 w0 w hI hB h => by cases h⟩⟩
 | k + 1 => ⟨⟨fun s0_0 s0_1 s0_2 s0_3 => @impl_testReader_or1.f (impl_testReader_or2.I k).c k s0_0 s0_1 s0_2 s0_3, fun g s0_0 s0_1 s0_2 s0_3 r1 r2 r3 r4 r5 r6 r7 w0 w hI hB h => @impl_testReader_or1.calls (impl_testReader_or2.I k).c k g s0_0 s0_1 s0_2 s0_3 r1 r2 r3 r4 r5 r6 r7 w0 w hI hB h⟩⟩
def impl_testReader_or2.f (k : Nat) (s0_0 : ByteArray) (s0_1 : Int) (s0_2 : Int) (s0_3 : Bool) : Option (Int × ByteArray × (List (S133)) × ByteArray × Int × Int × Bool) := (impl_testReader_or2.I k).c.f s0_0 s0_1 s0_2 s0_3
theorem impl_testReader_or2.calls (k : Nat) (g : Nat) (s0_0 : ByteArray) (s0_1 : Int) (s0_2 : Int) (s0_3 : Bool) (r1 : Int) (r2 : ByteArray) (r3 : List (S133)) (r4 : ByteArray) (r5 : Int) (r6 : Int) (r7 : Bool) (w0 w : World) (hI : IsS142 w0 w g s0_0 s0_1 s0_2 s0_3) (hB : Below w0.heap.size w0 w) (h : impl_testReader_or2.f k s0_0 s0_1 s0_2 s0_3 = some (r1, r2, r3, r4, r5, r6, r7)) : Calls Try.prog 98 #[.pointer (some ⟨g, 0, none⟩)] w fun e w' => ∃ v2_ : Value, e = .returned (.agg #[.int .u8 r1, .string r2, v2_]) ∧ Kd.V k133 133 w' w.heap.size (fun k_ => (w.heap.size ≤ k_)) v2_ r3 ∧ IsS142 w0 w' g r4 r5 r6 r7 ∧ Below w0.heap.size w0 w' ∧ KeepBut w w' g none := (impl_testReader_or2.I k).c.calls g s0_0 s0_1 s0_2 s0_3 r1 r2 r3 r4 r5 r6 r7 w0 w hI hB h

/-! ### impl_test_rank: function 104 -/
def impl_test_rank.f (a0_0 : Int) (a0_1 : ByteArray) (l0_2 : List (S133)) : Option (Int) := if a0_0 = 124 then (some 1) else (if a0_0 = 38 then (some 2) else (some 3))
theorem impl_test_rank.a1_ {p : Prop} (h : p := by repeat (first | (with_reducible first | exact HB.out | apply below_alloc | apply pw_below_drewN | apply below_drew1) | exact HB.out)) : p := h
theorem impl_test_rank.a2_ {p : Prop} (h : p := by repeat (first | (with_reducible first | exact HB.out | apply below_alloc | apply pw_below_drewN | apply below_drew1 | refine below_set ?_ GE346.out) | exact HB.out)) : p := h
set_option maxHeartbeats 8000000 in
set_option maxRecDepth 100000 in
theorem impl_test_rank.calls (a0_0 : Int) (a0_1 : ByteArray) (A0_2 : Option Addr) (c0_2 : Nat) (l0_2 : List (S133)) (r : Int) (w : World) (hr0_2 : Kd.C k133 w A0_2 l0_2.length l0_2) (hc0_2 : l0_2.length ≤ c0_2) (h : impl_test_rank.f a0_0 a0_1 l0_2 = some r) :
  Calls Try.prog 104 #[.agg #[.int .u8 a0_0, .string a0_1, .slice A0_2 l0_2.length c0_2]] w fun e w' => e = .returned (.int .i64 r) ∧ Below w.heap.size w w' := by
 have hu133 := Try.underlying133
 have HR0_2 := Aside0.mk hr0_2
 have HC0_2 := Aside0.mk hc0_2
 clear hr0_2 hc0_2
 have HB := Aside0.mk (Below.refl w.heap.size w)
 have H : (if a0_0 = 124 then (some 1) else (if a0_0 = 38 then (some 2) else (some 3))) = some r := h
 clear h
 by_cases c2 : a0_0 = 124
 ·rw [if_pos c2] at H
  have c2b0 : (a0_0 == 124) = true := beq_iff_eq.mpr c2
  have c2b1 : (a0_0 != 124) = false := bne_eq_false_iff_eq.mpr c2
  clear c2
  obtain rfl := Option.some.inj H
  go_enter Try.func104, Try.ntmps104
  go_wp2_with (first | ((with_reducible refine gate_dst (N := 1) rfl ?_); refine box_event ?hg (N := 1) ?hd (cs := #[.int .u8 a0_0, .string a0_1, .slice A0_2 l0_2.length c0_2]) (t := 133) ?hr ?_; (case hd => rfl); (case hg => rfl); (case hr => first | (go_simp; done) | (go_simp; rfl)); intro gb346 hg w3 hbox hb; have n_ := c4_ (below_step (a1_) hb) (hbox) ((by rw [hg]; exact (below_size (a1_)) : w.heap.size ≤ gb346)) ((by rw [hg]; exact (below_size (a1_)) : w.heap.size ≤ gb346)); clear HB; obtain ⟨HB, BK346, GW346, GE346⟩ := n_; clear hb hbox hg; have hcz4_0 : w3.cell? ⟨gb346, 0, none⟩ = some (.int .u8 a0_0) := (blk_cell BK346.out 0).trans rfl; have hcz4_1 : w3.cell? ⟨gb346, 1, none⟩ = some (.string a0_1) := (blk_cell BK346.out 1).trans rfl; have hcz4_2 : w3.cell? ⟨gb346, 2, none⟩ = some (.slice A0_2 l0_2.length c0_2) := (blk_cell BK346.out 2).trans rfl; have hfz4_0 := blk_frozen BK346.out 0; have hfz4_1 := blk_frozen BK346.out 1; have hfz4_2 := blk_frozen BK346.out 2))
  go_ret
  exact ⟨by first | rfl | (simp [errW_none, errW_some] <;> rfl) | (simp [*, errW_none, errW_some] <;> rfl), a2_⟩
 ·rw [if_neg c2] at H
  have c2b0 : (a0_0 == 124) = false := beq_eq_false_iff_ne.mpr c2
  have c2b1 : (a0_0 != 124) = true := bne_iff_ne.mpr c2
  by_cases c5 : a0_0 = 38
  ·rw [if_pos c5] at H
   have c5b0 : (a0_0 == 38) = true := beq_iff_eq.mpr c5
   have c5b1 : (a0_0 != 38) = false := bne_eq_false_iff_eq.mpr c5
   clear c5
   obtain rfl := Option.some.inj H
   go_enter Try.func104, Try.ntmps104
   go_wp2_with (first | ((with_reducible refine gate_dst (N := 1) rfl ?_); refine box_event ?hg (N := 1) ?hd (cs := #[.int .u8 a0_0, .string a0_1, .slice A0_2 l0_2.length c0_2]) (t := 133) ?hr ?_; (case hd => rfl); (case hg => rfl); (case hr => first | (go_simp; done) | (go_simp; rfl)); intro gb346 hg w6 hbox hb; have n_ := c4_ (below_step (a1_) hb) (hbox) ((by rw [hg]; exact (below_size (a1_)) : w.heap.size ≤ gb346)) ((by rw [hg]; exact (below_size (a1_)) : w.heap.size ≤ gb346)); clear HB; obtain ⟨HB, BK346, GW346, GE346⟩ := n_; clear hb hbox hg; have hcz7_0 : w6.cell? ⟨gb346, 0, none⟩ = some (.int .u8 a0_0) := (blk_cell BK346.out 0).trans rfl; have hcz7_1 : w6.cell? ⟨gb346, 1, none⟩ = some (.string a0_1) := (blk_cell BK346.out 1).trans rfl; have hcz7_2 : w6.cell? ⟨gb346, 2, none⟩ = some (.slice A0_2 l0_2.length c0_2) := (blk_cell BK346.out 2).trans rfl; have hfz7_0 := blk_frozen BK346.out 0; have hfz7_1 := blk_frozen BK346.out 1; have hfz7_2 := blk_frozen BK346.out 2))
   go_ret
   exact ⟨by first | rfl | (simp [errW_none, errW_some] <;> rfl) | (simp [*, errW_none, errW_some] <;> rfl), a2_⟩
  ·rw [if_neg c5] at H
   have c5b0 : (a0_0 == 38) = false := beq_eq_false_iff_ne.mpr c5
   have c5b1 : (a0_0 != 38) = true := bne_iff_ne.mpr c5
   obtain rfl := Option.some.inj H
   go_enter Try.func104, Try.ntmps104
   go_wp2_with (first | ((with_reducible refine gate_dst (N := 1) rfl ?_); refine box_event ?hg (N := 1) ?hd (cs := #[.int .u8 a0_0, .string a0_1, .slice A0_2 l0_2.length c0_2]) (t := 133) ?hr ?_; (case hd => rfl); (case hg => rfl); (case hr => first | (go_simp; done) | (go_simp; rfl)); intro gb346 hg w8 hbox hb; have n_ := c4_ (below_step (a1_) hb) (hbox) ((by rw [hg]; exact (below_size (a1_)) : w.heap.size ≤ gb346)) ((by rw [hg]; exact (below_size (a1_)) : w.heap.size ≤ gb346)); clear HB; obtain ⟨HB, BK346, GW346, GE346⟩ := n_; clear hb hbox hg; have hcz9_0 : w8.cell? ⟨gb346, 0, none⟩ = some (.int .u8 a0_0) := (blk_cell BK346.out 0).trans rfl; have hcz9_1 : w8.cell? ⟨gb346, 1, none⟩ = some (.string a0_1) := (blk_cell BK346.out 1).trans rfl; have hcz9_2 : w8.cell? ⟨gb346, 2, none⟩ = some (.slice A0_2 l0_2.length c0_2) := (blk_cell BK346.out 2).trans rfl; have hfz9_0 := blk_frozen BK346.out 0; have hfz9_1 := blk_frozen BK346.out 1; have hfz9_2 := blk_frozen BK346.out 2))
   go_ret
   exact ⟨by first | rfl | (simp [errW_none, errW_some] <;> rfl) | (simp [*, errW_none, errW_some] <;> rfl), a2_⟩

/-! ### impl_test_show: function 99 -/
class impl_test_show.C where
 f : Int → ByteArray → List (S133) → Option (ByteArray)
 calls : ∀ (a0_0 : Int) (a0_1 : ByteArray) (A0_2 : Option Addr) (c0_2 : Nat) (l0_2 : List (S133)) (r : ByteArray) (w : World) (hr0_2 : Kd.C k133 w A0_2 l0_2.length l0_2) (hc0_2 : l0_2.length ≤ c0_2) (h : f a0_0 a0_1 l0_2 = some r), Calls Try.prog 99 #[.agg #[.int .u8 a0_0, .string a0_1, .slice A0_2 l0_2.length c0_2]] w fun e w' => e = .returned (.string r) ∧ Below w.heap.size w w'
def impl_test_show.f [impl_test_show.C] (a0_0 : Int) (a0_1 : ByteArray) (l0_2 : List (S133)) : Option (ByteArray) := impl_test_show.C.f a0_0 a0_1 l0_2
theorem impl_test_show.calls [impl_test_show.C] (a0_0 : Int) (a0_1 : ByteArray) (A0_2 : Option Addr) (c0_2 : Nat) (l0_2 : List (S133)) (r : ByteArray) (w : World) (hr0_2 : Kd.C k133 w A0_2 l0_2.length l0_2) (hc0_2 : l0_2.length ≤ c0_2) (h : impl_test_show.f a0_0 a0_1 l0_2 = some r) : Calls Try.prog 99 #[.agg #[.int .u8 a0_0, .string a0_1, .slice A0_2 l0_2.length c0_2]] w fun e w' => e = .returned (.string r) ∧ Below w.heap.size w w' := impl_test_show.C.calls a0_0 a0_1 A0_2 c0_2 l0_2 r w hr0_2 hc0_2 h

/-! ### impl_test_within: function 103 -/
theorem impl_test_within.a1_ {p : Prop} (h : p := by repeat (first | (with_reducible first | exact HB.out | apply below_alloc | apply pw_below_drewN | apply below_drew1) | exact HB.out)) : p := h
theorem impl_test_within.a2_ {p : Prop} (h : p := by (try simp only [List.map_toArray, List.map_cons, List.map_nil]); first | done | rfl | (simp only [List.length_drop, List.length_take]; rfl)) : p := h
theorem impl_test_within.a3_ {p : Prop} (h : p := by repeat (first | exact (Kd.C_below HR0_2.out HB.out) | (with_reducible refine Kd.C_alloc ?_ _) | (with_reducible refine Kd.C_drewN ?_ _) | (with_reducible refine Kd.C_drew ?_))) : p := h
theorem impl_test_within.a4_ {p : Prop} (h : p := by (with_reducible repeat (first | refine blk_drewN ?_ _ | refine blk_drew ?_ | refine blk_alloc ?_ _)); exact BK347.out) : p := h
theorem impl_test_within.a5_ {p : Prop} (h : p := by repeat (first | (with_reducible first | exact HB.out | apply below_alloc | apply pw_below_drewN | apply below_drew1 | refine below_set ?_ GE347.out) | exact HB.out)) : p := h
section
variable [impl_test_show.C]
def impl_test_within.f (a0_0 : Int) (a0_1 : ByteArray) (l0_2 : List (S133)) (a1 : Int) : Option (ByteArray) := (impl_test_rank.f a0_0 a0_1 l0_2).bind fun t348 => (if t348 ≥ a1 then ((impl_test_show.f a0_0 a0_1 l0_2).bind fun t349 => (some t349)) else ((impl_test_show.f a0_0 a0_1 l0_2).bind fun t350 => (if 1 + t350.size ≤ 9223372036854775807 then (if ((⟨#[40]⟩ : ByteArray) ++ t350).size + 1 ≤ 9223372036854775807 then (some (((⟨#[40]⟩ : ByteArray) ++ t350) ++ (⟨#[41]⟩ : ByteArray))) else (none)) else (none))))
set_option maxHeartbeats 8000000 in
set_option maxRecDepth 100000 in
theorem impl_test_within.calls (a0_0 : Int) (a0_1 : ByteArray) (A0_2 : Option Addr) (c0_2 : Nat) (l0_2 : List (S133)) (a1 : Int) (r : ByteArray) (w : World) (hr0_2 : Kd.C k133 w A0_2 l0_2.length l0_2) (hc0_2 : l0_2.length ≤ c0_2) (h : impl_test_within.f a0_0 a0_1 l0_2 a1 = some r) :
  Calls Try.prog 103 #[.agg #[.int .u8 a0_0, .string a0_1, .slice A0_2 l0_2.length c0_2], .int .i64 a1] w fun e w' => e = .returned (.string r) ∧ Below w.heap.size w w' := by
 have hu133 := Try.underlying133
 have HR0_2 := Aside0.mk hr0_2
 have HC0_2 := Aside0.mk hc0_2
 clear hr0_2 hc0_2
 have HB := Aside0.mk (Below.refl w.heap.size w)
 have H : ((impl_test_rank.f a0_0 a0_1 l0_2).bind fun t348 => (if t348 ≥ a1 then ((impl_test_show.f a0_0 a0_1 l0_2).bind fun t349 => (some t349)) else ((impl_test_show.f a0_0 a0_1 l0_2).bind fun t350 => (if 1 + t350.size ≤ 9223372036854775807 then (if ((⟨#[40]⟩ : ByteArray) ++ t350).size + 1 ≤ 9223372036854775807 then (some (((⟨#[40]⟩ : ByteArray) ++ t350) ++ (⟨#[41]⟩ : ByteArray))) else (none)) else (none))))) = some r := h
 clear h
 replace H := Option.bind_eq_some_iff.mp H
 obtain ⟨t348, A30, H⟩ := H
 replace H : (if t348 ≥ a1 then ((impl_test_show.f a0_0 a0_1 l0_2).bind fun t349 => (some t349)) else ((impl_test_show.f a0_0 a0_1 l0_2).bind fun t350 => (if 1 + t350.size ≤ 9223372036854775807 then (if ((⟨#[40]⟩ : ByteArray) ++ t350).size + 1 ≤ 9223372036854775807 then (some (((⟨#[40]⟩ : ByteArray) ++ t350) ++ (⟨#[41]⟩ : ByteArray))) else (none)) else (none)))) = some r := H
 have A3 := Aside0.mk A30
 clear A30
 by_cases c4 : t348 ≥ a1
 ·rw [if_pos c4] at H
  have c4b0 : decide (a1 ≤ t348) = true := decide_eq_true c4
  clear c4
  replace H := Option.bind_eq_some_iff.mp H
  obtain ⟨t349, A50, H⟩ := H
  replace H : (some t349) = some r := H
  have A5 := Aside0.mk A50
  clear A50
  obtain rfl := Option.some.inj H
  go_enter Try.func103, Try.ntmps103
  go_wp2_with (first | ((with_reducible refine gate_dst (N := 2) rfl ?_); refine box_event ?hg (N := 2) ?hd (cs := #[.int .u8 a0_0, .string a0_1, .slice A0_2 l0_2.length c0_2]) (t := 133) ?hr ?_; (case hd => rfl); (case hg => rfl); (case hr => first | (go_simp; done) | (go_simp; rfl)); intro gb347 hg w6 hbox hb; have n_ := c4_ (below_step (a1_) hb) (hbox) ((by rw [hg]; exact (below_size (a1_)) : w.heap.size ≤ gb347)) ((by rw [hg]; exact (below_size (a1_)) : w.heap.size ≤ gb347)); clear HB; obtain ⟨HB, BK347, GW347, GE347⟩ := n_; clear hb hbox hg; have hcz7_0 : w6.cell? ⟨gb347, 0, none⟩ = some (.int .u8 a0_0) := (blk_cell BK347.out 0).trans rfl; have hcz7_1 : w6.cell? ⟨gb347, 1, none⟩ = some (.string a0_1) := (blk_cell BK347.out 1).trans rfl; have hcz7_2 : w6.cell? ⟨gb347, 2, none⟩ = some (.slice A0_2 l0_2.length c0_2) := (blk_cell BK347.out 2).trans rfl; have hfz7_0 := blk_frozen BK347.out 0; have hfz7_1 := blk_frozen BK347.out 1; have hfz7_2 := blk_frozen BK347.out 2) | ((with_reducible refine gate_callee (f := 104) rfl ?_); refine goesL_ (some 6) rfl rfl Try.func104 (by kernel_rfl) rfl #[.agg #[.int .u8 a0_0, .string a0_1, .slice A0_2 l0_2.length c0_2]] rfl (a2_) ?_; (with_reducible refine (impl_test_rank.calls a0_0 a0_1 _ _ l0_2 t348 _ ?side1 ?side2 A3.out).mono ?_); (case side1 => exact a3_); (case side2 => exact HC0_2.out); rintro e w8 ⟨rfl, hb⟩; refine ⟨_, rfl, ?_⟩; have n_ := c2_ (blk_below (g := gb347) (o := .cells #[.int .u8 a0_0, .string a0_1, .slice A0_2 l0_2.length c0_2] 133 (0, 0)) (a4_) hb) (below_step (a5_) hb); clear BK347 HB; obtain ⟨BK347, HB⟩ := n_; (try clear hb); (try clear hb2); (try clear hk); (try clear hi); have hcz9_0 : w8.cell? ⟨gb347, 0, none⟩ = some (.int .u8 a0_0) := (blk_cell BK347.out 0).trans rfl; have hcz9_1 : w8.cell? ⟨gb347, 1, none⟩ = some (.string a0_1) := (blk_cell BK347.out 1).trans rfl; have hcz9_2 : w8.cell? ⟨gb347, 2, none⟩ = some (.slice A0_2 l0_2.length c0_2) := (blk_cell BK347.out 2).trans rfl; have hfz9_0 := blk_frozen BK347.out 0; have hfz9_1 := blk_frozen BK347.out 1; have hfz9_2 := blk_frozen BK347.out 2) | ((with_reducible refine gate_callee (f := 99) rfl ?_); refine goesL_ (some 10) rfl rfl Try.func99 (by kernel_rfl) rfl #[.agg #[.int .u8 a0_0, .string a0_1, .slice A0_2 l0_2.length c0_2]] rfl (a2_) ?_; (with_reducible refine (impl_test_show.calls a0_0 a0_1 _ _ l0_2 t349 _ ?side1 ?side2 A5.out).mono ?_); (case side1 => exact a3_); (case side2 => exact HC0_2.out); rintro e w10 ⟨rfl, hb⟩; refine ⟨_, rfl, ?_⟩; have n_ := c2_ (blk_below (g := gb347) (o := .cells #[.int .u8 a0_0, .string a0_1, .slice A0_2 l0_2.length c0_2] 133 (0, 0)) (a4_) hb) (below_step (a5_) hb); clear BK347 HB; obtain ⟨BK347, HB⟩ := n_; (try clear hb); (try clear hb2); (try clear hk); (try clear hi)))
  go_ret
  exact ⟨by first | rfl | (simp [errW_none, errW_some] <;> rfl) | (simp [*, errW_none, errW_some] <;> rfl), a5_⟩
 ·rw [if_neg c4] at H
  have c4b0 : decide (a1 ≤ t348) = false := decide_eq_false c4
  clear c4
  replace H := Option.bind_eq_some_iff.mp H
  obtain ⟨t350, A110, H⟩ := H
  replace H : (if 1 + t350.size ≤ 9223372036854775807 then (if ((⟨#[40]⟩ : ByteArray) ++ t350).size + 1 ≤ 9223372036854775807 then (some (((⟨#[40]⟩ : ByteArray) ++ t350) ++ (⟨#[41]⟩ : ByteArray))) else (none)) else (none)) = some r := H
  have A11 := Aside0.mk A110
  clear A110
  by_cases c12 : 1 + t350.size ≤ 9223372036854775807
  ·rw [if_pos c12] at H
   have c12b0 := eq_true c12
   have c12b1 : decide (1 + t350.size ≤ 9223372036854775807) = true := decide_eq_true c12
   try have c12b2 : (9223372036854775807 < 1 + t350.size) = False := eq_false (Nat.not_lt.2 c12)
   by_cases c13 : ((⟨#[40]⟩ : ByteArray) ++ t350).size + 1 ≤ 9223372036854775807
   ·rw [if_pos c13] at H
    have c13b0 := eq_true c13
    have c13s : (1 + (t350).size) + 1 ≤ 9223372036854775807 := by (have h_ := c13; (try simp only [ByteArray.size_append] at h_); first | exact h_ | omega)
    try have c13t : (9223372036854775807 < (1 + (t350).size) + 1) = False := eq_false (Nat.not_lt.2 c13s)
    have c13b1 : decide (((⟨#[40]⟩ : ByteArray) ++ t350).size + 1 ≤ 9223372036854775807) = true := decide_eq_true c13
    try have c13b2 : (9223372036854775807 < ((⟨#[40]⟩ : ByteArray) ++ t350).size + 1) = False := eq_false (Nat.not_lt.2 c13)
    obtain rfl := Option.some.inj H
    go_enter Try.func103, Try.ntmps103
    go_wp2_with (first | ((with_reducible refine gate_dst (N := 2) rfl ?_); refine box_event ?hg (N := 2) ?hd (cs := #[.int .u8 a0_0, .string a0_1, .slice A0_2 l0_2.length c0_2]) (t := 133) ?hr ?_; (case hd => rfl); (case hg => rfl); (case hr => first | (go_simp; done) | (go_simp; rfl)); intro gb347 hg w14 hbox hb; have n_ := c4_ (below_step (a1_) hb) (hbox) ((by rw [hg]; exact (below_size (a1_)) : w.heap.size ≤ gb347)) ((by rw [hg]; exact (below_size (a1_)) : w.heap.size ≤ gb347)); clear HB; obtain ⟨HB, BK347, GW347, GE347⟩ := n_; clear hb hbox hg; have hcz15_0 : w14.cell? ⟨gb347, 0, none⟩ = some (.int .u8 a0_0) := (blk_cell BK347.out 0).trans rfl; have hcz15_1 : w14.cell? ⟨gb347, 1, none⟩ = some (.string a0_1) := (blk_cell BK347.out 1).trans rfl; have hcz15_2 : w14.cell? ⟨gb347, 2, none⟩ = some (.slice A0_2 l0_2.length c0_2) := (blk_cell BK347.out 2).trans rfl; have hfz15_0 := blk_frozen BK347.out 0; have hfz15_1 := blk_frozen BK347.out 1; have hfz15_2 := blk_frozen BK347.out 2) | ((with_reducible refine gate_callee (f := 104) rfl ?_); refine goesL_ (some 6) rfl rfl Try.func104 (by kernel_rfl) rfl #[.agg #[.int .u8 a0_0, .string a0_1, .slice A0_2 l0_2.length c0_2]] rfl (a2_) ?_; (with_reducible refine (impl_test_rank.calls a0_0 a0_1 _ _ l0_2 t348 _ ?side1 ?side2 A3.out).mono ?_); (case side1 => exact a3_); (case side2 => exact HC0_2.out); rintro e w16 ⟨rfl, hb⟩; refine ⟨_, rfl, ?_⟩; have n_ := c2_ (blk_below (g := gb347) (o := .cells #[.int .u8 a0_0, .string a0_1, .slice A0_2 l0_2.length c0_2] 133 (0, 0)) (a4_) hb) (below_step (a5_) hb); clear BK347 HB; obtain ⟨BK347, HB⟩ := n_; (try clear hb); (try clear hb2); (try clear hk); (try clear hi); have hcz17_0 : w16.cell? ⟨gb347, 0, none⟩ = some (.int .u8 a0_0) := (blk_cell BK347.out 0).trans rfl; have hcz17_1 : w16.cell? ⟨gb347, 1, none⟩ = some (.string a0_1) := (blk_cell BK347.out 1).trans rfl; have hcz17_2 : w16.cell? ⟨gb347, 2, none⟩ = some (.slice A0_2 l0_2.length c0_2) := (blk_cell BK347.out 2).trans rfl; have hfz17_0 := blk_frozen BK347.out 0; have hfz17_1 := blk_frozen BK347.out 1; have hfz17_2 := blk_frozen BK347.out 2) | ((with_reducible refine gate_callee (f := 99) rfl ?_); refine goesL_ (some 12) rfl rfl Try.func99 (by kernel_rfl) rfl #[.agg #[.int .u8 a0_0, .string a0_1, .slice A0_2 l0_2.length c0_2]] rfl (a2_) ?_; (with_reducible refine (impl_test_show.calls a0_0 a0_1 _ _ l0_2 t350 _ ?side1 ?side2 A11.out).mono ?_); (case side1 => exact a3_); (case side2 => exact HC0_2.out); rintro e w18 ⟨rfl, hb⟩; refine ⟨_, rfl, ?_⟩; have n_ := c2_ (blk_below (g := gb347) (o := .cells #[.int .u8 a0_0, .string a0_1, .slice A0_2 l0_2.length c0_2] 133 (0, 0)) (a4_) hb) (below_step (a5_) hb); clear BK347 HB; obtain ⟨BK347, HB⟩ := n_; (try clear hb); (try clear hb2); (try clear hk); (try clear hi)))
    go_ret
    exact ⟨by first | rfl | (simp [errW_none, errW_some] <;> rfl) | (simp [*, errW_none, errW_some] <;> rfl), a5_⟩
   ·rw [if_neg c13] at H
    exact absurd H (by simp)
  ·rw [if_neg c12] at H
   exact absurd H (by simp)
end

/-! ### strings_Join: function 105 -/
def strings_Join.f (l0 : List ByteArray) (a1 : ByteArray) : Option (ByteArray) := if l0.length ≤ 140737488355328 ∧ (Lib.join (l0.map (·.data.toList)) a1.data.toList).length ≤ 140737488355328 then some ⟨(Lib.join (l0.map (·.data.toList)) a1.data.toList).toArray⟩ else none
theorem strings_Join.calls (A0 : Option Addr) (c0 : Nat) (l0 : List ByteArray) (a1 : ByteArray) (r : ByteArray) (w : World) (hr0 : Kd.C Kd.string w A0 l0.length l0) (hc0 : l0.length ≤ c0) (h : strings_Join.f l0 a1 = some r) :
  Calls Try.prog 105 #[.slice A0 l0.length c0, .string a1] w fun e w' => e = .returned (.string r) ∧ Below w.heap.size w w' := by
 unfold strings_Join.f at h
 by_cases hl : l0.length ≤ 140737488355328 ∧ (Lib.join (l0.map (·.data.toList)) a1.data.toList).length ≤ 140737488355328
 case neg => rw [if_neg hl] at h; cases h
 rw [if_pos hl] at h
 obtain rfl := Option.some.inj h
 cases l0 with
 | nil =>
  refine (Try.strings_Join_none A0 c0 a1 w).mono ?_
  rintro e w' ⟨rfl, rfl⟩
  exact ⟨rfl, Below.refl _ _⟩
 | cons x xs =>
  have hlen : (0 : Int) < ((x :: xs).length : Int) := by simp only [List.length_cons]; omega
  obtain ⟨⟨b, o, s⟩, rfl, h0⟩ := Kd.at_string hr0 0 (by omega) hlen
  have hs : s = none := by
   cases s with
   | none => rfl
   | some z =>
    exfalso
    simp only [Int.toNat_zero, Addr.add, if_pos, World.cell?] at h0
    cases hb : w.heap[b]? with
    | none => rw [hb] at h0; cases h0
    | some q => rw [hb] at h0; cases q <;> simp at h0
  subst hs
  have hb : b < w.heap.size := by
   have := World.block_lt_of_cell? w _ h0
   simpa [Addr.add] using this
  refine (Try.strings_Join b o c0 (x :: xs) a1 w ?_ hb hl.1 hc0 hl.2).mono (fun e w' h => h)
  intro j y hj
  obtain ⟨hjl, hy⟩ := List.getElem?_eq_some_iff.1 hj
  obtain ⟨ad, e1, hc⟩ := Kd.at_string hr0 (j : Int) (by omega) (by omega)
  injection e1 with e1
  subst e1
  have e2 : rdOf ByteArray.empty (x :: xs) (j : Int) = y := by
   simp only [rdOf, Int.toNat_natCast, List.getD_eq_getElem?_getD, hj, Option.getD_some]
  rw [e2] at hc
  have e3 : Addr.add ⟨b, o, none⟩ ((j : Int)).toNat = ⟨b, o + j, none⟩ := by
   simp only [Int.toNat_natCast, Addr.add]
   by_cases hj0 : j = 0
   ·subst hj0; rfl
   ·rw [if_neg hj0]
  rw [e3] at hc
  exact hc

end Go.Proofs.Ytmecapnpgedcnaa.PFnExactStepsFault
