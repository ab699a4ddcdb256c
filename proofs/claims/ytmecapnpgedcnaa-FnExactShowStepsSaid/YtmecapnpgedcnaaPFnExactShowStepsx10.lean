/- Walks of Go functions, written by program out of the print of the translation, with contracts of our own where the print has none. -/
import Derived.Test.YtmecapnpgedcnaaPFnExactShowStepsx8
import Derived.Test.YtmecapnpgedcnaaPFnExactShowStepsx0
import Derived.Test.YtmecapnpgedcnaaPFnExactShowStepsx7
import Derived.Test.YtmecapnpgedcnaaPFnExactShowStepsx9
namespace Go.Proofs.Ytmecapnpgedcnaa.PFnExactShowSteps
open Go.RowKit Go.Proofs.YtmecapnpgedcnaaW.PrintWords Go.Proofs.YtmecapnpgedcnaaW.PrintLast Go.Proofs.YtmecapnpgedcnaaW.PrintMore
attribute [local go_sem] max2_int min2_int max_two min_two max_three min_three max_four min_four   -- for this text's walks alone
set_option linter.unusedVariables false
set_option linter.unusedSimpArgs false

/-! ### impl_testReader_row: function 101 -/
class impl_testReader_row.NX where
 F : FuncId
 h : ∃ fn : Func, Try.prog.funcs[F]? = some fn ∧ (fn.name == "runtime.NumGoroutine") = false ∧ fn.body.isSome = true
 f : Nat → ByteArray → Int → Int → Bool → Option (Int × ByteArray × (List (S133)) × ByteArray × Int × Int × Bool)
 calls : ∀ (k : Nat) (g : Nat) (s0_0 : ByteArray) (s0_1 : Int) (s0_2 : Int) (s0_3 : Bool) (r1 : Int) (r2 : ByteArray) (r3 : List (S133)) (r4 : ByteArray) (r5 : Int) (r6 : Int) (r7 : Bool) (w0 w : World) (hI : IsS142 w0 w g s0_0 s0_1 s0_2 s0_3) (hB : Below w0.heap.size w0 w) (h : f k s0_0 s0_1 s0_2 s0_3 = some (r1, r2, r3, r4, r5, r6, r7)), Calls Try.prog F #[.pointer (some ⟨g, 0, none⟩)] w fun e w' => ∃ v2_ : Value, e = .returned (.agg #[.int .u8 r1, .string r2, v2_]) ∧ Kd.V k133 133 w' w.heap.size (fun k_ => (w.heap.size ≤ k_)) v2_ r3 ∧ IsS142 w0 w' g r4 r5 r6 r7 ∧ Below w0.heap.size w0 w' ∧ KeepBut w w' g none
def impl_testReader_row.T4 : Bool × List (List Nat × List Nat) := (true, [([], []), ([0], [0]), ([], []), ([2], [2]), ([3], [3]), ([1, 4, 3], [1, 4]), ([0, 1, 2, 3, 4, 5], []), ([6, 5, 5, 0, 1, 2, 3, 4, 5], [5, 6])])
def impl_testReader_row.B4 : List Nat := [0, 1, 0, 4, 12, 31, 63, 127]
theorem impl_testReader_row.tab4 : rtab .any (opsOf Try.f101 4) = impl_testReader_row.T4 := by kernel_rfl
theorem impl_testReader_row.bits4 : waitsOk impl_testReader_row.T4.2 impl_testReader_row.B4 = true := by kernel_rfl
theorem impl_testReader_row.a1_ {p : Prop} (h : p := by repeat (first | (with_reducible first | exact HI0.out | apply IsS142.alloc | apply IsS142.drewN | apply IsS142.drew | apply IsS142.set_0 | apply IsS142.set_1 | apply IsS142.set_2 | apply IsS142.set_3) | exact HI0.out)) : p := h
theorem impl_testReader_row.a2_ {p : Prop} (h : p := by repeat (first | (with_reducible first | exact HK.out | apply KeepBut.set_ | apply keep_drewN | apply keep_drew | apply keep_alloc) | exact HK.out)) : p := h
theorem impl_testReader_row.a3_ {p : Prop} (h : p := by repeat (first | (with_reducible first | exact HI0.out | apply IsS142.alloc | apply IsS142.drewN | apply IsS142.drew | apply IsS142.set_0 | apply IsS142.set_1 | apply IsS142.set_2 | apply IsS142.set_3 | apply IsS142.far (p := ⟨gb318, _, none⟩) (hne := NB0_318.out)) | exact HI0.out)) : p := h
theorem impl_testReader_row.a4_ {p : Prop} (h : p := by repeat (first | (with_reducible first | exact HB.out | apply below_alloc | apply pw_below_drewN | apply below_drew1 | refine below_set ?_ (IsS142.ge HI0.out) | refine below_set ?_ GE318.out) | exact HB.out)) : p := h
theorem impl_testReader_row.a5_ {p : Prop} (h : p := by (with_reducible repeat (first | refine blk_drewN ?_ _ | refine blk_drew ?_ | refine blk_alloc ?_ _)); exact BK318.out) : p := h
theorem impl_testReader_row.a6_ {p : Prop} (h : p := by repeat (first | (with_reducible first | exact HK.out | apply KeepBut.set_ | apply keep_drewN | apply keep_drew | apply keep_alloc | refine keep_far ?_ GW318.out _) | exact HK.out)) : p := h
theorem impl_testReader_row.a7_ {p : Prop} (h : p := by repeat (first | (with_reducible first | exact HI0.out | apply IsS142.alloc | apply IsS142.drewN | apply IsS142.drew | apply IsS142.set_0 | apply IsS142.set_1 | apply IsS142.set_2 | apply IsS142.set_3 | apply IsS142.far (p := ⟨gb318, _, none⟩) (hne := NB0_318.out) | apply IsS142.far (p := ⟨gb331, _, none⟩) (hne := NB0_331.out)) | exact HI0.out)) : p := h
theorem impl_testReader_row.a8_ {p : Prop} (h : p := by repeat (first | (with_reducible first | exact HK.out | apply KeepBut.set_ | apply keep_drewN | apply keep_drew | apply keep_alloc | refine keep_far ?_ GW318.out _ | refine keep_far ?_ GW331.out _) | exact HK.out)) : p := h
theorem impl_testReader_row.a9_ {p : Prop} (h : p := by repeat (first | (with_reducible first | exact HB.out | apply below_alloc | apply pw_below_drewN | apply below_drew1 | refine below_set ?_ (IsS142.ge HI0.out) | refine below_set ?_ GE318.out | refine below_set ?_ GE331.out) | exact HB.out)) : p := h
theorem impl_testReader_row.a10_ {p : Prop} (h : p := by (with_reducible repeat (first | refine blk_drewN ?_ _ | refine blk_drew ?_ | refine blk_alloc ?_ _)); refine blk_put (cs := #[.int .u8 ((rd_T133 x332002_1 0).f0), .string ((rd_T133 x332002_1 0).f1), .slice none 0 0]) ?_ 2 _ rfl; (with_reducible repeat (first | refine blk_drewN ?_ _ | refine blk_drew ?_ | refine blk_alloc ?_ _)); refine blk_put (cs := #[.int .u8 ((rd_T133 x332002_1 0).f0), .string (⟨#[]⟩ : ByteArray), .slice none 0 0]) ?_ 1 _ rfl; (with_reducible repeat (first | refine blk_drewN ?_ _ | refine blk_drew ?_ | refine blk_alloc ?_ _)); refine blk_put (cs := #[.int .u8 0, .string (⟨#[]⟩ : ByteArray), .slice none 0 0]) ?_ 0 _ rfl; (with_reducible repeat (first | refine blk_drewN ?_ _ | refine blk_drew ?_ | refine blk_alloc ?_ _)); exact BK318.out) : p := h
theorem impl_testReader_row.a11_ {p : Prop} (h : p := by first | rfl | (simp [errW_none, errW_some] <;> rfl) | (simp [*, errW_none, errW_some] <;> rfl)) : p := h
theorem impl_testReader_row.a12_ {p : Prop} (h : p := by (with_reducible repeat (first | refine blk_drewN ?_ _ | refine blk_drew ?_ | refine blk_alloc ?_ _)); refine blk_put (cs := #[.int .u8 a1, .string (⟨#[]⟩ : ByteArray), .slice none 0 0]) ?_ 2 _ rfl; (with_reducible repeat (first | refine blk_drewN ?_ _ | refine blk_drew ?_ | refine blk_alloc ?_ _)); refine blk_put (cs := #[.int .u8 a1, .string (⟨#[]⟩ : ByteArray), .slice none 0 0]) ?_ 1 _ rfl; (with_reducible repeat (first | refine blk_drewN ?_ _ | refine blk_drew ?_ | refine blk_alloc ?_ _)); refine blk_put (cs := #[.int .u8 0, .string (⟨#[]⟩ : ByteArray), .slice none 0 0]) ?_ 0 _ rfl; (with_reducible repeat (first | refine blk_drewN ?_ _ | refine blk_drew ?_ | refine blk_alloc ?_ _)); exact BK318.out) : p := h
theorem impl_testReader_row.a13_ {p : Prop} (h : p := by (with_reducible repeat (first | apply Kd.N_alloc | apply Kd.N_drewN | apply Kd.N_drew)); exact HO_332002.out) : p := h
theorem impl_testReader_row.a14_ {p : Prop} (h : p := by (with_reducible repeat (first | refine blk_drewN ?_ _ | refine blk_drew ?_ | refine blk_alloc ?_ _)); exact BK331.out) : p := h
section
variable [impl_testReader_row.NX]
def impl_testReader_row.l0 : Nat → Int → ByteArray → Int → Int → Bool → Int → ByteArray → List (S133) → Option (Int × ByteArray × (List (S133)) × ByteArray × Int × Int × Bool)
 | 0, _, _, _, _, _, _, _, _ => none
 | k + 1, x1, x1000, x1001, x1002, x1003, x332000, x332001, x332002 => if x1003 = true then (if (x332002.length : Int) = 1 then (if 0 < (x332002.length : Int) then (some ((rd_T133 x332002 0).f0, (rd_T133 x332002 0).f1, (rd_T133 x332002 0).f2, x1000, x1001, x1002, x1003)) else (none)) else (some (x332000, x332001, x332002, x1000, x1001, x1002, x1003))) else ((impl_testReader_peek.f x1000 x1001 x1002 x1003).bind fun bt333 => (if bt333.1 = x1 then ((impl_testReader_row.NX.f k bt333.2.1 (wrap64 (bt333.2.2.1 + 1)) bt333.2.2.2.1 bt333.2.2.2.2).bind fun bt338 => (if x332002.length < 2932031007402 then (impl_testReader_row.l0 k x1 bt338.2.2.2.1 bt338.2.2.2.2.1 bt338.2.2.2.2.2.1 bt338.2.2.2.2.2.2 x332000 x332001 (x332002 ++ [(⟨bt338.1, bt338.2.1, bt338.2.2.1⟩ : S133)])) else (none))) else (if (x332002.length : Int) = 1 then (if 0 < (x332002.length : Int) then (some ((rd_T133 x332002 0).f0, (rd_T133 x332002 0).f1, (rd_T133 x332002 0).f2, bt333.2.1, bt333.2.2.1, bt333.2.2.2.1, bt333.2.2.2.2)) else (none)) else (some (x332000, x332001, x332002, bt333.2.1, bt333.2.2.1, bt333.2.2.2.1, bt333.2.2.2.2)))))
def impl_testReader_row.f (k : Nat) (s0_0 : ByteArray) (s0_1 : Int) (s0_2 : Int) (s0_3 : Bool) (a1 : Int) : Option (Int × ByteArray × (List (S133)) × ByteArray × Int × Int × Bool) := (impl_testReader_row.NX.f k s0_0 s0_1 s0_2 s0_3).bind fun bt319 => (impl_testReader_row.l0 k a1 bt319.2.2.2.1 bt319.2.2.2.2.1 bt319.2.2.2.2.2.1 bt319.2.2.2.2.2.2 a1 (⟨#[]⟩ : ByteArray) (([(⟨bt319.1, bt319.2.1, bt319.2.2.1⟩ : S133)] : List (S133))))
set_option maxHeartbeats 8000000 in
set_option maxRecDepth 100000 in
theorem impl_testReader_row.calls (k : Nat) (g : Nat) (s0_0 : ByteArray) (s0_1 : Int) (s0_2 : Int) (s0_3 : Bool) (a1 : Int) (r1 : Int) (r2 : ByteArray) (r3 : List (S133)) (r4 : ByteArray) (r5 : Int) (r6 : Int) (r7 : Bool) (w0 w : World) (hI : IsS142 w0 w g s0_0 s0_1 s0_2 s0_3) (hB : Below w0.heap.size w0 w) (h : impl_testReader_row.f k s0_0 s0_1 s0_2 s0_3 a1 = some (r1, r2, r3, r4, r5, r6, r7)) :
  Calls Try.prog 101 #[.pointer (some ⟨g, 0, none⟩), .int .u8 a1, .func (Fn.func impl_testReader_row.NX.F) #[.pointer (some ⟨g, 0, none⟩)] #[]] w fun e w' => ∃ v2_ : Value, e = .returned (.agg #[.int .u8 r1, .string r2, v2_]) ∧ Kd.V k133 133 w' w.heap.size (fun k_ => (w.heap.size ≤ k_)) v2_ r3 ∧ IsS142 w0 w' g r4 r5 r6 r7 ∧ Below w0.heap.size w0 w' ∧ KeepBut w w' g none := by
 have hu133 := Try.underlying133
 have HI0 := Aside0.mk hI
 have HK := Aside0.mk (KeepBut.refl w g none)
 have HL := Aside0.mk hB.size
 clear hI
 have HW0 := Aside0.mk hB.size
 have HB := Aside0.mk hB
 clear hB
 have H : ((impl_testReader_row.NX.f k s0_0 s0_1 s0_2 s0_3).bind fun bt319 => (impl_testReader_row.l0 k a1 bt319.2.2.2.1 bt319.2.2.2.2.1 bt319.2.2.2.2.2.1 bt319.2.2.2.2.2.2 a1 (⟨#[]⟩ : ByteArray) (([(⟨bt319.1, bt319.2.1, bt319.2.2.1⟩ : S133)] : List (S133))))) = some (r1, r2, r3, r4, r5, r6, r7) := h
 clear h
 replace H := Option.bind_eq_some_iff.mp H
 obtain ⟨⟨t319, t320, t321, t324, t325, t326, t327⟩, A30, H⟩ := H
 try dsimp only at H
 have A3 := Aside0.mk A30
 clear A30
 obtain ⟨y328, hy328⟩ : ∃ y_ : List (S133), y_ = (([(⟨t319, t320, t321⟩ : S133)] : List (S133))) := ⟨_, rfl⟩
 replace H : (impl_testReader_row.l0 k a1 t324 t325 t326 t327 a1 (⟨#[]⟩ : ByteArray) y328) = some (r1, r2, r3, r4, r5, r6, r7) := by first | (rw [hy328]; with_reducible exact H) | (have H2_ := (Option.bind_some _ _).symm.trans H; rw [hy328]; with_reducible exact H2_) | (have H2_ := (Option.bind_some _ _).symm.trans H; with_reducible exact H2_) | with_reducible exact H | (rw [hy328]; exact H) | exact H
 have Ny328 := Aside0.mk hy328
 clear hy328
 have H' := Aside0.mk H
 clear H
 go_enter Try.func101, Try.ntmps101
 go_wp2_with (first | ((with_reducible refine gate_dst (N := 6) rfl ?_); refine box_event ?hg (N := 6) ?hd (cs := #[.int .u8 0, .string (⟨#[]⟩ : ByteArray), .slice none 0 0]) (t := 133) ?hr ?_; (case hd => rfl); (case hg => rfl); (case hr => first | (go_simp; done) | (go_simp; rfl)); intro gb318 hg w4 hbox hb; have n_ := c8_ (IsS142.below (a1_) hb) (KeepBut.trans (a2_) (KeepBut.of_below hb g none) (.inl rfl)) (below_step (by repeat (first | (with_reducible first | exact HB.out | apply below_alloc | apply pw_below_drewN | apply below_drew1 | refine below_set ?_ (IsS142.ge HI0.out)) | exact HB.out)) hb) (hbox) ((by rw [hg]; exact (keep_size (w := w) (g := g) (row := none) (a2_)) : w.heap.size ≤ gb318)) ((Nat.le_trans HW0.out (by rw [hg]; exact (keep_size (w := w) (g := g) (row := none) (a2_)) : w.heap.size ≤ gb318) : w0.heap.size ≤ gb318)) ((by rw [hg]; exact Nat.ne_of_lt (IsS142.lt (show IsS142 w0 _ g s0_0 s0_1 s0_2 s0_3 from a1_)) : g ≠ gb318)) ((by rw [hg]; exact Nat.ne_of_gt (IsS142.lt (show IsS142 w0 _ g s0_0 s0_1 s0_2 s0_3 from a1_)) : gb318 ≠ g)); clear HI0 HK HB; obtain ⟨HI0, HK, HB, BK318, GW318, GE318, NB0_318, NB318_0⟩ := n_; clear hb hbox hg) | ((with_reducible refine gate_dst (N := 10) rfl ?_); refine goesLbx_ (some 10) rfl rfl impl_testReader_row.NX.h #[.pointer (some ⟨g, 0, none⟩)] rfl (by first | rfl | (go_simp; done)) ?_; (with_reducible refine (impl_testReader_row.NX.calls k g s0_0 s0_1 s0_2 s0_3 t319 t320 t321 t324 t325 t326 t327 w0 _ ?side1 ?side2 A3.out).mono ?_); (case side1 => exact a3_); (case side2 => exact a4_); rintro e w5 ⟨v322, rfl, ho0, hi, hb, hk⟩; refine ⟨_, rfl, ?_⟩; have n_ := c5_ (KeepBut.blk hk (g' := gb318) (o := .cells #[.int .u8 0, .string (⟨#[]⟩ : ByteArray), .slice none 0 0] 133 (0, 0)) (a5_) NB318_0.out (by simp)) (Kd.V_lower (Kd.V_mono (ok' := fun k_ => (w.heap.size ≤ k_) ∧ k_ ≠ gb318 ∧ k_ ≠ g) ho0 (fun k_ hk_ => ⟨(Nat.le_trans (keep_size (w := w) (g := g) (row := none) (a6_)) hk_), (Kd.freshB (g := gb318) (o := .cells #[.int .u8 0, .string (⟨#[]⟩ : ByteArray), .slice none 0 0] 133 (0, 0)) (a5_) k_ hk_), (IsS142.fresh (a3_) k_ hk_)⟩)) (keep_size (w := w) (g := g) (row := none) (a6_))) (KeepBut.trans (a6_) hk (.inl rfl)) (hb) (hi); clear BK318 HK HB HI0; obtain ⟨BK318, HO323, HK, HB, HI0⟩ := n_; (try clear hb); (try clear hb2); (try clear hk); (try clear hi); (try clear ho0); obtain ⟨Ao6, co6, eo6⟩ := Kd.V_slice HO323.out; subst eo6) | ((with_reducible refine gate_dst (N := 11) rfl ?_); refine Kd.N_lit k133 _ 133 ?hg (N' := 11) ?hd (xs := ([(⟨t319, t320, t321⟩ : S133)] : List (S133))) (inner := [.int .u8 t319, .string t320, .slice Ao6 t321.length co6]) (ok := (fun k_ => (w.heap.size ≤ k_) ∧ k_ ≠ gb318 ∧ k_ ≠ g)) (okp := (fun k_ => (w.heap.size ≤ k_) ∧ k_ ≠ gb318 ∧ k_ ≠ g)) ?hr ?hp (fun _ hk => hk) ((show ∀ k_, w5.heap.size ≤ k_ → (fun k_ => (w.heap.size ≤ k_) ∧ k_ ≠ gb318 ∧ k_ ≠ g) k_ from fun k_ hk => ⟨(Nat.le_trans (keep_size (w := w) (g := g) (row := none) (a6_)) hk), Kd.freshB (g := gb318) (o := .cells #[.int .u8 0, .string (⟨#[]⟩ : ByteArray), .slice none 0 0] 133 (0, 0)) (a5_) k_ hk, IsS142.fresh (a3_) k_ hk⟩) _ (Nat.le_refl _)) (Below.refl _ _) (Nat.le_refl _) (by simp) ?_; (case hd => rfl); (case hg => rfl); (case hr => first | (go_simp; done) | (go_simp; rfl)); (case hp => exact (Reps.c3 (show Kd.FK k133 _ _ (⟨t319, t320, t321⟩ : S133) [.int .u8 t319, .string t320, .slice Ao6 t321.length co6] from (k133_mkF _ _ (⟨t319, t320, t321⟩ : S133) (Kd.V_reads' (Kd.V_mono (ok' := (fun k_ => (w.heap.size ≤ k_) ∧ k_ ≠ gb318 ∧ k_ ≠ g)) (HO323.out) (fun k_ hk => ⟨hk.1, ⟨hk.2.1, hk.2.2⟩⟩))).2.1 (Kd.V_F (Kd.V_mono (ok' := (fun k_ => (w.heap.size ≤ k_) ∧ k_ ≠ gb318 ∧ k_ ≠ g)) (HO323.out) (fun k_ hk => ⟨hk.1, ⟨hk.2.1, hk.2.2⟩⟩))))) (Reps.none _ _))); intro v329 w7 ho8 hb hg_ hnew_; clear hg_ hnew_; (first | rw [← Ny328.out] at ho8 | (simp only [Int.reduceToNat] at ho8; rw [← Ny328.out] at ho8)); have n_ := c6_ (Kd.V_elder' (by (with_reducible repeat (first | apply Kd.V_alloc | apply Kd.V_drewN | apply Kd.V_drew)); exact HO323.out) (Kd.N_base ho8) hb) (Kd.N_lower ho8 (keep_size (w := w) (g := g) (row := none) (a6_))) (IsS142.below (a3_) hb) (blk_below (g := gb318) (o := .cells #[.int .u8 0, .string (⟨#[]⟩ : ByteArray), .slice none 0 0] 133 (0, 0)) (a5_) hb) (KeepBut.trans (a6_) (KeepBut.of_below hb g none) (.inl rfl)) (below_step (a4_) hb); clear HO323 HI0 BK318 HK HB; obtain ⟨HO323, HO330, HI0, BK318, HK, HB⟩ := n_; clear hb ho8; obtain ⟨Ao9, co9, eo9⟩ := Kd.N_slice HO330.out; subst eo9) | ((with_reducible refine gate_dst (N := 7) rfl ?_); refine box_event ?hg (N := 7) ?hd (cs := #[.int .u8 0, .string (⟨#[]⟩ : ByteArray), .slice none 0 0]) (t := 133) ?hr ?_; (case hd => rfl); (case hg => rfl); (case hr => first | (go_simp; done) | (go_simp; rfl)); intro gb331 hg w10 hbox hb; have n_ := c13_ (Kd.V_below (Kd.V_elderB (by (with_reducible repeat (first | apply Kd.V_alloc | apply Kd.V_drewN | apply Kd.V_drew)); exact HO323.out) gb331 (Nat.le_of_eq hg.symm)) hb) (Kd.N_below (Kd.N_elderB (by (with_reducible repeat (first | apply Kd.N_alloc | apply Kd.N_drewN | apply Kd.N_drew)); exact HO330.out) gb331 (Nat.le_of_eq hg.symm)) hb) (IsS142.below (a3_) hb) (blk_below (g := gb318) (o := .cells #[.int .u8 0, .string (⟨#[]⟩ : ByteArray), .slice none 0 0] 133 (0, 0)) (a5_) hb) (KeepBut.trans (a6_) (KeepBut.of_below hb g none) (.inl rfl)) (below_step (a4_) hb) (hbox) ((by rw [hg]; exact (keep_size (w := w) (g := g) (row := none) (a6_)) : w.heap.size ≤ gb331)) ((Nat.le_trans HW0.out (by rw [hg]; exact (keep_size (w := w) (g := g) (row := none) (a6_)) : w.heap.size ≤ gb331) : w0.heap.size ≤ gb331)) ((by rw [hg]; exact Nat.ne_of_lt (blk_lt (g := gb318) (o := .cells #[.int .u8 0, .string (⟨#[]⟩ : ByteArray), .slice none 0 0] 133 (0, 0)) (a5_)) : gb318 ≠ gb331)) ((by rw [hg]; exact Nat.ne_of_gt (blk_lt (g := gb318) (o := .cells #[.int .u8 0, .string (⟨#[]⟩ : ByteArray), .slice none 0 0] 133 (0, 0)) (a5_)) : gb331 ≠ gb318)) ((by rw [hg]; exact Nat.ne_of_lt (IsS142.lt (show IsS142 w0 _ g t324 t325 t326 t327 from a3_)) : g ≠ gb331)) ((by rw [hg]; exact Nat.ne_of_gt (IsS142.lt (show IsS142 w0 _ g t324 t325 t326 t327 from a3_)) : gb331 ≠ g)); clear HO323 HO330 HI0 BK318 HK HB; obtain ⟨HO323, HO330, HI0, BK318, HK, HB, BK331, GW331, GE331, NB318_331, NB331_318, NB0_331, NB331_0⟩ := n_; clear hb hbox hg; have hnb11 := NB331_318.out; have hnc11 := NB318_331.out; have hnb12 := NB331_0.out; have hnc12 := NB0_331.out; obtain ⟨hcz13_0, hcz13_1, hcz13_2, hfz13_0, hfz13_1, hfz13_2⟩ := cf3_ BK331.out))
 go_loopg [] k (fun kq w' => ∃ (x1000_1 : ByteArray) (x1001_1 : Int) (x1002_1 : Int) (x1003_1 : Bool) (x332002_1 : List (S133)) (u332002 : Value), Aside0 (impl_testReader_row.l0 kq a1 x1000_1 x1001_1 x1002_1 x1003_1 a1 (⟨#[]⟩ : ByteArray) x332002_1 = some (r1, r2, r3, r4, r5, r6, r7)) ∧ Aside0 (kq ≤ k) ∧ Aside0 (Kd.N k133 133 w' w.heap.size (fun k_ => (w.heap.size ≤ k_) ∧ k_ ≠ gb318 ∧ k_ ≠ gb331 ∧ k_ ≠ g) u332002 x332002_1) ∧ Aside0 (w'.heap[gb318]? = some (.cells #[.int .u8 0, .string (⟨#[]⟩ : ByteArray), (.slice none 0 0)] 133 (0, 0))) ∧ Aside0 (w'.heap[gb331]? = some (.cells #[.int .u8 a1, .string (⟨#[]⟩ : ByteArray), u332002] 133 (0, 0))) ∧ Aside0 (IsS142 w0 w' g x1000_1 x1001_1 x1002_1 x1003_1) ∧ Aside0 (KeepBut w w' g none) ∧ Aside0 (Below w0.heap.size w0 w'))
 case atStart => exact ⟨(t324), (t325), (t326), (t327), (y328), (.slice Ao9 y328.length co9), H', ⟨Nat.le_refl _⟩, ⟨by (with_reducible repeat (first | apply Kd.N_alloc | apply Kd.N_drewN | apply Kd.N_drew)); exact Kd.N_mono (Kd.N_far (p := ⟨gb331, 2, none⟩) (Kd.N_far (p := ⟨gb331, 1, none⟩) (Kd.N_far (p := ⟨gb331, 0, none⟩) (Kd.N_mono HO330.out (fun k_ hk => (⟨hk, hk.2⟩ : _ ∧ k_ ≠ gb331))) (fun _ hk => hk.2) (.int .u8 a1)) (fun _ hk => hk.2) (.string (⟨#[]⟩ : ByteArray))) (fun _ hk => hk.2) (.slice Ao9 y328.length co9)) (fun _ hk => ⟨hk.1.1.1, ⟨hk.1.1.2.1, ⟨hk.1.2, hk.1.1.2.2⟩⟩⟩)⟩, ⟨by (with_reducible repeat (first | refine blk_drewN ?_ _ | refine blk_drew ?_ | refine blk_alloc ?_ _)); refine blk_far ?_ NB318_331.out _; (with_reducible repeat (first | refine blk_drewN ?_ _ | refine blk_drew ?_ | refine blk_alloc ?_ _)); refine blk_far ?_ NB318_331.out _; (with_reducible repeat (first | refine blk_drewN ?_ _ | refine blk_drew ?_ | refine blk_alloc ?_ _)); refine blk_far ?_ NB318_331.out _; (with_reducible repeat (first | refine blk_drewN ?_ _ | refine blk_drew ?_ | refine blk_alloc ?_ _)); exact BK318.out⟩, ⟨by (with_reducible repeat (first | refine blk_drewN ?_ _ | refine blk_drew ?_ | refine blk_alloc ?_ _)); refine blk_put (cs := #[.int .u8 a1, .string (⟨#[]⟩ : ByteArray), .slice none 0 0]) ?_ 2 _ rfl; (with_reducible repeat (first | refine blk_drewN ?_ _ | refine blk_drew ?_ | refine blk_alloc ?_ _)); refine blk_put (cs := #[.int .u8 a1, .string (⟨#[]⟩ : ByteArray), .slice none 0 0]) ?_ 1 _ rfl; (with_reducible repeat (first | refine blk_drewN ?_ _ | refine blk_drew ?_ | refine blk_alloc ?_ _)); refine blk_put (cs := #[.int .u8 0, .string (⟨#[]⟩ : ByteArray), .slice none 0 0]) ?_ 0 _ rfl; (with_reducible repeat (first | refine blk_drewN ?_ _ | refine blk_drew ?_ | refine blk_alloc ?_ _)); exact BK331.out⟩, ⟨a7_⟩, ⟨a8_⟩, ⟨a9_⟩⟩
 case round =>
  clear H'
  try clear c1
  try clear p2
  try clear c3
  try clear c10
  try clear c11
  try clear c12
  try clear hcz13_0
  try clear hcz13_1
  try clear hcz13_2
  try clear hfz13_0
  try clear hfz13_1
  try clear hfz13_2
  obtain ⟨x1000_1, x1001_1, x1002_1, x1003_1, x332002_1, u332002, HA, HK1, HO_332002, BK318, BK331, HI0, HK, HB⟩ := hrel
  cases gk with
  | zero => exact absurd HA.out (by simp [impl_testReader_row.l0])
  | succ k1 =>
   have H := HA.out
   clear HA
   simp only [impl_testReader_row.l0] at H
   by_cases c14 : x1003_1 = true
   ·subst c14
    rw [if_pos rfl] at H
    try dsimp only at H
    by_cases c15 : (x332002_1.length : Int) = 1
    ·rw [if_pos c15] at H
     have c15b0 : ((x332002_1.length : Int) == 1) = true := beq_iff_eq.mpr c15
     have c15b1 : ((x332002_1.length : Int) != 1) = false := bne_eq_false_iff_eq.mpr c15
     clear c15
     by_cases c16 : 0 < (x332002_1.length : Int)
     ·rw [if_pos c16] at H
      have c16b0 : decide (0 < (x332002_1.length : Int)) = true := decide_eq_true c16
      have c16b1 : decide (0 < x332002_1.length) = true := decide_eq_true (by omega)
      clear c16
      simp only [Option.some.injEq, Prod.mk.injEq] at H
      obtain ⟨rfl, rfl, rfl, rfl, rfl, rfl, rfl⟩ := H
      obtain ⟨HGz17, hgz17⟩ := HI0.out
      have hcz17_0 := cellS142_0 HGz17
      have hcz17_1 := cellS142_1 HGz17
      have hcz17_2 := cellS142_2 HGz17
      have hcz17_3 := cellS142_3 HGz17
      have hfz17_0 := blk_frozen HGz17 0
      have hfz17_1 := blk_frozen HGz17 1
      have hfz17_2 := blk_frozen HGz17 2
      have hfz17_3 := blk_frozen HGz17 3
      clear HGz17 hgz17
      have hnb18 := NB331_318.out
      have hnc18 := NB318_331.out
      have hnb19 := NB331_0.out
      have hnc19 := NB0_331.out
      obtain ⟨hcz20_0, hcz20_1, hcz20_2, hfz20_0, hfz20_1, hfz20_2⟩ := cf3_ BK331.out
      obtain ⟨Ao21, co21, eo21⟩ := Kd.N_slice HO_332002.out
      subst eo21
      have p332 : 0 ≤ (0 : Int) := (by omega)
      have q332 : 0 < (x332002_1.length : Int) := of_decide_eq_true (by first | (with_reducible assumption) | assumption)
      obtain ⟨ad332, A332_2, c332_2, e332, hx332_0, hx332_1, hx332_2, hl332_2, hi332_2⟩ := at_T133 (Kd.N_reads' HO_332002.out).2.2 0 p332 q332
      cases e332
      obtain ⟨ce332, hce332, hMe332, hcc332⟩ := Kd.N_get HO_332002.out z133 0 p332 (by first | exact q332 | exact of_decide_eq_true (by first | (with_reducible assumption) | assumption) | (have e_ := (Kd.N_reads' HO_332002.out).1; omega))
      obtain ⟨ua332_2, uc332_2, rfl, ul332_2, ge332_2⟩ := k133_openF hMe332
      have hv332_2 := hcc332 2 _ rfl
      rw [add_field _ _ 2 (by omega)] at hv332_2
      replace hv332_2 := Option.some.inj (hv332_2.symm.trans hx332_2)
      injection hv332_2 with hva_ hvn_ hvc_
      rw [hva_] at ge332_2
      rw [hvc_] at ul332_2
      have HL332_2 := Aside0.mk (show Kd.V k133 133 _ w.heap.size _ _ ((rd_T133 x332002_1 0).f2) from Kd.V_mk ul332_2 ge332_2)
      clear hva_ hvn_ hvc_ ge332_2 ul332_2
      clear hcc332 hce332
      have qi332 : (0 < x332002_1.length) = True := eq_true (by omega)
      (try rw [show ((0 : Int)).toNat = 0 from rfl] at hx332_0)
      (try rw [show 0 * 3 = 0 from rfl] at hx332_0)
      (try rw [Addr.add_zero'] at hx332_0)
      (try rw [show ((0 : Int)).toNat = 0 from rfl] at hx332_1)
      (try rw [show 0 * 3 = 0 from rfl] at hx332_1)
      (try rw [Addr.add_zero'] at hx332_1)
      (try rw [show ((0 : Int)).toNat = 0 from rfl] at hx332_2)
      (try rw [show 0 * 3 = 0 from rfl] at hx332_2)
      (try rw [Addr.add_zero'] at hx332_2)
      have HR332_2 := Aside0.mk hi332_2
      have HC332_2 := Aside0.mk hl332_2
      clear hi332_2 hl332_2
      replace p332 := eq_true p332
      replace q332 := eq_true q332
      have hnb22 := NB318_0.out
      have hnc22 := NB0_318.out
      obtain ⟨hcz23_0, hcz23_1, hcz23_2, hfz23_0, hfz23_1, hfz23_2⟩ := cf3_ BK318.out
      go_wp2
      refine bodyPost_ret (results_cell_row rfl _ _ gb318 133 #[.int .u8 ((rd_T133 x332002_1 0).f0), .string ((rd_T133 x332002_1 0).f1), .slice A332_2 ((rd_T133 x332002_1 0).f2).length c332_2] (0, 0) _ rfl (a10_) Try.underlying133 rfl (by kernel_rfl)) rfl ?_
      exact ⟨_, a11_, by (with_reducible repeat (first | apply Kd.V_alloc | apply Kd.V_drewN | apply Kd.V_drew)); exact Kd.V_mono (Kd.V_far (p := ⟨gb318, 2, none⟩) (Kd.V_far (p := ⟨gb318, 1, none⟩) (Kd.V_far (p := ⟨gb318, 0, none⟩) (Kd.V_mono HL332_2.out (fun k_ hk => (⟨hk, hk.1.2.1⟩ : _ ∧ k_ ≠ gb318))) (fun _ hk => hk.2) (.int .u8 ((rd_T133 x332002_1 0).f0))) (fun _ hk => hk.2) (.string ((rd_T133 x332002_1 0).f1))) (fun _ hk => hk.2) (.slice A332_2 ((rd_T133 x332002_1 0).f2).length c332_2)) (fun _ hk => hk.1.1.1), a7_, a9_, a8_⟩
     ·rw [if_neg c16] at H
      exact absurd H (by simp)
    ·rw [if_neg c15] at H
     have c15b0 : ((x332002_1.length : Int) == 1) = false := beq_eq_false_iff_ne.mpr c15
     have c15b1 : ((x332002_1.length : Int) != 1) = true := bne_iff_ne.mpr c15
     simp only [Option.some.injEq, Prod.mk.injEq] at H
     obtain ⟨rfl, rfl, rfl, rfl, rfl, rfl, rfl⟩ := H
     obtain ⟨HGz24, hgz24⟩ := HI0.out
     have hcz24_0 := cellS142_0 HGz24
     have hcz24_1 := cellS142_1 HGz24
     have hcz24_2 := cellS142_2 HGz24
     have hcz24_3 := cellS142_3 HGz24
     have hfz24_0 := blk_frozen HGz24 0
     have hfz24_1 := blk_frozen HGz24 1
     have hfz24_2 := blk_frozen HGz24 2
     have hfz24_3 := blk_frozen HGz24 3
     clear HGz24 hgz24
     have hnb25 := NB331_318.out
     have hnc25 := NB318_331.out
     have hnb26 := NB331_0.out
     have hnc26 := NB0_331.out
     obtain ⟨hcz27_0, hcz27_1, hcz27_2, hfz27_0, hfz27_1, hfz27_2⟩ := cf3_ BK331.out
     obtain ⟨Ao28, co28, eo28⟩ := Kd.N_slice HO_332002.out
     subst eo28
     have hnb29 := NB318_0.out
     have hnc29 := NB0_318.out
     obtain ⟨hcz30_0, hcz30_1, hcz30_2, hfz30_0, hfz30_1, hfz30_2⟩ := cf3_ BK318.out
     go_wp2
     refine bodyPost_ret (results_cell_row rfl _ _ gb318 133 #[.int .u8 a1, .string (⟨#[]⟩ : ByteArray), .slice Ao28 x332002_1.length co28] (0, 0) _ rfl (a12_) Try.underlying133 rfl (by kernel_rfl)) rfl ?_
     exact ⟨_, a11_, Kd.N_V (by (with_reducible repeat (first | apply Kd.N_alloc | apply Kd.N_drewN | apply Kd.N_drew)); exact Kd.N_mono (Kd.N_far (p := ⟨gb318, 2, none⟩) (Kd.N_far (p := ⟨gb318, 1, none⟩) (Kd.N_far (p := ⟨gb318, 0, none⟩) (Kd.N_mono HO_332002.out (fun k_ hk => (⟨hk, hk.2.1⟩ : _ ∧ k_ ≠ gb318))) (fun _ hk => hk.2) (.int .u8 a1)) (fun _ hk => hk.2) (.string (⟨#[]⟩ : ByteArray))) (fun _ hk => hk.2) (.slice Ao28 x332002_1.length co28)) (fun _ hk => hk.1.1)), a7_, a9_, a8_⟩
   ·replace c14 := Bool.eq_false_iff.mpr c14
    subst c14
    rw [if_neg (show ¬ (false = true) by decide)] at H
    try dsimp only at H
    replace H := Option.bind_eq_some_iff.mp H
    obtain ⟨⟨t333, t334, t335, t336, t337⟩, A310, H⟩ := H
    try dsimp only at H
    have A31 := Aside0.mk A310
    clear A310
    by_cases c32 : t333 = a1
    ·rw [if_pos c32] at H
     have c32b0 : (t333 == a1) = true := beq_iff_eq.mpr c32
     have c32b1 : (t333 != a1) = false := bne_eq_false_iff_eq.mpr c32
     clear c32
     replace H := Option.bind_eq_some_iff.mp H
     obtain ⟨⟨t338, t339, t340, t343, t344, t345, t346⟩, A330, H⟩ := H
     try dsimp only at H
     have A33 := Aside0.mk A330
     clear A330
     by_cases c34 : x332002_1.length < 2932031007402
     ·rw [if_pos c34] at H
      have LMc34 := Aside0.mk c34
      clear c34
      obtain ⟨y347, hy347⟩ : ∃ y_ : List (S133), y_ = (x332002_1 ++ [(⟨t338, t339, t340⟩ : S133)]) := ⟨_, rfl⟩
      replace H : (impl_testReader_row.l0 k1 a1 t343 t344 t345 t346 a1 (⟨#[]⟩ : ByteArray) y347) = some (r1, r2, r3, r4, r5, r6, r7) := by first | (rw [hy347]; with_reducible exact H) | (have H2_ := (Option.bind_some _ _).symm.trans H; rw [hy347]; with_reducible exact H2_) | (have H2_ := (Option.bind_some _ _).symm.trans H; with_reducible exact H2_) | with_reducible exact H | (rw [hy347]; exact H) | exact H
      have Ny347 := Aside0.mk hy347
      clear hy347
      have H' := Aside0.mk H
      clear H
      obtain ⟨HGz35, hgz35⟩ := HI0.out
      have hcz35_0 := cellS142_0 HGz35
      have hcz35_1 := cellS142_1 HGz35
      have hcz35_2 := cellS142_2 HGz35
      have hcz35_3 := cellS142_3 HGz35
      have hfz35_0 := blk_frozen HGz35 0
      have hfz35_1 := blk_frozen HGz35 1
      have hfz35_2 := blk_frozen HGz35 2
      have hfz35_3 := blk_frozen HGz35 3
      clear HGz35 hgz35
      try go_wp2_with (first | (go_at_call 107; (with_reducible refine (impl_testReader_peek.calls g x1000_1 x1001_1 x1002_1 false t333 t334 t335 t336 t337 w0 _ ?side1 ?side2 A31.out).mono ?_); (case side1 => exact a7_); (case side2 => exact a9_); rintro e w36 ⟨rfl, hi, hb, hk⟩; have n_ := c6_ (Kd.N_mono (Kd.N_keep (Kd.N_mono (ok := fun k_ => (((w.heap.size ≤ k_)) ∧ (k_ ≠ gb318 ∧ (k_ ≠ gb331 ∧ k_ ≠ g)))) (a13_) (fun k_ hk_ => (⟨hk_, hk_.2.2.2⟩ : _ ∧ k_ ≠ g))) hk (fun _ h => h.2)) (fun _ h => h.1)) (KeepBut.blk hk (g' := gb318) (o := .cells #[.int .u8 0, .string (⟨#[]⟩ : ByteArray), .slice none 0 0] 133 (0, 0)) (a5_) NB318_0.out (by simp)) (KeepBut.blk hk (g' := gb331) (o := .cells #[.int .u8 a1, .string (⟨#[]⟩ : ByteArray), u332002] 133 (0, 0)) (a14_) NB331_0.out (by simp)) (KeepBut.trans (a8_) hk (.inl rfl)) (hb) (hi); clear HO_332002 BK318 BK331 HK HB HI0; obtain ⟨HO_332002, BK318, BK331, HK, HB, HI0⟩ := n_; (try clear hb); (try clear hb2); (try clear hk); (try clear hi); obtain ⟨HGz37, hgz37⟩ := HI0.out; have hcz37_0 := cellS142_0 HGz37; have hcz37_1 := cellS142_1 HGz37; have hcz37_2 := cellS142_2 HGz37; have hcz37_3 := cellS142_3 HGz37; have hfz37_0 := blk_frozen HGz37 0; have hfz37_1 := blk_frozen HGz37 1; have hfz37_2 := blk_frozen HGz37 2; have hfz37_3 := blk_frozen HGz37 3; clear HGz37 hgz37))
      have n_ := c6_ (show Kd.N k133 133 (w36.setCell ⟨g, 1, none⟩ (.int .i64 (wrap64 (t335 + 1)))) w.heap.size (fun k_ => (w.heap.size ≤ k_) ∧ k_ ≠ gb318 ∧ k_ ≠ gb331 ∧ k_ ≠ g) u332002 x332002_1 from by (with_reducible repeat (first | apply Kd.N_alloc | apply Kd.N_drewN | apply Kd.N_drew)); exact Kd.N_mono (Kd.N_far (p := ⟨g, 1, none⟩) (Kd.N_mono HO_332002.out (fun k_ hk => (⟨hk, hk.2.2.2⟩ : _ ∧ k_ ≠ g))) (fun _ hk => hk.2) (.int .i64 (wrap64 (t335 + 1)))) (fun _ hk => ⟨hk.1.1, ⟨hk.1.2.1, ⟨hk.1.2.2.1, hk.1.2.2.2⟩⟩⟩)) (show (w36.setCell ⟨g, 1, none⟩ (.int .i64 (wrap64 (t335 + 1)))).heap[gb318]? = some (.cells #[.int .u8 0, .string (⟨#[]⟩ : ByteArray), .slice none 0 0] 133 (0, 0)) from by (with_reducible repeat (first | refine blk_drewN ?_ _ | refine blk_drew ?_ | refine blk_alloc ?_ _)); refine blk_far ?_ NB318_0.out _; (with_reducible repeat (first | refine blk_drewN ?_ _ | refine blk_drew ?_ | refine blk_alloc ?_ _)); exact BK318.out) (show (w36.setCell ⟨g, 1, none⟩ (.int .i64 (wrap64 (t335 + 1)))).heap[gb331]? = some (.cells #[.int .u8 a1, .string (⟨#[]⟩ : ByteArray), u332002] 133 (0, 0)) from by (with_reducible repeat (first | refine blk_drewN ?_ _ | refine blk_drew ?_ | refine blk_alloc ?_ _)); refine blk_far ?_ NB331_0.out _; (with_reducible repeat (first | refine blk_drewN ?_ _ | refine blk_drew ?_ | refine blk_alloc ?_ _)); exact BK331.out) (show IsS142 w0 (w36.setCell ⟨g, 1, none⟩ (.int .i64 (wrap64 (t335 + 1)))) g t334 (wrap64 (t335 + 1)) t336 t337 from a7_) (show KeepBut w (w36.setCell ⟨g, 1, none⟩ (.int .i64 (wrap64 (t335 + 1)))) g none from a8_) (show Below w0.heap.size w0 (w36.setCell ⟨g, 1, none⟩ (.int .i64 (wrap64 (t335 + 1)))) from a9_)
      (try clear HO_332002)
      (try clear BK318)
      (try clear BK331)
      (try clear HI0)
      (try clear HK)
      (try clear HB)
      generalize (w36.setCell ⟨g, 1, none⟩ (.int .i64 (wrap64 (t335 + 1)))) = w38 at n_ ⊢
      obtain ⟨HO_332002, BK318, BK331, HI0, HK, HB⟩ := n_
      have n_ := c6_ (Kd.N_drew HO_332002.out) (blk_drew BK318.out) (blk_drew BK331.out) (IsS142.drew HI0.out) (keep_drew HK.out) (below_drew1 HB.out)
      clear HO_332002 BK318 BK331 HI0 HK HB
      obtain ⟨HO_332002, BK318, BK331, HI0, HK, HB⟩ := n_
      refine start_ (n := 8) (S := fun w' => w'.cell? ⟨gb331, 0, none⟩ = some (.int .u8 a1) ∧ w'.cell? ⟨gb331, 1, none⟩ = some (.string (⟨#[]⟩ : ByteArray)) ∧ w'.cell? ⟨gb331, 2, none⟩ = some (u332002)) (ds := [7]) (bs_ 8 0) (by kernel_rfl) (by kernel_rfl) (by kernel_rfl) ⟨(blk_cell BK331.out 0).trans rfl, (blk_cell BK331.out 1).trans rfl, (blk_cell BK331.out 2).trans rfl⟩ (fun hHeld => ?_); refine with_tabW impl_testReader_row.tab4 impl_testReader_row.bits4 (fun HT_ HW_ => ?_)
      generalize w38.drew = w39 at HO_332002 BK318 BK331 HI0 HK HB hHeld ⊢
      refine pu_ (i := 0) (N := some 31) 1 rfl rfl HT_ (Or.inl ⟨by rfl, by intro w'; go_simp; with_reducible rfl⟩) (by simp only [pt_]; rfl) ?_
      refine pu_ (i := 2) (N := some 33) 5 rfl rfl HT_ (Or.inl ⟨by rfl, by intro w'; go_simp; with_reducible rfl⟩) (by simp only [pt_]; rfl) ?_
      refine tk_ (i := 1) (N := some 32) 7 rfl rfl HT_ HW_ (Or.inl ⟨by rfl, by rintro w' ⟨s0, s1, s2⟩; go_simp; with_reducible rfl⟩) hHeld (by simp only [pt_]; rfl) ?_
      refine one_ (i := 3) (N := some 34) (bs_ 8 15) rfl rfl (one_of HT_.out (by kernel_rfl)) (by decide) (fun K hK => ?_)
      refine goesbx_ impl_testReader_row.NX.h #[.pointer (some ⟨g, 0, none⟩)] (by rfl) rfl rfl (by first | rfl | (go_simp; done)) ?_
      with_reducible refine (impl_testReader_row.NX.calls k1 g t334 (wrap64 (t335 + 1)) t336 t337 t338 t339 t340 t343 t344 t345 t346 w0 _ ?side1 ?side2 A33.out).mono ?_
      (case side1 => exact a7_)
      (case side2 => exact a9_)
      rintro e w40 ⟨v341, rfl, ho0, hi, hb, hk⟩
      refine ⟨_, rfl, ?_⟩
      have n_ := c7_ (Kd.N_mono (Kd.N_keep (Kd.N_mono (ok := fun k_ => (((w.heap.size ≤ k_)) ∧ (k_ ≠ gb318 ∧ (k_ ≠ gb331 ∧ k_ ≠ g)))) (a13_) (fun k_ hk_ => (⟨hk_, hk_.2.2.2⟩ : _ ∧ k_ ≠ g))) hk (fun _ h => h.2)) (fun _ h => h.1)) (KeepBut.blk hk (g' := gb318) (o := .cells #[.int .u8 0, .string (⟨#[]⟩ : ByteArray), .slice none 0 0] 133 (0, 0)) (a5_) NB318_0.out (by simp)) (KeepBut.blk hk (g' := gb331) (o := .cells #[.int .u8 a1, .string (⟨#[]⟩ : ByteArray), u332002] 133 (0, 0)) (a14_) NB331_0.out (by simp)) (Kd.V_lower (Kd.V_mono (ok' := fun k_ => (w.heap.size ≤ k_) ∧ some k_ ≠ (u332002 : Value).ownBlock ∧ k_ ≠ gb318 ∧ k_ ≠ gb331 ∧ k_ ≠ g) ho0 (fun k_ hk_ => ⟨(Nat.le_trans (keep_size (w := w) (g := g) (row := none) (a8_)) hk_), (Kd.fresh' (Kd.N_lt (a13_)) k_ hk_), (Kd.freshB (g := gb318) (o := .cells #[.int .u8 0, .string (⟨#[]⟩ : ByteArray), .slice none 0 0] 133 (0, 0)) (a5_) k_ hk_), (Kd.freshB (g := gb331) (o := .cells #[.int .u8 a1, .string (⟨#[]⟩ : ByteArray), u332002] 133 (0, 0)) (a14_) k_ hk_), (IsS142.fresh (a7_) k_ hk_)⟩)) (keep_size (w := w) (g := g) (row := none) (a8_))) (KeepBut.trans (a8_) hk (.inl rfl)) (hb) (hi)
      clear HO_332002 BK318 BK331 HK HB HI0
      obtain ⟨HO_332002, BK318, BK331, HO342, HK, HB, HI0⟩ := n_
      (try clear hb)
      (try clear hb2)
      (try clear hk)
      (try clear hi)
      (try clear ho0)
      obtain ⟨Ao42, co42, eo42⟩ := Kd.V_slice HO342.out
      (first | subst eo42 | (injection eo42 with f1_ f2_ f3_; have f4_ := f1_.symm; have f5_ := f3_.symm; clear f1_ f2_ f3_; subst f4_; subst f5_))
      refine hK.out _ _ ⟨(blk_cell BK331.out 0).trans rfl, (blk_cell BK331.out 1).trans rfl, (blk_cell BK331.out 2).trans rfl⟩ (fun hHeld => ?_)
      clear hK K
      refine norm_ (a' := ?_) ?_ ?_
      rotate_left
      ·show Act.put _ (some 34) _ = _
       simp only [pt_]
       rfl
      refine one_ (i := 4) (N := some 35) (bs_ 8 31) rfl rfl (one_of HT_.out (by kernel_rfl)) (by decide) (fun K hK => ?_)
      refine value_ (w1 := ?_) (v := ?_) (by rfl) rfl ?_ ?_
      rotate_left 2
      ·go_simp
       constructor
       ·rfl
       ·rfl
      refine hK.out _ _ ⟨(blk_cell (blk_alloc BK331.out _) 0).trans rfl, (blk_cell (blk_alloc BK331.out _) 1).trans rfl, (blk_cell (blk_alloc BK331.out _) 2).trans rfl⟩ (fun hHeld => ?_)
      clear hK K
      refine norm_ (a' := ?_) ?_ ?_
      rotate_left
      ·show Act.put _ (some 35) _ = _
       simp only [pt_]
       rfl
      refine one_ (i := 5) (N := some 36) (bs_ 8 63) rfl rfl (one_of HT_.out (by kernel_rfl)) (by decide) (fun K hK => ?_)
      refine Kd.N_append_step k133 w.heap.size (by rfl) (.tmp 32) (.tmp 35) 131 133 (.agg #[(.int .u8 0), (.string ⟨#[]⟩), (.slice none 0 0)]) 48 rfl Try.underlying131 info133 rfl (by decide) (by omega) u332002 x332002_1 (⟨t338, t339, t340⟩ : S133) [.int .u8 t338, .string t339, .slice Ao42 t340.length co42] (fun k_ => (w.heap.size ≤ k_) ∧ k_ ≠ gb318 ∧ k_ ≠ gb331 ∧ k_ ≠ g) (fun k_ => ((fun k_ => (w.heap.size ≤ k_) ∧ k_ ≠ gb318 ∧ k_ ≠ gb331 ∧ k_ ≠ g)) k_ ∧ some k_ ≠ (u332002 : Value).ownBlock) rfl rfl ?aP (fun _ hk => hk) ?aF ?aO (Below.refl _ _) ?aS ?aL ?_
      (case aP => exact (k133_mkF _ _ (⟨t338, t339, t340⟩ : S133) (Kd.V_reads' (Kd.V_mono (ok' := (fun k_ => ((fun k_ => (w.heap.size ≤ k_) ∧ k_ ≠ gb318 ∧ k_ ≠ gb331 ∧ k_ ≠ g)) k_ ∧ some k_ ≠ (u332002 : Value).ownBlock)) (HO342.out) (fun k_ hk => ⟨⟨hk.1, ⟨hk.2.2.1, ⟨hk.2.2.2.1, hk.2.2.2.2⟩⟩⟩, hk.2.1⟩))).2.1 (Kd.V_F (Kd.V_mono (ok' := (fun k_ => ((fun k_ => (w.heap.size ≤ k_) ∧ k_ ≠ gb318 ∧ k_ ≠ gb331 ∧ k_ ≠ g)) k_ ∧ some k_ ≠ (u332002 : Value).ownBlock)) (HO342.out) (fun k_ hk => ⟨⟨hk.1, ⟨hk.2.2.1, ⟨hk.2.2.2.1, hk.2.2.2.2⟩⟩⟩, hk.2.1⟩)))))
      (case aF => exact (fun k_ hk => ⟨(Nat.le_trans (keep_size (w := w) (g := g) (row := none) (a8_)) hk), Kd.freshB (g := gb318) (o := .cells #[.int .u8 0, .string (⟨#[]⟩ : ByteArray), .slice none 0 0] 133 (0, 0)) (a5_) k_ hk, Kd.freshB (g := gb331) (o := .cells #[.int .u8 a1, .string (⟨#[]⟩ : ByteArray), u332002] 133 (0, 0)) (a14_) k_ hk, IsS142.fresh (a7_) k_ hk⟩))
      (case aO => exact (a13_))
      (case aS => exact (keep_size (w := w) (g := g) (row := none) (a8_)))
      (case aL => have := LMc34.out; omega)
      intro v348 w41 ho hb hg hat
      rw [← Ny347.out] at ho
      have n_ := c7_ (blk_grown (g := gb318) (o := .cells #[.int .u8 0, .string (⟨#[]⟩ : ByteArray), .slice none 0 0] 133 (0, 0)) (a5_) hg (Kd.N_away HO_332002.out (fun _ hk => hk.2.1))) (blk_grown (g := gb331) (o := .cells #[.int .u8 a1, .string (⟨#[]⟩ : ByteArray), u332002] 133 (0, 0)) (a14_) hg (Kd.N_away HO_332002.out (fun _ hk => hk.2.2.1))) (IsS142.grown (a7_) hg (IsS142.own_neN HI0.out HO_332002.out (by decide))) (Kd.V_afterv (ok := (fun k_ => (w.heap.size ≤ k_) ∧ k_ ≠ gb318 ∧ k_ ≠ gb331 ∧ k_ ≠ g)) (by (with_reducible repeat (first | apply Kd.V_alloc | apply Kd.V_drewN | apply Kd.V_drew)); exact Kd.V_mono HO342.out (fun _ hk => ⟨⟨hk.1, ⟨hk.2.2.1, ⟨hk.2.2.2.1, hk.2.2.2.2⟩⟩⟩, hk.2.1⟩)) hg hat) (below_weaken (a9_) HL.out hb) (KeepBut.trans (a8_) (KeepBut.of_grown hg g) (Kd.N_base2 HO_332002.out)) (ho)
      clear BK318 BK331 HI0 HO342 HB HK HO_332002
      obtain ⟨BK318, BK331, HI0, HO342, HB, HK, HO349⟩ := n_
      clear ho hb hg hat
      obtain ⟨Ao43, co43, eo43⟩ := Kd.N_slice HO349.out
      (first | subst eo43 | (injection eo43 with f1_ f2_ f3_; have f4_ := f1_.symm; have f5_ := f3_.symm; clear f1_ f2_ f3_; subst f4_; subst f5_))
      refine hK.out _ _ ⟨(blk_cell BK331.out 0).trans rfl, (blk_cell BK331.out 1).trans rfl, (blk_cell BK331.out 2).trans rfl⟩ (fun hHeld => ?_)
      clear hK K
      refine norm_ (a' := ?_) ?_ ?_
      rotate_left
      ·show Act.put _ (some 36) _ = _
       simp only [pt_]
       rfl
      refine pu_ (i := 6) (N := some 37) 127 rfl rfl HT_ (Or.inl ⟨by rfl, by intro w'; go_simp; with_reducible rfl⟩) (by simp only [pt_]; rfl) ?_
      refine last_ (i := 7) (N := none) (bs_ 8 255) rfl rfl (one_of HT_.out (by kernel_rfl)) (by decide) (fun K hK => ?_)
      have hs44 : w41.cell? ⟨gb331, 2, none⟩ = some (u332002) := (blk_cell BK331.out 2).trans rfl
      have hfs44 := blk_frozen BK331.out 2
      have hns44_0 := NB318_331.out
      have hms44_0 := NB331_318.out
      refine skip_ (w1 := ?_) (by rfl) rfl ?_ ?_
      rotate_left
      ·go_simp
       rfl
      refine hK.out _ _ ?_
      clear hK K
      refine done_ (done_of HT_.out (by kernel_rfl)) ?_
      try go_wp2
      go_roundg k1
      case measure => have := HK1.out; omega
      case rel => exact ⟨(t343), (t344), (t345), (t346), (y347), (.slice Ao43 y347.length co43), H', ⟨by have := HK1.out; omega⟩, ⟨by (with_reducible repeat (first | apply Kd.N_alloc | apply Kd.N_drewN | apply Kd.N_drew)); exact Kd.N_mono (Kd.N_far (p := ⟨gb331, 2, none⟩) (Kd.N_mono HO349.out (fun k_ hk => (⟨hk, hk.2.2.1⟩ : _ ∧ k_ ≠ gb331))) (fun _ hk => hk.2) (.slice Ao43 y347.length co43)) (fun _ hk => ⟨hk.1.1, ⟨hk.1.2.1, ⟨hk.1.2.2.1, hk.1.2.2.2⟩⟩⟩)⟩, ⟨by (with_reducible repeat (first | refine blk_drewN ?_ _ | refine blk_drew ?_ | refine blk_alloc ?_ _)); refine blk_far ?_ NB318_331.out _; (with_reducible repeat (first | refine blk_drewN ?_ _ | refine blk_drew ?_ | refine blk_alloc ?_ _)); exact BK318.out⟩, ⟨by (with_reducible repeat (first | refine blk_drewN ?_ _ | refine blk_drew ?_ | refine blk_alloc ?_ _)); refine blk_put (cs := #[.int .u8 a1, .string (⟨#[]⟩ : ByteArray), u332002]) ?_ 2 _ rfl; (with_reducible repeat (first | refine blk_drewN ?_ _ | refine blk_drew ?_ | refine blk_alloc ?_ _)); exact BK331.out⟩, ⟨a7_⟩, ⟨a8_⟩, ⟨a9_⟩⟩
     ·rw [if_neg c34] at H
      exact absurd H (by simp)
    ·rw [if_neg c32] at H
     have c32b0 : (t333 == a1) = false := beq_eq_false_iff_ne.mpr c32
     have c32b1 : (t333 != a1) = true := bne_iff_ne.mpr c32
     by_cases c45 : (x332002_1.length : Int) = 1
     ·rw [if_pos c45] at H
      have c45b0 : ((x332002_1.length : Int) == 1) = true := beq_iff_eq.mpr c45
      have c45b1 : ((x332002_1.length : Int) != 1) = false := bne_eq_false_iff_eq.mpr c45
      clear c45
      by_cases c46 : 0 < (x332002_1.length : Int)
      ·rw [if_pos c46] at H
       have c46b0 : decide (0 < (x332002_1.length : Int)) = true := decide_eq_true c46
       have c46b1 : decide (0 < x332002_1.length) = true := decide_eq_true (by omega)
       clear c46
       simp only [Option.some.injEq, Prod.mk.injEq] at H
       obtain ⟨rfl, rfl, rfl, rfl, rfl, rfl, rfl⟩ := H
       obtain ⟨HGz47, hgz47⟩ := HI0.out
       have hcz47_0 := cellS142_0 HGz47
       have hcz47_1 := cellS142_1 HGz47
       have hcz47_2 := cellS142_2 HGz47
       have hcz47_3 := cellS142_3 HGz47
       have hfz47_0 := blk_frozen HGz47 0
       have hfz47_1 := blk_frozen HGz47 1
       have hfz47_2 := blk_frozen HGz47 2
       have hfz47_3 := blk_frozen HGz47 3
       clear HGz47 hgz47
       go_wp2_with (first | (go_at_call 107; (with_reducible refine (impl_testReader_peek.calls g x1000_1 x1001_1 x1002_1 false t333 t334 t335 t336 t337 w0 _ ?side1 ?side2 A31.out).mono ?_); (case side1 => exact a7_); (case side2 => exact a9_); rintro e w48 ⟨rfl, hi, hb, hk⟩; have n_ := c6_ (Kd.N_mono (Kd.N_keep (Kd.N_mono (ok := fun k_ => (((w.heap.size ≤ k_)) ∧ (k_ ≠ gb318 ∧ (k_ ≠ gb331 ∧ k_ ≠ g)))) (a13_) (fun k_ hk_ => (⟨hk_, hk_.2.2.2⟩ : _ ∧ k_ ≠ g))) hk (fun _ h => h.2)) (fun _ h => h.1)) (KeepBut.blk hk (g' := gb318) (o := .cells #[.int .u8 0, .string (⟨#[]⟩ : ByteArray), .slice none 0 0] 133 (0, 0)) (a5_) NB318_0.out (by simp)) (KeepBut.blk hk (g' := gb331) (o := .cells #[.int .u8 a1, .string (⟨#[]⟩ : ByteArray), u332002] 133 (0, 0)) (a14_) NB331_0.out (by simp)) (KeepBut.trans (a8_) hk (.inl rfl)) (hb) (hi); clear HO_332002 BK318 BK331 HK HB HI0; obtain ⟨HO_332002, BK318, BK331, HK, HB, HI0⟩ := n_; (try clear hb); (try clear hb2); (try clear hk); (try clear hi); have hnb49 := NB331_318.out; have hnc49 := NB318_331.out; have hnb50 := NB331_0.out; have hnc50 := NB0_331.out; obtain ⟨hcz51_0, hcz51_1, hcz51_2, hfz51_0, hfz51_1, hfz51_2⟩ := cf3_ BK331.out; obtain ⟨Ao52, co52, eo52⟩ := Kd.N_slice HO_332002.out; subst eo52; have p350 : 0 ≤ (0 : Int) := (by omega); have q350 : 0 < (x332002_1.length : Int) := of_decide_eq_true (by first | (with_reducible assumption) | assumption); obtain ⟨ad350, A350_2, c350_2, e350, hx350_0, hx350_1, hx350_2, hl350_2, hi350_2⟩ := at_T133 (Kd.N_reads' HO_332002.out).2.2 0 p350 q350; cases e350; obtain ⟨ce350, hce350, hMe350, hcc350⟩ := Kd.N_get HO_332002.out z133 0 p350 (by first | exact q350 | exact of_decide_eq_true (by first | (with_reducible assumption) | assumption) | (have e_ := (Kd.N_reads' HO_332002.out).1; omega)); obtain ⟨ua350_2, uc350_2, rfl, ul350_2, ge350_2⟩ := k133_openF hMe350; have hv350_2 := hcc350 2 _ rfl; rw [add_field _ _ 2 (by omega)] at hv350_2; replace hv350_2 := Option.some.inj (hv350_2.symm.trans hx350_2); injection hv350_2 with hva_ hvn_ hvc_; rw [hva_] at ge350_2; rw [hvc_] at ul350_2; have HL350_2 := Aside0.mk (show Kd.V k133 133 _ w.heap.size _ _ ((rd_T133 x332002_1 0).f2) from Kd.V_mk ul350_2 ge350_2); clear hva_ hvn_ hvc_ ge350_2 ul350_2; clear hcc350 hce350; have qi350 : (0 < x332002_1.length) = True := eq_true (by omega); (try rw [show ((0 : Int)).toNat = 0 from rfl] at hx350_0); (try rw [show 0 * 3 = 0 from rfl] at hx350_0); (try rw [Addr.add_zero'] at hx350_0); (try rw [show ((0 : Int)).toNat = 0 from rfl] at hx350_1); (try rw [show 0 * 3 = 0 from rfl] at hx350_1); (try rw [Addr.add_zero'] at hx350_1); (try rw [show ((0 : Int)).toNat = 0 from rfl] at hx350_2); (try rw [show 0 * 3 = 0 from rfl] at hx350_2); (try rw [Addr.add_zero'] at hx350_2); have HR350_2 := Aside0.mk hi350_2; have HC350_2 := Aside0.mk hl350_2; clear hi350_2 hl350_2; replace p350 := eq_true p350; replace q350 := eq_true q350; have hnb53 := NB318_0.out; have hnc53 := NB0_318.out; obtain ⟨hcz54_0, hcz54_1, hcz54_2, hfz54_0, hfz54_1, hfz54_2⟩ := cf3_ BK318.out))
       refine bodyPost_ret (results_cell_row rfl _ _ gb318 133 #[.int .u8 ((rd_T133 x332002_1 0).f0), .string ((rd_T133 x332002_1 0).f1), .slice A350_2 ((rd_T133 x332002_1 0).f2).length c350_2] (0, 0) _ rfl (a10_) Try.underlying133 rfl (by kernel_rfl)) rfl ?_
       exact ⟨_, a11_, by (with_reducible repeat (first | apply Kd.V_alloc | apply Kd.V_drewN | apply Kd.V_drew)); exact Kd.V_mono (Kd.V_far (p := ⟨gb318, 2, none⟩) (Kd.V_far (p := ⟨gb318, 1, none⟩) (Kd.V_far (p := ⟨gb318, 0, none⟩) (Kd.V_mono HL350_2.out (fun k_ hk => (⟨hk, hk.1.2.1⟩ : _ ∧ k_ ≠ gb318))) (fun _ hk => hk.2) (.int .u8 ((rd_T133 x332002_1 0).f0))) (fun _ hk => hk.2) (.string ((rd_T133 x332002_1 0).f1))) (fun _ hk => hk.2) (.slice A350_2 ((rd_T133 x332002_1 0).f2).length c350_2)) (fun _ hk => hk.1.1.1), a7_, a9_, a8_⟩
      ·rw [if_neg c46] at H
       exact absurd H (by simp)
     ·rw [if_neg c45] at H
      have c45b0 : ((x332002_1.length : Int) == 1) = false := beq_eq_false_iff_ne.mpr c45
      have c45b1 : ((x332002_1.length : Int) != 1) = true := bne_iff_ne.mpr c45
      simp only [Option.some.injEq, Prod.mk.injEq] at H
      obtain ⟨rfl, rfl, rfl, rfl, rfl, rfl, rfl⟩ := H
      obtain ⟨HGz55, hgz55⟩ := HI0.out
      have hcz55_0 := cellS142_0 HGz55
      have hcz55_1 := cellS142_1 HGz55
      have hcz55_2 := cellS142_2 HGz55
      have hcz55_3 := cellS142_3 HGz55
      have hfz55_0 := blk_frozen HGz55 0
      have hfz55_1 := blk_frozen HGz55 1
      have hfz55_2 := blk_frozen HGz55 2
      have hfz55_3 := blk_frozen HGz55 3
      clear HGz55 hgz55
      go_wp2_with (first | (go_at_call 107; (with_reducible refine (impl_testReader_peek.calls g x1000_1 x1001_1 x1002_1 false t333 t334 t335 t336 t337 w0 _ ?side1 ?side2 A31.out).mono ?_); (case side1 => exact a7_); (case side2 => exact a9_); rintro e w56 ⟨rfl, hi, hb, hk⟩; have n_ := c6_ (Kd.N_mono (Kd.N_keep (Kd.N_mono (ok := fun k_ => (((w.heap.size ≤ k_)) ∧ (k_ ≠ gb318 ∧ (k_ ≠ gb331 ∧ k_ ≠ g)))) (a13_) (fun k_ hk_ => (⟨hk_, hk_.2.2.2⟩ : _ ∧ k_ ≠ g))) hk (fun _ h => h.2)) (fun _ h => h.1)) (KeepBut.blk hk (g' := gb318) (o := .cells #[.int .u8 0, .string (⟨#[]⟩ : ByteArray), .slice none 0 0] 133 (0, 0)) (a5_) NB318_0.out (by simp)) (KeepBut.blk hk (g' := gb331) (o := .cells #[.int .u8 a1, .string (⟨#[]⟩ : ByteArray), u332002] 133 (0, 0)) (a14_) NB331_0.out (by simp)) (KeepBut.trans (a8_) hk (.inl rfl)) (hb) (hi); clear HO_332002 BK318 BK331 HK HB HI0; obtain ⟨HO_332002, BK318, BK331, HK, HB, HI0⟩ := n_; (try clear hb); (try clear hb2); (try clear hk); (try clear hi); have hnb57 := NB331_318.out; have hnc57 := NB318_331.out; have hnb58 := NB331_0.out; have hnc58 := NB0_331.out; obtain ⟨hcz59_0, hcz59_1, hcz59_2, hfz59_0, hfz59_1, hfz59_2⟩ := cf3_ BK331.out; obtain ⟨Ao60, co60, eo60⟩ := Kd.N_slice HO_332002.out; subst eo60; have hnb61 := NB318_0.out; have hnc61 := NB0_318.out; obtain ⟨hcz62_0, hcz62_1, hcz62_2, hfz62_0, hfz62_1, hfz62_2⟩ := cf3_ BK318.out))
      refine bodyPost_ret (results_cell_row rfl _ _ gb318 133 #[.int .u8 a1, .string (⟨#[]⟩ : ByteArray), .slice Ao60 x332002_1.length co60] (0, 0) _ rfl (a12_) Try.underlying133 rfl (by kernel_rfl)) rfl ?_
      exact ⟨_, a11_, Kd.N_V (by (with_reducible repeat (first | apply Kd.N_alloc | apply Kd.N_drewN | apply Kd.N_drew)); exact Kd.N_mono (Kd.N_far (p := ⟨gb318, 2, none⟩) (Kd.N_far (p := ⟨gb318, 1, none⟩) (Kd.N_far (p := ⟨gb318, 0, none⟩) (Kd.N_mono HO_332002.out (fun k_ hk => (⟨hk, hk.2.1⟩ : _ ∧ k_ ≠ gb318))) (fun _ hk => hk.2) (.int .u8 a1)) (fun _ hk => hk.2) (.string (⟨#[]⟩ : ByteArray))) (fun _ hk => hk.2) (.slice Ao60 x332002_1.length co60)) (fun _ hk => hk.1.1)), a7_, a9_, a8_⟩
end

/-! ### impl_testReader_and: function 102 -/
instance impl_testReader_not.nx [impl_testReader_or.C] : impl_testReader_row.NX := ⟨108, ⟨_, Try.func108, by kernel_rfl, rfl⟩, impl_testReader_not.f, impl_testReader_not.calls⟩
theorem impl_testReader_and.rw_ [impl_testReader_or.C] (k : Nat) (g : Nat) (s0_0 : ByteArray) (s0_1 : Int) (s0_2 : Int) (s0_3 : Bool) (a1 : Int) (r1 : Int) (r2 : ByteArray) (r3 : List (S133)) (r4 : ByteArray) (r5 : Int) (r6 : Int) (r7 : Bool) (w0 w : World) (hI : IsS142 w0 w g s0_0 s0_1 s0_2 s0_3) (hB : Below w0.heap.size w0 w) (h : @impl_testReader_row.f impl_testReader_not.nx k s0_0 s0_1 s0_2 s0_3 a1 = some (r1, r2, r3, r4, r5, r6, r7)) : Calls Try.prog 101 #[.pointer (some ⟨g, 0, none⟩), .int .u8 a1, .func (Fn.func 108) #[.pointer (some ⟨g, 0, none⟩)] #[]] w fun e w' => ∃ v2_ : Value, e = .returned (.agg #[.int .u8 r1, .string r2, v2_]) ∧ Kd.V k133 133 w' w.heap.size (fun k_ => (w.heap.size ≤ k_)) v2_ r3 ∧ IsS142 w0 w' g r4 r5 r6 r7 ∧ Below w0.heap.size w0 w' ∧ KeepBut w w' g none := @impl_testReader_row.calls impl_testReader_not.nx k g s0_0 s0_1 s0_2 s0_3 a1 r1 r2 r3 r4 r5 r6 r7 w0 w hI hB h
theorem impl_testReader_and.a1_ {p : Prop} (h : p := by repeat (first | (with_reducible first | exact HI0.out | apply IsS142.alloc | apply IsS142.drewN | apply IsS142.drew | apply IsS142.set_0 | apply IsS142.set_1 | apply IsS142.set_2 | apply IsS142.set_3) | exact HI0.out)) : p := h
theorem impl_testReader_and.a2_ {p : Prop} (h : p := by repeat (first | (with_reducible first | exact HK.out | apply KeepBut.set_ | apply keep_drewN | apply keep_drew | apply keep_alloc) | exact HK.out)) : p := h
theorem impl_testReader_and.a3_ {p : Prop} (h : p := by repeat (first | (with_reducible first | exact HI0.out | apply IsS142.alloc | apply IsS142.drewN | apply IsS142.drew | apply IsS142.set_0 | apply IsS142.set_1 | apply IsS142.set_2 | apply IsS142.set_3 | apply IsS142.far (p := ⟨gb351, _, none⟩) (hne := NB0_351.out)) | exact HI0.out)) : p := h
theorem impl_testReader_and.a4_ {p : Prop} (h : p := by repeat (first | (with_reducible first | exact HK.out | apply KeepBut.set_ | apply keep_drewN | apply keep_drew | apply keep_alloc | refine keep_far ?_ GW351.out _) | exact HK.out)) : p := h
section
variable [impl_testReader_or.C]
def impl_testReader_and.f (k : Nat) (s0_0 : ByteArray) (s0_1 : Int) (s0_2 : Int) (s0_3 : Bool) : Option (Int × ByteArray × (List (S133)) × ByteArray × Int × Int × Bool) := (@impl_testReader_row.f impl_testReader_not.nx k s0_0 s0_1 s0_2 s0_3 38).bind fun bt352 => (some (bt352.1, bt352.2.1, bt352.2.2.1, bt352.2.2.2.1, bt352.2.2.2.2.1, bt352.2.2.2.2.2.1, bt352.2.2.2.2.2.2))
set_option maxHeartbeats 8000000 in
set_option maxRecDepth 100000 in
theorem impl_testReader_and.calls (k : Nat) (g : Nat) (s0_0 : ByteArray) (s0_1 : Int) (s0_2 : Int) (s0_3 : Bool) (r1 : Int) (r2 : ByteArray) (r3 : List (S133)) (r4 : ByteArray) (r5 : Int) (r6 : Int) (r7 : Bool) (w0 w : World) (hI : IsS142 w0 w g s0_0 s0_1 s0_2 s0_3) (hB : Below w0.heap.size w0 w) (h : impl_testReader_and.f k s0_0 s0_1 s0_2 s0_3 = some (r1, r2, r3, r4, r5, r6, r7)) :
  Calls Try.prog 102 #[.pointer (some ⟨g, 0, none⟩)] w fun e w' => ∃ v2_ : Value, e = .returned (.agg #[.int .u8 r1, .string r2, v2_]) ∧ Kd.V k133 133 w' w.heap.size (fun k_ => (w.heap.size ≤ k_)) v2_ r3 ∧ IsS142 w0 w' g r4 r5 r6 r7 ∧ Below w0.heap.size w0 w' ∧ KeepBut w w' g none := by
 have hu133 := Try.underlying133
 have HI0 := Aside0.mk hI
 have HK := Aside0.mk (KeepBut.refl w g none)
 have HL := Aside0.mk hB.size
 clear hI
 have HW0 := Aside0.mk hB.size
 have HB := Aside0.mk hB
 clear hB
 have H : ((@impl_testReader_row.f impl_testReader_not.nx k s0_0 s0_1 s0_2 s0_3 38).bind fun bt352 => (some (bt352.1, bt352.2.1, bt352.2.2.1, bt352.2.2.2.1, bt352.2.2.2.2.1, bt352.2.2.2.2.2.1, bt352.2.2.2.2.2.2))) = some (r1, r2, r3, r4, r5, r6, r7) := h
 clear h
 replace H := Option.bind_eq_some_iff.mp H
 obtain ⟨⟨t352, t353, t354, t357, t358, t359, t360⟩, A20, H⟩ := H
 try dsimp only at H
 have A2 := Aside0.mk A20
 clear A20
 simp only [Option.some.injEq, Prod.mk.injEq] at H
 obtain ⟨rfl, rfl, rfl, rfl, rfl, rfl, rfl⟩ := H
 go_enter Try.func102, Try.ntmps102
 go_wp2_with (first | ((with_reducible refine gate_dst (N := 2) rfl ?_); refine box_event ?hg (N := 2) ?hd (cs := #[.int .u8 0, .string (⟨#[]⟩ : ByteArray), .slice none 0 0]) (t := 133) ?hr ?_; (case hd => rfl); (case hg => rfl); (case hr => first | (go_simp; done) | (go_simp; rfl)); intro gb351 hg w3 hbox hb; have n_ := c8_ (IsS142.below (a1_) hb) (KeepBut.trans (a2_) (KeepBut.of_below hb g none) (.inl rfl)) (below_step (by repeat (first | (with_reducible first | exact HB.out | apply below_alloc | apply pw_below_drewN | apply below_drew1 | refine below_set ?_ (IsS142.ge HI0.out)) | exact HB.out)) hb) (hbox) ((by rw [hg]; exact (keep_size (w := w) (g := g) (row := none) (a2_)) : w.heap.size ≤ gb351)) ((Nat.le_trans HW0.out (by rw [hg]; exact (keep_size (w := w) (g := g) (row := none) (a2_)) : w.heap.size ≤ gb351) : w0.heap.size ≤ gb351)) ((by rw [hg]; exact Nat.ne_of_lt (IsS142.lt (show IsS142 w0 _ g s0_0 s0_1 s0_2 s0_3 from a1_)) : g ≠ gb351)) ((by rw [hg]; exact Nat.ne_of_gt (IsS142.lt (show IsS142 w0 _ g s0_0 s0_1 s0_2 s0_3 from a1_)) : gb351 ≠ g)); clear HI0 HK HB; obtain ⟨HI0, HK, HB, BK351, GW351, GE351, NB0_351, NB351_0⟩ := n_; clear hb hbox hg) | ((with_reducible refine gate_callee (f := 101) rfl ?_); refine goesL_ (some 6) rfl rfl Try.func101 (by kernel_rfl) rfl #[.pointer (some ⟨g, 0, none⟩), .int .u8 38, .func (Fn.func 108) #[.pointer (some ⟨g, 0, none⟩)] #[]] rfl (by (try simp only [List.map_toArray, List.map_cons, List.map_nil]); first | done | rfl | (simp only [List.length_drop, List.length_take]; rfl)) ?_; (with_reducible refine (impl_testReader_and.rw_ k g s0_0 s0_1 s0_2 s0_3 38 t352 t353 t354 t357 t358 t359 t360 w0 _ ?side1 ?side2 A2.out).mono ?_); (case side1 => exact a3_); (case side2 => exact by repeat (first | (with_reducible first | exact HB.out | apply below_alloc | apply pw_below_drewN | apply below_drew1 | refine below_set ?_ (IsS142.ge HI0.out) | refine below_set ?_ GE351.out) | exact HB.out)); rintro e w4 ⟨v355, rfl, ho0, hi, hb, hk⟩; refine ⟨_, rfl, ?_⟩; have n_ := c5_ (KeepBut.blk hk (g' := gb351) (o := .cells #[.int .u8 0, .string (⟨#[]⟩ : ByteArray), .slice none 0 0] 133 (0, 0)) (by (with_reducible repeat (first | refine blk_drewN ?_ _ | refine blk_drew ?_ | refine blk_alloc ?_ _)); exact BK351.out) NB351_0.out (by simp)) (Kd.V_lower (Kd.V_mono (ok' := fun k_ => (w.heap.size ≤ k_) ∧ k_ ≠ gb351 ∧ k_ ≠ g) ho0 (fun k_ hk_ => ⟨(Nat.le_trans (keep_size (w := w) (g := g) (row := none) (a4_)) hk_), (Kd.freshB (g := gb351) (o := .cells #[.int .u8 0, .string (⟨#[]⟩ : ByteArray), .slice none 0 0] 133 (0, 0)) (by (with_reducible repeat (first | refine blk_drewN ?_ _ | refine blk_drew ?_ | refine blk_alloc ?_ _)); exact BK351.out) k_ hk_), (IsS142.fresh (a3_) k_ hk_)⟩)) (keep_size (w := w) (g := g) (row := none) (a4_))) (KeepBut.trans (a4_) hk (.inl rfl)) (hb) (hi); clear BK351 HK HB HI0; obtain ⟨BK351, HO356, HK, HB, HI0⟩ := n_; (try clear hb); (try clear hb2); (try clear hk); (try clear hi); (try clear ho0); have hnb5 := NB351_0.out; have hnc5 := NB0_351.out; obtain ⟨hcz6_0, hcz6_1, hcz6_2, hfz6_0, hfz6_1, hfz6_2⟩ := cf3_ BK351.out; obtain ⟨Ao7, co7, eo7⟩ := Kd.V_slice HO356.out; subst eo7))
 refine bodyPost_ret (results_cell_row rfl _ _ gb351 133 #[.int .u8 t352, .string t353, .slice Ao7 t354.length co7] (0, 0) _ rfl (by (with_reducible repeat (first | refine blk_drewN ?_ _ | refine blk_drew ?_ | refine blk_alloc ?_ _)); refine blk_put (cs := #[.int .u8 t352, .string t353, .slice none 0 0]) ?_ 2 _ rfl; (with_reducible repeat (first | refine blk_drewN ?_ _ | refine blk_drew ?_ | refine blk_alloc ?_ _)); refine blk_put (cs := #[.int .u8 t352, .string (⟨#[]⟩ : ByteArray), .slice none 0 0]) ?_ 1 _ rfl; (with_reducible repeat (first | refine blk_drewN ?_ _ | refine blk_drew ?_ | refine blk_alloc ?_ _)); refine blk_put (cs := #[.int .u8 0, .string (⟨#[]⟩ : ByteArray), .slice none 0 0]) ?_ 0 _ rfl; (with_reducible repeat (first | refine blk_drewN ?_ _ | refine blk_drew ?_ | refine blk_alloc ?_ _)); exact BK351.out) Try.underlying133 rfl (by kernel_rfl)) rfl ?_
 exact ⟨_, by first | rfl | (simp [errW_none, errW_some] <;> rfl) | (simp [*, errW_none, errW_some] <;> rfl), by (with_reducible repeat (first | apply Kd.V_alloc | apply Kd.V_drewN | apply Kd.V_drew)); exact Kd.V_mono (Kd.V_far (p := ⟨gb351, 2, none⟩) (Kd.V_far (p := ⟨gb351, 1, none⟩) (Kd.V_far (p := ⟨gb351, 0, none⟩) (Kd.V_mono HO356.out (fun k_ hk => (⟨hk, hk.2.1⟩ : _ ∧ k_ ≠ gb351))) (fun _ hk => hk.2) (.int .u8 t352)) (fun _ hk => hk.2) (.string t353)) (fun _ hk => hk.2) (.slice Ao7 t354.length co7)) (fun _ hk => hk.1.1), a3_, by repeat (first | (with_reducible first | exact HB.out | apply below_alloc | apply pw_below_drewN | apply below_drew1 | refine below_set ?_ (IsS142.ge HI0.out) | refine below_set ?_ GE351.out) | exact HB.out), a4_⟩
end

/-! ### impl_testReader_or1: function 98 -/
instance impl_testReader_and.nx [impl_testReader_or.C] : impl_testReader_row.NX := ⟨102, ⟨_, Try.func102, by kernel_rfl, rfl⟩, impl_testReader_and.f, impl_testReader_and.calls⟩
theorem impl_testReader_or1.rw_ [impl_testReader_or.C] (k : Nat) (g : Nat) (s0_0 : ByteArray) (s0_1 : Int) (s0_2 : Int) (s0_3 : Bool) (a1 : Int) (r1 : Int) (r2 : ByteArray) (r3 : List (S133)) (r4 : ByteArray) (r5 : Int) (r6 : Int) (r7 : Bool) (w0 w : World) (hI : IsS142 w0 w g s0_0 s0_1 s0_2 s0_3) (hB : Below w0.heap.size w0 w) (h : @impl_testReader_row.f impl_testReader_and.nx k s0_0 s0_1 s0_2 s0_3 a1 = some (r1, r2, r3, r4, r5, r6, r7)) : Calls Try.prog 101 #[.pointer (some ⟨g, 0, none⟩), .int .u8 a1, .func (Fn.func 102) #[.pointer (some ⟨g, 0, none⟩)] #[]] w fun e w' => ∃ v2_ : Value, e = .returned (.agg #[.int .u8 r1, .string r2, v2_]) ∧ Kd.V k133 133 w' w.heap.size (fun k_ => (w.heap.size ≤ k_)) v2_ r3 ∧ IsS142 w0 w' g r4 r5 r6 r7 ∧ Below w0.heap.size w0 w' ∧ KeepBut w w' g none := @impl_testReader_row.calls impl_testReader_and.nx k g s0_0 s0_1 s0_2 s0_3 a1 r1 r2 r3 r4 r5 r6 r7 w0 w hI hB h
theorem impl_testReader_or1.a1_ {p : Prop} (h : p := by repeat (first | (with_reducible first | exact HI0.out | apply IsS142.alloc | apply IsS142.drewN | apply IsS142.drew | apply IsS142.set_0 | apply IsS142.set_1 | apply IsS142.set_2 | apply IsS142.set_3) | exact HI0.out)) : p := h
theorem impl_testReader_or1.a2_ {p : Prop} (h : p := by repeat (first | (with_reducible first | exact HK.out | apply KeepBut.set_ | apply keep_drewN | apply keep_drew | apply keep_alloc) | exact HK.out)) : p := h
theorem impl_testReader_or1.a3_ {p : Prop} (h : p := by repeat (first | (with_reducible first | exact HI0.out | apply IsS142.alloc | apply IsS142.drewN | apply IsS142.drew | apply IsS142.set_0 | apply IsS142.set_1 | apply IsS142.set_2 | apply IsS142.set_3 | apply IsS142.far (p := ⟨gb361, _, none⟩) (hne := NB0_361.out)) | exact HI0.out)) : p := h
theorem impl_testReader_or1.a4_ {p : Prop} (h : p := by repeat (first | (with_reducible first | exact HK.out | apply KeepBut.set_ | apply keep_drewN | apply keep_drew | apply keep_alloc | refine keep_far ?_ GW361.out _) | exact HK.out)) : p := h
section
variable [impl_testReader_or.C]
def impl_testReader_or1.f (k : Nat) (s0_0 : ByteArray) (s0_1 : Int) (s0_2 : Int) (s0_3 : Bool) : Option (Int × ByteArray × (List (S133)) × ByteArray × Int × Int × Bool) := (@impl_testReader_row.f impl_testReader_and.nx k s0_0 s0_1 s0_2 s0_3 124).bind fun bt362 => (some (bt362.1, bt362.2.1, bt362.2.2.1, bt362.2.2.2.1, bt362.2.2.2.2.1, bt362.2.2.2.2.2.1, bt362.2.2.2.2.2.2))
set_option maxHeartbeats 8000000 in
set_option maxRecDepth 100000 in
theorem impl_testReader_or1.calls (k : Nat) (g : Nat) (s0_0 : ByteArray) (s0_1 : Int) (s0_2 : Int) (s0_3 : Bool) (r1 : Int) (r2 : ByteArray) (r3 : List (S133)) (r4 : ByteArray) (r5 : Int) (r6 : Int) (r7 : Bool) (w0 w : World) (hI : IsS142 w0 w g s0_0 s0_1 s0_2 s0_3) (hB : Below w0.heap.size w0 w) (h : impl_testReader_or1.f k s0_0 s0_1 s0_2 s0_3 = some (r1, r2, r3, r4, r5, r6, r7)) :
  Calls Try.prog 98 #[.pointer (some ⟨g, 0, none⟩)] w fun e w' => ∃ v2_ : Value, e = .returned (.agg #[.int .u8 r1, .string r2, v2_]) ∧ Kd.V k133 133 w' w.heap.size (fun k_ => (w.heap.size ≤ k_)) v2_ r3 ∧ IsS142 w0 w' g r4 r5 r6 r7 ∧ Below w0.heap.size w0 w' ∧ KeepBut w w' g none := by
 have hu133 := Try.underlying133
 have HI0 := Aside0.mk hI
 have HK := Aside0.mk (KeepBut.refl w g none)
 have HL := Aside0.mk hB.size
 clear hI
 have HW0 := Aside0.mk hB.size
 have HB := Aside0.mk hB
 clear hB
 have H : ((@impl_testReader_row.f impl_testReader_and.nx k s0_0 s0_1 s0_2 s0_3 124).bind fun bt362 => (some (bt362.1, bt362.2.1, bt362.2.2.1, bt362.2.2.2.1, bt362.2.2.2.2.1, bt362.2.2.2.2.2.1, bt362.2.2.2.2.2.2))) = some (r1, r2, r3, r4, r5, r6, r7) := h
 clear h
 replace H := Option.bind_eq_some_iff.mp H
 obtain ⟨⟨t362, t363, t364, t367, t368, t369, t370⟩, A20, H⟩ := H
 try dsimp only at H
 have A2 := Aside0.mk A20
 clear A20
 simp only [Option.some.injEq, Prod.mk.injEq] at H
 obtain ⟨rfl, rfl, rfl, rfl, rfl, rfl, rfl⟩ := H
 go_enter Try.func98, Try.ntmps98
 go_wp2_with (first | ((with_reducible refine gate_dst (N := 2) rfl ?_); refine box_event ?hg (N := 2) ?hd (cs := #[.int .u8 0, .string (⟨#[]⟩ : ByteArray), .slice none 0 0]) (t := 133) ?hr ?_; (case hd => rfl); (case hg => rfl); (case hr => first | (go_simp; done) | (go_simp; rfl)); intro gb361 hg w3 hbox hb; have n_ := c8_ (IsS142.below (a1_) hb) (KeepBut.trans (a2_) (KeepBut.of_below hb g none) (.inl rfl)) (below_step (by repeat (first | (with_reducible first | exact HB.out | apply below_alloc | apply pw_below_drewN | apply below_drew1 | refine below_set ?_ (IsS142.ge HI0.out)) | exact HB.out)) hb) (hbox) ((by rw [hg]; exact (keep_size (w := w) (g := g) (row := none) (a2_)) : w.heap.size ≤ gb361)) ((Nat.le_trans HW0.out (by rw [hg]; exact (keep_size (w := w) (g := g) (row := none) (a2_)) : w.heap.size ≤ gb361) : w0.heap.size ≤ gb361)) ((by rw [hg]; exact Nat.ne_of_lt (IsS142.lt (show IsS142 w0 _ g s0_0 s0_1 s0_2 s0_3 from a1_)) : g ≠ gb361)) ((by rw [hg]; exact Nat.ne_of_gt (IsS142.lt (show IsS142 w0 _ g s0_0 s0_1 s0_2 s0_3 from a1_)) : gb361 ≠ g)); clear HI0 HK HB; obtain ⟨HI0, HK, HB, BK361, GW361, GE361, NB0_361, NB361_0⟩ := n_; clear hb hbox hg) | ((with_reducible refine gate_callee (f := 101) rfl ?_); refine goesL_ (some 6) rfl rfl Try.func101 (by kernel_rfl) rfl #[.pointer (some ⟨g, 0, none⟩), .int .u8 124, .func (Fn.func 102) #[.pointer (some ⟨g, 0, none⟩)] #[]] rfl (by (try simp only [List.map_toArray, List.map_cons, List.map_nil]); first | done | rfl | (simp only [List.length_drop, List.length_take]; rfl)) ?_; (with_reducible refine (impl_testReader_or1.rw_ k g s0_0 s0_1 s0_2 s0_3 124 t362 t363 t364 t367 t368 t369 t370 w0 _ ?side1 ?side2 A2.out).mono ?_); (case side1 => exact a3_); (case side2 => exact by repeat (first | (with_reducible first | exact HB.out | apply below_alloc | apply pw_below_drewN | apply below_drew1 | refine below_set ?_ (IsS142.ge HI0.out) | refine below_set ?_ GE361.out) | exact HB.out)); rintro e w4 ⟨v365, rfl, ho0, hi, hb, hk⟩; refine ⟨_, rfl, ?_⟩; have n_ := c5_ (KeepBut.blk hk (g' := gb361) (o := .cells #[.int .u8 0, .string (⟨#[]⟩ : ByteArray), .slice none 0 0] 133 (0, 0)) (by (with_reducible repeat (first | refine blk_drewN ?_ _ | refine blk_drew ?_ | refine blk_alloc ?_ _)); exact BK361.out) NB361_0.out (by simp)) (Kd.V_lower (Kd.V_mono (ok' := fun k_ => (w.heap.size ≤ k_) ∧ k_ ≠ gb361 ∧ k_ ≠ g) ho0 (fun k_ hk_ => ⟨(Nat.le_trans (keep_size (w := w) (g := g) (row := none) (a4_)) hk_), (Kd.freshB (g := gb361) (o := .cells #[.int .u8 0, .string (⟨#[]⟩ : ByteArray), .slice none 0 0] 133 (0, 0)) (by (with_reducible repeat (first | refine blk_drewN ?_ _ | refine blk_drew ?_ | refine blk_alloc ?_ _)); exact BK361.out) k_ hk_), (IsS142.fresh (a3_) k_ hk_)⟩)) (keep_size (w := w) (g := g) (row := none) (a4_))) (KeepBut.trans (a4_) hk (.inl rfl)) (hb) (hi); clear BK361 HK HB HI0; obtain ⟨BK361, HO366, HK, HB, HI0⟩ := n_; (try clear hb); (try clear hb2); (try clear hk); (try clear hi); (try clear ho0); have hnb5 := NB361_0.out; have hnc5 := NB0_361.out; obtain ⟨hcz6_0, hcz6_1, hcz6_2, hfz6_0, hfz6_1, hfz6_2⟩ := cf3_ BK361.out; obtain ⟨Ao7, co7, eo7⟩ := Kd.V_slice HO366.out; subst eo7))
 refine bodyPost_ret (results_cell_row rfl _ _ gb361 133 #[.int .u8 t362, .string t363, .slice Ao7 t364.length co7] (0, 0) _ rfl (by (with_reducible repeat (first | refine blk_drewN ?_ _ | refine blk_drew ?_ | refine blk_alloc ?_ _)); refine blk_put (cs := #[.int .u8 t362, .string t363, .slice none 0 0]) ?_ 2 _ rfl; (with_reducible repeat (first | refine blk_drewN ?_ _ | refine blk_drew ?_ | refine blk_alloc ?_ _)); refine blk_put (cs := #[.int .u8 t362, .string (⟨#[]⟩ : ByteArray), .slice none 0 0]) ?_ 1 _ rfl; (with_reducible repeat (first | refine blk_drewN ?_ _ | refine blk_drew ?_ | refine blk_alloc ?_ _)); refine blk_put (cs := #[.int .u8 0, .string (⟨#[]⟩ : ByteArray), .slice none 0 0]) ?_ 0 _ rfl; (with_reducible repeat (first | refine blk_drewN ?_ _ | refine blk_drew ?_ | refine blk_alloc ?_ _)); exact BK361.out) Try.underlying133 rfl (by kernel_rfl)) rfl ?_
 exact ⟨_, by first | rfl | (simp [errW_none, errW_some] <;> rfl) | (simp [*, errW_none, errW_some] <;> rfl), by (with_reducible repeat (first | apply Kd.V_alloc | apply Kd.V_drewN | apply Kd.V_drew)); exact Kd.V_mono (Kd.V_far (p := ⟨gb361, 2, none⟩) (Kd.V_far (p := ⟨gb361, 1, none⟩) (Kd.V_far (p := ⟨gb361, 0, none⟩) (Kd.V_mono HO366.out (fun k_ hk => (⟨hk, hk.2.1⟩ : _ ∧ k_ ≠ gb361))) (fun _ hk => hk.2) (.int .u8 t362)) (fun _ hk => hk.2) (.string t363)) (fun _ hk => hk.2) (.slice Ao7 t364.length co7)) (fun _ hk => hk.1.1), a3_, by repeat (first | (with_reducible first | exact HB.out | apply below_alloc | apply pw_below_drewN | apply below_drew1 | refine below_set ?_ (IsS142.ge HI0.out) | refine below_set ?_ GE361.out) | exact HB.out), a4_⟩
end

/-! ### impl_testReader_or2: function 98 -/
structure impl_testReader_or2.B where
 c : impl_testReader_or.C
def impl_testReader_or2.I : Nat → impl_testReader_or2.B
 | 0 => ⟨⟨fun _ _ _ _ => none, fun g s0_0 s0_1 s0_2 s0_3 r1 r2 r3 r4 r5 r6 r7 w0 w hI hB h => by cases h⟩⟩
 | k + 1 => ⟨⟨fun s0_0 s0_1 s0_2 s0_3 => @impl_testReader_or1.f (impl_testReader_or2.I k).c k s0_0 s0_1 s0_2 s0_3, fun g s0_0 s0_1 s0_2 s0_3 r1 r2 r3 r4 r5 r6 r7 w0 w hI hB h => @impl_testReader_or1.calls (impl_testReader_or2.I k).c k g s0_0 s0_1 s0_2 s0_3 r1 r2 r3 r4 r5 r6 r7 w0 w hI hB h⟩⟩
def impl_testReader_or2.f (k : Nat) (s0_0 : ByteArray) (s0_1 : Int) (s0_2 : Int) (s0_3 : Bool) : Option (Int × ByteArray × (List (S133)) × ByteArray × Int × Int × Bool) := (impl_testReader_or2.I k).c.f s0_0 s0_1 s0_2 s0_3
theorem impl_testReader_or2.calls (k : Nat) (g : Nat) (s0_0 : ByteArray) (s0_1 : Int) (s0_2 : Int) (s0_3 : Bool) (r1 : Int) (r2 : ByteArray) (r3 : List (S133)) (r4 : ByteArray) (r5 : Int) (r6 : Int) (r7 : Bool) (w0 w : World) (hI : IsS142 w0 w g s0_0 s0_1 s0_2 s0_3) (hB : Below w0.heap.size w0 w) (h : impl_testReader_or2.f k s0_0 s0_1 s0_2 s0_3 = some (r1, r2, r3, r4, r5, r6, r7)) : Calls Try.prog 98 #[.pointer (some ⟨g, 0, none⟩)] w fun e w' => ∃ v2_ : Value, e = .returned (.agg #[.int .u8 r1, .string r2, v2_]) ∧ Kd.V k133 133 w' w.heap.size (fun k_ => (w.heap.size ≤ k_)) v2_ r3 ∧ IsS142 w0 w' g r4 r5 r6 r7 ∧ Below w0.heap.size w0 w' ∧ KeepBut w w' g none := (impl_testReader_or2.I k).c.calls g s0_0 s0_1 s0_2 s0_3 r1 r2 r3 r4 r5 r6 r7 w0 w hI hB h

/-! ### impl_test_rank: function 104 -/
def impl_test_rank.f (a0_0 : Int) (a0_1 : ByteArray) (l0_2 : List (S133)) : Option (Int) := if a0_0 = 124 then (some 1) else (if a0_0 = 38 then (some 2) else (some 3))
theorem impl_test_rank.a1_ {p : Prop} (h : p := by repeat (first | (with_reducible first | exact HB.out | apply below_alloc | apply pw_below_drewN | apply below_drew1) | exact HB.out)) : p := h
theorem impl_test_rank.a2_ {p : Prop} (h : p := by repeat (first | (with_reducible first | exact HB.out | apply below_alloc | apply pw_below_drewN | apply below_drew1 | refine below_set ?_ GE371.out) | exact HB.out)) : p := h
set_option maxHeartbeats 8000000 in
set_option maxRecDepth 100000 in
theorem impl_test_rank.calls (a0_0 : Int) (a0_1 : ByteArray) (A0_2 : Option Addr) (c0_2 : Nat) (l0_2 : List (S133)) (r : Int) (w : World) (hr0_2 : Kd.C k133 w A0_2 l0_2.length l0_2) (hc0_2 : l0_2.length ≤ c0_2) (h : impl_test_rank.f a0_0 a0_1 l0_2 = some r) :
  Calls Try.prog 104 #[.agg #[.int .u8 a0_0, .string a0_1, .slice A0_2 l0_2.length c0_2]] w fun e w' => e = .returned (.int .i64 r) ∧ Below w.heap.size w w' := by
 have hu133 := Try.underlying133
 have HR0_2 := Aside0.mk hr0_2
 have HC0_2 := Aside0.mk hc0_2
 clear hr0_2 hc0_2
 have HB := Aside0.mk (Below.refl w.heap.size w)
 have H : (if a0_0 = 124 then (some 1) else (if a0_0 = 38 then (some 2) else (some 3))) = some r := h
 clear h
 by_cases c2 : a0_0 = 124
 ·rw [if_pos c2] at H
  have c2b0 : (a0_0 == 124) = true := beq_iff_eq.mpr c2
  have c2b1 : (a0_0 != 124) = false := bne_eq_false_iff_eq.mpr c2
  clear c2
  obtain rfl := Option.some.inj H
  go_enter Try.func104, Try.ntmps104
  go_wp2_with (first | ((with_reducible refine gate_dst (N := 1) rfl ?_); refine box_event ?hg (N := 1) ?hd (cs := #[.int .u8 a0_0, .string a0_1, .slice A0_2 l0_2.length c0_2]) (t := 133) ?hr ?_; (case hd => rfl); (case hg => rfl); (case hr => first | (go_simp; done) | (go_simp; rfl)); intro gb371 hg w3 hbox hb; have n_ := c4_ (below_step (a1_) hb) (hbox) ((by rw [hg]; exact (below_size (a1_)) : w.heap.size ≤ gb371)) ((by rw [hg]; exact (below_size (a1_)) : w.heap.size ≤ gb371)); clear HB; obtain ⟨HB, BK371, GW371, GE371⟩ := n_; clear hb hbox hg; obtain ⟨hcz4_0, hcz4_1, hcz4_2, hfz4_0, hfz4_1, hfz4_2⟩ := cf3_ BK371.out))
  go_ret
  exact ⟨by first | rfl | (simp [errW_none, errW_some] <;> rfl) | (simp [*, errW_none, errW_some] <;> rfl), a2_⟩
 ·rw [if_neg c2] at H
  have c2b0 : (a0_0 == 124) = false := beq_eq_false_iff_ne.mpr c2
  have c2b1 : (a0_0 != 124) = true := bne_iff_ne.mpr c2
  by_cases c5 : a0_0 = 38
  ·rw [if_pos c5] at H
   have c5b0 : (a0_0 == 38) = true := beq_iff_eq.mpr c5
   have c5b1 : (a0_0 != 38) = false := bne_eq_false_iff_eq.mpr c5
   clear c5
   obtain rfl := Option.some.inj H
   go_enter Try.func104, Try.ntmps104
   go_wp2_with (first | ((with_reducible refine gate_dst (N := 1) rfl ?_); refine box_event ?hg (N := 1) ?hd (cs := #[.int .u8 a0_0, .string a0_1, .slice A0_2 l0_2.length c0_2]) (t := 133) ?hr ?_; (case hd => rfl); (case hg => rfl); (case hr => first | (go_simp; done) | (go_simp; rfl)); intro gb371 hg w6 hbox hb; have n_ := c4_ (below_step (a1_) hb) (hbox) ((by rw [hg]; exact (below_size (a1_)) : w.heap.size ≤ gb371)) ((by rw [hg]; exact (below_size (a1_)) : w.heap.size ≤ gb371)); clear HB; obtain ⟨HB, BK371, GW371, GE371⟩ := n_; clear hb hbox hg; obtain ⟨hcz7_0, hcz7_1, hcz7_2, hfz7_0, hfz7_1, hfz7_2⟩ := cf3_ BK371.out))
   go_ret
   exact ⟨by first | rfl | (simp [errW_none, errW_some] <;> rfl) | (simp [*, errW_none, errW_some] <;> rfl), a2_⟩
  ·rw [if_neg c5] at H
   have c5b0 : (a0_0 == 38) = false := beq_eq_false_iff_ne.mpr c5
   have c5b1 : (a0_0 != 38) = true := bne_iff_ne.mpr c5
   obtain rfl := Option.some.inj H
   go_enter Try.func104, Try.ntmps104
   go_wp2_with (first | ((with_reducible refine gate_dst (N := 1) rfl ?_); refine box_event ?hg (N := 1) ?hd (cs := #[.int .u8 a0_0, .string a0_1, .slice A0_2 l0_2.length c0_2]) (t := 133) ?hr ?_; (case hd => rfl); (case hg => rfl); (case hr => first | (go_simp; done) | (go_simp; rfl)); intro gb371 hg w8 hbox hb; have n_ := c4_ (below_step (a1_) hb) (hbox) ((by rw [hg]; exact (below_size (a1_)) : w.heap.size ≤ gb371)) ((by rw [hg]; exact (below_size (a1_)) : w.heap.size ≤ gb371)); clear HB; obtain ⟨HB, BK371, GW371, GE371⟩ := n_; clear hb hbox hg; obtain ⟨hcz9_0, hcz9_1, hcz9_2, hfz9_0, hfz9_1, hfz9_2⟩ := cf3_ BK371.out))
   go_ret
   exact ⟨by first | rfl | (simp [errW_none, errW_some] <;> rfl) | (simp [*, errW_none, errW_some] <;> rfl), a2_⟩

/-! ### impl_test_show: function 99 -/
class impl_test_show.C where
 f : Int → ByteArray → List (S133) → Option (ByteArray)
 calls : ∀ (a0_0 : Int) (a0_1 : ByteArray) (A0_2 : Option Addr) (c0_2 : Nat) (l0_2 : List (S133)) (r : ByteArray) (w : World) (hr0_2 : Kd.C k133 w A0_2 l0_2.length l0_2) (hc0_2 : l0_2.length ≤ c0_2) (h : f a0_0 a0_1 l0_2 = some r), Calls Try.prog 99 #[.agg #[.int .u8 a0_0, .string a0_1, .slice A0_2 l0_2.length c0_2]] w fun e w' => e = .returned (.string r) ∧ Below w.heap.size w w'
def impl_test_show.f [impl_test_show.C] (a0_0 : Int) (a0_1 : ByteArray) (l0_2 : List (S133)) : Option (ByteArray) := impl_test_show.C.f a0_0 a0_1 l0_2
theorem impl_test_show.calls [impl_test_show.C] (a0_0 : Int) (a0_1 : ByteArray) (A0_2 : Option Addr) (c0_2 : Nat) (l0_2 : List (S133)) (r : ByteArray) (w : World) (hr0_2 : Kd.C k133 w A0_2 l0_2.length l0_2) (hc0_2 : l0_2.length ≤ c0_2) (h : impl_test_show.f a0_0 a0_1 l0_2 = some r) : Calls Try.prog 99 #[.agg #[.int .u8 a0_0, .string a0_1, .slice A0_2 l0_2.length c0_2]] w fun e w' => e = .returned (.string r) ∧ Below w.heap.size w w' := impl_test_show.C.calls a0_0 a0_1 A0_2 c0_2 l0_2 r w hr0_2 hc0_2 h

/-! ### impl_test_within: function 103 -/
theorem impl_test_within.a1_ {p : Prop} (h : p := by repeat (first | (with_reducible first | exact HB.out | apply below_alloc | apply pw_below_drewN | apply below_drew1) | exact HB.out)) : p := h
theorem impl_test_within.a2_ {p : Prop} (h : p := by (try simp only [List.map_toArray, List.map_cons, List.map_nil]); first | done | rfl | (simp only [List.length_drop, List.length_take]; rfl)) : p := h
theorem impl_test_within.a3_ {p : Prop} (h : p := by repeat (first | exact (Kd.C_below HR0_2.out HB.out) | (with_reducible refine Kd.C_alloc ?_ _) | (with_reducible refine Kd.C_drewN ?_ _) | (with_reducible refine Kd.C_drew ?_))) : p := h
theorem impl_test_within.a4_ {p : Prop} (h : p := by (with_reducible repeat (first | refine blk_drewN ?_ _ | refine blk_drew ?_ | refine blk_alloc ?_ _)); exact BK372.out) : p := h
theorem impl_test_within.a5_ {p : Prop} (h : p := by repeat (first | (with_reducible first | exact HB.out | apply below_alloc | apply pw_below_drewN | apply below_drew1 | refine below_set ?_ GE372.out) | exact HB.out)) : p := h
section
variable [impl_test_show.C]
def impl_test_within.f (a0_0 : Int) (a0_1 : ByteArray) (l0_2 : List (S133)) (a1 : Int) : Option (ByteArray) := (impl_test_rank.f a0_0 a0_1 l0_2).bind fun t373 => (if t373 ≥ a1 then ((impl_test_show.f a0_0 a0_1 l0_2).bind fun t374 => (some t374)) else ((impl_test_show.f a0_0 a0_1 l0_2).bind fun t375 => (if 1 + t375.size ≤ 9223372036854775807 then (if ((⟨#[40]⟩ : ByteArray) ++ t375).size + 1 ≤ 9223372036854775807 then (some (((⟨#[40]⟩ : ByteArray) ++ t375) ++ (⟨#[41]⟩ : ByteArray))) else (none)) else (none))))
set_option maxHeartbeats 8000000 in
set_option maxRecDepth 100000 in
theorem impl_test_within.calls (a0_0 : Int) (a0_1 : ByteArray) (A0_2 : Option Addr) (c0_2 : Nat) (l0_2 : List (S133)) (a1 : Int) (r : ByteArray) (w : World) (hr0_2 : Kd.C k133 w A0_2 l0_2.length l0_2) (hc0_2 : l0_2.length ≤ c0_2) (h : impl_test_within.f a0_0 a0_1 l0_2 a1 = some r) :
  Calls Try.prog 103 #[.agg #[.int .u8 a0_0, .string a0_1, .slice A0_2 l0_2.length c0_2], .int .i64 a1] w fun e w' => e = .returned (.string r) ∧ Below w.heap.size w w' := by
 have hu133 := Try.underlying133
 have HR0_2 := Aside0.mk hr0_2
 have HC0_2 := Aside0.mk hc0_2
 clear hr0_2 hc0_2
 have HB := Aside0.mk (Below.refl w.heap.size w)
 have H : ((impl_test_rank.f a0_0 a0_1 l0_2).bind fun t373 => (if t373 ≥ a1 then ((impl_test_show.f a0_0 a0_1 l0_2).bind fun t374 => (some t374)) else ((impl_test_show.f a0_0 a0_1 l0_2).bind fun t375 => (if 1 + t375.size ≤ 9223372036854775807 then (if ((⟨#[40]⟩ : ByteArray) ++ t375).size + 1 ≤ 9223372036854775807 then (some (((⟨#[40]⟩ : ByteArray) ++ t375) ++ (⟨#[41]⟩ : ByteArray))) else (none)) else (none))))) = some r := h
 clear h
 replace H := Option.bind_eq_some_iff.mp H
 obtain ⟨t373, A30, H⟩ := H
 try dsimp only at H
 have A3 := Aside0.mk A30
 clear A30
 by_cases c4 : t373 ≥ a1
 ·rw [if_pos c4] at H
  have c4b0 : decide (a1 ≤ t373) = true := decide_eq_true c4
  clear c4
  replace H := Option.bind_eq_some_iff.mp H
  obtain ⟨t374, A50, H⟩ := H
  try dsimp only at H
  have A5 := Aside0.mk A50
  clear A50
  obtain rfl := Option.some.inj H
  go_enter Try.func103, Try.ntmps103
  go_wp2_with (first | ((with_reducible refine gate_dst (N := 2) rfl ?_); refine box_event ?hg (N := 2) ?hd (cs := #[.int .u8 a0_0, .string a0_1, .slice A0_2 l0_2.length c0_2]) (t := 133) ?hr ?_; (case hd => rfl); (case hg => rfl); (case hr => first | (go_simp; done) | (go_simp; rfl)); intro gb372 hg w6 hbox hb; have n_ := c4_ (below_step (a1_) hb) (hbox) ((by rw [hg]; exact (below_size (a1_)) : w.heap.size ≤ gb372)) ((by rw [hg]; exact (below_size (a1_)) : w.heap.size ≤ gb372)); clear HB; obtain ⟨HB, BK372, GW372, GE372⟩ := n_; clear hb hbox hg; obtain ⟨hcz7_0, hcz7_1, hcz7_2, hfz7_0, hfz7_1, hfz7_2⟩ := cf3_ BK372.out) | ((with_reducible refine gate_callee (f := 104) rfl ?_); refine goesL_ (some 6) rfl rfl Try.func104 (by kernel_rfl) rfl #[.agg #[.int .u8 a0_0, .string a0_1, .slice A0_2 l0_2.length c0_2]] rfl (a2_) ?_; (with_reducible refine (impl_test_rank.calls a0_0 a0_1 _ _ l0_2 t373 _ ?side1 ?side2 A3.out).mono ?_); (case side1 => exact a3_); (case side2 => exact HC0_2.out); rintro e w8 ⟨rfl, hb⟩; refine ⟨_, rfl, ?_⟩; have n_ := c2_ (blk_below (g := gb372) (o := .cells #[.int .u8 a0_0, .string a0_1, .slice A0_2 l0_2.length c0_2] 133 (0, 0)) (a4_) hb) (below_step (a5_) hb); clear BK372 HB; obtain ⟨BK372, HB⟩ := n_; (try clear hb); (try clear hb2); (try clear hk); (try clear hi); obtain ⟨hcz9_0, hcz9_1, hcz9_2, hfz9_0, hfz9_1, hfz9_2⟩ := cf3_ BK372.out) | ((with_reducible refine gate_callee (f := 99) rfl ?_); refine goesL_ (some 10) rfl rfl Try.func99 (by kernel_rfl) rfl #[.agg #[.int .u8 a0_0, .string a0_1, .slice A0_2 l0_2.length c0_2]] rfl (a2_) ?_; (with_reducible refine (impl_test_show.calls a0_0 a0_1 _ _ l0_2 t374 _ ?side1 ?side2 A5.out).mono ?_); (case side1 => exact a3_); (case side2 => exact HC0_2.out); rintro e w10 ⟨rfl, hb⟩; refine ⟨_, rfl, ?_⟩; have n_ := c2_ (blk_below (g := gb372) (o := .cells #[.int .u8 a0_0, .string a0_1, .slice A0_2 l0_2.length c0_2] 133 (0, 0)) (a4_) hb) (below_step (a5_) hb); clear BK372 HB; obtain ⟨BK372, HB⟩ := n_; (try clear hb); (try clear hb2); (try clear hk); (try clear hi)))
  go_ret
  exact ⟨by first | rfl | (simp [errW_none, errW_some] <;> rfl) | (simp [*, errW_none, errW_some] <;> rfl), a5_⟩
 ·rw [if_neg c4] at H
  have c4b0 : decide (a1 ≤ t373) = false := decide_eq_false c4
  clear c4
  replace H := Option.bind_eq_some_iff.mp H
  obtain ⟨t375, A110, H⟩ := H
  try dsimp only at H
  have A11 := Aside0.mk A110
  clear A110
  by_cases c12 : 1 + t375.size ≤ 9223372036854775807
  ·rw [if_pos c12] at H
   have c12b0 := eq_true c12
   have c12b1 : decide (1 + t375.size ≤ 9223372036854775807) = true := decide_eq_true c12
   try have c12b2 : (9223372036854775807 < 1 + t375.size) = False := eq_false (Nat.not_lt.2 c12)
   by_cases c13 : ((⟨#[40]⟩ : ByteArray) ++ t375).size + 1 ≤ 9223372036854775807
   ·rw [if_pos c13] at H
    have c13b0 := eq_true c13
    have c13s : (1 + (t375).size) + 1 ≤ 9223372036854775807 := by (have h_ := c13; (try simp only [ByteArray.size_append] at h_); first | exact h_ | omega)
    try have c13t : (9223372036854775807 < (1 + (t375).size) + 1) = False := eq_false (Nat.not_lt.2 c13s)
    have c13b1 : decide (((⟨#[40]⟩ : ByteArray) ++ t375).size + 1 ≤ 9223372036854775807) = true := decide_eq_true c13
    try have c13b2 : (9223372036854775807 < ((⟨#[40]⟩ : ByteArray) ++ t375).size + 1) = False := eq_false (Nat.not_lt.2 c13)
    obtain rfl := Option.some.inj H
    go_enter Try.func103, Try.ntmps103
    go_wp2_with (first | ((with_reducible refine gate_dst (N := 2) rfl ?_); refine box_event ?hg (N := 2) ?hd (cs := #[.int .u8 a0_0, .string a0_1, .slice A0_2 l0_2.length c0_2]) (t := 133) ?hr ?_; (case hd => rfl); (case hg => rfl); (case hr => first | (go_simp; done) | (go_simp; rfl)); intro gb372 hg w14 hbox hb; have n_ := c4_ (below_step (a1_) hb) (hbox) ((by rw [hg]; exact (below_size (a1_)) : w.heap.size ≤ gb372)) ((by rw [hg]; exact (below_size (a1_)) : w.heap.size ≤ gb372)); clear HB; obtain ⟨HB, BK372, GW372, GE372⟩ := n_; clear hb hbox hg; obtain ⟨hcz15_0, hcz15_1, hcz15_2, hfz15_0, hfz15_1, hfz15_2⟩ := cf3_ BK372.out) | ((with_reducible refine gate_callee (f := 104) rfl ?_); refine goesL_ (some 6) rfl rfl Try.func104 (by kernel_rfl) rfl #[.agg #[.int .u8 a0_0, .string a0_1, .slice A0_2 l0_2.length c0_2]] rfl (a2_) ?_; (with_reducible refine (impl_test_rank.calls a0_0 a0_1 _ _ l0_2 t373 _ ?side1 ?side2 A3.out).mono ?_); (case side1 => exact a3_); (case side2 => exact HC0_2.out); rintro e w16 ⟨rfl, hb⟩; refine ⟨_, rfl, ?_⟩; have n_ := c2_ (blk_below (g := gb372) (o := .cells #[.int .u8 a0_0, .string a0_1, .slice A0_2 l0_2.length c0_2] 133 (0, 0)) (a4_) hb) (below_step (a5_) hb); clear BK372 HB; obtain ⟨BK372, HB⟩ := n_; (try clear hb); (try clear hb2); (try clear hk); (try clear hi); obtain ⟨hcz17_0, hcz17_1, hcz17_2, hfz17_0, hfz17_1, hfz17_2⟩ := cf3_ BK372.out) | ((with_reducible refine gate_callee (f := 99) rfl ?_); refine goesL_ (some 12) rfl rfl Try.func99 (by kernel_rfl) rfl #[.agg #[.int .u8 a0_0, .string a0_1, .slice A0_2 l0_2.length c0_2]] rfl (a2_) ?_; (with_reducible refine (impl_test_show.calls a0_0 a0_1 _ _ l0_2 t375 _ ?side1 ?side2 A11.out).mono ?_); (case side1 => exact a3_); (case side2 => exact HC0_2.out); rintro e w18 ⟨rfl, hb⟩; refine ⟨_, rfl, ?_⟩; have n_ := c2_ (blk_below (g := gb372) (o := .cells #[.int .u8 a0_0, .string a0_1, .slice A0_2 l0_2.length c0_2] 133 (0, 0)) (a4_) hb) (below_step (a5_) hb); clear BK372 HB; obtain ⟨BK372, HB⟩ := n_; (try clear hb); (try clear hb2); (try clear hk); (try clear hi)))
    go_ret
    exact ⟨by first | rfl | (simp [errW_none, errW_some] <;> rfl) | (simp [*, errW_none, errW_some] <;> rfl), a5_⟩
   ·rw [if_neg c13] at H
    exact absurd H (by simp)
  ·rw [if_neg c12] at H
   exact absurd H (by simp)
end

/-! ### strings_Join: function 105 -/
def strings_Join.f (l0 : List ByteArray) (a1 : ByteArray) : Option (ByteArray) := if l0.length ≤ 140737488355328 ∧ (Lib.join (l0.map (·.data.toList)) a1.data.toList).length ≤ 140737488355328 then some ⟨(Lib.join (l0.map (·.data.toList)) a1.data.toList).toArray⟩ else none
theorem strings_Join.calls (A0 : Option Addr) (c0 : Nat) (l0 : List ByteArray) (a1 : ByteArray) (r : ByteArray) (w : World) (hr0 : Kd.C Kd.string w A0 l0.length l0) (hc0 : l0.length ≤ c0) (h : strings_Join.f l0 a1 = some r) :
  Calls Try.prog 105 #[.slice A0 l0.length c0, .string a1] w fun e w' => e = .returned (.string r) ∧ Below w.heap.size w w' := by
 unfold strings_Join.f at h
 by_cases hl : l0.length ≤ 140737488355328 ∧ (Lib.join (l0.map (·.data.toList)) a1.data.toList).length ≤ 140737488355328
 case neg => rw [if_neg hl] at h; cases h
 rw [if_pos hl] at h
 obtain rfl := Option.some.inj h
 cases l0 with
 | nil =>
  refine (Try.strings_Join_none A0 c0 a1 w).mono ?_
  rintro e w' ⟨rfl, rfl⟩
  exact ⟨rfl, Below.refl _ _⟩
 | cons x xs =>
  have hlen : (0 : Int) < ((x :: xs).length : Int) := by simp only [List.length_cons]; omega
  obtain ⟨⟨b, o, s⟩, rfl, h0⟩ := Kd.at_string hr0 0 (by omega) hlen
  have hs : s = none := by
   cases s with
   | none => rfl
   | some z =>
    exfalso
    simp only [Int.toNat_zero, Addr.add, if_pos, World.cell?] at h0
    cases hb : w.heap[b]? with
    | none => rw [hb] at h0; cases h0
    | some q => rw [hb] at h0; cases q <;> simp at h0
  subst hs
  have hb : b < w.heap.size := by
   have := World.block_lt_of_cell? w _ h0
   simpa [Addr.add] using this
  refine (Try.strings_Join b o c0 (x :: xs) a1 w ?_ hb hl.1 hc0 hl.2).mono (fun e w' h => h)
  intro j y hj
  obtain ⟨hjl, hy⟩ := List.getElem?_eq_some_iff.1 hj
  obtain ⟨ad, e1, hc⟩ := Kd.at_string hr0 (j : Int) (by omega) (by omega)
  injection e1 with e1
  subst e1
  have e2 : rdOf ByteArray.empty (x :: xs) (j : Int) = y := by
   simp only [rdOf, Int.toNat_natCast, List.getD_eq_getElem?_getD, hj, Option.getD_some]
  rw [e2] at hc
  have e3 : Addr.add ⟨b, o, none⟩ ((j : Int)).toNat = ⟨b, o + j, none⟩ := by
   simp only [Int.toNat_natCast, Addr.add]
   by_cases hj0 : j = 0
   ·subst hj0; rfl
   ·rw [if_neg hj0]
  rw [e3] at hc
  exact hc

end Go.Proofs.Ytmecapnpgedcnaa.PFnExactShowSteps
