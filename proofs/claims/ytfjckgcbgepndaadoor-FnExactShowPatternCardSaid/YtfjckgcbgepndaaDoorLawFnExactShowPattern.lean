/- The row of the law: the arguments are opened, the contract is followed, the answer is true and the arguments read as they did. No condition beyond the given row. -/
import Derived.Test.YtfjckgcbgepndaaDoorFitFnExactShowPattern
import Derived.Test.YtfjckgcbgepndaaDoorRows
import Derived.Test.YtfjckgcbgepndaaDoorOpnFnExactShowPattern
import Derived.WalkKit
import Derived.ProofKit
import Derived.OpenShut
import Derived.ShutString
import Derived.ChangeOld
import Derived.Below
import Derived.SizedLaws
import Derived.Carry
import Derived.HandedShaped
import Derived.Shelf.Vars
import Derived.LaidMore
import Derived.LaidSub
import Derived.Lib.LaidTab
import Derived.Stop.Joined
import Derived.SevenTiedAt
import Derived.Test.YtfjckgcbgepndaaDoorTie
import Derived.Test.YtfjckgcbgepndaaDoorCards
namespace Go.Proofs.YtfjckgcbgepndaaDoor.fnExactShowPattern
open Go.ChangeShapes Go.WideShapes Go.ChangeAt Go.RowKit
open Go.ChangeMaps (open_string shut_string)
set_option linter.unusedVariables false
theorem own : ownKnob Tryd.prog.godebug = none := by kernel_rfl
theorem laidOut : laidOutB Tryd.prog = true := by kernel_rfl
theorem str_of {s : ByteArray} (h : s.size ≤ maxLen) : Go.Ab.Str s := by
  unfold maxLen at h
  unfold Go.Ab.Str
  omega
theorem ink_of {k : IntKind} {n : Int} (h : (Lit.int k n).wf = true) : Go.Ab.InK k n := by
  simpa [Lit.wf, Go.Ab.InK] using h
theorem gm_shaped {w : World} (h : w.ShapedOpen Tryd.prog) : Go.Ab.Gm w :=
  Go.Proofs.cell_of_shapedOpen_int (zero := #[.int .i64 0]) (t := 3) h (of_decide_eq_true (by kernel_rfl)) (by kernel_rfl) rfl (by kernel_rfl) (by kernel_rfl) Tryd.underlying3
noncomputable abbrev laidL : List (String × DataW Unit) := [("math/bits.deBruijn32tab", Rows.laid_math_bits_deBruijn32tab), ("math/bits.deBruijn64tab", Rows.laid_math_bits_deBruijn64tab), ("internal/strconv.uint64pow10", Rows.laid_internal_strconv_uint64pow10)]
theorem door_met (os : Os) (args : Array Value) : laidMetH Tryd.prog laidL ((World.doorLaid Tryd.prog 400 os).forCall (fun _ _ => 0) ⟨#[], args, []⟩).memory :=
  laidMetH_of_parts3 (fuel := 8) (laidMet_of_run' 8 (by kernel_rfl) (by kernel_rfl)) (by kernel_rfl) (by kernel_rfl)
theorem gp_laid {W : World} (h : laidMetH Tryd.prog laidL W) : Go.Ab.Gp W := by
  have h1 := laidMetH.filter (fun x => x.1 == "internal/strconv.uint64pow10") h
  rw [show laidL.filter (fun x => x.1 == "internal/strconv.uint64pow10") = [("internal/strconv.uint64pow10", Lib.tabData .u64 Lib.pow10Tab)] from by kernel_rfl] at h1
  rw [MakeChecks.laidMetH_plain _ _ _ (by kernel_rfl)] at h1
  exact Lib.tabIs_of_head (g := 1) (t := 124) (e := 115) (n := 20) (by kernel_rfl) (by kernel_rfl) Tryd.underlying124 Tryd.underlying115 (by kernel_rfl) (by kernel_rfl) h1
theorem knows {W : World} (h : laidMetH Tryd.prog laidL W) (hsh : W.ShapedOpen Tryd.prog) : ∃ K, Go.Ab.Knows K W ∧ Go.Ab.KOk K := by
  obtain ⟨o0, h0, f0⟩ := Go.Ab.tab_obj (g := 1) (by kernel_rfl) (gp_laid h)
  obtain ⟨o1, h1, f1⟩ := Go.Ab.int_obj (gm_shaped hsh)
  exact ⟨[(1, o0), (0, o1)], Go.Ab.knows_cons h0 (Go.Ab.knows_cons h1 (Go.Ab.knows_nil _)), ⟨fun w hk => ⟨f0 w (hk (1, o0) (by simp)), f1 w (hk (0, o1) (by simp))⟩⟩⟩
set_option maxRecDepth 100000 in
theorem contract_ {H : Type} (enc : TypeId × Value → H) (W : World) (base : Nat) (args : Array Value) (ds gs : List (DataW H)) (before : List MemPlace) (hval0 : ∀ (j : Nat) t v, Tryd.f3.params[j]? = some t → args[j]? = some v → Value.okWide Tryd.prog W .any base t v) (hW : DataW.Whole enc Tryd.prog Tryd.f3.params.toList Rows.fnExactShowPatternSpec.vars false W args.toList ds gs before) (hL : laidMetH Tryd.prog laidL W) (hsh : W.ShapedOpen Tryd.prog) :
    Calls Tryd.prog 3 args W fun e W' => ∃ v, e = .returned v ∧ Rows.fnExactShowPatternSpec.post enc Tryd.prog Tryd.f3 false true false false W args v W' := by
  have hval : ∀ (j : Nat) t v, Tryd.f3.params[j]? = some t → args[j]? = some v → Value.okWide Tryd.prog W .any base t v := hval0
  have hW' := hW
  obtain ⟨p, q, hA0, hV, rfl, hfz, hnd⟩ := hW
  have hA : DataW.TrodAll enc Tryd.prog W 0 (fun _ => true) true Tryd.f3.params.toList args.toList ds p := hA0
  rw [Tryd.params3] at hA hval
  obtain ⟨v0, vs0, d0, ds0, p0, q0, hargs, rfl, rfl, h0, r0⟩ := trodAll_cons hA
  obtain ⟨rfl, rfl, rfl⟩ := trodAll_nil r0
  obtain rfl : args = #[v0] := by cases args; simp_all
  obtain ⟨rfl, rfl⟩ := trodVars_none hV
  obtain ⟨K, hKn, hKO⟩ := knows hL hsh
  have k0 := h0
  obtain ⟨cs0, rfl, sz0⟩ := okWide_struct Tryd.underlying25 (hval 0 25 v0 rfl rfl)
  obtain ⟨fu0, hf0⟩ := h0
  obtain ⟨x0, R0, wf0⟩ := (Go.Ab.op25 (W := W)) enc fu0 _ _ hf0
  have lt0 : ∀ x ∈ p0, x.block < W.heap.size := by obtain ⟨m, hm⟩ := k0; exact DataW.trod_lt m _ _ _ hm
  have g0 := Go.Ab.RowP.agg (K := K) R0
  simp only [Go.Ab.en24, List.map_cons, List.map_nil] at g0
  obtain ⟨k, hk⟩ := Go.Ab.said_FnExactShowPattern x0 wf0
  clear hA0 hval0
  refine (Go.Ab.law_row hKn (Go.Ab.laws_FnExactShowPattern.con hk) (Go.Ab.ral_cons g0 Go.Ab.ral_nil)).mono fun e W' ⟨he, hb⟩ => ?_
  subst he
  have bel := hb
  exact ⟨_, rfl, _, _, _, [], _, [], hW', trodAll_mk1 (shut_bool Tryd.underlying4 _), (trodAll_cons_mk (Below.trod laidOut (by kernel_rfl) (of_decide_eq_true (by kernel_rfl)) k0 bel lt0) trodAll_mk0), rfl, bel.frame _, fun h => by cases h⟩
set_option maxRecDepth 100000 in
theorem lifted (os : Os) (started : os.Started) (H : Type) (enc : TypeId × Value → H) :
    ReturnsInHanded {} Tryd.checked os 3 .any (fun w args => (Rows.fnExactShowPatternSpec.pre enc Tryd.prog Tryd.f3 [] false w args ∧ laidMetH Tryd.prog laidL w) ∧ sizedMet enc Tryd.prog Tryd.f3 (OpenSpec.ofChange Rows.fnExactShowPatternSpec) false w args) (Rows.fnExactShowPatternSpec.post enc Tryd.prog Tryd.f3 false true false false) := by
  refine returnsInHanded_of_calls (C := Tryd.checked) own started (by kernel_rfl)
    (ChangeSpec.witness_shaped (enc := enc) (C := Tryd.checked) (os := os) (X := fun w _ => laidMetH Tryd.prog laidL w) false (World.doorLaid Tryd.prog 400 os) #[.agg #[.string ByteArray.empty, .int .i64 0, .bool false, .slice none 0 0, .slice none 0 0]] 8 rfl (World.shaped_of_RefB (by kernel_rfl) (by kernel_rfl)) (by kernel_rfl) (by kernel_rfl) (by kernel_rfl) (door_met os _)) ?_
  intro w tape i _ hsh _ hok hpre hholds
  obtain ⟨_, _, _, fn, hfn, _, _, _, _, hval⟩ := hok
  have e : fn = Tryd.f3 := Option.some.inj (hfn.symm.trans Tryd.func3)
  subst e
  obtain ⟨⟨⟨ds, gs, before, hw, hc⟩, hx⟩, hz⟩ := hpre
  refine (contract_ enc (w.forCall tape i) w.heap.size i.args ds gs before hval (DataW.Whole.of_heap (w' := w.forCall tape i) (by rfl) hw) (hx.of_heap (by rfl)) hsh).mono fun e W' ⟨v, he, hp⟩ => ?_
  subst he
  exact ChangeSpec.post_blind hp
theorem over : Rows.fnExactShowPatternRow.holds Tryd.pinned (OpenSpec.ofChange Rows.fnExactShowPatternSpec) :=
  OpenClaim.holds_of_wide 3 Tryd.f3 rfl rfl rfl rfl rfl rfl rfl ⟨rfl, rfl, rfl, rfl, rfl⟩ rfl rfl rfl rfl rfl (by kernel_rfl) Tryd.func3 Go.Ab.fitsFnExactShowPattern
    (of_decide_eq_true (by kernel_rfl)) (by unfold Func.isWrapper; first | (rw [if_pos (by decide +kernel)]; kernel_rfl) | (rw [if_neg (by decide +kernel)]; exact ⟨rfl, rfl⟩))
    (fun os started H enc _ => lifted os started H enc)
theorem proved : Rows.FnExactShowPatternSaid := over
theorem card : Rows.FnExactShowPatternCardSaid :=
  Claim7.holds_tied_plain_at .later [] [.data, .data, .data] true (true, "d5bb8da04bf34c4f13e11310c2040c1a00d1bb1ec82586f9ed45ed4e4929d310") false
    proved (fun _ h => by cases h) (by kernel_rfl) (fun _ h => by cases h) fnExactShowPattern_row_tie rfl ⟨rfl, rfl⟩ (by kernel_rfl) rfl
    (fun f fn hf hfn => by
      obtain rfl : f = 3 := Option.some.inj ((show Tryd.prog.funcNamed "loop.example/g00042/laws.FnExactShowPattern" = some 3 by kernel_rfl).symm.trans hf) |>.symm
      obtain rfl : fn = Tryd.f3 := (Option.some.inj (Tryd.func3.symm.trans hfn)).symm
      exact ⟨by kernel_rfl, fun j t ht => by
        rw [Tryd.params3] at ht
        have hm : t ∈ [25] := by simpa using Array.mem_of_getElem? ht
        have hall : ([25].all fun u => !Tryd.prog.wantsStandIn u) = true := by kernel_rfl
        exact (show Tryd.prog.wantsStandIn t = false by simpa using List.all_eq_true.1 hall t hm)⟩)
    (by kernel_rfl)
#print axioms card
end Go.Proofs.YtfjckgcbgepndaaDoor.fnExactShowPattern
namespace Go.Proofs.YtfjckgcbgepndaaDoor
/-- The row, under a short name, for the claim. -/
theorem fnExactShowPattern_holds : Rows.FnExactShowPatternCardSaid := fnExactShowPattern.card
end Go.Proofs.YtfjckgcbgepndaaDoor
