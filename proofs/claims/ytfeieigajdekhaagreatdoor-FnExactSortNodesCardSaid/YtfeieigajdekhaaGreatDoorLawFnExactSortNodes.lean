/- The row of the law: the arguments are opened, the contract is followed, the answer is true and the arguments read as they did. No condition beyond the given row. -/
import Derived.Test.YtfeieigajdekhaaGreatDoorFitFnExactSortNodes
import Derived.Test.YtfeieigajdekhaaGreatDoorRows
import Derived.Test.YtfeieigajdekhaaGreatDoorOpnFnExactSortNodes
import Derived.WalkKit
import Derived.ProofKit
import Derived.OpenShut
import Derived.ShutString
import Derived.ChangeOld
import Derived.Below
import Derived.SizedLaws
import Derived.Carry
import Derived.HandedShaped
import Derived.LaidMore
import Derived.LaidSub
import Derived.Lib.LaidTab
import Derived.Stop.Joined
import Derived.SevenTiedAt
import Derived.Test.YtfeieigajdekhaaGreatDoorTie
import Derived.Test.YtfeieigajdekhaaGreatDoorCards
namespace Go.Proofs.YtfeieigajdekhaaGreatDoor.fnExactSortNodes
open Go.ChangeShapes Go.WideShapes Go.ChangeAt Go.RowKit
open Go.ChangeMaps (open_string shut_string)
set_option linter.unusedVariables false
theorem own : ownKnob Tryz.prog.godebug = none := by kernel_rfl
theorem laidOut : laidOutB Tryz.prog = true := by kernel_rfl
theorem str_of {s : ByteArray} (h : s.size ≤ maxLen) : Go.Ab.Str s := by
  unfold maxLen at h
  unfold Go.Ab.Str
  omega
theorem ink_of {k : IntKind} {n : Int} (h : (Lit.int k n).wf = true) : Go.Ab.InK k n := by
  simpa [Lit.wf, Go.Ab.InK] using h
noncomputable abbrev laidL : List (String × DataW Unit) := [("math/bits.deBruijn32tab", Rows.laid_math_bits_deBruijn32tab), ("math/bits.deBruijn64tab", Rows.laid_math_bits_deBruijn64tab), ("internal/strconv.uint64pow10", Rows.laid_internal_strconv_uint64pow10), ("strconv.ErrRange", Rows.laid_strconv_ErrRange), ("strconv.ErrSyntax", Rows.laid_strconv_ErrSyntax)]
theorem door_met (os : Os) (args : Array Value) : laidMetH Tryz.prog laidL ((World.doorLaid Tryz.prog 400 os).forCall (fun _ _ => 0) ⟨#[], args, []⟩).memory :=
  laidMetH_of_parts3 (fuel := 8) (laidMet_of_run' 8 (by kernel_rfl) (by kernel_rfl)) (by kernel_rfl) (by kernel_rfl)
theorem gp_laid {W : World} (h : laidMetH Tryz.prog laidL W) : Go.Ab.Gp W := by
  have h1 := laidMetH.filter (fun x => x.1 == "internal/strconv.uint64pow10") h
  rw [show laidL.filter (fun x => x.1 == "internal/strconv.uint64pow10") = [("internal/strconv.uint64pow10", Lib.tabData .u64 Lib.pow10Tab)] from by kernel_rfl] at h1
  rw [MakeChecks.laidMetH_plain _ _ _ (by kernel_rfl)] at h1
  exact Lib.tabIs_of_head (g := 2) (t := 161) (e := 142) (n := 20) (by kernel_rfl) (by kernel_rfl) Tryz.underlying161 Tryz.underlying142 (by kernel_rfl) (by kernel_rfl) h1
theorem eyntax_laid {W : World} (h : laidMetH Tryz.prog laidL W) : ∃ ob, W.heap[0]? = some ob ∧ ∀ w : World, w.heap[0]? = some ob → ∃ ev, w.cell? ⟨0, 0, none⟩ = some ev ∧ (ev = .nilIface ∨ ∃ te pe, ev = .iface te pe) := by
  have h1 := laidMetH.filter (fun x => x.1 == "strconv.ErrSyntax") h
  rw [show laidL.filter (fun x => x.1 == "strconv.ErrSyntax") = [("strconv.ErrSyntax", Rows.laid_strconv_ErrSyntax)] from by kernel_rfl] at h1
  rw [MakeChecks.laidMetH_plain _ _ _ (by kernel_rfl)] at h1
  exact Go.Ab.err_obj (g := 0) (ti := 136) h1 (by kernel_rfl) (by kernel_rfl) Tryz.underlying136
theorem erange_laid {W : World} (h : laidMetH Tryz.prog laidL W) : ∃ ob, W.heap[1]? = some ob ∧ ∀ w : World, w.heap[1]? = some ob → ∃ ev, w.cell? ⟨1, 0, none⟩ = some ev ∧ (ev = .nilIface ∨ ∃ te pe, ev = .iface te pe) := by
  have h1 := laidMetH.filter (fun x => x.1 == "strconv.ErrRange") h
  rw [show laidL.filter (fun x => x.1 == "strconv.ErrRange") = [("strconv.ErrRange", Rows.laid_strconv_ErrRange)] from by kernel_rfl] at h1
  rw [MakeChecks.laidMetH_plain _ _ _ (by kernel_rfl)] at h1
  exact Go.Ab.err_obj (g := 1) (ti := 136) h1 (by kernel_rfl) (by kernel_rfl) Tryz.underlying136
theorem knows {W : World} (h : laidMetH Tryz.prog laidL W) : ∃ K, Go.Ab.Knows K W ∧ Go.Ab.KOk K := by
  obtain ⟨o0, h0, f0⟩ := Go.Ab.tab_obj (g := 2) (by kernel_rfl) (gp_laid h)
  obtain ⟨o1, h1, f1⟩ := eyntax_laid h
  obtain ⟨o2, h2, f2⟩ := erange_laid h
  exact ⟨[(2, o0), (0, o1), (1, o2)], Go.Ab.knows_cons h0 (Go.Ab.knows_cons h1 (Go.Ab.knows_cons h2 (Go.Ab.knows_nil _))), ⟨fun w hk => ⟨f0 w (hk (2, o0) (by simp)), ⟨f1 w (hk (0, o1) (by simp)), f2 w (hk (1, o2) (by simp))⟩⟩⟩⟩
set_option maxRecDepth 100000 in
theorem lifted (os : Os) (started : os.Started) (H : Type) (enc : TypeId × Value → H) :
    ReturnsInHanded {} Tryz.checked os 3 .any (fun w args => (Rows.fnExactSortNodesSpec.pre enc Tryz.prog Tryz.f3 [] false w args ∧ laidMetH Tryz.prog laidL w) ∧ sizedMet enc Tryz.prog Tryz.f3 (OpenSpec.ofChange Rows.fnExactSortNodesSpec) false w args) (Rows.fnExactSortNodesSpec.post enc Tryz.prog Tryz.f3 false true false false) := by
  refine returnsInHanded_of_change_and (C := Tryz.checked) (X := fun w _ => laidMetH Tryz.prog laidL w) (fun _ _ _ hh h => h.of_heap hh) own started (by kernel_rfl) Tryz.func3
    (ChangeSpec.witness_shaped (enc := enc) (C := Tryz.checked) (os := os) (X := fun w _ => laidMetH Tryz.prog laidL w) false (World.doorLaid Tryz.prog 400 os) #[.agg #[.slice none 0 0, .slice none 0 0]] 8 rfl (World.shaped_of_RefB (by kernel_rfl) (by kernel_rfl)) (by kernel_rfl) (by kernel_rfl) (by kernel_rfl) (door_met os _)) ?_
  intro W base args ds gs before hval0 hW hcnd hsz0 hL _
  have hval : ∀ (j : Nat) t v, Tryz.f3.params[j]? = some t → args[j]? = some v → Value.okWide Tryz.prog W .any base t v := hval0
  have hW' := hW
  obtain ⟨p, q, hA0, hV, rfl, hfz, hnd⟩ := hW
  have hA : DataW.TrodAll enc Tryz.prog W 0 (fun _ => true) true Tryz.f3.params.toList args.toList ds p := hA0
  rw [Tryz.params3] at hA hval
  obtain ⟨v0, vs0, d0, ds0, p0, q0, hargs, rfl, rfl, h0, r0⟩ := trodAll_cons hA
  obtain ⟨rfl, rfl, rfl⟩ := trodAll_nil r0
  obtain rfl : args = #[v0] := by cases args; simp_all
  obtain ⟨rfl, rfl⟩ := trodVars_none hV
  obtain ⟨K, hKn, hKO⟩ := knows hL
  have k0 := h0
  obtain ⟨cs0, rfl, sz0⟩ := okWide_struct Tryz.underlying25 (hval 0 25 v0 rfl rfl)
  obtain ⟨fu0, hf0⟩ := h0
  obtain ⟨x0, R0, wf0⟩ := (Go.Ab.op25 (W := W)) enc fu0 _ _ hf0
  have lt0 : ∀ x ∈ p0, x.block < W.heap.size := by obtain ⟨m, hm⟩ := k0; exact DataW.trod_lt m _ _ _ hm
  have g0 := Go.Ab.RowP.aggO (K := K) R0
  simp only [Go.Ab.en24, List.map_cons, List.map_nil, Go.Ab.odp] at g0
  obtain ⟨k, hk⟩ := Go.Ab.said_FnExactSortNodes x0 wf0
  clear hA0 hval0 hsz0
  refine (Go.Ab.law_rowT hKn (Go.Ab.laws_FnExactSortNodes.con hk) (Go.Ab.ral_cons g0 Go.Ab.ral_nil)).mono fun e W' ⟨he, hb⟩ => ?_
  subst he
  have bel := hb
  exact ⟨_, rfl, _, _, _, [], _, [], hW', trodAll_mk1 (shut_bool Tryz.underlying4 _), (trodAll_cons_mk (Below.trod laidOut (by kernel_rfl) (of_decide_eq_true (by kernel_rfl)) k0 bel lt0) trodAll_mk0), rfl, bel.frame _, fun h => by cases h⟩
theorem over : Rows.fnExactSortNodesRow.holds Tryz.pinned (OpenSpec.ofChange Rows.fnExactSortNodesSpec) :=
  OpenClaim.holds_of_wide 3 Tryz.f3 rfl rfl rfl rfl rfl rfl rfl ⟨rfl, rfl, rfl, rfl, rfl⟩ rfl rfl rfl rfl rfl (by kernel_rfl) Tryz.func3 Go.Ab.fitsFnExactSortNodes
    (of_decide_eq_true (by kernel_rfl)) (by unfold Func.isWrapper; first | (rw [if_pos (by decide +kernel)]; kernel_rfl) | (rw [if_neg (by decide +kernel)]; exact ⟨rfl, rfl⟩))
    (fun os started H enc _ => lifted os started H enc)
theorem proved : Rows.FnExactSortNodesSaid := over
theorem hw1 : Rows.fnExactSortNodesRow.wfByText (OpenSpec.ofChange Rows.fnExactSortNodesSpec) = true := by kernel_rfl
theorem hm1 : Tryz.pinned.checked.prog.mainIs = some (((true, "bf98dc0a5645ecb3f1b4e2c2cf976f9b3c97f77860cb7839d152a722718fbad0") : Bool × String).1, ((true, "bf98dc0a5645ecb3f1b4e2c2cf976f9b3c97f77860cb7839d152a722718fbad0") : Bool × String).2.toList) := by kernel_rfl
theorem hn1 : Tryz.prog.funcNamed "loop.example/g00042/laws.FnExactSortNodes" = some 3 := by kernel_rfl
theorem hl1 : true = Tryz.pinned.checked.prog.looks [] := by kernel_rfl
theorem ha1 : ([25].all fun u => !Tryz.prog.wantsStandIn u) = true := by kernel_rfl
theorem hg1 : false = Rows.fnExactSortNodesRow.goesBy Tryz.pinned.checked.prog := by kernel_rfl
theorem card : Rows.FnExactSortNodesCardSaid :=
  Claim7.holds_tied_plain_at .later [] [.data, .data, .data, .sentinel, .sentinel] true (true, "bf98dc0a5645ecb3f1b4e2c2cf976f9b3c97f77860cb7839d152a722718fbad0") true
    proved (fun _ h => by cases h) hw1 (fun _ h => by cases h) fnExactSortNodes_row_tie rfl ⟨rfl, rfl⟩ hm1 rfl
    (fun f fn hf hfn => by
      obtain rfl : f = 3 := Option.some.inj (hn1.symm.trans hf) |>.symm
      obtain rfl : fn = Tryz.f3 := (Option.some.inj (Tryz.func3.symm.trans hfn)).symm
      exact ⟨hl1, fun j t ht => by
        rw [Tryz.params3] at ht
        have hm0 := Array.mem_of_getElem? ht
        have hm : t ∈ [25] := by first | (simpa using hm0) | (simp at hm0 ⊢; rcases hm0 with h | h <;> simp [h]; done) | (simp at hm0 ⊢; rcases hm0 with h | h | h <;> simp [h]; done) | (simp at hm0 ⊢; rcases hm0 with h | h | h | h <;> simp [h]; done) | (simp at hm0 ⊢; rcases hm0 with h | h | h | h | h <;> simp [h]; done)
        exact (show Tryz.prog.wantsStandIn t = false by simpa using List.all_eq_true.1 ha1 t hm)⟩)
    hg1
#print axioms card
end Go.Proofs.YtfeieigajdekhaaGreatDoor.fnExactSortNodes
namespace Go.Proofs.YtfeieigajdekhaaGreatDoor
/-- The row, under a short name, for the claim. -/
theorem fnExactSortNodes_holds : Rows.FnExactSortNodesCardSaid := fnExactSortNodes.card
end Go.Proofs.YtfeieigajdekhaaGreatDoor
