/- The row of the law: the arguments are opened, the contract is followed, the answer is true and the arguments read as they did. No condition beyond the given row. -/
import Derived.Test.YtfeieigajdekhaaFitFnExactIsTree
import Derived.Test.YtfeieigajdekhaaRows
import Derived.Test.YtfeieigajdekhaaOpnFnExactIsTree
import Derived.WalkKit
import Derived.ProofKit
import Derived.OpenShut
import Derived.ShutString
import Derived.ChangeOld
import Derived.Below
import Derived.SizedLaws
import Derived.Carry
import Derived.HandedShaped
import Derived.Shelf.Vars
namespace Go.Proofs.Ytfeieigajdekhaa.fnExactIsTree
open Go.ChangeShapes Go.WideShapes Go.ChangeAt Go.RowKit
open Go.ChangeMaps (open_string shut_string)
set_option linter.unusedVariables false
theorem own : ownKnob Try.prog.godebug = none := by kernel_rfl
theorem laidOut : laidOutB Try.prog = true := by kernel_rfl
theorem str_of {s : ByteArray} (h : s.size ≤ maxLen) : Go.Ab.Str s := by
  unfold maxLen at h
  unfold Go.Ab.Str
  omega
theorem ink_of {k : IntKind} {n : Int} (h : (Lit.int k n).wf = true) : Go.Ab.InK k n := by
  simpa [Lit.wf, Go.Ab.InK] using h
theorem gm_shaped {w : World} (h : w.ShapedOpen Try.prog) : Go.Ab.Gm w :=
  Go.Proofs.cell_of_shapedOpen_int (zero := #[.int .i64 0]) (t := 3) h (of_decide_eq_true (by kernel_rfl)) (by kernel_rfl) rfl (by kernel_rfl) (by kernel_rfl) Try.underlying3
set_option maxRecDepth 100000 in
theorem lifted (os : Os) (started : os.Started) (H : Type) (enc : TypeId × Value → H) :
    ReturnsInHanded {} Try.checked os 5 .any (Rows.fnExactIsTreeSpec.pre6 enc Try.prog Try.f5 Rows.fnExactIsTreeRow.domain false) (Rows.fnExactIsTreeSpec.post enc Try.prog Try.f5 false true false false) := by
  refine returnsInHanded_of_change_shaped (C := Try.checked) own started (by kernel_rfl) Try.func5
    (ChangeSpec.witness6 (enc := enc) (C := Try.checked) false ⟨#[], #[.slice none 0 0], []⟩ 8 (by kernel_rfl) (by kernel_rfl) (by kernel_rfl) (by kernel_rfl)) ?_
  intro W base args ds gs before hval0 hW hcnd hsz0 hsh _
  have hval : ∀ (j : Nat) t v, Try.f5.params[j]? = some t → args[j]? = some v → Value.okWide Try.prog W .any base t v := hval0
  have hW' := hW
  obtain ⟨p, q, hA0, hV, rfl, hfz, hnd⟩ := hW
  have hA : DataW.TrodAll enc Try.prog W 0 (fun _ => true) true Try.f5.params.toList args.toList ds p := hA0
  rw [Try.params5] at hA hval
  obtain ⟨v0, vs0, d0, ds0, p0, q0, hargs, rfl, rfl, h0, r0⟩ := trodAll_cons hA
  obtain ⟨rfl, rfl, rfl⟩ := trodAll_nil r0
  obtain rfl : args = #[v0] := by cases args; simp_all
  obtain ⟨rfl, rfl⟩ := trodVars_none hV
  obtain ⟨ob, hob, fob⟩ := Go.Ab.int_obj (gm_shaped hsh)
  obtain ⟨K, hKn, hKO⟩ : ∃ K, Go.Ab.Knows K W ∧ Go.Ab.KOk K := ⟨[(0, ob)], Go.Ab.knows_cons hob (Go.Ab.knows_nil _), ⟨fun w hk => fob w (hk (0, ob) (by simp))⟩⟩
  have k0 := h0
  obtain ⟨b0, len0, cap0, rfl⟩ := okWide_slice Try.underlying34 (hval 0 34 v0 rfl rfl)
  obtain ⟨fu0, hf0⟩ := h0
  obtain ⟨x0, R0, wf0⟩ := (open Go.Ab in (op_slice (s := 3) Try.underlying34 (by kernel_rfl) len64 op65) : Go.Ab.Op Try.prog W (open Go.Ab in (lrw en64)) 34 (open Go.Ab in (Lst wf64))) enc fu0 _ _ hf0
  have lt0 : ∀ x ∈ p0, x.block < W.heap.size := by obtain ⟨m, hm⟩ := k0; exact DataW.trod_lt m _ _ _ hm
  obtain ⟨k, hk⟩ := Go.Ab.said_FnExactIsTree x0 wf0
  clear hA0 hval0 hsz0
  refine (Go.Ab.law_row hKn (Go.Ab.laws_FnExactIsTree.con hk) (Go.Ab.ral_cons (Go.Ab.RowP.ra R0) Go.Ab.ral_nil)).mono fun e W' ⟨he, hb⟩ => ?_
  subst he
  have bel := hb
  exact ⟨_, rfl, _, _, _, [], _, [], hW', trodAll_mk1 (shut_bool Try.underlying4 _), (trodAll_cons_mk (Below.trod laidOut (by kernel_rfl) (of_decide_eq_true (by kernel_rfl)) k0 bel lt0) trodAll_mk0), rfl, bel.frame _, fun h => by cases h⟩
theorem over : Rows.fnExactIsTreeRow.holds Try.pinned (OpenSpec.ofChange Rows.fnExactIsTreeSpec) :=
  OpenClaim.holds_of_wide 5 Try.f5 rfl rfl rfl rfl rfl rfl rfl ⟨rfl, rfl, rfl, rfl, rfl⟩ rfl rfl rfl rfl rfl (by kernel_rfl) Try.func5 Go.Ab.fitsFnExactIsTree
    (of_decide_eq_true (by kernel_rfl)) (by unfold Func.isWrapper; first | (rw [if_pos (by decide +kernel)]; kernel_rfl) | (rw [if_neg (by decide +kernel)]; exact ⟨rfl, rfl⟩))
    (fun os started H enc _ => lifted os started H enc)
theorem proved : Rows.FnExactIsTreeSaid := over
#print axioms proved
end Go.Proofs.Ytfeieigajdekhaa.fnExactIsTree
namespace Go.Proofs.Ytfeieigajdekhaa
/-- The row, under a short name, for the claim. -/
theorem fnExactIsTree_holds : Rows.FnExactIsTreeSaid := fnExactIsTree.proved
end Go.Proofs.Ytfeieigajdekhaa
