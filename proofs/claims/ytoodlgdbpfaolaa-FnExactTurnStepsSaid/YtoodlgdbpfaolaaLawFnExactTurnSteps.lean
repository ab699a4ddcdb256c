/- The row of the law: the arguments are opened, the contract is followed, the answer is true and the arguments read as they did. No condition beyond the given row. -/
import Derived.Test.YtoodlgdbpfaolaaFitFnExactTurnSteps
import Derived.Test.YtoodlgdbpfaolaaRows
import Derived.Test.YtoodlgdbpfaolaaOpnFnExactTurnSteps
import Derived.WalkKit
import Derived.ProofKit
import Derived.OpenShut
import Derived.ShutString
import Derived.ChangeOld
import Derived.Below
import Derived.SizedLaws
import Derived.Carry
import Derived.HandedShaped
namespace Go.Proofs.Ytoodlgdbpfaolaa.fnExactTurnSteps
open Go.ChangeShapes Go.WideShapes Go.ChangeAt Go.RowKit
open Go.ChangeMaps (open_string shut_string)
set_option linter.unusedVariables false
theorem own : ownKnob Try.prog.godebug = none := by kernel_rfl
theorem laidOut : laidOutB Try.prog = true := by kernel_rfl
theorem str_of {s : ByteArray} (h : s.size ≤ maxLen) : Go.Ab.Str s := by
  unfold maxLen at h
  unfold Go.Ab.Str
  omega
theorem ink_of {k : IntKind} {n : Int} (h : (Lit.int k n).wf = true) : Go.Ab.InK k n := by
  simpa [Lit.wf, Go.Ab.InK] using h
set_option maxRecDepth 100000 in
theorem lifted (os : Os) (started : os.Started) (H : Type) (enc : TypeId × Value → H) :
    ReturnsInHanded {} Try.checked os 3 .any (Rows.fnExactTurnStepsSpec.pre6 enc Try.prog Try.f3 Rows.fnExactTurnStepsRow.domain false) (Rows.fnExactTurnStepsSpec.post enc Try.prog Try.f3 false true false false) := by
  refine returnsInHanded_of_change_sized (C := Try.checked) own started (by kernel_rfl) Try.func3
    (ChangeSpec.witness6 (enc := enc) (C := Try.checked) false ⟨#[], #[.slice none 0 0], []⟩ 8 (by kernel_rfl) (by kernel_rfl) (by kernel_rfl) (by kernel_rfl)) ?_
  intro W base args ds gs before hval0 hW hcnd hsz0 _
  have hval : ∀ (j : Nat) t v, Try.f3.params[j]? = some t → args[j]? = some v → Value.okWide Try.prog W .any base t v := hval0
  have hW' := hW
  obtain ⟨p, q, hA0, hV, rfl, hfz, hnd⟩ := hW
  have hA : DataW.TrodAll enc Try.prog W 0 (fun _ => true) true Try.f3.params.toList args.toList ds p := hA0
  rw [Try.params3] at hA hval
  obtain ⟨v0, vs0, d0, ds0, p0, q0, hargs, rfl, rfl, h0, r0⟩ := trodAll_cons hA
  obtain ⟨rfl, rfl, rfl⟩ := trodAll_nil r0
  obtain rfl : args = #[v0] := by cases args; simp_all
  obtain ⟨rfl, rfl⟩ := trodVars_none hV
  obtain ⟨K, hKn, hKO⟩ : ∃ K, Go.Ab.Knows K W ∧ Go.Ab.KOk K := ⟨[], Go.Ab.knows_nil _, ⟨fun _ _ => trivial⟩⟩
  have k0 := h0
  obtain ⟨b0, len0, cap0, rfl⟩ := okWide_slice Try.underlying22 (hval 0 22 v0 rfl rfl)
  obtain ⟨fu0, hf0⟩ := h0
  obtain ⟨x0, R0, wf0⟩ := (open Go.Ab in (op_slice (s := 3) Try.underlying22 (by kernel_rfl) len31 op32) : Go.Ab.Op Try.prog W (open Go.Ab in (lrw en31)) 22 (open Go.Ab in (Lst wf31))) enc fu0 _ _ hf0
  have lt0 : ∀ x ∈ p0, x.block < W.heap.size := by obtain ⟨m, hm⟩ := k0; exact DataW.trod_lt m _ _ _ hm
  obtain ⟨k, hk⟩ := Go.Ab.said_FnExactTurnSteps x0 wf0
  clear hA0 hval0 hsz0
  refine (Go.Ab.law_rowT hKn (Go.Ab.laws_FnExactTurnSteps.con hk) (Go.Ab.ral_cons (Go.Ab.RowP.raO R0) Go.Ab.ral_nil)).mono fun e W' ⟨he, hb⟩ => ?_
  subst he
  have bel := hb
  exact ⟨_, rfl, _, _, _, [], _, [], hW', trodAll_mk1 (shut_bool Try.underlying4 _), (trodAll_cons_mk (Below.trod laidOut (by kernel_rfl) (of_decide_eq_true (by kernel_rfl)) k0 bel lt0) trodAll_mk0), rfl, bel.frame _, fun h => by cases h⟩
theorem over : Rows.fnExactTurnStepsRow.holds Try.pinned (OpenSpec.ofChange Rows.fnExactTurnStepsSpec) :=
  OpenClaim.holds_of_wide 3 Try.f3 rfl rfl rfl rfl rfl rfl rfl ⟨rfl, rfl, rfl, rfl, rfl⟩ rfl rfl rfl rfl rfl (by kernel_rfl) Try.func3 Go.Ab.fitsFnExactTurnSteps
    (of_decide_eq_true (by kernel_rfl)) (by unfold Func.isWrapper; first | (rw [if_pos (by decide +kernel)]; kernel_rfl) | (rw [if_neg (by decide +kernel)]; exact ⟨rfl, rfl⟩))
    (fun os started H enc _ => lifted os started H enc)
theorem proved : Rows.FnExactTurnStepsSaid := over
#print axioms proved
end Go.Proofs.Ytoodlgdbpfaolaa.fnExactTurnSteps
namespace Go.Proofs.Ytoodlgdbpfaolaa
/-- The row, under a short name, for the claim. -/
theorem fnExactTurnSteps_holds : Rows.FnExactTurnStepsSaid := fnExactTurnSteps.proved
end Go.Proofs.Ytoodlgdbpfaolaa
