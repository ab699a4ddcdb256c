/- The row of the law: the arguments are opened, the contract is followed, the answer is true and the arguments read as they did. No condition beyond the given row. -/
import Derived.Test.YtphfoghhcemfhaaFitFnExactIsOf
import Derived.Test.YtphfoghhcemfhaaRows
import Derived.Test.YtphfoghhcemfhaaOpnFnExactIsOf
import Derived.WalkKit
import Derived.ProofKit
import Derived.OpenShut
import Derived.ShutString
import Derived.ChangeOld
import Derived.Below
import Derived.SizedLaws
import Derived.Carry
import Derived.HandedShaped
namespace Go.Proofs.Ytphfoghhcemfhaa.fnExactIsOf
open Go.ChangeShapes Go.WideShapes Go.ChangeAt Go.RowKit
open Go.ChangeMaps (open_string shut_string)
set_option linter.unusedVariables false
theorem own : ownKnob Try.prog.godebug = none := by kernel_rfl
theorem laidOut : laidOutB Try.prog = true := by kernel_rfl
theorem str_of {s : ByteArray} (h : s.size ≤ maxLen) : Go.Ab.Str s := by
  unfold maxLen at h
  unfold Go.Ab.Str
  omega
theorem ink_of {k : IntKind} {n : Int} (h : (Lit.int k n).wf = true) : Go.Ab.InK k n := by
  simpa [Lit.wf, Go.Ab.InK] using h
set_option maxRecDepth 100000 in
theorem lifted (os : Os) (started : os.Started) (H : Type) (enc : TypeId × Value → H) :
    ReturnsInHanded {} Try.checked os 9 .any (Rows.fnExactIsOfSpec.pre6 enc Try.prog Try.f9 Rows.fnExactIsOfRow.domain false) (Rows.fnExactIsOfSpec.post enc Try.prog Try.f9 false true false false) := by
  refine returnsInHanded_of_change_sized (C := Try.checked) own started (by kernel_rfl) Try.func9
    (ChangeSpec.witness6 (enc := enc) (C := Try.checked) false ⟨#[], #[.agg #[.slice none 0 0, .slice none 0 0, .slice none 0 0, .bool false], .slice none 0 0, .string ByteArray.empty], []⟩ 8 (by kernel_rfl) (by kernel_rfl) (by kernel_rfl) (by kernel_rfl)) ?_
  intro W base args ds gs before hval0 hW hcnd hsz0 _
  have hval : ∀ (j : Nat) t v, Try.f9.params[j]? = some t → args[j]? = some v → Value.okWide Try.prog W .any base t v := hval0
  have hW' := hW
  obtain ⟨p, q, hA0, hV, rfl, hfz, hnd⟩ := hW
  have hA : DataW.TrodAll enc Try.prog W 0 (fun _ => true) true Try.f9.params.toList args.toList ds p := hA0
  rw [Try.params9] at hA hval
  obtain ⟨v0, vs0, d0, ds0, p0, q0, hargs, rfl, rfl, h0, r0⟩ := trodAll_cons hA
  obtain ⟨v1, vs1, d1, ds1, p1, q1, rfl, rfl, rfl, h1, r1⟩ := trodAll_cons r0
  obtain ⟨v2, vs2, d2, ds2, p2, q2, rfl, rfl, rfl, h2, r2⟩ := trodAll_cons r1
  obtain ⟨rfl, rfl, rfl⟩ := trodAll_nil r2
  obtain rfl : args = #[v0, v1, v2] := by cases args; simp_all
  obtain ⟨rfl, rfl⟩ := trodVars_none hV
  obtain ⟨K, hKn, hKO⟩ : ∃ K, Go.Ab.Knows K W ∧ Go.Ab.KOk K := ⟨[], Go.Ab.knows_nil _, ⟨fun _ _ => trivial⟩⟩
  have k0 := h0
  obtain ⟨cs0, rfl, sz0⟩ := okWide_struct Try.underlying59 (hval 0 59 v0 rfl rfl)
  obtain ⟨fu0, hf0⟩ := h0
  obtain ⟨x0, R0, wf0⟩ := (Go.Ab.op59 (W := W)) enc fu0 _ _ hf0
  have lt0 : ∀ x ∈ p0, x.block < W.heap.size := by obtain ⟨m, hm⟩ := k0; exact DataW.trod_lt m _ _ _ hm
  have g0 := Go.Ab.RowP.agg (K := K) R0
  simp only [Go.Ab.en58, List.map_cons, List.map_nil] at g0
  have k1 := h1
  obtain ⟨b1, len1, cap1, rfl⟩ := okWide_slice Try.underlying50 (hval 1 50 v1 rfl rfl)
  obtain ⟨fu1, hf1⟩ := h1
  obtain ⟨x1, R1, wf1⟩ := (open Go.Ab in (op_slice (s := 1) Try.underlying50 (by kernel_rfl) (fun _ => rfl) (op_string Try.underlying9)) : Go.Ab.Op Try.prog W (open Go.Ab in (lrw srw)) 50 (open Go.Ab in (Lst Str))) enc fu1 _ _ hf1
  have lt1 : ∀ x ∈ p1, x.block < W.heap.size := by obtain ⟨m, hm⟩ := k1; exact DataW.trod_lt m _ _ _ hm
  have k2 := h2
  obtain ⟨a2, rfl, rfl, rfl, y2⟩ := open_string Try.underlying9 (hval 2 9 v2 rfl rfl) h2
  obtain ⟨k, hk⟩ := Go.Ab.said_FnExactIsOf x0 wf0 x1 wf1 a2
  clear hA0 hval0 hsz0
  refine (Go.Ab.law_row hKn (Go.Ab.laws_FnExactIsOf.con hk) (Go.Ab.ral_cons g0 (Go.Ab.ral_cons (Go.Ab.RowP.ra R1) (Go.Ab.ral_cons (Go.Ab.raw_str a2) Go.Ab.ral_nil)))).mono fun e W' ⟨he, hb⟩ => ?_
  subst he
  have bel := hb
  exact ⟨_, rfl, _, _, _, [], _, [], hW', trodAll_mk1 (shut_bool Try.underlying4 _), (trodAll_cons_mk (Below.trod laidOut (by kernel_rfl) (of_decide_eq_true (by kernel_rfl)) k0 bel lt0) (trodAll_cons_mk (Below.trod laidOut (by kernel_rfl) (of_decide_eq_true (by kernel_rfl)) k1 bel lt1) (trodAll_cons_mk (shut_string Try.underlying9 y2) trodAll_mk0))), rfl, bel.frame _, fun h => by cases h⟩
theorem over : Rows.fnExactIsOfRow.holds Try.pinned (OpenSpec.ofChange Rows.fnExactIsOfSpec) :=
  OpenClaim.holds_of_wide 9 Try.f9 rfl rfl rfl rfl rfl rfl rfl ⟨rfl, rfl, rfl, rfl, rfl⟩ rfl rfl rfl rfl rfl (by kernel_rfl) Try.func9 Go.Ab.fitsFnExactIsOf
    (of_decide_eq_true (by kernel_rfl)) (by unfold Func.isWrapper; first | (rw [if_pos (by decide +kernel)]; kernel_rfl) | (rw [if_neg (by decide +kernel)]; exact ⟨rfl, rfl⟩))
    (fun os started H enc _ => lifted os started H enc)
theorem proved : Rows.FnExactIsOfSaid := over
#print axioms proved
end Go.Proofs.Ytphfoghhcemfhaa.fnExactIsOf
namespace Go.Proofs.Ytphfoghhcemfhaa
/-- The row, under a short name, for the claim. -/
theorem fnExactIsOf_holds : Rows.FnExactIsOfSaid := fnExactIsOf.proved
end Go.Proofs.Ytphfoghhcemfhaa
