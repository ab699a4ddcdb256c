/- What the functions compute, and their contracts, part 1. No condition beyond KOk. -/
import Derived.Test.YtfeieigajdekhaaAbX
namespace Go.Ab
open Go.Proofs
set_option linter.unusedVariables false
set_option linter.unusedSimpArgs false
def impl_twinTexts_O.f (k : Nat) (v0 : (List ByteArray)) : Option ((List ByteArray)) := (bif ((v0.length : Int) == 0) then (some ([] : List ByteArray)) else ((mks (⟨#[]⟩ : ByteArray) 0 (v0.length : Int)).bind fun v1 => ((app v1 v0).bind fun v2 => (some v2))))
set_option maxRecDepth 100000 in
set_option maxHeartbeats 4000000 in
theorem impl_twinTexts_O.con {K : Kn} [KOk K] {k : Nat} {v0 : (List ByteArray)} {r : (List ByteArray)} (h : impl_twinTexts_O.f k v0 = some r) : Con K Try.prog 36 [.p (.lst false (List.map srw v0))] [] (.buf 2000 1 0 r.length) [(2000, (1, .buf 1 (List.map srw r)))] := by
 rw [impl_twinTexts_O.f] at h
 refine con_intro 11 [10] Try.func36 (by kernel_rfl) rfl rfl (by kernel_rfl) fun ι0 w0 hk0 => ?_
 revert h
 refine bif_e (fun c1 => ?_) (fun c1 => ?_)
 ·refine go 8 ?_
  refine adoptB_ 2 2502 1 ?_
  refine ret_e (fun hr_ => ?_)
  subst hr_
  exact ret_ Try.func36 [(2000, (1, 2502, 1))]
 ·refine bind_e (fun v1 e1 => ?_)
  replace e1 := nf_ (mks_en srw e1)
  refine bind_e (fun v2 e2 => ?_)
  replace e2 := nf_ (app_en srw e2)
  refine go 9 ?_
  refine ret_e (fun hr_ => ?_)
  subst hr_
  exact ret_ Try.func36 [(2000, (1, 8, 2))]
end Go.Ab
