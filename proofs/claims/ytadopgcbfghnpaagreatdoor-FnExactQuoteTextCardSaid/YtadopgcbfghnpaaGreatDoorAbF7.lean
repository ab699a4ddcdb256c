/- What the functions compute, and their contracts, part 7. No condition beyond KOk. -/
import Derived.Test.YtadopgcbfghnpaaGreatDoorAbX
import Derived.Test.YtadopgcbfghnpaaGreatDoorAbF3
import Derived.Test.YtadopgcbfghnpaaGreatDoorAbF6
namespace Go.Ab
open Go.Proofs
set_option linter.unusedVariables false
set_option linter.unusedSimpArgs false
def laws_FnExactQuoteText.f (k : Nat) (v0 : ByteArray) : Option (Bool) := (bif decide (1048576 < (v0.size : Int)) then (some true) else ((spec_QuoteText.f k v0).bind fun v1 => ((impl_QuoteText.f k v0).bind fun v2 => (bif decide (v2 = v1) then (some true) else (some false)))))
set_option maxRecDepth 100000 in
set_option maxHeartbeats 4000000 in
theorem laws_FnExactQuoteText.con {K : Kn} [KOk K] {k : Nat} {v0 : ByteArray} {r : Bool} (h : laws_FnExactQuoteText.f k v0 = some r) : Con K Tryz.prog 3 [.p (.str v0)] [] (.p (.bool r)) [] := by
 rw [laws_FnExactQuoteText.f] at h
 refine con_intro 15 [] Tryz.func3 (by kernel_rfl) rfl rfl (by kernel_rfl) fun ι0 w0 hk0 => ?_
 revert h
 refine bif_e (fun c1 => ?_) (fun c1 => ?_)
 ·refine go 8 ?_
  refine ret_e (fun hr_ => ?_)
  subst hr_
  exact ret_ Tryz.func3 []
 ·refine go 8 ?_
  refine grs ?_
  refine gr_run ?_
  refine bind_e (fun v1 e1 => gr_call [] (spec_QuoteText.con e1) ?_)
  clear e1
  refine gr_run ?_
  refine gr_done ?_
  refine go 1 ?_
  refine grs ?_
  refine gr_run ?_
  refine bind_e (fun v2 e2 => gr_call [] (impl_QuoteText.con e2) ?_)
  clear e2
  refine gr_run ?_
  refine gr_done ?_
  refine bif_e (fun c2 => ?_) (fun c2 => ?_)
  ·refine go 7 ?_
   refine ret_e (fun hr_ => ?_)
   subst hr_
   exact ret_ Tryz.func3 []
  ·refine go 6 ?_
   refine ret_e (fun hr_ => ?_)
   subst hr_
   exact ret_ Tryz.func3 []
end Go.Ab
