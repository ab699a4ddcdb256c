/- What the functions compute, and their contracts, part 7. No condition beyond KOk. -/
import Derived.Test.YtklhcjepgbakmaaGreatDoorAbX
import Derived.Test.YtklhcjepgbakmaaGreatDoorAbF6
namespace Go.Ab
open Go.Proofs
set_option linter.unusedVariables false
set_option linter.unusedSimpArgs false
def impl_CompareValues.f (k : Nat) (v0 : ByteArray) (v1 : ByteArray) : Option (Int) := ((impl_two.f k v0 v1).bind fun v2 => (bif v2.2.2 then ((impl_order.f k v2.1 v2.2.1).bind fun v3 => (some v3)) else (some 0)))
set_option maxRecDepth 100000 in
set_option maxHeartbeats 4000000 in
theorem impl_CompareValues.con {K : Kn} [KOk K] {k : Nat} {v0 : ByteArray} {v1 : ByteArray} {r : Int} (h : impl_CompareValues.f k v0 v1 = some r) : Con K Tryz.prog 8 [.p (.str v0), .p (.str v1)] [] (.p (.int .i64 r)) [] := by
 rw [impl_CompareValues.f] at h
 refine con_intro 20 [] Tryz.func8 (by kernel_rfl) rfl rfl (by kernel_rfl) fun ι0 w0 hk0 => ?_
 revert h
 refine go 3 ?_
 refine grs ?_
 refine gr_run ?_
 refine bind_e (fun v2 e2 => gr_call [] (impl_two.con e2) ?_)
 clear e2
 refine gr_run ?_
 refine gr_done ?_
 refine bif_e (fun c1 => ?_) (fun c1 => ?_)
 ·refine go 6 ?_
  refine grs ?_
  refine gr_run ?_
  refine bind_e (fun v3 e3 => gr_call [] (impl_order.con e3) ?_)
  clear e3
  refine gr_run ?_
  refine gr_done ?_
  refine ret_e (fun hr_ => ?_)
  subst hr_
  exact ret_ Tryz.func8 []
 ·refine go 6 ?_
  refine ret_e (fun hr_ => ?_)
  subst hr_
  exact ret_ Tryz.func8 []
end Go.Ab
