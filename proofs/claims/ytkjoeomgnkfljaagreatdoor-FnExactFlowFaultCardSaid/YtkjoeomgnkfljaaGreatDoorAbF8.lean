/- What the functions compute, and their contracts, part 8. No condition beyond KOk. -/
import Derived.Test.YtkjoeomgnkfljaaGreatDoorAbX
import Derived.Test.YtkjoeomgnkfljaaGreatDoorAbF7
namespace Go.Ab
open Go.Proofs
set_option linter.unusedVariables false
set_option linter.unusedSimpArgs false
def impl_FlowFault.f (k : Nat) (v0 : S31) (v1 : Int) (v2 : Int) (v3 : ByteArray) (v4 : S45) : Option (Int) := ((impl_flowOk.f k v0 v1 v2 v3 v4).bind fun v5 => (bif v5 then (some 0) else (some 1)))
set_option maxRecDepth 100000 in
set_option maxHeartbeats 4000000 in
theorem impl_FlowFault.con {K : Kn} [KOk K] {k : Nat} {v0 : S31} {v1 : Int} {v2 : Int} {v3 : ByteArray} {v4 : S45} {r : Int} (h : impl_FlowFault.f k v0 v1 v2 v3 v4 = some r) : Con K Tryz.prog 23 [.agg [.p (.lst false (List.map en94 v0.f0)), .p (.lst false (List.map en110 v0.f1))], .p (.int .i64 v1), .p (.int .i64 v2), .p (.str v3), .agg [.p (.int .i64 v4.f0), .p (.int .i64 v4.f1), .p (.lst false (List.map en107 v4.f2)), .p (.lst false (List.map (irow .i64) v4.f3))]] [] (.p (.int .i64 r)) [] := by
 rw [impl_FlowFault.f] at h
 refine con_intro 18 [] Tryz.func23 (by kernel_rfl) rfl rfl (by kernel_rfl) fun ι0 w0 hk0 => ?_
 revert h
 refine go 4 ?_
 refine grs ?_
 refine gr_run ?_
 refine bind_e (fun v5 e5 => gr_call [] (impl_flowOk.con e5) ?_)
 clear e5
 refine gr_run ?_
 refine gr_done ?_
 refine bif_e (fun c1 => ?_) (fun c1 => ?_)
 ·refine go 4 ?_
  refine ret_e (fun hr_ => ?_)
  subst hr_
  exact ret_ Tryz.func23 []
 ·refine go 3 ?_
  refine ret_e (fun hr_ => ?_)
  subst hr_
  exact ret_ Tryz.func23 []
end Go.Ab
