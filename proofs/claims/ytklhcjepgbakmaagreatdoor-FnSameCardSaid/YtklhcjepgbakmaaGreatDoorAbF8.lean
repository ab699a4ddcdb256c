/- What the functions compute, and their contracts, part 8. No condition beyond KOk. -/
import Derived.Test.YtklhcjepgbakmaaGreatDoorAbX
import Derived.Test.YtklhcjepgbakmaaGreatDoorAbF3
import Derived.Test.YtklhcjepgbakmaaGreatDoorAbF4
namespace Go.Ab
open Go.Proofs
set_option linter.unusedVariables false
set_option linter.unusedSimpArgs false
def spec_l01Less.f (k : Nat) (v0 : S42) (v1 : S42) : Option (Int) := (bif (v0.f0 == v1.f0) then (bif (v0.f0 == 0) then (some 2) else (bif decide (4 < v0.f0) then (some 2) else ((spec_l01Order.f k v0 v1).bind fun v2 => ((spec_l01Bool.f k (decide (v2 < 0))).bind fun v3 => (some v3))))) else (some 2))
set_option maxRecDepth 100000 in
set_option maxHeartbeats 4000000 in
theorem spec_l01Less.con {K : Kn} [KOk K] {k : Nat} {v0 : S42} {v1 : S42} {r : Int} (h : spec_l01Less.f k v0 v1 = some r) : Con K Tryz.prog 37 [.agg [.p (.int .i64 v0.f0), .p (.int .i64 v0.f1), .p (.int .i64 v0.f2), .p (.str v0.f3), .p (.lst false (List.map en42 v0.f4)), .p (.lst false (List.map srw v0.f5))], .agg [.p (.int .i64 v1.f0), .p (.int .i64 v1.f1), .p (.int .i64 v1.f2), .p (.str v1.f3), .p (.lst false (List.map en42 v1.f4)), .p (.lst false (List.map srw v1.f5))]] [] (.p (.int .i64 r)) [] := by
 rw [spec_l01Less.f] at h
 refine con_intro 25 [] Tryz.func37 (by kernel_rfl) rfl rfl (by kernel_rfl) fun ι0 w0 hk0 => ?_
 revert h
 refine bif_e (fun c1 => ?_) (fun c1 => ?_)
 ·refine bif_e (fun c2 => ?_) (fun c2 => ?_)
  ·refine go 8 ?_
   refine ret_e (fun hr_ => ?_)
   subst hr_
   exact ret_ Tryz.func37 []
  ·refine bif_e (fun c3 => ?_) (fun c3 => ?_)
   ·refine go 8 ?_
    refine ret_e (fun hr_ => ?_)
    subst hr_
    exact ret_ Tryz.func37 []
   ·refine go 8 ?_
    refine grs ?_
    refine gr_run ?_
    refine bind_e (fun v2 e2 => gr_call [] (spec_l01Order.con e2) ?_)
    clear e2
    refine gr_run ?_
    refine bind_e (fun v3 e3 => gr_call [] (spec_l01Bool.con e3) ?_)
    clear e3
    refine gr_run ?_
    refine gr_done ?_
    refine ret_e (fun hr_ => ?_)
    subst hr_
    exact ret_ Tryz.func37 []
 ·refine go 8 ?_
  refine ret_e (fun hr_ => ?_)
  subst hr_
  exact ret_ Tryz.func37 []
def spec_LessValues.f (k : Nat) (v0 : ByteArray) (v1 : ByteArray) : Option (Int) := ((spec_l01Read.f k v0).bind fun v2 => ((spec_l01Read.f k v1).bind fun v3 => (bif decide (v2.f0 < 0) then (some 2) else (bif decide (v3.f0 < 0) then (some 2) else ((spec_l01Less.f k v2 v3).bind fun v4 => (some v4))))))
set_option maxRecDepth 100000 in
set_option maxHeartbeats 4000000 in
theorem spec_LessValues.con {K : Kn} [KOk K] {k : Nat} {v0 : ByteArray} {v1 : ByteArray} {r : Int} (h : spec_LessValues.f k v0 v1 = some r) : Con K Tryz.prog 14 [.p (.str v0), .p (.str v1)] [] (.p (.int .i64 r)) [] := by
 rw [spec_LessValues.f] at h
 refine con_intro 22 [] Tryz.func14 (by kernel_rfl) rfl rfl (by kernel_rfl) fun ι0 w0 hk0 => ?_
 revert h
 refine go 3 ?_
 refine grs ?_
 refine gr_run ?_
 refine bind_e (fun v2 e2 => gr_call [] (spec_l01Read.con e2) ?_)
 clear e2
 refine gr_run ?_
 refine gr_done ?_
 refine go 1 ?_
 refine grs ?_
 refine gr_run ?_
 refine bind_e (fun v3 e3 => gr_call [] (spec_l01Read.con e3) ?_)
 clear e3
 refine gr_run ?_
 refine gr_done ?_
 refine bif_e (fun c1 => ?_) (fun c1 => ?_)
 ·refine go 6 ?_
  refine ret_e (fun hr_ => ?_)
  subst hr_
  exact ret_ Tryz.func14 []
 ·refine bif_e (fun c2 => ?_) (fun c2 => ?_)
  ·refine go 6 ?_
   refine ret_e (fun hr_ => ?_)
   subst hr_
   exact ret_ Tryz.func14 []
  ·refine go 6 ?_
   refine grs ?_
   refine gr_run ?_
   refine bind_e (fun v4 e4 => gr_call [] (spec_l01Less.con e4) ?_)
   clear e4
   refine gr_run ?_
   refine gr_done ?_
   refine ret_e (fun hr_ => ?_)
   subst hr_
   exact ret_ Tryz.func14 []
end Go.Ab
