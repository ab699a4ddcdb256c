/- What the functions compute, and their contracts, part 7. No condition beyond KOk. -/
import Derived.Test.YtadopgcbfghnpaaDoorAbX
import Derived.Test.YtadopgcbfghnpaaDoorAbF3
import Derived.Test.YtadopgcbfghnpaaDoorAbF6
namespace Go.Ab
open Go.Proofs
set_option linter.unusedVariables false
set_option linter.unusedSimpArgs false
def laws_FnExactCompareValues.f (k : Nat) (v0 : ByteArray) (v1 : ByteArray) : Option (Bool) := (bif decide (1048576 < (v0.size : Int)) then (some true) else (bif decide (1048576 < (v1.size : Int)) then (some true) else ((spec_CompareValues.f k v0 v1).bind fun v2 => ((impl_CompareValues.f k v0 v1).bind fun v3 => (bif (v3 == v2) then (some true) else (some false))))))
set_option maxRecDepth 100000 in
set_option maxHeartbeats 4000000 in
theorem laws_FnExactCompareValues.con {K : Kn} [KOk K] {k : Nat} {v0 : ByteArray} {v1 : ByteArray} {r : Bool} (h : laws_FnExactCompareValues.f k v0 v1 = some r) : Con K Tryd.prog 3 [.p (.str v0), .p (.str v1)] [] (.p (.bool r)) [] := by
 rw [laws_FnExactCompareValues.f] at h
 refine con_intro 22 [] Tryd.func3 (by kernel_rfl) rfl rfl (by kernel_rfl) fun ι0 w0 hk0 => ?_
 revert h
 refine bif_e (fun c1 => ?_) (fun c1 => ?_)
 ·refine go 8 ?_
  refine ret_e (fun hr_ => ?_)
  subst hr_
  exact ret_ Tryd.func3 []
 ·refine bif_e (fun c2 => ?_) (fun c2 => ?_)
  ·refine go 13 ?_
   refine ret_e (fun hr_ => ?_)
   subst hr_
   exact ret_ Tryd.func3 []
  ·refine go 13 ?_
   refine grs ?_
   refine gr_run ?_
   refine bind_e (fun v2 e2 => gr_call [] (spec_CompareValues.con e2) ?_)
   clear e2
   refine gr_run ?_
   refine gr_done ?_
   refine go 1 ?_
   refine grs ?_
   refine gr_run ?_
   refine bind_e (fun v3 e3 => gr_call [] (impl_CompareValues.con e3) ?_)
   clear e3
   refine gr_run ?_
   refine gr_done ?_
   refine bif_e (fun c3 => ?_) (fun c3 => ?_)
   ·refine go 7 ?_
    refine ret_e (fun hr_ => ?_)
    subst hr_
    exact ret_ Tryd.func3 []
   ·refine go 6 ?_
    refine ret_e (fun hr_ => ?_)
    subst hr_
    exact ret_ Tryd.func3 []
def laws_FnExactLessValues.f (k : Nat) (v0 : ByteArray) (v1 : ByteArray) : Option (Bool) := (bif decide (1048576 < (v0.size : Int)) then (some true) else (bif decide (1048576 < (v1.size : Int)) then (some true) else ((spec_LessValues.f k v0 v1).bind fun v2 => ((impl_LessValues.f k v0 v1).bind fun v3 => (bif (v3 == v2) then (some true) else (some false))))))
set_option maxRecDepth 100000 in
set_option maxHeartbeats 4000000 in
theorem laws_FnExactLessValues.con {K : Kn} [KOk K] {k : Nat} {v0 : ByteArray} {v1 : ByteArray} {r : Bool} (h : laws_FnExactLessValues.f k v0 v1 = some r) : Con K Tryd.prog 4 [.p (.str v0), .p (.str v1)] [] (.p (.bool r)) [] := by
 rw [laws_FnExactLessValues.f] at h
 refine con_intro 22 [] Tryd.func4 (by kernel_rfl) rfl rfl (by kernel_rfl) fun ι0 w0 hk0 => ?_
 revert h
 refine bif_e (fun c1 => ?_) (fun c1 => ?_)
 ·refine go 8 ?_
  refine ret_e (fun hr_ => ?_)
  subst hr_
  exact ret_ Tryd.func4 []
 ·refine bif_e (fun c2 => ?_) (fun c2 => ?_)
  ·refine go 13 ?_
   refine ret_e (fun hr_ => ?_)
   subst hr_
   exact ret_ Tryd.func4 []
  ·refine go 13 ?_
   refine grs ?_
   refine gr_run ?_
   refine bind_e (fun v2 e2 => gr_call [] (spec_LessValues.con e2) ?_)
   clear e2
   refine gr_run ?_
   refine gr_done ?_
   refine go 1 ?_
   refine grs ?_
   refine gr_run ?_
   refine bind_e (fun v3 e3 => gr_call [] (impl_LessValues.con e3) ?_)
   clear e3
   refine gr_run ?_
   refine gr_done ?_
   refine bif_e (fun c3 => ?_) (fun c3 => ?_)
   ·refine go 7 ?_
    refine ret_e (fun hr_ => ?_)
    subst hr_
    exact ret_ Tryd.func4 []
   ·refine go 6 ?_
    refine ret_e (fun hr_ => ?_)
    subst hr_
    exact ret_ Tryd.func4 []
def laws_FnExactSameValues.f (k : Nat) (v0 : ByteArray) (v1 : ByteArray) : Option (Bool) := (bif decide (1048576 < (v0.size : Int)) then (some true) else (bif decide (1048576 < (v1.size : Int)) then (some true) else ((spec_SameValues.f k v0 v1).bind fun v2 => ((impl_SameValues.f k v0 v1).bind fun v3 => (bif (v3 == v2) then (some true) else (some false))))))
set_option maxRecDepth 100000 in
set_option maxHeartbeats 4000000 in
theorem laws_FnExactSameValues.con {K : Kn} [KOk K] {k : Nat} {v0 : ByteArray} {v1 : ByteArray} {r : Bool} (h : laws_FnExactSameValues.f k v0 v1 = some r) : Con K Tryd.prog 5 [.p (.str v0), .p (.str v1)] [] (.p (.bool r)) [] := by
 rw [laws_FnExactSameValues.f] at h
 refine con_intro 22 [] Tryd.func5 (by kernel_rfl) rfl rfl (by kernel_rfl) fun ι0 w0 hk0 => ?_
 revert h
 refine bif_e (fun c1 => ?_) (fun c1 => ?_)
 ·refine go 8 ?_
  refine ret_e (fun hr_ => ?_)
  subst hr_
  exact ret_ Tryd.func5 []
 ·refine bif_e (fun c2 => ?_) (fun c2 => ?_)
  ·refine go 13 ?_
   refine ret_e (fun hr_ => ?_)
   subst hr_
   exact ret_ Tryd.func5 []
  ·refine go 13 ?_
   refine grs ?_
   refine gr_run ?_
   refine bind_e (fun v2 e2 => gr_call [] (spec_SameValues.con e2) ?_)
   clear e2
   refine gr_run ?_
   refine gr_done ?_
   refine go 1 ?_
   refine grs ?_
   refine gr_run ?_
   refine bind_e (fun v3 e3 => gr_call [] (impl_SameValues.con e3) ?_)
   clear e3
   refine gr_run ?_
   refine gr_done ?_
   refine bif_e (fun c3 => ?_) (fun c3 => ?_)
   ·refine go 7 ?_
    refine ret_e (fun hr_ => ?_)
    subst hr_
    exact ret_ Tryd.func5 []
   ·refine go 6 ?_
    refine ret_e (fun hr_ => ?_)
    subst hr_
    exact ret_ Tryd.func5 []
end Go.Ab
