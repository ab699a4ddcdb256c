/- What the functions compute, and their contracts, part 6. No condition beyond KOk. -/
import Derived.Test.YtonklkifndlbjaaDoorAbX
import Derived.Test.YtonklkifndlbjaaDoorAbF3
import Derived.Test.YtonklkifndlbjaaDoorAbF5
namespace Go.Ab
open Go.Proofs
set_option linter.unusedVariables false
set_option linter.unusedSimpArgs false
def laws_FnExactKindOf.f (k : Nat) (v0 : ByteArray) : Option (Bool) := (bif decide (1048576 < (v0.size : Int)) then (some true) else ((spec_KindOf.f k v0).bind fun v1 => ((impl_KindOf.f k v0).bind fun v2 => (bif (v2 == v1) then (some true) else (some false)))))
set_option maxRecDepth 100000 in
set_option maxHeartbeats 4000000 in
theorem laws_FnExactKindOf.con {K : Kn} [KOk K] {k : Nat} {v0 : ByteArray} {r : Bool} (h : laws_FnExactKindOf.f k v0 = some r) : Con K Tryd.prog 3 [.p (.str v0)] [] (.p (.bool r)) [] := by
 rw [laws_FnExactKindOf.f] at h
 refine con_intro 15 [] Tryd.func3 (by kernel_rfl) rfl rfl (by kernel_rfl) fun ι0 w0 hk0 => ?_
 revert h
 refine bif_e (fun c1 => ?_) (fun c1 => ?_)
 ·refine go 8 ?_
  refine ret_e (fun hr_ => ?_)
  subst hr_
  exact ret_ Tryd.func3 []
 ·refine go 8 ?_
  refine grs ?_
  refine gr_run ?_
  refine bind_e (fun v1 e1 => gr_call [] (spec_KindOf.con e1) ?_)
  clear e1
  refine gr_run ?_
  refine gr_done ?_
  refine go 1 ?_
  refine grs ?_
  refine gr_run ?_
  refine bind_e (fun v2 e2 => gr_call [] (impl_KindOf.con e2) ?_)
  clear e2
  refine gr_run ?_
  refine gr_done ?_
  refine bif_e (fun c2 => ?_) (fun c2 => ?_)
  ·refine go 7 ?_
   refine ret_e (fun hr_ => ?_)
   subst hr_
   exact ret_ Tryd.func3 []
  ·refine go 6 ?_
   refine ret_e (fun hr_ => ?_)
   subst hr_
   exact ret_ Tryd.func3 []
def laws_FnExactTextOf.f (k : Nat) (v0 : ByteArray) : Option (Bool) := (bif decide (1048576 < (v0.size : Int)) then (some true) else ((spec_TextOf.f k v0).bind fun v1 => ((impl_TextOf.f k v0).bind fun v2 => (bif decide (v2 = v1) then (some true) else (some false)))))
set_option maxRecDepth 100000 in
set_option maxHeartbeats 4000000 in
theorem laws_FnExactTextOf.con {K : Kn} [KOk K] {k : Nat} {v0 : ByteArray} {r : Bool} (h : laws_FnExactTextOf.f k v0 = some r) : Con K Tryd.prog 4 [.p (.str v0)] [] (.p (.bool r)) [] := by
 rw [laws_FnExactTextOf.f] at h
 refine con_intro 15 [] Tryd.func4 (by kernel_rfl) rfl rfl (by kernel_rfl) fun ι0 w0 hk0 => ?_
 revert h
 refine bif_e (fun c1 => ?_) (fun c1 => ?_)
 ·refine go 8 ?_
  refine ret_e (fun hr_ => ?_)
  subst hr_
  exact ret_ Tryd.func4 []
 ·refine go 8 ?_
  refine grs ?_
  refine gr_run ?_
  refine bind_e (fun v1 e1 => gr_call [] (spec_TextOf.con e1) ?_)
  clear e1
  refine gr_run ?_
  refine gr_done ?_
  refine go 1 ?_
  refine grs ?_
  refine gr_run ?_
  refine bind_e (fun v2 e2 => gr_call [] (impl_TextOf.con e2) ?_)
  clear e2
  refine gr_run ?_
  refine gr_done ?_
  refine bif_e (fun c2 => ?_) (fun c2 => ?_)
  ·refine go 7 ?_
   refine ret_e (fun hr_ => ?_)
   subst hr_
   exact ret_ Tryd.func4 []
  ·refine go 6 ?_
   refine ret_e (fun hr_ => ?_)
   subst hr_
   exact ret_ Tryd.func4 []
def laws_FnExactValueFault.f (k : Nat) (v0 : ByteArray) : Option (Bool) := (bif decide (1048576 < (v0.size : Int)) then (some true) else ((spec_ValueFault.f k v0).bind fun v1 => ((impl_ValueFault.f k v0).bind fun v2 => (bif (v2 == v1) then (some true) else (some false)))))
set_option maxRecDepth 100000 in
set_option maxHeartbeats 4000000 in
theorem laws_FnExactValueFault.con {K : Kn} [KOk K] {k : Nat} {v0 : ByteArray} {r : Bool} (h : laws_FnExactValueFault.f k v0 = some r) : Con K Tryd.prog 5 [.p (.str v0)] [] (.p (.bool r)) [] := by
 rw [laws_FnExactValueFault.f] at h
 refine con_intro 15 [] Tryd.func5 (by kernel_rfl) rfl rfl (by kernel_rfl) fun ι0 w0 hk0 => ?_
 revert h
 refine bif_e (fun c1 => ?_) (fun c1 => ?_)
 ·refine go 8 ?_
  refine ret_e (fun hr_ => ?_)
  subst hr_
  exact ret_ Tryd.func5 []
 ·refine go 8 ?_
  refine grs ?_
  refine gr_run ?_
  refine bind_e (fun v1 e1 => gr_call [] (spec_ValueFault.con e1) ?_)
  clear e1
  refine gr_run ?_
  refine gr_done ?_
  refine go 1 ?_
  refine grs ?_
  refine gr_run ?_
  refine bind_e (fun v2 e2 => gr_call [] (impl_ValueFault.con e2) ?_)
  clear e2
  refine gr_run ?_
  refine gr_done ?_
  refine bif_e (fun c2 => ?_) (fun c2 => ?_)
  ·refine go 7 ?_
   refine ret_e (fun hr_ => ?_)
   subst hr_
   exact ret_ Tryd.func5 []
  ·refine go 6 ?_
   refine ret_e (fun hr_ => ?_)
   subst hr_
   exact ret_ Tryd.func5 []
def laws_FnExactDateNumber.f (k : Nat) (v0 : ByteArray) : Option (Bool) := (bif decide (1048576 < (v0.size : Int)) then (some true) else ((spec_DateNumber.f k v0).bind fun v1 => ((impl_DateNumber.f k v0).bind fun v2 => (bif (v2 == v1) then (some true) else (some false)))))
set_option maxRecDepth 100000 in
set_option maxHeartbeats 4000000 in
theorem laws_FnExactDateNumber.con {K : Kn} [KOk K] {k : Nat} {v0 : ByteArray} {r : Bool} (h : laws_FnExactDateNumber.f k v0 = some r) : Con K Tryd.prog 6 [.p (.str v0)] [] (.p (.bool r)) [] := by
 rw [laws_FnExactDateNumber.f] at h
 refine con_intro 15 [] Tryd.func6 (by kernel_rfl) rfl rfl (by kernel_rfl) fun ι0 w0 hk0 => ?_
 revert h
 refine bif_e (fun c1 => ?_) (fun c1 => ?_)
 ·refine go 8 ?_
  refine ret_e (fun hr_ => ?_)
  subst hr_
  exact ret_ Tryd.func6 []
 ·refine go 8 ?_
  refine grs ?_
  refine gr_run ?_
  refine bind_e (fun v1 e1 => gr_call [] (spec_DateNumber.con e1) ?_)
  clear e1
  refine gr_run ?_
  refine gr_done ?_
  refine go 1 ?_
  refine grs ?_
  refine gr_run ?_
  refine bind_e (fun v2 e2 => gr_call [] (impl_DateNumber.con e2) ?_)
  clear e2
  refine gr_run ?_
  refine gr_done ?_
  refine bif_e (fun c2 => ?_) (fun c2 => ?_)
  ·refine go 7 ?_
   refine ret_e (fun hr_ => ?_)
   subst hr_
   exact ret_ Tryd.func6 []
  ·refine go 6 ?_
   refine ret_e (fun hr_ => ?_)
   subst hr_
   exact ret_ Tryd.func6 []
end Go.Ab
