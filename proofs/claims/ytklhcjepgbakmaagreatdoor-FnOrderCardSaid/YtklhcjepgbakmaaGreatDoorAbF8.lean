/- What the functions compute, and their contracts, part 8. No condition beyond KOk. -/
import Derived.Test.YtklhcjepgbakmaaGreatDoorAbX
import Derived.Test.YtklhcjepgbakmaaGreatDoorAbF4
import Derived.Test.YtklhcjepgbakmaaGreatDoorAbF7
namespace Go.Ab
open Go.Proofs
set_option linter.unusedVariables false
set_option linter.unusedSimpArgs false
def laws_FnOrder.f (k : Nat) (v0 : (List Int)) (v1 : (List Int)) : Option (Bool) := (bif decide (1048576 < (v0.length : Int)) then (some true) else (bif decide (1048576 < (v1.length : Int)) then (some true) else ((spec_DrawCompareValues.f k v0).bind fun v2 => ((spec_DrawCompareValues.f k v1).bind fun v3 => ((spec_ValueFault.f k v2.1).bind fun v4 => (bif (v4 == 0) then ((spec_ValueFault.f k v2.2).bind fun v5 => (bif (v5 == 0) then ((spec_ValueFault.f k v3.1).bind fun v6 => (bif (v6 == 0) then ((impl_CompareValues.f k v2.1 v2.2).bind fun v13 => ((impl_CompareValues.f k v2.2 v3.1).bind fun v14 => ((spec_CompareValues.f k v2.1 v2.2).bind fun v15 => (bif (v13 == v15) then ((impl_CompareValues.f k v2.2 v2.1).bind fun v16 => (bif (v13 == (IntKind.i64.wrap (0 - v16))) then (bif ((v13 == 0) == decide (v2.1 = v2.2)) then (bif decide (0 < v13) then (some true) else (bif decide (0 < v14) then (some true) else ((impl_CompareValues.f k v2.1 v3.1).bind fun v17 => (some (decide (v17 ≤ 0)))))) else (some false)) else (some false))) else (some false))))) else ((impl_CompareValues.f k v2.1 v2.2).bind fun v7 => ((spec_CompareValues.f k v2.1 v2.2).bind fun v8 => (some (v7 == v8)))))) else ((impl_CompareValues.f k v2.1 v2.2).bind fun v9 => ((spec_CompareValues.f k v2.1 v2.2).bind fun v10 => (some (v9 == v10)))))) else ((impl_CompareValues.f k v2.1 v2.2).bind fun v11 => ((spec_CompareValues.f k v2.1 v2.2).bind fun v12 => (some (v11 == v12))))))))))
set_option maxRecDepth 100000 in
set_option maxHeartbeats 4000000 in
theorem laws_FnOrder.con {K : Kn} [KOk K] {k : Nat} {v0 : (List Int)} {v1 : (List Int)} {r : Bool} (h : laws_FnOrder.f k v0 v1 = some r) : Con K Tryz.prog 3 [.p (.lst false (List.map (irow .u8) v0)), .p (.lst false (List.map (irow .u8) v1))] [] (.p (.bool r)) [] := by
 rw [laws_FnOrder.f] at h
 refine con_intro 88 [] Tryz.func3 (by kernel_rfl) rfl rfl (by kernel_rfl) fun ι0 w0 hk0 => ?_
 revert h
 refine bif_e (fun c1 => ?_) (fun c1 => ?_)
 ·refine go 8 ?_
  refine ret_e (fun hr_ => ?_)
  subst hr_
  exact ret_ Tryz.func3 []
 ·refine bif_e (fun c2 => ?_) (fun c2 => ?_)
  ·refine go 8 ?_
   refine ret_e (fun hr_ => ?_)
   subst hr_
   exact ret_ Tryz.func3 []
  ·refine go 8 ?_
   refine grs ?_
   refine gr_run ?_
   refine bind_e (fun v2 e2 => gr_call [] (spec_DrawCompareValues.con e2) ?_)
   clear e2
   refine gr_run ?_
   refine gr_done ?_
   refine go 1 ?_
   refine grs ?_
   refine gr_run ?_
   refine bind_e (fun v3 e3 => gr_call [] (spec_DrawCompareValues.con e3) ?_)
   clear e3
   refine gr_run ?_
   refine gr_done ?_
   refine go 2 ?_
   refine grs ?_
   refine gr_run ?_
   refine bind_e (fun v4 e4 => gr_call [] (spec_ValueFault.con e4) ?_)
   clear e4
   refine bif_e (fun c3 => ?_) (fun c3 => ?_)
   ·refine gr_run ?_
    refine bind_e (fun v5 e5 => gr_call [] (spec_ValueFault.con e5) ?_)
    clear e5
    refine bif_e (fun c4 => ?_) (fun c4 => ?_)
    ·refine gr_run ?_
     refine bind_e (fun v6 e6 => gr_call [] (spec_ValueFault.con e6) ?_)
     clear e6
     refine gr_run ?_
     refine gr_done ?_
     refine bif_e (fun c5 => ?_) (fun c5 => ?_)
     ·refine go 3 ?_
      refine grs ?_
      refine gr_run ?_
      refine bind_e (fun v13 e13 => gr_call [] (impl_CompareValues.con e13) ?_)
      clear e13
      refine gr_run ?_
      refine gr_done ?_
      refine go 1 ?_
      refine grs ?_
      refine gr_run ?_
      refine bind_e (fun v14 e14 => gr_call [] (impl_CompareValues.con e14) ?_)
      clear e14
      refine gr_run ?_
      refine gr_done ?_
      refine go 2 ?_
      refine grs ?_
      refine gr_run ?_
      refine bind_e (fun v15 e15 => gr_call [] (spec_CompareValues.con e15) ?_)
      clear e15
      refine bif_e (fun c6 => ?_) (fun c6 => ?_)
      ·refine gr_run ?_
       refine bind_e (fun v16 e16 => gr_call [] (impl_CompareValues.con e16) ?_)
       clear e16
       refine bif_e (fun c7 => ?_) (fun c7 => ?_)
       ·refine gr_run ?_
        refine gr_done ?_
        refine bif_e (fun c8 => ?_) (fun c8 => ?_)
        ·refine bif_e (fun c9 => ?_) (fun c9 => ?_)
         ·refine go 4 ?_
          refine ret_e (fun hr_ => ?_)
          subst hr_
          exact ret_ Tryz.func3 []
         ·refine bif_e (fun c10 => ?_) (fun c10 => ?_)
          ·refine go 4 ?_
           refine ret_e (fun hr_ => ?_)
           subst hr_
           exact ret_ Tryz.func3 []
          ·refine go 3 ?_
           refine grs ?_
           refine gr_run ?_
           refine bind_e (fun v17 e17 => gr_call [] (impl_CompareValues.con e17) ?_)
           clear e17
           refine gr_run ?_
           refine gr_done ?_
           refine ret_e (fun hr_ => ?_)
           subst hr_
           exact ret_ Tryz.func3 []
        ·refine go 3 ?_
         refine ret_e (fun hr_ => ?_)
         subst hr_
         exact ret_ Tryz.func3 []
       ·refine gr_run ?_
        refine gr_done ?_
        refine go 3 ?_
        refine ret_e (fun hr_ => ?_)
        subst hr_
        exact ret_ Tryz.func3 []
      ·refine gr_run ?_
       refine gr_done ?_
       refine go 3 ?_
       refine ret_e (fun hr_ => ?_)
       subst hr_
       exact ret_ Tryz.func3 []
     ·refine go 2 ?_
      refine grs ?_
      refine gr_run ?_
      refine bind_e (fun v7 e7 => gr_call [] (impl_CompareValues.con e7) ?_)
      clear e7
      refine gr_run ?_
      refine bind_e (fun v8 e8 => gr_call [] (spec_CompareValues.con e8) ?_)
      clear e8
      refine gr_run ?_
      refine gr_done ?_
      refine ret_e (fun hr_ => ?_)
      subst hr_
      exact ret_ Tryz.func3 []
    ·refine gr_run ?_
     refine gr_done ?_
     refine go 2 ?_
     refine grs ?_
     refine gr_run ?_
     refine bind_e (fun v9 e9 => gr_call [] (impl_CompareValues.con e9) ?_)
     clear e9
     refine gr_run ?_
     refine bind_e (fun v10 e10 => gr_call [] (spec_CompareValues.con e10) ?_)
     clear e10
     refine gr_run ?_
     refine gr_done ?_
     refine ret_e (fun hr_ => ?_)
     subst hr_
     exact ret_ Tryz.func3 []
   ·refine gr_run ?_
    refine gr_done ?_
    refine go 2 ?_
    refine grs ?_
    refine gr_run ?_
    refine bind_e (fun v11 e11 => gr_call [] (impl_CompareValues.con e11) ?_)
    clear e11
    refine gr_run ?_
    refine bind_e (fun v12 e12 => gr_call [] (spec_CompareValues.con e12) ?_)
    clear e12
    refine gr_run ?_
    refine gr_done ?_
    refine ret_e (fun hr_ => ?_)
    subst hr_
    exact ret_ Tryz.func3 []
end Go.Ab
