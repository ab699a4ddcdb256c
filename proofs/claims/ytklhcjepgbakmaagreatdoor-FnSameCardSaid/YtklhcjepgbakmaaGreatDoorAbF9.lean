/- What the functions compute, and their contracts, part 9. No condition beyond KOk. -/
import Derived.Test.YtklhcjepgbakmaaGreatDoorAbX
import Derived.Test.YtklhcjepgbakmaaGreatDoorAbF4
import Derived.Test.YtklhcjepgbakmaaGreatDoorAbF7
import Derived.Test.YtklhcjepgbakmaaGreatDoorAbF8
namespace Go.Ab
open Go.Proofs
set_option linter.unusedVariables false
set_option linter.unusedSimpArgs false
def laws_FnSame.f (k : Nat) (v0 : (List Int)) : Option (Bool) := (bif decide (1048576 < (v0.length : Int)) then (some true) else ((spec_DrawSameValues.f k v0).bind fun v1 => ((impl_SameValues.f k v1.1 v1.2).bind fun v2 => ((impl_LessValues.f k v1.1 v1.2).bind fun v3 => ((impl_LessValues.f k v1.2 v1.1).bind fun v4 => ((spec_SameValues.f k v1.1 v1.2).bind fun v5 => (bif (v2 == v5) then ((impl_SameValues.f k v1.2 v1.1).bind fun v6 => (bif (v2 == v6) then ((spec_LessValues.f k v1.1 v1.2).bind fun v7 => (bif (v3 == v7) then (bif (v3 == 2) then (some true) else (bif ((IntKind.i64.wrap ((IntKind.i64.wrap (v3 + v4)) + v2)) == 1) then (some (!(v4 == 2))) else (some false))) else (some false))) else (some false))) else (some false))))))))
set_option maxRecDepth 100000 in
set_option maxHeartbeats 4000000 in
theorem laws_FnSame.con {K : Kn} [KOk K] {k : Nat} {v0 : (List Int)} {r : Bool} (h : laws_FnSame.f k v0 = some r) : Con K Tryz.prog 4 [.p (.lst false (List.map (irow .u8) v0))] [] (.p (.bool r)) [] := by
 rw [laws_FnSame.f] at h
 refine con_intro 58 [] Tryz.func4 (by kernel_rfl) rfl rfl (by kernel_rfl) fun ι0 w0 hk0 => ?_
 revert h
 refine bif_e (fun c1 => ?_) (fun c1 => ?_)
 ·refine go 8 ?_
  refine ret_e (fun hr_ => ?_)
  subst hr_
  exact ret_ Tryz.func4 []
 ·refine go 8 ?_
  refine grs ?_
  refine gr_run ?_
  refine bind_e (fun v1 e1 => gr_call [] (spec_DrawSameValues.con e1) ?_)
  clear e1
  refine gr_run ?_
  refine gr_done ?_
  refine go 1 ?_
  refine grs ?_
  refine gr_run ?_
  refine bind_e (fun v2 e2 => gr_call [] (impl_SameValues.con e2) ?_)
  clear e2
  refine gr_run ?_
  refine gr_done ?_
  refine go 1 ?_
  refine grs ?_
  refine gr_run ?_
  refine bind_e (fun v3 e3 => gr_call [] (impl_LessValues.con e3) ?_)
  clear e3
  refine gr_run ?_
  refine gr_done ?_
  refine go 1 ?_
  refine grs ?_
  refine gr_run ?_
  refine bind_e (fun v4 e4 => gr_call [] (impl_LessValues.con e4) ?_)
  clear e4
  refine gr_run ?_
  refine gr_done ?_
  refine go 2 ?_
  refine grs ?_
  refine gr_run ?_
  refine bind_e (fun v5 e5 => gr_call [] (spec_SameValues.con e5) ?_)
  clear e5
  refine bif_e (fun c2 => ?_) (fun c2 => ?_)
  ·refine gr_run ?_
   refine bind_e (fun v6 e6 => gr_call [] (impl_SameValues.con e6) ?_)
   clear e6
   refine bif_e (fun c3 => ?_) (fun c3 => ?_)
   ·refine gr_run ?_
    refine bind_e (fun v7 e7 => gr_call [] (spec_LessValues.con e7) ?_)
    clear e7
    refine gr_run ?_
    refine gr_done ?_
    refine bif_e (fun c4 => ?_) (fun c4 => ?_)
    ·refine bif_e (fun c5 => ?_) (fun c5 => ?_)
     ·refine go 4 ?_
      refine ret_e (fun hr_ => ?_)
      subst hr_
      exact ret_ Tryz.func4 []
     ·refine bif_e (fun c6 => ?_) (fun c6 => ?_)
      ·refine go 4 ?_
       refine ret_e (fun hr_ => ?_)
       subst hr_
       exact ret_ Tryz.func4 []
      ·refine go 4 ?_
       refine ret_e (fun hr_ => ?_)
       subst hr_
       exact ret_ Tryz.func4 []
    ·refine go 3 ?_
     refine ret_e (fun hr_ => ?_)
     subst hr_
     exact ret_ Tryz.func4 []
   ·refine gr_run ?_
    refine gr_done ?_
    refine go 3 ?_
    refine ret_e (fun hr_ => ?_)
    subst hr_
    exact ret_ Tryz.func4 []
  ·refine gr_run ?_
   refine gr_done ?_
   refine go 3 ?_
   refine ret_e (fun hr_ => ?_)
   subst hr_
   exact ret_ Tryz.func4 []
end Go.Ab
