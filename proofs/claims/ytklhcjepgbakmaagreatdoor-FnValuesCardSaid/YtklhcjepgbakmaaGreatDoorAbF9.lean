/- What the functions compute, and their contracts, part 9. No condition beyond KOk. -/
import Derived.Test.YtklhcjepgbakmaaGreatDoorAbX
import Derived.Test.YtklhcjepgbakmaaGreatDoorAbF3
import Derived.Test.YtklhcjepgbakmaaGreatDoorAbF5
import Derived.Test.YtklhcjepgbakmaaGreatDoorAbF6
import Derived.Test.YtklhcjepgbakmaaGreatDoorAbF7
import Derived.Test.YtklhcjepgbakmaaGreatDoorAbF8
namespace Go.Ab
open Go.Proofs
set_option linter.unusedVariables false
set_option linter.unusedSimpArgs false
def laws_FnValues.f (k : Nat) (v0 : (List Int)) : Option (Bool) := (bif decide (1048576 < (v0.length : Int)) then (some true) else ((spec_DrawValueFault.f k v0).bind fun v1 => ((impl_ValueFault.f k v1).bind fun v2 => ((spec_ValueFault.f k v1).bind fun v3 => (bif (v2 == v3) then ((impl_KindOf.f k v1).bind fun v4 => ((spec_KindOf.f k v1).bind fun v5 => (bif (v4 == v5) then ((spec_KindOf.f k v1).bind fun v6 => (bif (v6 == 6) then ((impl_ItemsOf.f k v1).bind fun v7 => ((impl_ListOf.f k v7).bind fun v8 => (some (decide (v8 = v1))))) else (bif (v6 == 7) then ((impl_FieldsOf.f k v1).bind fun v9 => ((impl_MapOf.f k v9).bind fun v10 => (some (decide (v10 = v1))))) else (bif (v6 == 3) then ((impl_TextOf.f k v1).bind fun v11 => ((impl_QuoteText.f k v11).bind fun v12 => (some (decide (v12 = v1))))) else (bif (v6 == 4) then ((impl_DateNumber.f k v1).bind fun v13 => ((impl_DateText.f k v13).bind fun v14 => (some (decide (v14 = v1))))) else ((impl_ItemsOf.f k v1).bind fun v15 => ((spec_ItemsOf.f k v1).bind fun v16 => (bif ((v15.length : Int) == (v16.length : Int)) then ((impl_FieldsOf.f k v1).bind fun v17 => (bif ((v17.length : Int) == 0) then ((impl_TextOf.f k v1).bind fun v18 => (bif decide (v18 = (⟨#[]⟩ : ByteArray)) then ((impl_DateNumber.f k v1).bind fun v19 => (some (v19 == (-1)))) else (some false))) else (some false))) else (some false))))))))) else (some false)))) else (some false))))))
set_option maxRecDepth 100000 in
set_option maxHeartbeats 4000000 in
theorem laws_FnValues.con {K : Kn} [KOk K] {k : Nat} {v0 : (List Int)} {r : Bool} (h : laws_FnValues.f k v0 = some r) : Con K Tryz.prog 5 [.p (.lst false (List.map (irow .u8) v0))] [] (.p (.bool r)) [] := by
 rw [laws_FnValues.f] at h
 refine con_intro 74 [] Tryz.func5 (by kernel_rfl) rfl rfl (by kernel_rfl) fun ι0 w0 hk0 => ?_
 revert h
 refine bif_e (fun c1 => ?_) (fun c1 => ?_)
 ·refine go 8 ?_
  refine ret_e (fun hr_ => ?_)
  subst hr_
  exact ret_ Tryz.func5 []
 ·refine go 8 ?_
  refine grs ?_
  refine gr_run ?_
  refine bind_e (fun v1 e1 => gr_call [] (spec_DrawValueFault.con e1) ?_)
  clear e1
  refine gr_run ?_
  refine gr_done ?_
  refine go 2 ?_
  refine grs ?_
  refine gr_run ?_
  refine bind_e (fun v2 e2 => gr_call [] (impl_ValueFault.con e2) ?_)
  clear e2
  refine gr_run ?_
  refine bind_e (fun v3 e3 => gr_call [] (spec_ValueFault.con e3) ?_)
  clear e3
  refine bif_e (fun c2 => ?_) (fun c2 => ?_)
  ·refine gr_run ?_
   refine bind_e (fun v4 e4 => gr_call [] (impl_KindOf.con e4) ?_)
   clear e4
   refine gr_run ?_
   refine bind_e (fun v5 e5 => gr_call [] (spec_KindOf.con e5) ?_)
   clear e5
   refine gr_run ?_
   refine gr_done ?_
   refine bif_e (fun c3 => ?_) (fun c3 => ?_)
   ·refine go 4 ?_
    refine grs ?_
    refine gr_run ?_
    refine bind_e (fun v6 e6 => gr_call [] (spec_KindOf.con e6) ?_)
    clear e6
    refine gr_done ?_
    refine bif_e (fun c4 => ?_) (fun c4 => ?_)
    ·refine go 5 ?_
     refine grs ?_
     refine gr_run ?_
     refine bind_e (fun v7 e7 => gr_call [] (impl_ItemsOf.con e7) ?_)
     clear e7
     refine bind_e (fun v8 e8 => gr_call [] (impl_ListOf.con e8) ?_)
     clear e8
     refine gr_run ?_
     refine gr_done ?_
     refine ret_e (fun hr_ => ?_)
     subst hr_
     exact ret_ Tryz.func5 []
    ·refine bif_e (fun c5 => ?_) (fun c5 => ?_)
     ·refine go 8 ?_
      refine grs ?_
      refine gr_run ?_
      refine bind_e (fun v9 e9 => gr_call [] (impl_FieldsOf.con e9) ?_)
      clear e9
      refine bind_e (fun v10 e10 => gr_call [] (impl_MapOf.con e10) ?_)
      clear e10
      refine gr_run ?_
      refine gr_done ?_
      refine ret_e (fun hr_ => ?_)
      subst hr_
      exact ret_ Tryz.func5 []
     ·refine bif_e (fun c6 => ?_) (fun c6 => ?_)
      ·refine go 11 ?_
       refine grs ?_
       refine gr_run ?_
       refine bind_e (fun v11 e11 => gr_call [] (impl_TextOf.con e11) ?_)
       clear e11
       refine bind_e (fun v12 e12 => gr_call [] (impl_QuoteText.con e12) ?_)
       clear e12
       refine gr_run ?_
       refine gr_done ?_
       refine ret_e (fun hr_ => ?_)
       subst hr_
       exact ret_ Tryz.func5 []
      ·refine bif_e (fun c7 => ?_) (fun c7 => ?_)
       ·refine go 14 ?_
        refine grs ?_
        refine gr_run ?_
        refine bind_e (fun v13 e13 => gr_call [] (impl_DateNumber.con e13) ?_)
        clear e13
        refine bind_e (fun v14 e14 => gr_call [] (impl_DateText.con e14) ?_)
        clear e14
        refine gr_run ?_
        refine gr_done ?_
        refine ret_e (fun hr_ => ?_)
        subst hr_
        exact ret_ Tryz.func5 []
       ·refine go 16 ?_
        refine grs ?_
        refine gr_run ?_
        refine bind_e (fun v15 e15 => gr_call [] (impl_ItemsOf.con e15) ?_)
        clear e15
        refine gr_run ?_
        refine bind_e (fun v16 e16 => gr_call [] (spec_ItemsOf.con e16) ?_)
        clear e16
        refine bif_e (fun c8 => ?_) (fun c8 => ?_)
        ·refine gr_run ?_
         refine bind_e (fun v17 e17 => gr_call [] (impl_FieldsOf.con e17) ?_)
         clear e17
         refine bif_e (fun c9 => ?_) (fun c9 => ?_)
         ·refine gr_run ?_
          refine bind_e (fun v18 e18 => gr_call [] (impl_TextOf.con e18) ?_)
          clear e18
          refine bif_e (fun c10 => ?_) (fun c10 => ?_)
          ·refine gr_run ?_
           refine bind_e (fun v19 e19 => gr_call [] (impl_DateNumber.con e19) ?_)
           clear e19
           refine gr_run ?_
           refine gr_done ?_
           refine ret_e (fun hr_ => ?_)
           subst hr_
           exact ret_ Tryz.func5 []
          ·refine gr_run ?_
           refine gr_done ?_
           refine ret_e (fun hr_ => ?_)
           subst hr_
           exact ret_ Tryz.func5 []
         ·refine gr_run ?_
          refine gr_done ?_
          refine ret_e (fun hr_ => ?_)
          subst hr_
          exact ret_ Tryz.func5 []
        ·refine gr_run ?_
         refine gr_done ?_
         refine ret_e (fun hr_ => ?_)
         subst hr_
         exact ret_ Tryz.func5 []
   ·refine go 3 ?_
    refine ret_e (fun hr_ => ?_)
    subst hr_
    exact ret_ Tryz.func5 []
  ·refine gr_run ?_
   refine gr_done ?_
   refine go 3 ?_
   refine ret_e (fun hr_ => ?_)
   subst hr_
   exact ret_ Tryz.func5 []
end Go.Ab
