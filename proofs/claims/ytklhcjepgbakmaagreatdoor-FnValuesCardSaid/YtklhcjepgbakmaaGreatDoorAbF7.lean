/- What the functions compute, and their contracts, part 7. No condition beyond KOk. -/
import Derived.Test.YtklhcjepgbakmaaGreatDoorAbX
import Derived.Test.YtklhcjepgbakmaaGreatDoorAbF5
import Derived.Test.YtklhcjepgbakmaaGreatDoorAbF6
namespace Go.Ab
open Go.Proofs
set_option linter.unusedVariables false
set_option linter.unusedSimpArgs false
def impl_TextOf.f (k : Nat) (v0 : ByteArray) : Option (ByteArray) := ((impl_read.f k v0).bind fun v1 => (bif v1.2 then (bif (v1.1.f0 == 3) then (some v1.1.f3) else (some (⟨#[]⟩ : ByteArray))) else (some (⟨#[]⟩ : ByteArray))))
set_option maxRecDepth 100000 in
set_option maxHeartbeats 4000000 in
theorem impl_TextOf.con {K : Kn} [KOk K] {k : Nat} {v0 : ByteArray} {r : ByteArray} (h : impl_TextOf.f k v0 = some r) : Con K Tryz.prog 24 [.p (.str v0)] [] (.p (.str r)) [] := by
 rw [impl_TextOf.f] at h
 refine con_intro 19 [] Tryz.func24 (by kernel_rfl) rfl rfl (by kernel_rfl) fun ι0 w0 hk0 => ?_
 revert h
 refine go 3 ?_
 refine grs ?_
 refine gr_run ?_
 refine bind_e (fun v1 e1 => gr_call [] (impl_read.con e1) ?_)
 clear e1
 refine gr_run ?_
 refine gr_done ?_
 refine bif_e (fun c1 => ?_) (fun c1 => ?_)
 ·refine bif_e (fun c2 => ?_) (fun c2 => ?_)
  ·refine go 7 ?_
   refine ret_e (fun hr_ => ?_)
   subst hr_
   exact ret_ Tryz.func24 []
  ·refine go 6 ?_
   refine ret_e (fun hr_ => ?_)
   subst hr_
   exact ret_ Tryz.func24 []
 ·refine go 6 ?_
  refine ret_e (fun hr_ => ?_)
  subst hr_
  exact ret_ Tryz.func24 []
def impl_textVal.f (k : Nat) (v0 : ByteArray) : Option (S46) := (some (⟨3, 0, 0, v0, ([] : (List ByteArray)), ([] : (List S46))⟩ : S46))
set_option maxRecDepth 100000 in
set_option maxHeartbeats 4000000 in
theorem impl_textVal.con {K : Kn} [KOk K] {k : Nat} {v0 : ByteArray} {r : S46} (h : impl_textVal.f k v0 = some r) : Con K Tryz.prog 45 [.p (.str v0)] [] (.agg [.p (.int .i64 r.f0), .p (.int .i64 r.f1), .p (.int .i64 r.f2), .p (.str r.f3), .p (.lst false (List.map srw r.f4)), .p (.lst false (List.map en46 r.f5))]) [] := by
 rw [impl_textVal.f] at h
 refine con_intro 5 [] Tryz.func45 (by kernel_rfl) rfl rfl (by kernel_rfl) fun ι0 w0 hk0 => ?_
 revert h
 refine go 4 ?_
 refine ret_e (fun hr_ => ?_)
 subst hr_
 exact ret_ Tryz.func45 []
def impl_QuoteText.f (k : Nat) (v0 : ByteArray) : Option (ByteArray) := (bif decide (2000 < (v0.size : Int)) then (some (⟨#[]⟩ : ByteArray)) else ((impl_textVal.f k v0).bind fun v1 => ((impl_val_sound.f k v1).bind fun v2 => (bif v2 then ((impl_val_show.f k v1).bind fun v3 => (some v3)) else (some (⟨#[]⟩ : ByteArray))))))
set_option maxRecDepth 100000 in
set_option maxHeartbeats 4000000 in
theorem impl_QuoteText.con {K : Kn} [KOk K] {k : Nat} {v0 : ByteArray} {r : ByteArray} (h : impl_QuoteText.f k v0 = some r) : Con K Tryz.prog 23 [.p (.str v0)] [] (.p (.str r)) [] := by
 rw [impl_QuoteText.f] at h
 refine con_intro 14 [] Tryz.func23 (by kernel_rfl) rfl rfl (by kernel_rfl) fun ι0 w0 hk0 => ?_
 revert h
 refine bif_e (fun c1 => ?_) (fun c1 => ?_)
 ·refine go 8 ?_
  refine ret_e (fun hr_ => ?_)
  subst hr_
  exact ret_ Tryz.func23 []
 ·refine go 8 ?_
  refine grs ?_
  refine gr_run ?_
  refine bind_e (fun v1 e1 => gr_call [] (impl_textVal.con e1) ?_)
  clear e1
  refine gr_run ?_
  refine gr_done ?_
  refine go 2 ?_
  refine grs ?_
  refine gr_run ?_
  refine bind_e (fun v2 e2 => gr_call [] (impl_val_sound.con e2) ?_)
  clear e2
  refine gr_run ?_
  refine gr_done ?_
  refine bif_e (fun c2 => ?_) (fun c2 => ?_)
  ·refine go 3 ?_
   refine grs ?_
   refine gr_run ?_
   refine bind_e (fun v3 e3 => gr_call [] (impl_val_show.con e3) ?_)
   clear e3
   refine gr_run ?_
   refine gr_done ?_
   refine ret_e (fun hr_ => ?_)
   subst hr_
   exact ret_ Tryz.func23 []
  ·refine go 3 ?_
   refine ret_e (fun hr_ => ?_)
   subst hr_
   exact ret_ Tryz.func23 []
def impl_DateNumber.f (k : Nat) (v0 : ByteArray) : Option (Int) := ((impl_read.f k v0).bind fun v1 => (bif v1.2 then (bif (v1.1.f0 == 4) then (some v1.1.f1) else (some (-1))) else (some (-1))))
set_option maxRecDepth 100000 in
set_option maxHeartbeats 4000000 in
theorem impl_DateNumber.con {K : Kn} [KOk K] {k : Nat} {v0 : ByteArray} {r : Int} (h : impl_DateNumber.f k v0 = some r) : Con K Tryz.prog 26 [.p (.str v0)] [] (.p (.int .i64 r)) [] := by
 rw [impl_DateNumber.f] at h
 refine con_intro 19 [] Tryz.func26 (by kernel_rfl) rfl rfl (by kernel_rfl) fun ι0 w0 hk0 => ?_
 revert h
 refine go 3 ?_
 refine grs ?_
 refine gr_run ?_
 refine bind_e (fun v1 e1 => gr_call [] (impl_read.con e1) ?_)
 clear e1
 refine gr_run ?_
 refine gr_done ?_
 refine bif_e (fun c1 => ?_) (fun c1 => ?_)
 ·refine bif_e (fun c2 => ?_) (fun c2 => ?_)
  ·refine go 7 ?_
   refine ret_e (fun hr_ => ?_)
   subst hr_
   exact ret_ Tryz.func26 []
  ·refine go 6 ?_
   refine ret_e (fun hr_ => ?_)
   subst hr_
   exact ret_ Tryz.func26 []
 ·refine go 6 ?_
  refine ret_e (fun hr_ => ?_)
  subst hr_
  exact ret_ Tryz.func26 []
def impl_DateText.f (k : Nat) (v0 : Int) : Option (ByteArray) := (bif decide (v0 < 0) then (some (⟨#[]⟩ : ByteArray)) else (bif decide (3652058 < v0) then (some (⟨#[]⟩ : ByteArray)) else ((impl_dateText.f k v0).bind fun v1 => (some v1))))
set_option maxRecDepth 100000 in
set_option maxHeartbeats 4000000 in
theorem impl_DateText.con {K : Kn} [KOk K] {k : Nat} {v0 : Int} {r : ByteArray} (h : impl_DateText.f k v0 = some r) : Con K Tryz.prog 25 [.p (.int .i64 v0)] [] (.p (.str r)) [] := by
 rw [impl_DateText.f] at h
 refine con_intro 11 [] Tryz.func25 (by kernel_rfl) rfl rfl (by kernel_rfl) fun ι0 w0 hk0 => ?_
 revert h
 refine bif_e (fun c1 => ?_) (fun c1 => ?_)
 ·refine go 8 ?_
  refine ret_e (fun hr_ => ?_)
  subst hr_
  exact ret_ Tryz.func25 []
 ·refine bif_e (fun c2 => ?_) (fun c2 => ?_)
  ·refine go 8 ?_
   refine ret_e (fun hr_ => ?_)
   subst hr_
   exact ret_ Tryz.func25 []
  ·refine go 8 ?_
   refine grs ?_
   refine gr_run ?_
   refine bind_e (fun v1 e1 => gr_call [] (impl_dateText.con e1) ?_)
   clear e1
   refine gr_run ?_
   refine gr_done ?_
   refine ret_e (fun hr_ => ?_)
   subst hr_
   exact ret_ Tryz.func25 []
end Go.Ab
