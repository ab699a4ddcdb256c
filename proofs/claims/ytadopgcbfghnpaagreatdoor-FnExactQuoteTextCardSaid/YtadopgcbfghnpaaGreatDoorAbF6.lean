/- What the functions compute, and their contracts, part 6. No condition beyond KOk. -/
import Derived.Test.YtadopgcbfghnpaaGreatDoorAbX
import Derived.Test.YtadopgcbfghnpaaGreatDoorAbF4
import Derived.Test.YtadopgcbfghnpaaGreatDoorAbF5
namespace Go.Ab
open Go.Proofs
set_option linter.unusedVariables false
set_option linter.unusedSimpArgs false
def impl_read.f (k : Nat) (v0 : ByteArray) : Option (S41 × Bool) := (bif decide (2000 < (v0.size : Int)) then (some ((⟨0, 0, 0, (⟨#[]⟩ : ByteArray), ([] : (List ByteArray)), ([] : (List S41))⟩ : S41), false)) else ((impl_reader_value.f k 0 (⟨v0, 0⟩ : S75)).bind fun v1 => (bif v1.2.1 then (some (v1.1, (v1.2.2.f1 == (v0.size : Int)))) else (some (v1.1, false)))))
set_option maxRecDepth 100000 in
set_option maxHeartbeats 4000000 in
theorem impl_read.con {K : Kn} [KOk K] {k : Nat} {v0 : ByteArray} {r : S41 × Bool} (h : impl_read.f k v0 = some r) : Con K Tryz.prog 34 [.p (.str v0)] [] (.tup [.agg [.p (.int .i64 r.1.f0), .p (.int .i64 r.1.f1), .p (.int .i64 r.1.f2), .p (.str r.1.f3), .p (.lst false (List.map srw r.1.f4)), .p (.lst false (List.map en41 r.1.f5))], .p (.bool r.2)]) [] := by
 rw [impl_read.f] at h
 refine con_intro 30 [] Tryz.func34 (by kernel_rfl) rfl rfl (by kernel_rfl) fun ι0 w0 hk0 => ?_
 revert h
 refine bif_e (fun c1 => ?_) (fun c1 => ?_)
 ·refine go 8 ?_
  refine ret_e (fun hr_ => ?_)
  subst hr_
  exact ret_ Tryz.func34 []
 ·refine go 10 ?_
  refine grs ?_
  refine gr_run ?_
  refine bind_e (fun v1 e1 => gr_call [(1000, (0, 13, 1))] (impl_reader_value.con e1) ?_)
  clear e1
  refine gr_run ?_
  refine gr_done ?_
  refine bif_e (fun c2 => ?_) (fun c2 => ?_)
  ·refine go 1 ?_
   refine grs ?_
   refine gr_run ?_
   refine gr_done ?_
   refine ret_e (fun hr_ => ?_)
   subst hr_
   exact ret_ Tryz.func34 []
  ·refine go 1 ?_
   refine grs ?_
   refine gr_run ?_
   refine gr_done ?_
   refine ret_e (fun hr_ => ?_)
   subst hr_
   exact ret_ Tryz.func34 []
def impl_val_sound.f (k : Nat) (v0 : S41) : Option (Bool) := ((impl_val_show.f k v0).bind fun v1 => ((impl_read.f k v1).bind fun v2 => (some v2.2)))
set_option maxRecDepth 100000 in
set_option maxHeartbeats 4000000 in
theorem impl_val_sound.con {K : Kn} [KOk K] {k : Nat} {v0 : S41} {r : Bool} (h : impl_val_sound.f k v0 = some r) : Con K Tryz.prog 31 [.agg [.p (.int .i64 v0.f0), .p (.int .i64 v0.f1), .p (.int .i64 v0.f2), .p (.str v0.f3), .p (.lst false (List.map srw v0.f4)), .p (.lst false (List.map en41 v0.f5))]] [] (.p (.bool r)) [] := by
 rw [impl_val_sound.f] at h
 refine con_intro 12 [] Tryz.func31 (by kernel_rfl) rfl rfl (by kernel_rfl) fun ι0 w0 hk0 => ?_
 revert h
 refine go 3 ?_
 refine grs ?_
 refine gr_run ?_
 refine bind_e (fun v1 e1 => gr_call [] (impl_val_show.con e1) ?_)
 clear e1
 refine bind_e (fun v2 e2 => gr_call [] (impl_read.con e2) ?_)
 clear e2
 refine gr_run ?_
 refine gr_done ?_
 refine go 2 ?_
 refine ret_e (fun hr_ => ?_)
 subst hr_
 exact ret_ Tryz.func31 []
def impl_QuoteText.f (k : Nat) (v0 : ByteArray) : Option (ByteArray) := (bif decide (2000 < (v0.size : Int)) then (some (⟨#[]⟩ : ByteArray)) else ((impl_textVal.f k v0).bind fun v1 => ((impl_val_sound.f k v1).bind fun v2 => (bif v2 then ((impl_val_show.f k v1).bind fun v3 => (some v3)) else (some (⟨#[]⟩ : ByteArray))))))
set_option maxRecDepth 100000 in
set_option maxHeartbeats 4000000 in
theorem impl_QuoteText.con {K : Kn} [KOk K] {k : Nat} {v0 : ByteArray} {r : ByteArray} (h : impl_QuoteText.f k v0 = some r) : Con K Tryz.prog 9 [.p (.str v0)] [] (.p (.str r)) [] := by
 rw [impl_QuoteText.f] at h
 refine con_intro 14 [] Tryz.func9 (by kernel_rfl) rfl rfl (by kernel_rfl) fun ι0 w0 hk0 => ?_
 revert h
 refine bif_e (fun c1 => ?_) (fun c1 => ?_)
 ·refine go 8 ?_
  refine ret_e (fun hr_ => ?_)
  subst hr_
  exact ret_ Tryz.func9 []
 ·refine go 8 ?_
  refine grs ?_
  refine gr_run ?_
  refine bind_e (fun v1 e1 => gr_call [] (impl_textVal.con e1) ?_)
  clear e1
  refine gr_run ?_
  refine gr_done ?_
  refine go 2 ?_
  refine grs ?_
  refine gr_run ?_
  refine bind_e (fun v2 e2 => gr_call [] (impl_val_sound.con e2) ?_)
  clear e2
  refine gr_run ?_
  refine gr_done ?_
  refine bif_e (fun c2 => ?_) (fun c2 => ?_)
  ·refine go 3 ?_
   refine grs ?_
   refine gr_run ?_
   refine bind_e (fun v3 e3 => gr_call [] (impl_val_show.con e3) ?_)
   clear e3
   refine gr_run ?_
   refine gr_done ?_
   refine ret_e (fun hr_ => ?_)
   subst hr_
   exact ret_ Tryz.func9 []
  ·refine go 3 ?_
   refine ret_e (fun hr_ => ?_)
   subst hr_
   exact ret_ Tryz.func9 []
end Go.Ab
