/- What the functions compute, and their contracts, part 3. No condition beyond KOk. -/
import Derived.Test.YtadopgcbfghnpaaGreatDoorAbX
import Derived.Test.YtadopgcbfghnpaaGreatDoorAbF1
import Derived.Test.YtadopgcbfghnpaaGreatDoorAbF2
namespace Go.Ab
open Go.Proofs
set_option linter.unusedVariables false
set_option linter.unusedSimpArgs false
def spec_l01Read.f (k : Nat) (v0 : ByteArray) : Option (S47) := (bif decide (2000 < (v0.size : Int)) then (some (⟨(-1), 0, 0, (⟨#[]⟩ : ByteArray), ([] : (List S47)), ([] : (List ByteArray))⟩ : S47)) else ((spec_l01Reader_value.f k 0 (⟨v0, 0, false⟩ : S71)).bind fun v1 => (bif v1.2.f2 then (some (⟨(-1), 0, 0, (⟨#[]⟩ : ByteArray), ([] : (List S47)), ([] : (List ByteArray))⟩ : S47)) else (bif (v1.2.f1 == (v0.size : Int)) then (some v1.1) else (some (⟨(-1), 0, 0, (⟨#[]⟩ : ByteArray), ([] : (List S47)), ([] : (List ByteArray))⟩ : S47))))))
set_option maxRecDepth 100000 in
set_option maxHeartbeats 4000000 in
theorem spec_l01Read.con {K : Kn} [KOk K] {k : Nat} {v0 : ByteArray} {r : S47} (h : spec_l01Read.f k v0 = some r) : Con K Tryz.prog 33 [.p (.str v0)] [] (.agg [.p (.int .i64 r.f0), .p (.int .i64 r.f1), .p (.int .i64 r.f2), .p (.str r.f3), .p (.lst false (List.map en47 r.f4)), .p (.lst false (List.map srw r.f5))]) [] := by
 rw [spec_l01Read.f] at h
 refine con_intro 29 [] Tryz.func33 (by kernel_rfl) rfl rfl (by kernel_rfl) fun ι0 w0 hk0 => ?_
 revert h
 refine bif_e (fun c1 => ?_) (fun c1 => ?_)
 ·refine go 8 ?_
  refine ret_e (fun hr_ => ?_)
  subst hr_
  exact ret_ Tryz.func33 []
 ·refine go 10 ?_
  refine grs ?_
  refine gr_run ?_
  refine bind_e (fun v1 e1 => gr_call [(1000, (0, 11, 1))] (spec_l01Reader_value.con e1) ?_)
  clear e1
  refine gr_run ?_
  refine gr_done ?_
  refine bif_e (fun c2 => ?_) (fun c2 => ?_)
  ·refine go 6 ?_
   refine ret_e (fun hr_ => ?_)
   subst hr_
   exact ret_ Tryz.func33 []
  ·refine bif_e (fun c3 => ?_) (fun c3 => ?_)
   ·refine go 7 ?_
    refine ret_e (fun hr_ => ?_)
    subst hr_
    exact ret_ Tryz.func33 []
   ·refine go 6 ?_
    refine ret_e (fun hr_ => ?_)
    subst hr_
    exact ret_ Tryz.func33 []
def spec_l01Keep.f (k : Nat) (v0 : ByteArray) : Option (ByteArray) := ((spec_l01Read.f k v0).bind fun v1 => (bif decide (v1.f0 < 0) then (some (⟨#[]⟩ : ByteArray)) else (some v0)))
set_option maxRecDepth 100000 in
set_option maxHeartbeats 4000000 in
theorem spec_l01Keep.con {K : Kn} [KOk K] {k : Nat} {v0 : ByteArray} {r : ByteArray} (h : spec_l01Keep.f k v0 = some r) : Con K Tryz.prog 28 [.p (.str v0)] [] (.p (.str r)) [] := by
 rw [spec_l01Keep.f] at h
 refine con_intro 8 [] Tryz.func28 (by kernel_rfl) rfl rfl (by kernel_rfl) fun ι0 w0 hk0 => ?_
 revert h
 refine go 4 ?_
 refine grs ?_
 refine gr_run ?_
 refine bind_e (fun v1 e1 => gr_call [] (spec_l01Read.con e1) ?_)
 clear e1
 refine gr_run ?_
 refine gr_done ?_
 refine bif_e (fun c1 => ?_) (fun c1 => ?_)
 ·refine go 3 ?_
  refine ret_e (fun hr_ => ?_)
  subst hr_
  exact ret_ Tryz.func28 []
 ·refine go 4 ?_
  refine ret_e (fun hr_ => ?_)
  subst hr_
  exact ret_ Tryz.func28 []
def spec_QuoteText.f (k : Nat) (v0 : ByteArray) : Option (ByteArray) := (bif decide (2000 < (v0.size : Int)) then (some (⟨#[]⟩ : ByteArray)) else ((spec_l01Quote.f k v0).bind fun v1 => ((spec_l01Keep.f k v1).bind fun v2 => (some v2))))
set_option maxRecDepth 100000 in
set_option maxHeartbeats 4000000 in
theorem spec_QuoteText.con {K : Kn} [KOk K] {k : Nat} {v0 : ByteArray} {r : ByteArray} (h : spec_QuoteText.f k v0 = some r) : Con K Tryz.prog 8 [.p (.str v0)] [] (.p (.str r)) [] := by
 rw [spec_QuoteText.f] at h
 refine con_intro 9 [] Tryz.func8 (by kernel_rfl) rfl rfl (by kernel_rfl) fun ι0 w0 hk0 => ?_
 revert h
 refine bif_e (fun c1 => ?_) (fun c1 => ?_)
 ·refine go 8 ?_
  refine ret_e (fun hr_ => ?_)
  subst hr_
  exact ret_ Tryz.func8 []
 ·refine go 8 ?_
  refine grs ?_
  refine gr_run ?_
  refine bind_e (fun v1 e1 => gr_call [] (spec_l01Quote.con e1) ?_)
  clear e1
  refine bind_e (fun v2 e2 => gr_call [] (spec_l01Keep.con e2) ?_)
  clear e2
  refine gr_run ?_
  refine gr_done ?_
  refine ret_e (fun hr_ => ?_)
  subst hr_
  exact ret_ Tryz.func8 []
end Go.Ab
