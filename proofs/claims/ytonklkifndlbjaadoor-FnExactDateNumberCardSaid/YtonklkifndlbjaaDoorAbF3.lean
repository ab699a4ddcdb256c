/- What the functions compute, and their contracts, part 3. No condition beyond KOk. -/
import Derived.Test.YtonklkifndlbjaaDoorAbX
import Derived.Test.YtonklkifndlbjaaDoorAbF2
namespace Go.Ab
open Go.Proofs
set_option linter.unusedVariables false
set_option linter.unusedSimpArgs false
def spec_l01Read.f (k : Nat) (v0 : ByteArray) : Option (S27) := (bif decide (2000 < (v0.size : Int)) then (some (⟨(-1), 0, 0, (⟨#[]⟩ : ByteArray), ([] : (List S27)), ([] : (List ByteArray))⟩ : S27)) else ((spec_l01Reader_value.f k 0 (⟨v0, 0, false⟩ : S36)).bind fun v1 => (bif v1.2.f2 then (some (⟨(-1), 0, 0, (⟨#[]⟩ : ByteArray), ([] : (List S27)), ([] : (List ByteArray))⟩ : S27)) else (bif (v1.2.f1 == (v0.size : Int)) then (some v1.1) else (some (⟨(-1), 0, 0, (⟨#[]⟩ : ByteArray), ([] : (List S27)), ([] : (List ByteArray))⟩ : S27))))))
set_option maxRecDepth 100000 in
set_option maxHeartbeats 4000000 in
theorem spec_l01Read.con {K : Kn} [KOk K] {k : Nat} {v0 : ByteArray} {r : S27} (h : spec_l01Read.f k v0 = some r) : Con K Tryd.prog 15 [.p (.str v0)] [] (.agg [.p (.int .i64 r.f0), .p (.int .i64 r.f1), .p (.int .i64 r.f2), .p (.str r.f3), .p (.lst false (List.map en27 r.f4)), .p (.lst false (List.map srw r.f5))]) [] := by
 rw [spec_l01Read.f] at h
 refine con_intro 29 [] Tryd.func15 (by kernel_rfl) rfl rfl (by kernel_rfl) fun ι0 w0 hk0 => ?_
 revert h
 refine bif_e (fun c1 => ?_) (fun c1 => ?_)
 ·refine go 8 ?_
  refine ret_e (fun hr_ => ?_)
  subst hr_
  exact ret_ Tryd.func15 []
 ·refine go 10 ?_
  refine grs ?_
  refine gr_run ?_
  refine bind_e (fun v1 e1 => gr_call [(1000, (0, 11, 1))] (spec_l01Reader_value.con e1) ?_)
  clear e1
  refine gr_run ?_
  refine gr_done ?_
  refine bif_e (fun c2 => ?_) (fun c2 => ?_)
  ·refine go 6 ?_
   refine ret_e (fun hr_ => ?_)
   subst hr_
   exact ret_ Tryd.func15 []
  ·refine bif_e (fun c3 => ?_) (fun c3 => ?_)
   ·refine go 7 ?_
    refine ret_e (fun hr_ => ?_)
    subst hr_
    exact ret_ Tryd.func15 []
   ·refine go 6 ?_
    refine ret_e (fun hr_ => ?_)
    subst hr_
    exact ret_ Tryd.func15 []
def spec_KindOf.f (k : Nat) (v0 : ByteArray) : Option (Int) := ((spec_l01Read.f k v0).bind fun v1 => (some v1.f0))
set_option maxRecDepth 100000 in
set_option maxHeartbeats 4000000 in
theorem spec_KindOf.con {K : Kn} [KOk K] {k : Nat} {v0 : ByteArray} {r : Int} (h : spec_KindOf.f k v0 = some r) : Con K Tryd.prog 7 [.p (.str v0)] [] (.p (.int .i64 r)) [] := by
 rw [spec_KindOf.f] at h
 refine con_intro 6 [] Tryd.func7 (by kernel_rfl) rfl rfl (by kernel_rfl) fun ι0 w0 hk0 => ?_
 revert h
 refine go 3 ?_
 refine grs ?_
 refine gr_run ?_
 refine bind_e (fun v1 e1 => gr_call [] (spec_l01Read.con e1) ?_)
 clear e1
 refine gr_run ?_
 refine gr_done ?_
 refine ret_e (fun hr_ => ?_)
 subst hr_
 exact ret_ Tryd.func7 []
def spec_TextOf.f (k : Nat) (v0 : ByteArray) : Option (ByteArray) := ((spec_l01Read.f k v0).bind fun v1 => (some v1.f3))
set_option maxRecDepth 100000 in
set_option maxHeartbeats 4000000 in
theorem spec_TextOf.con {K : Kn} [KOk K] {k : Nat} {v0 : ByteArray} {r : ByteArray} (h : spec_TextOf.f k v0 = some r) : Con K Tryd.prog 9 [.p (.str v0)] [] (.p (.str r)) [] := by
 rw [spec_TextOf.f] at h
 refine con_intro 6 [] Tryd.func9 (by kernel_rfl) rfl rfl (by kernel_rfl) fun ι0 w0 hk0 => ?_
 revert h
 refine go 3 ?_
 refine grs ?_
 refine gr_run ?_
 refine bind_e (fun v1 e1 => gr_call [] (spec_l01Read.con e1) ?_)
 clear e1
 refine gr_run ?_
 refine gr_done ?_
 refine ret_e (fun hr_ => ?_)
 subst hr_
 exact ret_ Tryd.func9 []
def spec_ValueFault.f (k : Nat) (v0 : ByteArray) : Option (Int) := ((spec_l01Read.f k v0).bind fun v1 => (bif decide (v1.f0 < 0) then (some 1) else (some 0)))
set_option maxRecDepth 100000 in
set_option maxHeartbeats 4000000 in
theorem spec_ValueFault.con {K : Kn} [KOk K] {k : Nat} {v0 : ByteArray} {r : Int} (h : spec_ValueFault.f k v0 = some r) : Con K Tryd.prog 11 [.p (.str v0)] [] (.p (.int .i64 r)) [] := by
 rw [spec_ValueFault.f] at h
 refine con_intro 7 [] Tryd.func11 (by kernel_rfl) rfl rfl (by kernel_rfl) fun ι0 w0 hk0 => ?_
 revert h
 refine go 4 ?_
 refine grs ?_
 refine gr_run ?_
 refine bind_e (fun v1 e1 => gr_call [] (spec_l01Read.con e1) ?_)
 clear e1
 refine gr_run ?_
 refine gr_done ?_
 refine bif_e (fun c1 => ?_) (fun c1 => ?_)
 ·refine go 3 ?_
  refine ret_e (fun hr_ => ?_)
  subst hr_
  exact ret_ Tryd.func11 []
 ·refine go 4 ?_
  refine ret_e (fun hr_ => ?_)
  subst hr_
  exact ret_ Tryd.func11 []
def spec_DateNumber.f (k : Nat) (v0 : ByteArray) : Option (Int) := ((spec_l01Read.f k v0).bind fun v1 => (bif (v1.f0 == 4) then (some v1.f1) else (some (-1))))
set_option maxRecDepth 100000 in
set_option maxHeartbeats 4000000 in
theorem spec_DateNumber.con {K : Kn} [KOk K] {k : Nat} {v0 : ByteArray} {r : Int} (h : spec_DateNumber.f k v0 = some r) : Con K Tryd.prog 13 [.p (.str v0)] [] (.p (.int .i64 r)) [] := by
 rw [spec_DateNumber.f] at h
 refine con_intro 11 [] Tryd.func13 (by kernel_rfl) rfl rfl (by kernel_rfl) fun ι0 w0 hk0 => ?_
 revert h
 refine go 3 ?_
 refine grs ?_
 refine gr_run ?_
 refine bind_e (fun v1 e1 => gr_call [] (spec_l01Read.con e1) ?_)
 clear e1
 refine gr_run ?_
 refine gr_done ?_
 refine bif_e (fun c1 => ?_) (fun c1 => ?_)
 ·refine go 7 ?_
  refine ret_e (fun hr_ => ?_)
  subst hr_
  exact ret_ Tryd.func13 []
 ·refine go 6 ?_
  refine ret_e (fun hr_ => ?_)
  subst hr_
  exact ret_ Tryd.func13 []
end Go.Ab
