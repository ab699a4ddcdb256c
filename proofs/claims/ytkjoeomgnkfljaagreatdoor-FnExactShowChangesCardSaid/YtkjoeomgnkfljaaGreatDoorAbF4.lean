/- What the functions compute, and their contracts, part 4. No condition beyond KOk. -/
import Derived.Test.YtkjoeomgnkfljaaGreatDoorAbX
import Derived.Test.YtkjoeomgnkfljaaGreatDoorAbF2
import Derived.Test.YtkjoeomgnkfljaaGreatDoorAbF3
namespace Go.Ab
open Go.Proofs
set_option linter.unusedVariables false
set_option linter.unusedSimpArgs false
def spec_l01Read.f (k : Nat) (v0 : ByteArray) : Option (S157) := (bif decide (2000 < (v0.size : Int)) then (some (⟨(-1), 0, 0, (⟨#[]⟩ : ByteArray), ([] : (List S157)), ([] : (List ByteArray))⟩ : S157)) else ((spec_l01Reader_value.f k 0 (⟨v0, 0, false⟩ : S231)).bind fun v1 => (bif v1.2.f2 then (some (⟨(-1), 0, 0, (⟨#[]⟩ : ByteArray), ([] : (List S157)), ([] : (List ByteArray))⟩ : S157)) else (bif (v1.2.f1 == (v0.size : Int)) then (some v1.1) else (some (⟨(-1), 0, 0, (⟨#[]⟩ : ByteArray), ([] : (List S157)), ([] : (List ByteArray))⟩ : S157))))))
set_option maxRecDepth 100000 in
set_option maxHeartbeats 4000000 in
theorem spec_l01Read.con {K : Kn} [KOk K] {k : Nat} {v0 : ByteArray} {r : S157} (h : spec_l01Read.f k v0 = some r) : Con K Tryz.prog 93 [.p (.str v0)] [] (.agg [.p (.int .i64 r.f0), .p (.int .i64 r.f1), .p (.int .i64 r.f2), .p (.str r.f3), .p (.lst false (List.map en157 r.f4)), .p (.lst false (List.map srw r.f5))]) [] := by
 rw [spec_l01Read.f] at h
 refine con_intro 29 [] Tryz.func93 (by kernel_rfl) rfl rfl (by kernel_rfl) fun ι0 w0 hk0 => ?_
 revert h
 refine bif_e (fun c1 => ?_) (fun c1 => ?_)
 ·refine go 8 ?_
  refine ret_e (fun hr_ => ?_)
  subst hr_
  exact ret_ Tryz.func93 []
 ·refine go 10 ?_
  refine grs ?_
  refine gr_run ?_
  refine bind_e (fun v1 e1 => gr_call [(1000, (0, 11, 1))] (spec_l01Reader_value.con e1) ?_)
  clear e1
  refine gr_run ?_
  refine gr_done ?_
  refine bif_e (fun c2 => ?_) (fun c2 => ?_)
  ·refine go 6 ?_
   refine ret_e (fun hr_ => ?_)
   subst hr_
   exact ret_ Tryz.func93 []
  ·refine bif_e (fun c3 => ?_) (fun c3 => ?_)
   ·refine go 7 ?_
    refine ret_e (fun hr_ => ?_)
    subst hr_
    exact ret_ Tryz.func93 []
   ·refine go 6 ?_
    refine ret_e (fun hr_ => ?_)
    subst hr_
    exact ret_ Tryz.func93 []
mutual
def spec_l02Plain.l0 : Nat → Int → S157 → Option (Bool)
 | 0, _, _ => none
 | k + 1, v1, v0 => (bif decide (v1 < (v0.f4.length : Int)) then ((ix v0.f4 v1).bind fun v2 => (bif (v2.f0 == 0) then (spec_l02Plain.l0 k (IntKind.i64.wrap (v1 + 1)) v0) else ((spec_l02Plain.f k v2).bind fun v4 => (bif v4 then (spec_l02Plain.l0 k (IntKind.i64.wrap (v1 + 1)) v0) else (some false))))) else (some true))
def spec_l02Plain.f : Nat → S157 → Option (Bool)
 | 0, _ => none
 | k + 1, v0 => (bif decide (v0.f0 < 0) then (some false) else (bif decide (8 ≤ v0.f0) then (some false) else (spec_l02Plain.l0 k 0 v0)))
end
def spec_l02Plain.C (K : Kn) (k : Nat) : Prop := ∀ (v0 : S157) (r : Bool), spec_l02Plain.f k v0 = some r → Con K Tryz.prog 219 [.agg [.p (.int .i64 v0.f0), .p (.int .i64 v0.f1), .p (.int .i64 v0.f2), .p (.str v0.f3), .p (.lst false (List.map en157 v0.f4)), .p (.lst false (List.map srw v0.f5))]] [] (.p (.bool r)) []
set_option maxRecDepth 100000 in
set_option maxHeartbeats 4000000 in
theorem spec_l02Plain.con1 {K : Kn} [KOk K] (k : Nat) (spec_l02Plain_ih : ∀ m, m < k → spec_l02Plain.C K m) : spec_l02Plain.C K k := by
 intro v0 r h
 cases k with
 | zero => exact absurd h (by simp [spec_l02Plain.f])
 | succ k =>
 rw [spec_l02Plain.f] at h
 refine con_intro 35 [] Tryz.func219 (by kernel_rfl) rfl rfl (by kernel_rfl) fun ι0 w0 hk0 => ?_
 revert h
 refine bif_e (fun c1 => ?_) (fun c1 => ?_)
 ·refine go 8 ?_
  refine ret_e (fun hr_ => ?_)
  subst hr_
  exact ret_ Tryz.func219 []
 ·refine bif_e (fun c2 => ?_) (fun c2 => ?_)
  ·refine go 8 ?_
   refine ret_e (fun hr_ => ?_)
   subst hr_
   exact ret_ Tryz.func219 []
  ·refine go 11 ?_
   refine fun h => good_loop (fun n st => n ≤ k ∧ ∃ (v1 : _), st = ⟨[(1, .ptr 1 1 0), (3, .p (.int .i64 v1))], [(1, (1, .cells [.p (.int .i64 v0.f0), .p (.int .i64 v0.f1), .p (.int .i64 v0.f2), .p (.str v0.f3), .p (.lst false (List.map en157 v0.f4)), .p (.lst false (List.map srw v0.f5))]))]⟩ ∧ spec_l02Plain.l0 n v1 v0 = some r) k ⟨_, ⟨Nat.le_refl _, _, rfl, h⟩, frle_, memle_⟩ ?_
   clear c1 c2
   clear h
   rintro n _ ⟨hkl0, v1, rfl, h⟩ hl0
   cases n with
   | zero => exact absurd h (by simp [spec_l02Plain.l0])
   | succ kl0 =>
   rw [spec_l02Plain.l0] at h
   revert h
   refine bif_e (fun c3 => ?_) (fun c3 => ?_)
   ·refine bind_e (fun v2 e2 => ?_)
    replace e2 := nf_ (ix_en en157 e2)
    refine bif_e (fun c4 => ?_) (fun c4 => ?_)
    ·refine go 13 ?_
     exact fun h => good_again hl0 (by omega) ⟨_, ⟨by omega, _, rfl, h⟩, frle_, memle_⟩
    ·refine go 8 ?_
     refine grs ?_
     refine gr_run ?_
     refine bind_e (fun v4 e4 => gr_call [] (spec_l02Plain_ih _ (by omega) _ _ e4) ?_)
     clear e4
     refine gr_run ?_
     refine gr_done ?_
     refine bif_e (fun c5 => ?_) (fun c5 => ?_)
     ·refine go 4 ?_
      exact fun h => good_again hl0 (by omega) ⟨_, ⟨by omega, _, rfl, h⟩, frle_, memle_⟩
     ·refine go 3 ?_
      refine ret_e (fun hr_ => ?_)
      subst hr_
      exact ret_ Tryz.func219 []
   ·refine go 7 ?_
    refine ret_e (fun hr_ => ?_)
    subst hr_
    exact ret_ Tryz.func219 []
theorem spec_l02Plain.all {K : Kn} [KOk K] (k : Nat) : spec_l02Plain.C K k := by
 induction k using Nat.strongRecOn with
 | _ k ih => exact spec_l02Plain.con1 k ih
theorem spec_l02Plain.con {K : Kn} [KOk K] {k : Nat} {v0 : S157} {r : Bool} (h : spec_l02Plain.f k v0 = some r) : Con K Tryz.prog 219 [.agg [.p (.int .i64 v0.f0), .p (.int .i64 v0.f1), .p (.int .i64 v0.f2), .p (.str v0.f3), .p (.lst false (List.map en157 v0.f4)), .p (.lst false (List.map srw v0.f5))]] [] (.p (.bool r)) [] := (spec_l02Plain.all k) _ r h
def spec_l02Value.f (k : Nat) (v0 : ByteArray) : Option (Bool) := ((spec_l01Read.f k v0).bind fun v1 => (bif (v1.f0 == 0) then (some false) else ((spec_l02Plain.f k v1).bind fun v2 => (some v2))))
set_option maxRecDepth 100000 in
set_option maxHeartbeats 4000000 in
theorem spec_l02Value.con {K : Kn} [KOk K] {k : Nat} {v0 : ByteArray} {r : Bool} (h : spec_l02Value.f k v0 = some r) : Con K Tryz.prog 185 [.p (.str v0)] [] (.p (.bool r)) [] := by
 rw [spec_l02Value.f] at h
 refine con_intro 13 [] Tryz.func185 (by kernel_rfl) rfl rfl (by kernel_rfl) fun ι0 w0 hk0 => ?_
 revert h
 refine go 3 ?_
 refine grs ?_
 refine gr_run ?_
 refine bind_e (fun v1 e1 => gr_call [] (spec_l01Read.con e1) ?_)
 clear e1
 refine gr_run ?_
 refine gr_done ?_
 refine bif_e (fun c1 => ?_) (fun c1 => ?_)
 ·refine go 2 ?_
  refine ret_e (fun hr_ => ?_)
  subst hr_
  exact ret_ Tryz.func185 []
 ·refine go 1 ?_
  refine grs ?_
  refine gr_run ?_
  refine bind_e (fun v2 e2 => gr_call [] (spec_l02Plain.con e2) ?_)
  clear e2
  refine gr_run ?_
  refine gr_done ?_
  refine ret_e (fun hr_ => ?_)
  subst hr_
  exact ret_ Tryz.func185 []
mutual
def spec_l02Fields.l0 : Nat → (List S193) → Int → Option (Bool)
 | 0, _, _ => none
 | k + 1, v0, v1 => (bif decide (v1 < (v0.length : Int)) then ((ix v0 v1).bind fun v2 => ((spec_l01Name.f k v2.f0).bind fun v3 => (bif v3 then (bif decide (0 < v1) then ((ix v0 (IntKind.i64.wrap (v1 - 1))).bind fun v4 => (bif slt v4.f0 v2.f0 then ((spec_l02Value.f k v2.f1).bind fun v7 => (bif v7 then (spec_l02Fields.l0 k v0 (IntKind.i64.wrap (v1 + 1))) else (some false))) else (some false))) else ((spec_l02Value.f k v2.f1).bind fun v9 => (bif v9 then (spec_l02Fields.l0 k v0 (IntKind.i64.wrap (v1 + 1))) else (some false)))) else (some false)))) else (some true))
def spec_l02Fields.f : Nat → (List S193) → Option (Bool)
 | 0, _ => none
 | k + 1, v0 => (bif decide (20 < (v0.length : Int)) then (some false) else (spec_l02Fields.l0 k v0 0))
end
set_option maxRecDepth 100000 in
set_option maxHeartbeats 4000000 in
theorem spec_l02Fields.con {K : Kn} [KOk K] {k : Nat} {v0 : (List S193)} {r : Bool} (h : spec_l02Fields.f k v0 = some r) : Con K Tryz.prog 174 [.p (.lst false (List.map en193 v0))] [] (.p (.bool r)) [] := by
 cases k with
 | zero => exact absurd h (by simp [spec_l02Fields.f])
 | succ k =>
 rw [spec_l02Fields.f] at h
 refine con_intro 47 [] Tryz.func174 (by kernel_rfl) rfl rfl (by kernel_rfl) fun ι0 w0 hk0 => ?_
 revert h
 refine bif_e (fun c1 => ?_) (fun c1 => ?_)
 ·refine go 8 ?_
  refine ret_e (fun hr_ => ?_)
  subst hr_
  exact ret_ Tryz.func174 []
 ·refine go 11 ?_
  refine fun h => good_loop (fun n st => n ≤ k ∧ ∃ (v1 : _), st = ⟨[(0, .p (.lst false (List.map en193 v0))), (3, .p (.int .i64 v1))], []⟩ ∧ spec_l02Fields.l0 n v0 v1 = some r) k ⟨_, ⟨Nat.le_refl _, _, rfl, h⟩, frle_, memle_⟩ ?_
  clear c1
  clear h
  rintro n _ ⟨hkl0, v1, rfl, h⟩ hl0
  cases n with
  | zero => exact absurd h (by simp [spec_l02Fields.l0])
  | succ kl0 =>
  rw [spec_l02Fields.l0] at h
  revert h
  refine bif_e (fun c2 => ?_) (fun c2 => ?_)
  ·refine bind_e (fun v2 e2 => ?_)
   replace e2 := nf_ (ix_en en193 e2)
   refine go 8 ?_
   refine grs ?_
   refine gr_run ?_
   refine bind_e (fun v3 e3 => gr_call [] (spec_l01Name.con e3) ?_)
   clear e3
   refine bif_e (fun c3 => ?_) (fun c3 => ?_)
   ·refine bif_e (fun c4 => ?_) (fun c4 => ?_)
    ·refine bind_e (fun v4 e4 => ?_)
     replace e4 := nf_ (ix_en en193 e4)
     refine bif_e (fun c5 => ?_) (fun c5 => ?_)
     ·refine gr_run ?_
      refine bind_e (fun v7 e7 => gr_call [] (spec_l02Value.con e7) ?_)
      clear e7
      refine gr_run ?_
      refine gr_done ?_
      refine bif_e (fun c6 => ?_) (fun c6 => ?_)
      ·refine go 4 ?_
       exact fun h => good_again hl0 (by omega) ⟨_, ⟨by omega, _, rfl, h⟩, frle_, memle_⟩
      ·refine go 3 ?_
       refine ret_e (fun hr_ => ?_)
       subst hr_
       exact ret_ Tryz.func174 []
     ·refine gr_run ?_
      refine gr_done ?_
      refine go 3 ?_
      refine ret_e (fun hr_ => ?_)
      subst hr_
      exact ret_ Tryz.func174 []
    ·refine gr_run ?_
     refine bind_e (fun v9 e9 => gr_call [] (spec_l02Value.con e9) ?_)
     clear e9
     refine gr_run ?_
     refine gr_done ?_
     refine bif_e (fun c7 => ?_) (fun c7 => ?_)
     ·refine go 4 ?_
      exact fun h => good_again hl0 (by omega) ⟨_, ⟨by omega, _, rfl, h⟩, frle_, memle_⟩
     ·refine go 3 ?_
      refine ret_e (fun hr_ => ?_)
      subst hr_
      exact ret_ Tryz.func174 []
   ·refine gr_run ?_
    refine gr_done ?_
    refine go 3 ?_
    refine ret_e (fun hr_ => ?_)
    subst hr_
    exact ret_ Tryz.func174 []
  ·refine go 7 ?_
   refine ret_e (fun hr_ => ?_)
   subst hr_
   exact ret_ Tryz.func174 []
def spec_l02IsNode.f (k : Nat) (v0 : S94) : Option (Bool) := ((spec_l02Id.f k v0.f0).bind fun v1 => (bif v1 then ((spec_l02Labels.f k v0.f1).bind fun v2 => (bif v2 then ((spec_l02Fields.f k v0.f2).bind fun v3 => (some v3)) else (some false))) else (some false)))
set_option maxRecDepth 100000 in
set_option maxHeartbeats 4000000 in
theorem spec_l02IsNode.con {K : Kn} [KOk K] {k : Nat} {v0 : S94} {r : Bool} (h : spec_l02IsNode.f k v0 = some r) : Con K Tryz.prog 124 [.agg [.p (.int .i64 v0.f0), .p (.lst false (List.map srw v0.f1)), .p (.lst false (List.map en193 v0.f2))]] [] (.p (.bool r)) [] := by
 rw [spec_l02IsNode.f] at h
 refine con_intro 16 [] Tryz.func124 (by kernel_rfl) rfl rfl (by kernel_rfl) fun ι0 w0 hk0 => ?_
 revert h
 refine go 3 ?_
 refine grs ?_
 refine gr_run ?_
 refine bind_e (fun v1 e1 => gr_call [] (spec_l02Id.con e1) ?_)
 clear e1
 refine bif_e (fun c1 => ?_) (fun c1 => ?_)
 ·refine gr_run ?_
  refine bind_e (fun v2 e2 => gr_call [] (spec_l02Labels.con e2) ?_)
  clear e2
  refine bif_e (fun c2 => ?_) (fun c2 => ?_)
  ·refine gr_run ?_
   refine bind_e (fun v3 e3 => gr_call [] (spec_l02Fields.con e3) ?_)
   clear e3
   refine gr_run ?_
   refine gr_done ?_
   refine ret_e (fun hr_ => ?_)
   subst hr_
   exact ret_ Tryz.func124 []
  ·refine gr_run ?_
   refine gr_done ?_
   refine ret_e (fun hr_ => ?_)
   subst hr_
   exact ret_ Tryz.func124 []
 ·refine gr_run ?_
  refine gr_done ?_
  refine ret_e (fun hr_ => ?_)
  subst hr_
  exact ret_ Tryz.func124 []
def spec_l02IsEdge.f (k : Nat) (v0 : S110) : Option (Bool) := ((spec_l02Id.f k v0.f0).bind fun v1 => (bif v1 then ((spec_l01Name.f k v0.f1).bind fun v2 => (bif v2 then ((spec_l02Id.f k v0.f2).bind fun v3 => (bif v3 then ((spec_l02Id.f k v0.f3).bind fun v4 => (bif v4 then ((spec_l02Fields.f k v0.f4).bind fun v5 => (some v5)) else (some false))) else (some false))) else (some false))) else (some false)))
set_option maxRecDepth 100000 in
set_option maxHeartbeats 4000000 in
theorem spec_l02IsEdge.con {K : Kn} [KOk K] {k : Nat} {v0 : S110} {r : Bool} (h : spec_l02IsEdge.f k v0 = some r) : Con K Tryz.prog 125 [.agg [.p (.int .i64 v0.f0), .p (.str v0.f1), .p (.int .i64 v0.f2), .p (.int .i64 v0.f3), .p (.lst false (List.map en193 v0.f4))]] [] (.p (.bool r)) [] := by
 rw [spec_l02IsEdge.f] at h
 refine con_intro 26 [] Tryz.func125 (by kernel_rfl) rfl rfl (by kernel_rfl) fun ι0 w0 hk0 => ?_
 revert h
 refine go 3 ?_
 refine grs ?_
 refine gr_run ?_
 refine bind_e (fun v1 e1 => gr_call [] (spec_l02Id.con e1) ?_)
 clear e1
 refine bif_e (fun c1 => ?_) (fun c1 => ?_)
 ·refine gr_run ?_
  refine bind_e (fun v2 e2 => gr_call [] (spec_l01Name.con e2) ?_)
  clear e2
  refine bif_e (fun c2 => ?_) (fun c2 => ?_)
  ·refine gr_run ?_
   refine bind_e (fun v3 e3 => gr_call [] (spec_l02Id.con e3) ?_)
   clear e3
   refine bif_e (fun c3 => ?_) (fun c3 => ?_)
   ·refine gr_run ?_
    refine bind_e (fun v4 e4 => gr_call [] (spec_l02Id.con e4) ?_)
    clear e4
    refine bif_e (fun c4 => ?_) (fun c4 => ?_)
    ·refine gr_run ?_
     refine bind_e (fun v5 e5 => gr_call [] (spec_l02Fields.con e5) ?_)
     clear e5
     refine gr_run ?_
     refine gr_done ?_
     refine ret_e (fun hr_ => ?_)
     subst hr_
     exact ret_ Tryz.func125 []
    ·refine gr_run ?_
     refine gr_done ?_
     refine ret_e (fun hr_ => ?_)
     subst hr_
     exact ret_ Tryz.func125 []
   ·refine gr_run ?_
    refine gr_done ?_
    refine ret_e (fun hr_ => ?_)
    subst hr_
    exact ret_ Tryz.func125 []
  ·refine gr_run ?_
   refine gr_done ?_
   refine ret_e (fun hr_ => ?_)
   subst hr_
   exact ret_ Tryz.func125 []
 ·refine gr_run ?_
  refine gr_done ?_
  refine ret_e (fun hr_ => ?_)
  subst hr_
  exact ret_ Tryz.func125 []
def spec_l02Form.f (k : Nat) (v0 : S145) : Option (Bool) := (bif (v0.f0 == 1) then ((spec_l02IsNode.f k v0.f1).bind fun v1 => (some v1)) else (bif (v0.f0 == 2) then ((spec_l02Id.f k v0.f1.f0).bind fun v2 => (some v2)) else (bif (v0.f0 == 3) then ((spec_l02IsEdge.f k v0.f2).bind fun v3 => (some v3)) else (bif (v0.f0 == 4) then ((spec_l02Id.f k v0.f2.f0).bind fun v4 => (some v4)) else (bif (v0.f0 == 5) then ((spec_l02Id.f k v0.f1.f0).bind fun v5 => (bif v5 then ((spec_l02Labels.f k v0.f1.f1).bind fun v6 => (some v6)) else (some false))) else (bif (v0.f0 == 6) then ((spec_l01Read.f k v0.f3).bind fun v7 => (bif (v7.f0 == 8) then ((spec_l01Name.f k v0.f4).bind fun v8 => (bif v8 then (bif decide (v0.f5 = (⟨#[110, 117, 108, 108]⟩ : ByteArray)) then (some true) else ((spec_l02Value.f k v0.f5).bind fun v9 => (some v9))) else (some false))) else (bif (v7.f0 == 9) then ((spec_l01Name.f k v0.f4).bind fun v10 => (bif v10 then (bif decide (v0.f5 = (⟨#[110, 117, 108, 108]⟩ : ByteArray)) then (some true) else ((spec_l02Value.f k v0.f5).bind fun v11 => (some v11))) else (some false))) else (some false)))) else (some false)))))))
set_option maxRecDepth 100000 in
set_option maxHeartbeats 4000000 in
theorem spec_l02Form.con {K : Kn} [KOk K] {k : Nat} {v0 : S145} {r : Bool} (h : spec_l02Form.f k v0 = some r) : Con K Tryz.prog 141 [.agg [.p (.int .i64 v0.f0), .p (.int .i64 v0.f1.f0), .p (.lst false (List.map srw v0.f1.f1)), .p (.lst false (List.map en193 v0.f1.f2)), .p (.int .i64 v0.f2.f0), .p (.str v0.f2.f1), .p (.int .i64 v0.f2.f2), .p (.int .i64 v0.f2.f3), .p (.lst false (List.map en193 v0.f2.f4)), .p (.str v0.f3), .p (.str v0.f4), .p (.str v0.f5)]] [] (.p (.bool r)) [] := by
 rw [spec_l02Form.f] at h
 refine con_intro 67 [] Tryz.func141 (by kernel_rfl) rfl rfl (by kernel_rfl) fun ι0 w0 hk0 => ?_
 revert h
 refine bif_e (fun c1 => ?_) (fun c1 => ?_)
 ·refine go 10 ?_
  refine grs ?_
  refine gr_run ?_
  refine bind_e (fun v1 e1 => gr_call [] (spec_l02IsNode.con e1) ?_)
  clear e1
  refine gr_run ?_
  refine gr_done ?_
  refine ret_e (fun hr_ => ?_)
  subst hr_
  exact ret_ Tryz.func141 []
 ·refine bif_e (fun c2 => ?_) (fun c2 => ?_)
  ·refine go 13 ?_
   refine grs ?_
   refine gr_run ?_
   refine bind_e (fun v2 e2 => gr_call [] (spec_l02Id.con e2) ?_)
   clear e2
   refine gr_run ?_
   refine gr_done ?_
   refine ret_e (fun hr_ => ?_)
   subst hr_
   exact ret_ Tryz.func141 []
  ·refine bif_e (fun c3 => ?_) (fun c3 => ?_)
   ·refine go 16 ?_
    refine grs ?_
    refine gr_run ?_
    refine bind_e (fun v3 e3 => gr_call [] (spec_l02IsEdge.con e3) ?_)
    clear e3
    refine gr_run ?_
    refine gr_done ?_
    refine ret_e (fun hr_ => ?_)
    subst hr_
    exact ret_ Tryz.func141 []
   ·refine bif_e (fun c4 => ?_) (fun c4 => ?_)
    ·refine go 19 ?_
     refine grs ?_
     refine gr_run ?_
     refine bind_e (fun v4 e4 => gr_call [] (spec_l02Id.con e4) ?_)
     clear e4
     refine gr_run ?_
     refine gr_done ?_
     refine ret_e (fun hr_ => ?_)
     subst hr_
     exact ret_ Tryz.func141 []
    ·refine bif_e (fun c5 => ?_) (fun c5 => ?_)
     ·refine go 22 ?_
      refine grs ?_
      refine gr_run ?_
      refine bind_e (fun v5 e5 => gr_call [] (spec_l02Id.con e5) ?_)
      clear e5
      refine bif_e (fun c6 => ?_) (fun c6 => ?_)
      ·refine gr_run ?_
       refine bind_e (fun v6 e6 => gr_call [] (spec_l02Labels.con e6) ?_)
       clear e6
       refine gr_run ?_
       refine gr_done ?_
       refine ret_e (fun hr_ => ?_)
       subst hr_
       exact ret_ Tryz.func141 []
      ·refine gr_run ?_
       refine gr_done ?_
       refine ret_e (fun hr_ => ?_)
       subst hr_
       exact ret_ Tryz.func141 []
     ·refine bif_e (fun c7 => ?_) (fun c7 => ?_)
      ·refine go 25 ?_
       refine grs ?_
       refine gr_run ?_
       refine bind_e (fun v7 e7 => gr_call [] (spec_l01Read.con e7) ?_)
       clear e7
       refine gr_run ?_
       refine gr_done ?_
       refine bif_e (fun c8 => ?_) (fun c8 => ?_)
       ·refine go 1 ?_
        refine grs ?_
        refine gr_run ?_
        refine bind_e (fun v8 e8 => gr_call [] (spec_l01Name.con e8) ?_)
        clear e8
        refine bif_e (fun c9 => ?_) (fun c9 => ?_)
        ·refine bif_e (fun c10 => ?_) (fun c10 => ?_)
         ·refine gr_run ?_
          refine gr_done ?_
          refine ret_e (fun hr_ => ?_)
          subst hr_
          exact ret_ Tryz.func141 []
         ·refine gr_run ?_
          refine bind_e (fun v9 e9 => gr_call [] (spec_l02Value.con e9) ?_)
          clear e9
          refine gr_run ?_
          refine gr_done ?_
          refine ret_e (fun hr_ => ?_)
          subst hr_
          exact ret_ Tryz.func141 []
        ·refine gr_run ?_
         refine gr_done ?_
         refine ret_e (fun hr_ => ?_)
         subst hr_
         exact ret_ Tryz.func141 []
       ·refine bif_e (fun c11 => ?_) (fun c11 => ?_)
        ·refine go 1 ?_
         refine grs ?_
         refine gr_run ?_
         refine bind_e (fun v10 e10 => gr_call [] (spec_l01Name.con e10) ?_)
         clear e10
         refine bif_e (fun c12 => ?_) (fun c12 => ?_)
         ·refine bif_e (fun c13 => ?_) (fun c13 => ?_)
          ·refine gr_run ?_
           refine gr_done ?_
           refine ret_e (fun hr_ => ?_)
           subst hr_
           exact ret_ Tryz.func141 []
          ·refine gr_run ?_
           refine bind_e (fun v11 e11 => gr_call [] (spec_l02Value.con e11) ?_)
           clear e11
           refine gr_run ?_
           refine gr_done ?_
           refine ret_e (fun hr_ => ?_)
           subst hr_
           exact ret_ Tryz.func141 []
         ·refine gr_run ?_
          refine gr_done ?_
          refine ret_e (fun hr_ => ?_)
          subst hr_
          exact ret_ Tryz.func141 []
        ·refine go 2 ?_
         refine ret_e (fun hr_ => ?_)
         subst hr_
         exact ret_ Tryz.func141 []
      ·refine go 28 ?_
       refine ret_e (fun hr_ => ?_)
       subst hr_
       exact ret_ Tryz.func141 []
mutual
def spec_l02Map.j0 : Nat → (List S193) → ByteArray → Int → Option (ByteArray)
 | 0, _, _, _ => none
 | k + 1, v0, v6, v2 => ((ix v0 v2).bind fun v7 => ((cat v6 v7.f0).bind fun v8 => ((cat v8 (⟨#[58]⟩ : ByteArray)).bind fun v9 => ((cat v9 v7.f1).bind fun v11 => (spec_l02Map.l0 k v0 v11 (IntKind.i64.wrap (v2 + 1)))))))
def spec_l02Map.l0 : Nat → (List S193) → ByteArray → Int → Option (ByteArray)
 | 0, _, _, _ => none
 | k + 1, v0, v1, v2 => (bif decide (v2 < (v0.length : Int)) then (bif decide (0 < v2) then ((cat v1 (⟨#[44]⟩ : ByteArray)).bind fun v5 => (spec_l02Map.j0 k v0 v5 v2)) else (spec_l02Map.j0 k v0 v1 v2)) else ((cat (⟨#[123]⟩ : ByteArray) v1).bind fun v3 => ((cat v3 (⟨#[125]⟩ : ByteArray)).bind fun v4 => (some v4))))
def spec_l02Map.f : Nat → (List S193) → Option (ByteArray)
 | 0, _ => none
 | k + 1, v0 => (spec_l02Map.l0 k v0 (⟨#[]⟩ : ByteArray) 0)
end
set_option maxRecDepth 100000 in
set_option maxHeartbeats 4000000 in
theorem spec_l02Map.con {K : Kn} [KOk K] {k : Nat} {v0 : (List S193)} {r : ByteArray} (h : spec_l02Map.f k v0 = some r) : Con K Tryz.prog 165 [.p (.lst false (List.map en193 v0))] [] (.p (.str r)) [] := by
 cases k with
 | zero => exact absurd h (by simp [spec_l02Map.f])
 | succ k =>
 rw [spec_l02Map.f] at h
 refine con_intro 32 [] Tryz.func165 (by kernel_rfl) rfl rfl (by kernel_rfl) fun ι0 w0 hk0 => ?_
 revert h
 refine go 8 ?_
 refine fun h => good_loop (fun n st => n ≤ k ∧ ∃ (v1 : _) (v2 : _), st = ⟨[(0, .p (.lst false (List.map en193 v0))), (3, .p (.str v1)), (4, .p (.int .i64 v2))], []⟩ ∧ spec_l02Map.l0 n v0 v1 v2 = some r) k ⟨_, ⟨Nat.le_refl _, _, _, rfl, h⟩, frle_, memle_⟩ ?_
 clear h
 rintro n _ ⟨hkl0, v1, v2, rfl, h⟩ hl0
 cases n with
 | zero => exact absurd h (by simp [spec_l02Map.l0])
 | succ kl0 =>
 rw [spec_l02Map.l0] at h
 revert h
 refine bif_e (fun c1 => ?_) (fun c1 => ?_)
 ·refine go 8 ?_
  refine good_cut (fun st => ∃ (v6 : _) (q_ : Nat), q_ ≤ kl0 ∧ st = ⟨[(0, .p (.lst false (List.map en193 v0))), (3, .p (.str v6)), (4, .p (.int .i64 v2))], []⟩ ∧ spec_l02Map.j0 q_ v0 v6 v2 = some r) ?_ (fun hj0 => ?_)
  ·clear c1
   rintro _ ⟨v6, q_, hqj0, rfl, h⟩
   cases q_ with
   | zero => exact absurd h (by simp [spec_l02Map.j0])
   | succ kj0 =>
   rw [spec_l02Map.j0] at h
   revert h
   refine bind_e (fun v7 e7 => ?_)
   replace e7 := nf_ (ix_en en193 e7)
   refine bind_e (fun v8 e8 => ?_)
   refine bind_e (fun v9 e9 => ?_)
   refine bind_e (fun v11 e11 => ?_)
   refine grs ?_
   refine gr_run ?_
   refine gr_done ?_
   refine go 2 ?_
   exact fun h => good_again hl0 (by omega) ⟨_, ⟨by omega, _, _, rfl, h⟩, frle_, memle_⟩
  ·refine bif_e (fun c2 => ?_) (fun c2 => ?_)
   ·refine bind_e (fun v5 e5 => ?_)
    refine go 4 ?_
    exact fun h => good_jump hj0 ⟨_, ⟨_, _, by omega, rfl, h⟩, frle_, memle_⟩
   ·refine go 4 ?_
    exact fun h => good_jump hj0 ⟨_, ⟨_, _, by omega, rfl, h⟩, frle_, memle_⟩
 ·refine bind_e (fun v3 e3 => ?_)
  refine bind_e (fun v4 e4 => ?_)
  refine go 7 ?_
  refine ret_e (fun hr_ => ?_)
  subst hr_
  exact ret_ Tryz.func165 []
def spec_l02Behind.f (k : Nat) (v0 : (List S193)) : Option (ByteArray) := (bif ((v0.length : Int) == 0) then (some (⟨#[10]⟩ : ByteArray)) else ((spec_l02Map.f k v0).bind fun v1 => ((cat (⟨#[32]⟩ : ByteArray) v1).bind fun v2 => ((cat v2 (⟨#[10]⟩ : ByteArray)).bind fun v3 => (some v3)))))
set_option maxRecDepth 100000 in
set_option maxHeartbeats 4000000 in
theorem spec_l02Behind.con {K : Kn} [KOk K] {k : Nat} {v0 : (List S193)} {r : ByteArray} (h : spec_l02Behind.f k v0 = some r) : Con K Tryz.prog 220 [.p (.lst false (List.map en193 v0))] [] (.p (.str r)) [] := by
 rw [spec_l02Behind.f] at h
 refine con_intro 10 [] Tryz.func220 (by kernel_rfl) rfl rfl (by kernel_rfl) fun ι0 w0 hk0 => ?_
 revert h
 refine bif_e (fun c1 => ?_) (fun c1 => ?_)
 ·refine go 8 ?_
  refine ret_e (fun hr_ => ?_)
  subst hr_
  exact ret_ Tryz.func220 []
 ·refine go 8 ?_
  refine grs ?_
  refine gr_run ?_
  refine bind_e (fun v1 e1 => gr_call [] (spec_l02Map.con e1) ?_)
  clear e1
  refine bind_e (fun v2 e2 => ?_)
  refine bind_e (fun v3 e3 => ?_)
  refine gr_run ?_
  refine gr_done ?_
  refine ret_e (fun hr_ => ?_)
  subst hr_
  exact ret_ Tryz.func220 []
mutual
def spec_l14Node.l0 : Nat → ByteArray → Int → S94 → Option (ByteArray)
 | 0, _, _, _ => none
 | k + 1, v3, v4, v0 => (bif decide (v4 < (v0.f1.length : Int)) then ((cat v3 (⟨#[32, 58]⟩ : ByteArray)).bind fun v7 => ((ix v0.f1 v4).bind fun v8 => ((cat v7 v8).bind fun v9 => (spec_l14Node.l0 k v9 (IntKind.i64.wrap (v4 + 1)) v0)))) else ((spec_l02Behind.f k v0.f2).bind fun v5 => ((cat v3 v5).bind fun v6 => (some v6))))
def spec_l14Node.f : Nat → S94 → Option (ByteArray)
 | 0, _ => none
 | k + 1, v0 => ((spec_l01Dec.f k v0.f0).bind fun v1 => ((cat (⟨#[110]⟩ : ByteArray) v1).bind fun v2 => (spec_l14Node.l0 k v2 0 v0)))
end
set_option maxRecDepth 100000 in
set_option maxHeartbeats 4000000 in
theorem spec_l14Node.con {K : Kn} [KOk K] {k : Nat} {v0 : S94} {r : ByteArray} (h : spec_l14Node.f k v0 = some r) : Con K Tryz.prog 186 [.agg [.p (.int .i64 v0.f0), .p (.lst false (List.map srw v0.f1)), .p (.lst false (List.map en193 v0.f2))]] [] (.p (.str r)) [] := by
 cases k with
 | zero => exact absurd h (by simp [spec_l14Node.f])
 | succ k =>
 rw [spec_l14Node.f] at h
 refine con_intro 29 [] Tryz.func186 (by kernel_rfl) rfl rfl (by kernel_rfl) fun ι0 w0 hk0 => ?_
 revert h
 refine go 3 ?_
 refine grs ?_
 refine gr_run ?_
 refine bind_e (fun v1 e1 => gr_call [] (spec_l01Dec.con e1) ?_)
 clear e1
 refine bind_e (fun v2 e2 => ?_)
 refine gr_run ?_
 refine gr_done ?_
 refine go 4 ?_
 refine fun h => good_loop (fun n st => n ≤ k ∧ ∃ (v3 : _) (v4 : _), st = ⟨[(1, .ptr 1 1 0), (3, .p (.str v3)), (4, .p (.int .i64 v4))], [(1, (1, .cells [.p (.int .i64 v0.f0), .p (.lst false (List.map srw v0.f1)), .p (.lst false (List.map en193 v0.f2))]))]⟩ ∧ spec_l14Node.l0 n v3 v4 v0 = some r) k ⟨_, ⟨Nat.le_refl _, _, _, rfl, h⟩, frle_, memle_⟩ ?_
 clear e2
 clear h
 rintro n _ ⟨hkl0, v3, v4, rfl, h⟩ hl0
 cases n with
 | zero => exact absurd h (by simp [spec_l14Node.l0])
 | succ kl0 =>
 rw [spec_l14Node.l0] at h
 revert h
 refine bif_e (fun c1 => ?_) (fun c1 => ?_)
 ·refine bind_e (fun v7 e7 => ?_)
  refine bind_e (fun v8 e8 => ?_)
  replace e8 := nf_ (ix_en srw e8)
  refine bind_e (fun v9 e9 => ?_)
  refine go 10 ?_
  exact fun h => good_again hl0 (by omega) ⟨_, ⟨by omega, _, _, rfl, h⟩, frle_, memle_⟩
 ·refine go 6 ?_
  refine grs ?_
  refine gr_run ?_
  refine bind_e (fun v5 e5 => gr_call [] (spec_l02Behind.con e5) ?_)
  clear e5
  refine bind_e (fun v6 e6 => ?_)
  refine gr_run ?_
  refine gr_done ?_
  refine ret_e (fun hr_ => ?_)
  subst hr_
  exact ret_ Tryz.func186 []
def spec_l14Edge.f (k : Nat) (v0 : S110) : Option (ByteArray) := ((spec_l01Dec.f k v0.f0).bind fun v1 => ((cat (⟨#[101]⟩ : ByteArray) v1).bind fun v2 => ((cat v2 (⟨#[32, 110]⟩ : ByteArray)).bind fun v3 => ((spec_l01Dec.f k v0.f2).bind fun v4 => ((cat v3 v4).bind fun v5 => ((cat v5 (⟨#[32, 45]⟩ : ByteArray)).bind fun v6 => ((cat v6 v0.f1).bind fun v7 => ((cat v7 (⟨#[45, 62, 32, 110]⟩ : ByteArray)).bind fun v8 => ((spec_l01Dec.f k v0.f3).bind fun v9 => ((cat v8 v9).bind fun v10 => ((spec_l02Behind.f k v0.f4).bind fun v11 => ((cat v10 v11).bind fun v12 => (some v12)))))))))))))
set_option maxRecDepth 100000 in
set_option maxHeartbeats 4000000 in
theorem spec_l14Edge.con {K : Kn} [KOk K] {k : Nat} {v0 : S110} {r : ByteArray} (h : spec_l14Edge.f k v0 = some r) : Con K Tryz.prog 187 [.agg [.p (.int .i64 v0.f0), .p (.str v0.f1), .p (.int .i64 v0.f2), .p (.int .i64 v0.f3), .p (.lst false (List.map en193 v0.f4))]] [] (.p (.str r)) [] := by
 rw [spec_l14Edge.f] at h
 refine con_intro 25 [] Tryz.func187 (by kernel_rfl) rfl rfl (by kernel_rfl) fun ι0 w0 hk0 => ?_
 revert h
 refine go 3 ?_
 refine grs ?_
 refine gr_run ?_
 refine bind_e (fun v1 e1 => gr_call [] (spec_l01Dec.con e1) ?_)
 clear e1
 refine bind_e (fun v2 e2 => ?_)
 refine bind_e (fun v3 e3 => ?_)
 refine gr_run ?_
 refine bind_e (fun v4 e4 => gr_call [] (spec_l01Dec.con e4) ?_)
 clear e4
 refine bind_e (fun v5 e5 => ?_)
 refine bind_e (fun v6 e6 => ?_)
 refine bind_e (fun v7 e7 => ?_)
 refine bind_e (fun v8 e8 => ?_)
 refine gr_run ?_
 refine bind_e (fun v9 e9 => gr_call [] (spec_l01Dec.con e9) ?_)
 clear e9
 refine bind_e (fun v10 e10 => ?_)
 refine gr_run ?_
 refine bind_e (fun v11 e11 => gr_call [] (spec_l02Behind.con e11) ?_)
 clear e11
 refine bind_e (fun v12 e12 => ?_)
 refine gr_run ?_
 refine gr_done ?_
 refine ret_e (fun hr_ => ?_)
 subst hr_
 exact ret_ Tryz.func187 []
def spec_l14Change.f (k : Nat) (v0 : S145) : Option (ByteArray) := (bif (v0.f0 == 1) then ((spec_l14Node.f k v0.f1).bind fun v1 => ((cat (⟨#[43]⟩ : ByteArray) v1).bind fun v2 => (some v2))) else (bif (v0.f0 == 3) then ((spec_l14Edge.f k v0.f2).bind fun v3 => ((cat (⟨#[43]⟩ : ByteArray) v3).bind fun v4 => (some v4))) else (bif (v0.f0 == 2) then ((spec_l01Dec.f k v0.f1.f0).bind fun v5 => ((cat (⟨#[45, 110]⟩ : ByteArray) v5).bind fun v6 => ((cat v6 (⟨#[10]⟩ : ByteArray)).bind fun v7 => (some v7)))) else (bif (v0.f0 == 4) then ((spec_l01Dec.f k v0.f2.f0).bind fun v8 => ((cat (⟨#[45, 101]⟩ : ByteArray) v8).bind fun v9 => ((cat v9 (⟨#[10]⟩ : ByteArray)).bind fun v10 => (some v10)))) else (bif (v0.f0 == 5) then ((spec_l14Node.f k (⟨v0.f1.f0, v0.f1.f1, ([] : (List S193))⟩ : S94)).bind fun v11 => ((cat (⟨#[61]⟩ : ByteArray) v11).bind fun v12 => (some v12))) else ((cat (⟨#[46]⟩ : ByteArray) v0.f3).bind fun v13 => ((cat v13 (⟨#[32]⟩ : ByteArray)).bind fun v14 => ((cat v14 v0.f4).bind fun v15 => ((cat v15 (⟨#[32]⟩ : ByteArray)).bind fun v16 => ((cat v16 v0.f5).bind fun v17 => ((cat v17 (⟨#[10]⟩ : ByteArray)).bind fun v18 => (some v18))))))))))))
set_option maxRecDepth 100000 in
set_option maxHeartbeats 4000000 in
theorem spec_l14Change.con {K : Kn} [KOk K] {k : Nat} {v0 : S145} {r : ByteArray} (h : spec_l14Change.f k v0 = some r) : Con K Tryz.prog 142 [.agg [.p (.int .i64 v0.f0), .p (.int .i64 v0.f1.f0), .p (.lst false (List.map srw v0.f1.f1)), .p (.lst false (List.map en193 v0.f1.f2)), .p (.int .i64 v0.f2.f0), .p (.str v0.f2.f1), .p (.int .i64 v0.f2.f2), .p (.int .i64 v0.f2.f3), .p (.lst false (List.map en193 v0.f2.f4)), .p (.str v0.f3), .p (.str v0.f4), .p (.str v0.f5)]] [] (.p (.str r)) [] := by
 rw [spec_l14Change.f] at h
 refine con_intro 56 [] Tryz.func142 (by kernel_rfl) rfl rfl (by kernel_rfl) fun ι0 w0 hk0 => ?_
 revert h
 refine bif_e (fun c1 => ?_) (fun c1 => ?_)
 ·refine go 10 ?_
  refine grs ?_
  refine gr_run ?_
  refine bind_e (fun v1 e1 => gr_call [] (spec_l14Node.con e1) ?_)
  clear e1
  refine bind_e (fun v2 e2 => ?_)
  refine gr_run ?_
  refine gr_done ?_
  refine ret_e (fun hr_ => ?_)
  subst hr_
  exact ret_ Tryz.func142 []
 ·refine bif_e (fun c2 => ?_) (fun c2 => ?_)
  ·refine go 13 ?_
   refine grs ?_
   refine gr_run ?_
   refine bind_e (fun v3 e3 => gr_call [] (spec_l14Edge.con e3) ?_)
   clear e3
   refine bind_e (fun v4 e4 => ?_)
   refine gr_run ?_
   refine gr_done ?_
   refine ret_e (fun hr_ => ?_)
   subst hr_
   exact ret_ Tryz.func142 []
  ·refine bif_e (fun c3 => ?_) (fun c3 => ?_)
   ·refine go 16 ?_
    refine grs ?_
    refine gr_run ?_
    refine bind_e (fun v5 e5 => gr_call [] (spec_l01Dec.con e5) ?_)
    clear e5
    refine bind_e (fun v6 e6 => ?_)
    refine bind_e (fun v7 e7 => ?_)
    refine gr_run ?_
    refine gr_done ?_
    refine ret_e (fun hr_ => ?_)
    subst hr_
    exact ret_ Tryz.func142 []
   ·refine bif_e (fun c4 => ?_) (fun c4 => ?_)
    ·refine go 19 ?_
     refine grs ?_
     refine gr_run ?_
     refine bind_e (fun v8 e8 => gr_call [] (spec_l01Dec.con e8) ?_)
     clear e8
     refine bind_e (fun v9 e9 => ?_)
     refine bind_e (fun v10 e10 => ?_)
     refine gr_run ?_
     refine gr_done ?_
     refine ret_e (fun hr_ => ?_)
     subst hr_
     exact ret_ Tryz.func142 []
    ·refine bif_e (fun c5 => ?_) (fun c5 => ?_)
     ·refine go 22 ?_
      refine grs ?_
      refine gr_run ?_
      refine bind_e (fun v11 e11 => gr_call [] (spec_l14Node.con e11) ?_)
      clear e11
      refine bind_e (fun v12 e12 => ?_)
      refine gr_run ?_
      refine gr_done ?_
      refine ret_e (fun hr_ => ?_)
      subst hr_
      exact ret_ Tryz.func142 []
     ·refine bind_e (fun v13 e13 => ?_)
      refine bind_e (fun v14 e14 => ?_)
      refine bind_e (fun v15 e15 => ?_)
      refine bind_e (fun v16 e16 => ?_)
      refine bind_e (fun v17 e17 => ?_)
      refine bind_e (fun v18 e18 => ?_)
      refine go 25 ?_
      refine ret_e (fun hr_ => ?_)
      subst hr_
      exact ret_ Tryz.func142 []
mutual
def spec_l14Show.l0 : Nat → (List S145) → ByteArray → Int → Option (ByteArray × Bool)
 | 0, _, _, _ => none
 | k + 1, v0, v1, v2 => (bif decide (v2 < (v0.length : Int)) then ((ix v0 v2).bind fun v3 => ((spec_l02Form.f k v3).bind fun v4 => (bif v4 then ((spec_l14Change.f k v3).bind fun v6 => ((cat v1 v6).bind fun v7 => (bif decide (65536 < (v7.size : Int)) then (some ((⟨#[]⟩ : ByteArray), false)) else (spec_l14Show.l0 k v0 v7 (IntKind.i64.wrap (v2 + 1)))))) else (some ((⟨#[]⟩ : ByteArray), false))))) else (some (v1, true)))
def spec_l14Show.f : Nat → (List S145) → Option (ByteArray × Bool)
 | 0, _ => none
 | k + 1, v0 => (spec_l14Show.l0 k v0 (⟨#[]⟩ : ByteArray) 0)
end
set_option maxRecDepth 100000 in
set_option maxHeartbeats 4000000 in
theorem spec_l14Show.con {K : Kn} [KOk K] {k : Nat} {v0 : (List S145)} {r : ByteArray × Bool} (h : spec_l14Show.f k v0 = some r) : Con K Tryz.prog 86 [.p (.lst false (List.map en145 v0))] [] (.tup [.p (.str r.1), .p (.bool r.2)]) [] := by
 cases k with
 | zero => exact absurd h (by simp [spec_l14Show.f])
 | succ k =>
 rw [spec_l14Show.f] at h
 refine con_intro 29 [] Tryz.func86 (by kernel_rfl) rfl rfl (by kernel_rfl) fun ι0 w0 hk0 => ?_
 revert h
 refine go 8 ?_
 refine fun h => good_loop (fun n st => n ≤ k ∧ ∃ (v1 : _) (v2 : _), st = ⟨[(0, .p (.lst false (List.map en145 v0))), (4, .p (.str v1)), (5, .p (.int .i64 v2))], []⟩ ∧ spec_l14Show.l0 n v0 v1 v2 = some r) k ⟨_, ⟨Nat.le_refl _, _, _, rfl, h⟩, frle_, memle_⟩ ?_
 clear h
 rintro n _ ⟨hkl0, v1, v2, rfl, h⟩ hl0
 cases n with
 | zero => exact absurd h (by simp [spec_l14Show.l0])
 | succ kl0 =>
 rw [spec_l14Show.l0] at h
 revert h
 refine bif_e (fun c1 => ?_) (fun c1 => ?_)
 ·refine bind_e (fun v3 e3 => ?_)
  replace e3 := nf_ (ix_en en145 e3)
  refine go 9 ?_
  refine grs ?_
  refine gr_run ?_
  refine bind_e (fun v4 e4 => gr_call [] (spec_l02Form.con e4) ?_)
  clear e4
  refine gr_run ?_
  refine gr_done ?_
  refine bif_e (fun c2 => ?_) (fun c2 => ?_)
  ·refine go 3 ?_
   refine grs ?_
   refine gr_run ?_
   refine bind_e (fun v6 e6 => gr_call [] (spec_l14Change.con e6) ?_)
   clear e6
   refine bind_e (fun v7 e7 => ?_)
   refine gr_run ?_
   refine gr_done ?_
   refine bif_e (fun c3 => ?_) (fun c3 => ?_)
   ·refine go 5 ?_
    refine ret_e (fun hr_ => ?_)
    subst hr_
    exact ret_ Tryz.func86 []
   ·refine go 6 ?_
    exact fun h => good_again hl0 (by omega) ⟨_, ⟨by omega, _, _, rfl, h⟩, frle_, memle_⟩
  ·refine go 3 ?_
   refine ret_e (fun hr_ => ?_)
   subst hr_
   exact ret_ Tryz.func86 []
 ·refine go 7 ?_
  refine ret_e (fun hr_ => ?_)
  subst hr_
  exact ret_ Tryz.func86 []
def spec_ShowChanges.f (k : Nat) (v0 : (List S145)) : Option (ByteArray) := (bif decide (1000 < (v0.length : Int)) then (some (⟨#[]⟩ : ByteArray)) else ((spec_l14Show.f k v0).bind fun v1 => (some v1.1)))
set_option maxRecDepth 100000 in
set_option maxHeartbeats 4000000 in
theorem spec_ShowChanges.con {K : Kn} [KOk K] {k : Nat} {v0 : (List S145)} {r : ByteArray} (h : spec_ShowChanges.f k v0 = some r) : Con K Tryz.prog 35 [.p (.lst false (List.map en145 v0))] [] (.p (.str r)) [] := by
 rw [spec_ShowChanges.f] at h
 refine con_intro 14 [] Tryz.func35 (by kernel_rfl) rfl rfl (by kernel_rfl) fun ι0 w0 hk0 => ?_
 revert h
 refine bif_e (fun c1 => ?_) (fun c1 => ?_)
 ·refine go 8 ?_
  refine ret_e (fun hr_ => ?_)
  subst hr_
  exact ret_ Tryz.func35 []
 ·refine go 8 ?_
  refine grs ?_
  refine gr_run ?_
  refine bind_e (fun v1 e1 => gr_call [] (spec_l14Show.con e1) ?_)
  clear e1
  refine gr_run ?_
  refine gr_done ?_
  refine go 2 ?_
  refine ret_e (fun hr_ => ?_)
  subst hr_
  exact ret_ Tryz.func35 []
end Go.Ab
