/- What the functions compute, and their contracts, part 4. No condition beyond KOk. -/
import Derived.Test.YtkjoeomgnkfljaaGreatDoorAbX
import Derived.Test.YtkjoeomgnkfljaaGreatDoorAbF3
namespace Go.Ab
open Go.Proofs
set_option linter.unusedVariables false
set_option linter.unusedSimpArgs false
def spec_l01Read.f (k : Nat) (v0 : ByteArray) : Option (S157) := (bif decide (2000 < (v0.size : Int)) then (some (⟨(-1), 0, 0, (⟨#[]⟩ : ByteArray), ([] : (List S157)), ([] : (List ByteArray))⟩ : S157)) else ((spec_l01Reader_value.f k 0 (⟨v0, 0, false⟩ : S231)).bind fun v1 => (bif v1.2.f2 then (some (⟨(-1), 0, 0, (⟨#[]⟩ : ByteArray), ([] : (List S157)), ([] : (List ByteArray))⟩ : S157)) else (bif (v1.2.f1 == (v0.size : Int)) then (some v1.1) else (some (⟨(-1), 0, 0, (⟨#[]⟩ : ByteArray), ([] : (List S157)), ([] : (List ByteArray))⟩ : S157))))))
set_option maxRecDepth 100000 in
set_option maxHeartbeats 4000000 in
theorem spec_l01Read.con {K : Kn} [KOk K] {k : Nat} {v0 : ByteArray} {r : S157} (h : spec_l01Read.f k v0 = some r) : Con K Tryz.prog 93 [.p (.str v0)] [] (.agg [.p (.int .i64 r.f0), .p (.int .i64 r.f1), .p (.int .i64 r.f2), .p (.str r.f3), .p (.lst false (List.map en157 r.f4)), .p (.lst false (List.map srw r.f5))]) [] := by
 rw [spec_l01Read.f] at h
 refine con_intro 29 [] Tryz.func93 (by kernel_rfl) rfl rfl (by kernel_rfl) fun ι0 w0 hk0 => ?_
 revert h
 refine bif_e (fun c1 => ?_) (fun c1 => ?_)
 ·refine go 8 ?_
  refine ret_e (fun hr_ => ?_)
  subst hr_
  exact ret_ Tryz.func93 []
 ·refine go 10 ?_
  refine grs ?_
  refine gr_run ?_
  refine bind_e (fun v1 e1 => gr_call [(1000, (0, 11, 1))] (spec_l01Reader_value.con e1) ?_)
  clear e1
  refine gr_run ?_
  refine gr_done ?_
  refine bif_e (fun c2 => ?_) (fun c2 => ?_)
  ·refine go 6 ?_
   refine ret_e (fun hr_ => ?_)
   subst hr_
   exact ret_ Tryz.func93 []
  ·refine bif_e (fun c3 => ?_) (fun c3 => ?_)
   ·refine go 7 ?_
    refine ret_e (fun hr_ => ?_)
    subst hr_
    exact ret_ Tryz.func93 []
   ·refine go 6 ?_
    refine ret_e (fun hr_ => ?_)
    subst hr_
    exact ret_ Tryz.func93 []
def spec_l02Id.f (k : Nat) (v0 : Int) : Option (Bool) := (bif decide (1 ≤ v0) then (some (decide (v0 ≤ 1000000000000))) else (some false))
set_option maxRecDepth 100000 in
set_option maxHeartbeats 4000000 in
theorem spec_l02Id.con {K : Kn} [KOk K] {k : Nat} {v0 : Int} {r : Bool} (h : spec_l02Id.f k v0 = some r) : Con K Tryz.prog 172 [.p (.int .i64 v0)] [] (.p (.bool r)) [] := by
 rw [spec_l02Id.f] at h
 refine con_intro 9 [] Tryz.func172 (by kernel_rfl) rfl rfl (by kernel_rfl) fun ι0 w0 hk0 => ?_
 revert h
 refine bif_e (fun c1 => ?_) (fun c1 => ?_)
 ·refine go 4 ?_
  refine ret_e (fun hr_ => ?_)
  subst hr_
  exact ret_ Tryz.func172 []
 ·refine go 4 ?_
  refine ret_e (fun hr_ => ?_)
  subst hr_
  exact ret_ Tryz.func172 []
mutual
def spec_l02Labels.l0 : Nat → (List ByteArray) → Int → Option (Bool)
 | 0, _, _ => none
 | k + 1, v0, v2 => (bif decide (v2 < (v0.length : Int)) then ((ix v0 v2).bind fun v3 => ((spec_l01Name.f k v3).bind fun v4 => (bif v4 then (spec_l02Labels.l0 k v0 (IntKind.i64.wrap (v2 + 1))) else (some false)))) else (some true))
def spec_l02Labels.f : Nat → (List ByteArray) → Option (Bool)
 | 0, _ => none
 | k + 1, v0 => (bif decide (10 < (v0.length : Int)) then (some false) else ((spec_l01Rising.f k v0).bind fun v1 => (bif v1 then (spec_l02Labels.l0 k v0 0) else (some false))))
end
set_option maxRecDepth 100000 in
set_option maxHeartbeats 4000000 in
theorem spec_l02Labels.con {K : Kn} [KOk K] {k : Nat} {v0 : (List ByteArray)} {r : Bool} (h : spec_l02Labels.f k v0 = some r) : Con K Tryz.prog 173 [.p (.lst false (List.map srw v0))] [] (.p (.bool r)) [] := by
 cases k with
 | zero => exact absurd h (by simp [spec_l02Labels.f])
 | succ k =>
 rw [spec_l02Labels.f] at h
 refine con_intro 24 [] Tryz.func173 (by kernel_rfl) rfl rfl (by kernel_rfl) fun ι0 w0 hk0 => ?_
 revert h
 refine bif_e (fun c1 => ?_) (fun c1 => ?_)
 ·refine go 8 ?_
  refine ret_e (fun hr_ => ?_)
  subst hr_
  exact ret_ Tryz.func173 []
 ·refine go 4 ?_
  refine grs ?_
  refine gr_run ?_
  refine bind_e (fun v1 e1 => gr_call [] (spec_l01Rising.con e1) ?_)
  clear e1
  refine gr_run ?_
  refine gr_done ?_
  refine bif_e (fun c2 => ?_) (fun c2 => ?_)
  ·refine go 6 ?_
   refine fun h => good_loop (fun n st => n ≤ k ∧ ∃ (v2 : _), st = ⟨[(0, .p (.lst false (List.map srw v0))), (3, .p (.int .i64 v2))], []⟩ ∧ spec_l02Labels.l0 n v0 v2 = some r) k ⟨_, ⟨Nat.le_refl _, _, rfl, h⟩, frle_, memle_⟩ ?_
   clear c1 c2
   clear h
   rintro n _ ⟨hkl0, v2, rfl, h⟩ hl0
   cases n with
   | zero => exact absurd h (by simp [spec_l02Labels.l0])
   | succ kl0 =>
   rw [spec_l02Labels.l0] at h
   revert h
   refine bif_e (fun c3 => ?_) (fun c3 => ?_)
   ·refine bind_e (fun v3 e3 => ?_)
    replace e3 := nf_ (ix_en srw e3)
    refine go 8 ?_
    refine grs ?_
    refine gr_run ?_
    refine bind_e (fun v4 e4 => gr_call [] (spec_l01Name.con e4) ?_)
    clear e4
    refine gr_run ?_
    refine gr_done ?_
    refine bif_e (fun c4 => ?_) (fun c4 => ?_)
    ·refine go 4 ?_
     exact fun h => good_again hl0 (by omega) ⟨_, ⟨by omega, _, rfl, h⟩, frle_, memle_⟩
    ·refine go 3 ?_
     refine ret_e (fun hr_ => ?_)
     subst hr_
     exact ret_ Tryz.func173 []
   ·refine go 7 ?_
    refine ret_e (fun hr_ => ?_)
    subst hr_
    exact ret_ Tryz.func173 []
  ·refine go 3 ?_
   refine ret_e (fun hr_ => ?_)
   subst hr_
   exact ret_ Tryz.func173 []
mutual
def spec_l02Plain.l0 : Nat → Int → S157 → Option (Bool)
 | 0, _, _ => none
 | k + 1, v1, v0 => (bif decide (v1 < (v0.f4.length : Int)) then ((ix v0.f4 v1).bind fun v2 => (bif (v2.f0 == 0) then (spec_l02Plain.l0 k (IntKind.i64.wrap (v1 + 1)) v0) else ((spec_l02Plain.f k v2).bind fun v4 => (bif v4 then (spec_l02Plain.l0 k (IntKind.i64.wrap (v1 + 1)) v0) else (some false))))) else (some true))
def spec_l02Plain.f : Nat → S157 → Option (Bool)
 | 0, _ => none
 | k + 1, v0 => (bif decide (v0.f0 < 0) then (some false) else (bif decide (8 ≤ v0.f0) then (some false) else (spec_l02Plain.l0 k 0 v0)))
end
def spec_l02Plain.C (K : Kn) (k : Nat) : Prop := ∀ (v0 : S157) (r : Bool), spec_l02Plain.f k v0 = some r → Con K Tryz.prog 219 [.agg [.p (.int .i64 v0.f0), .p (.int .i64 v0.f1), .p (.int .i64 v0.f2), .p (.str v0.f3), .p (.lst false (List.map en157 v0.f4)), .p (.lst false (List.map srw v0.f5))]] [] (.p (.bool r)) []
set_option maxRecDepth 100000 in
set_option maxHeartbeats 4000000 in
theorem spec_l02Plain.con1 {K : Kn} [KOk K] (k : Nat) (spec_l02Plain_ih : ∀ m, m < k → spec_l02Plain.C K m) : spec_l02Plain.C K k := by
 intro v0 r h
 cases k with
 | zero => exact absurd h (by simp [spec_l02Plain.f])
 | succ k =>
 rw [spec_l02Plain.f] at h
 refine con_intro 35 [] Tryz.func219 (by kernel_rfl) rfl rfl (by kernel_rfl) fun ι0 w0 hk0 => ?_
 revert h
 refine bif_e (fun c1 => ?_) (fun c1 => ?_)
 ·refine go 8 ?_
  refine ret_e (fun hr_ => ?_)
  subst hr_
  exact ret_ Tryz.func219 []
 ·refine bif_e (fun c2 => ?_) (fun c2 => ?_)
  ·refine go 8 ?_
   refine ret_e (fun hr_ => ?_)
   subst hr_
   exact ret_ Tryz.func219 []
  ·refine go 11 ?_
   refine fun h => good_loop (fun n st => n ≤ k ∧ ∃ (v1 : _), st = ⟨[(1, .ptr 1 1 0), (3, .p (.int .i64 v1))], [(1, (1, .cells [.p (.int .i64 v0.f0), .p (.int .i64 v0.f1), .p (.int .i64 v0.f2), .p (.str v0.f3), .p (.lst false (List.map en157 v0.f4)), .p (.lst false (List.map srw v0.f5))]))]⟩ ∧ spec_l02Plain.l0 n v1 v0 = some r) k ⟨_, ⟨Nat.le_refl _, _, rfl, h⟩, frle_, memle_⟩ ?_
   clear c1 c2
   clear h
   rintro n _ ⟨hkl0, v1, rfl, h⟩ hl0
   cases n with
   | zero => exact absurd h (by simp [spec_l02Plain.l0])
   | succ kl0 =>
   rw [spec_l02Plain.l0] at h
   revert h
   refine bif_e (fun c3 => ?_) (fun c3 => ?_)
   ·refine bind_e (fun v2 e2 => ?_)
    replace e2 := nf_ (ix_en en157 e2)
    refine bif_e (fun c4 => ?_) (fun c4 => ?_)
    ·refine go 13 ?_
     exact fun h => good_again hl0 (by omega) ⟨_, ⟨by omega, _, rfl, h⟩, frle_, memle_⟩
    ·refine go 8 ?_
     refine grs ?_
     refine gr_run ?_
     refine bind_e (fun v4 e4 => gr_call [] (spec_l02Plain_ih _ (by omega) _ _ e4) ?_)
     clear e4
     refine gr_run ?_
     refine gr_done ?_
     refine bif_e (fun c5 => ?_) (fun c5 => ?_)
     ·refine go 4 ?_
      exact fun h => good_again hl0 (by omega) ⟨_, ⟨by omega, _, rfl, h⟩, frle_, memle_⟩
     ·refine go 3 ?_
      refine ret_e (fun hr_ => ?_)
      subst hr_
      exact ret_ Tryz.func219 []
   ·refine go 7 ?_
    refine ret_e (fun hr_ => ?_)
    subst hr_
    exact ret_ Tryz.func219 []
theorem spec_l02Plain.all {K : Kn} [KOk K] (k : Nat) : spec_l02Plain.C K k := by
 induction k using Nat.strongRecOn with
 | _ k ih => exact spec_l02Plain.con1 k ih
theorem spec_l02Plain.con {K : Kn} [KOk K] {k : Nat} {v0 : S157} {r : Bool} (h : spec_l02Plain.f k v0 = some r) : Con K Tryz.prog 219 [.agg [.p (.int .i64 v0.f0), .p (.int .i64 v0.f1), .p (.int .i64 v0.f2), .p (.str v0.f3), .p (.lst false (List.map en157 v0.f4)), .p (.lst false (List.map srw v0.f5))]] [] (.p (.bool r)) [] := (spec_l02Plain.all k) _ r h
def spec_l02Value.f (k : Nat) (v0 : ByteArray) : Option (Bool) := ((spec_l01Read.f k v0).bind fun v1 => (bif (v1.f0 == 0) then (some false) else ((spec_l02Plain.f k v1).bind fun v2 => (some v2))))
set_option maxRecDepth 100000 in
set_option maxHeartbeats 4000000 in
theorem spec_l02Value.con {K : Kn} [KOk K] {k : Nat} {v0 : ByteArray} {r : Bool} (h : spec_l02Value.f k v0 = some r) : Con K Tryz.prog 185 [.p (.str v0)] [] (.p (.bool r)) [] := by
 rw [spec_l02Value.f] at h
 refine con_intro 13 [] Tryz.func185 (by kernel_rfl) rfl rfl (by kernel_rfl) fun ι0 w0 hk0 => ?_
 revert h
 refine go 3 ?_
 refine grs ?_
 refine gr_run ?_
 refine bind_e (fun v1 e1 => gr_call [] (spec_l01Read.con e1) ?_)
 clear e1
 refine gr_run ?_
 refine gr_done ?_
 refine bif_e (fun c1 => ?_) (fun c1 => ?_)
 ·refine go 2 ?_
  refine ret_e (fun hr_ => ?_)
  subst hr_
  exact ret_ Tryz.func185 []
 ·refine go 1 ?_
  refine grs ?_
  refine gr_run ?_
  refine bind_e (fun v2 e2 => gr_call [] (spec_l02Plain.con e2) ?_)
  clear e2
  refine gr_run ?_
  refine gr_done ?_
  refine ret_e (fun hr_ => ?_)
  subst hr_
  exact ret_ Tryz.func185 []
mutual
def spec_l02Fields.l0 : Nat → (List S193) → Int → Option (Bool)
 | 0, _, _ => none
 | k + 1, v0, v1 => (bif decide (v1 < (v0.length : Int)) then ((ix v0 v1).bind fun v2 => ((spec_l01Name.f k v2.f0).bind fun v3 => (bif v3 then (bif decide (0 < v1) then ((ix v0 (IntKind.i64.wrap (v1 - 1))).bind fun v4 => (bif slt v4.f0 v2.f0 then ((spec_l02Value.f k v2.f1).bind fun v7 => (bif v7 then (spec_l02Fields.l0 k v0 (IntKind.i64.wrap (v1 + 1))) else (some false))) else (some false))) else ((spec_l02Value.f k v2.f1).bind fun v9 => (bif v9 then (spec_l02Fields.l0 k v0 (IntKind.i64.wrap (v1 + 1))) else (some false)))) else (some false)))) else (some true))
def spec_l02Fields.f : Nat → (List S193) → Option (Bool)
 | 0, _ => none
 | k + 1, v0 => (bif decide (20 < (v0.length : Int)) then (some false) else (spec_l02Fields.l0 k v0 0))
end
set_option maxRecDepth 100000 in
set_option maxHeartbeats 4000000 in
theorem spec_l02Fields.con {K : Kn} [KOk K] {k : Nat} {v0 : (List S193)} {r : Bool} (h : spec_l02Fields.f k v0 = some r) : Con K Tryz.prog 174 [.p (.lst false (List.map en193 v0))] [] (.p (.bool r)) [] := by
 cases k with
 | zero => exact absurd h (by simp [spec_l02Fields.f])
 | succ k =>
 rw [spec_l02Fields.f] at h
 refine con_intro 47 [] Tryz.func174 (by kernel_rfl) rfl rfl (by kernel_rfl) fun ι0 w0 hk0 => ?_
 revert h
 refine bif_e (fun c1 => ?_) (fun c1 => ?_)
 ·refine go 8 ?_
  refine ret_e (fun hr_ => ?_)
  subst hr_
  exact ret_ Tryz.func174 []
 ·refine go 11 ?_
  refine fun h => good_loop (fun n st => n ≤ k ∧ ∃ (v1 : _), st = ⟨[(0, .p (.lst false (List.map en193 v0))), (3, .p (.int .i64 v1))], []⟩ ∧ spec_l02Fields.l0 n v0 v1 = some r) k ⟨_, ⟨Nat.le_refl _, _, rfl, h⟩, frle_, memle_⟩ ?_
  clear c1
  clear h
  rintro n _ ⟨hkl0, v1, rfl, h⟩ hl0
  cases n with
  | zero => exact absurd h (by simp [spec_l02Fields.l0])
  | succ kl0 =>
  rw [spec_l02Fields.l0] at h
  revert h
  refine bif_e (fun c2 => ?_) (fun c2 => ?_)
  ·refine bind_e (fun v2 e2 => ?_)
   replace e2 := nf_ (ix_en en193 e2)
   refine go 8 ?_
   refine grs ?_
   refine gr_run ?_
   refine bind_e (fun v3 e3 => gr_call [] (spec_l01Name.con e3) ?_)
   clear e3
   refine bif_e (fun c3 => ?_) (fun c3 => ?_)
   ·refine bif_e (fun c4 => ?_) (fun c4 => ?_)
    ·refine bind_e (fun v4 e4 => ?_)
     replace e4 := nf_ (ix_en en193 e4)
     refine bif_e (fun c5 => ?_) (fun c5 => ?_)
     ·refine gr_run ?_
      refine bind_e (fun v7 e7 => gr_call [] (spec_l02Value.con e7) ?_)
      clear e7
      refine gr_run ?_
      refine gr_done ?_
      refine bif_e (fun c6 => ?_) (fun c6 => ?_)
      ·refine go 4 ?_
       exact fun h => good_again hl0 (by omega) ⟨_, ⟨by omega, _, rfl, h⟩, frle_, memle_⟩
      ·refine go 3 ?_
       refine ret_e (fun hr_ => ?_)
       subst hr_
       exact ret_ Tryz.func174 []
     ·refine gr_run ?_
      refine gr_done ?_
      refine go 3 ?_
      refine ret_e (fun hr_ => ?_)
      subst hr_
      exact ret_ Tryz.func174 []
    ·refine gr_run ?_
     refine bind_e (fun v9 e9 => gr_call [] (spec_l02Value.con e9) ?_)
     clear e9
     refine gr_run ?_
     refine gr_done ?_
     refine bif_e (fun c7 => ?_) (fun c7 => ?_)
     ·refine go 4 ?_
      exact fun h => good_again hl0 (by omega) ⟨_, ⟨by omega, _, rfl, h⟩, frle_, memle_⟩
     ·refine go 3 ?_
      refine ret_e (fun hr_ => ?_)
      subst hr_
      exact ret_ Tryz.func174 []
   ·refine gr_run ?_
    refine gr_done ?_
    refine go 3 ?_
    refine ret_e (fun hr_ => ?_)
    subst hr_
    exact ret_ Tryz.func174 []
  ·refine go 7 ?_
   refine ret_e (fun hr_ => ?_)
   subst hr_
   exact ret_ Tryz.func174 []
def spec_l02IsNode.f (k : Nat) (v0 : S94) : Option (Bool) := ((spec_l02Id.f k v0.f0).bind fun v1 => (bif v1 then ((spec_l02Labels.f k v0.f1).bind fun v2 => (bif v2 then ((spec_l02Fields.f k v0.f2).bind fun v3 => (some v3)) else (some false))) else (some false)))
set_option maxRecDepth 100000 in
set_option maxHeartbeats 4000000 in
theorem spec_l02IsNode.con {K : Kn} [KOk K] {k : Nat} {v0 : S94} {r : Bool} (h : spec_l02IsNode.f k v0 = some r) : Con K Tryz.prog 124 [.agg [.p (.int .i64 v0.f0), .p (.lst false (List.map srw v0.f1)), .p (.lst false (List.map en193 v0.f2))]] [] (.p (.bool r)) [] := by
 rw [spec_l02IsNode.f] at h
 refine con_intro 16 [] Tryz.func124 (by kernel_rfl) rfl rfl (by kernel_rfl) fun ι0 w0 hk0 => ?_
 revert h
 refine go 3 ?_
 refine grs ?_
 refine gr_run ?_
 refine bind_e (fun v1 e1 => gr_call [] (spec_l02Id.con e1) ?_)
 clear e1
 refine bif_e (fun c1 => ?_) (fun c1 => ?_)
 ·refine gr_run ?_
  refine bind_e (fun v2 e2 => gr_call [] (spec_l02Labels.con e2) ?_)
  clear e2
  refine bif_e (fun c2 => ?_) (fun c2 => ?_)
  ·refine gr_run ?_
   refine bind_e (fun v3 e3 => gr_call [] (spec_l02Fields.con e3) ?_)
   clear e3
   refine gr_run ?_
   refine gr_done ?_
   refine ret_e (fun hr_ => ?_)
   subst hr_
   exact ret_ Tryz.func124 []
  ·refine gr_run ?_
   refine gr_done ?_
   refine ret_e (fun hr_ => ?_)
   subst hr_
   exact ret_ Tryz.func124 []
 ·refine gr_run ?_
  refine gr_done ?_
  refine ret_e (fun hr_ => ?_)
  subst hr_
  exact ret_ Tryz.func124 []
def spec_l02IsEdge.f (k : Nat) (v0 : S110) : Option (Bool) := ((spec_l02Id.f k v0.f0).bind fun v1 => (bif v1 then ((spec_l01Name.f k v0.f1).bind fun v2 => (bif v2 then ((spec_l02Id.f k v0.f2).bind fun v3 => (bif v3 then ((spec_l02Id.f k v0.f3).bind fun v4 => (bif v4 then ((spec_l02Fields.f k v0.f4).bind fun v5 => (some v5)) else (some false))) else (some false))) else (some false))) else (some false)))
set_option maxRecDepth 100000 in
set_option maxHeartbeats 4000000 in
theorem spec_l02IsEdge.con {K : Kn} [KOk K] {k : Nat} {v0 : S110} {r : Bool} (h : spec_l02IsEdge.f k v0 = some r) : Con K Tryz.prog 125 [.agg [.p (.int .i64 v0.f0), .p (.str v0.f1), .p (.int .i64 v0.f2), .p (.int .i64 v0.f3), .p (.lst false (List.map en193 v0.f4))]] [] (.p (.bool r)) [] := by
 rw [spec_l02IsEdge.f] at h
 refine con_intro 26 [] Tryz.func125 (by kernel_rfl) rfl rfl (by kernel_rfl) fun ι0 w0 hk0 => ?_
 revert h
 refine go 3 ?_
 refine grs ?_
 refine gr_run ?_
 refine bind_e (fun v1 e1 => gr_call [] (spec_l02Id.con e1) ?_)
 clear e1
 refine bif_e (fun c1 => ?_) (fun c1 => ?_)
 ·refine gr_run ?_
  refine bind_e (fun v2 e2 => gr_call [] (spec_l01Name.con e2) ?_)
  clear e2
  refine bif_e (fun c2 => ?_) (fun c2 => ?_)
  ·refine gr_run ?_
   refine bind_e (fun v3 e3 => gr_call [] (spec_l02Id.con e3) ?_)
   clear e3
   refine bif_e (fun c3 => ?_) (fun c3 => ?_)
   ·refine gr_run ?_
    refine bind_e (fun v4 e4 => gr_call [] (spec_l02Id.con e4) ?_)
    clear e4
    refine bif_e (fun c4 => ?_) (fun c4 => ?_)
    ·refine gr_run ?_
     refine bind_e (fun v5 e5 => gr_call [] (spec_l02Fields.con e5) ?_)
     clear e5
     refine gr_run ?_
     refine gr_done ?_
     refine ret_e (fun hr_ => ?_)
     subst hr_
     exact ret_ Tryz.func125 []
    ·refine gr_run ?_
     refine gr_done ?_
     refine ret_e (fun hr_ => ?_)
     subst hr_
     exact ret_ Tryz.func125 []
   ·refine gr_run ?_
    refine gr_done ?_
    refine ret_e (fun hr_ => ?_)
    subst hr_
    exact ret_ Tryz.func125 []
  ·refine gr_run ?_
   refine gr_done ?_
   refine ret_e (fun hr_ => ?_)
   subst hr_
   exact ret_ Tryz.func125 []
 ·refine gr_run ?_
  refine gr_done ?_
  refine ret_e (fun hr_ => ?_)
  subst hr_
  exact ret_ Tryz.func125 []
mutual
def spec_l02Node.l0 : Nat → Int → Int → S31 → Option (Int)
 | 0, _, _, _ => none
 | k + 1, v1, v2, v0 => (bif decide (v2 < (v0.f0.length : Int)) then ((ix v0.f0 v2).bind fun v3 => (bif (v3.f0 == v1) then (some v2) else (spec_l02Node.l0 k v1 (IntKind.i64.wrap (v2 + 1)) v0))) else (some (-1)))
def spec_l02Node.f : Nat → S31 → Int → Option (Int)
 | 0, _, _ => none
 | k + 1, v0, v1 => (spec_l02Node.l0 k v1 0 v0)
end
set_option maxRecDepth 100000 in
set_option maxHeartbeats 4000000 in
theorem spec_l02Node.con {K : Kn} [KOk K] {k : Nat} {v0 : S31} {v1 : Int} {r : Int} (h : spec_l02Node.f k v0 v1 = some r) : Con K Tryz.prog 66 [.agg [.p (.lst false (List.map en94 v0.f0)), .p (.lst false (List.map en110 v0.f1))], .p (.int .i64 v1)] [] (.p (.int .i64 r)) [] := by
 cases k with
 | zero => exact absurd h (by simp [spec_l02Node.f])
 | succ k =>
 rw [spec_l02Node.f] at h
 refine con_intro 22 [] Tryz.func66 (by kernel_rfl) rfl rfl (by kernel_rfl) fun ι0 w0 hk0 => ?_
 revert h
 refine go 6 ?_
 refine fun h => good_loop (fun n st => n ≤ k ∧ ∃ (v2 : _), st = ⟨[(1, .p (.int .i64 v1)), (2, .ptr 2 1 0), (5, .p (.int .i64 v2))], [(2, (1, .cells [.p (.lst false (List.map en94 v0.f0)), .p (.lst false (List.map en110 v0.f1))]))]⟩ ∧ spec_l02Node.l0 n v1 v2 v0 = some r) k ⟨_, ⟨Nat.le_refl _, _, rfl, h⟩, frle_, memle_⟩ ?_
 clear h
 rintro n _ ⟨hkl0, v2, rfl, h⟩ hl0
 cases n with
 | zero => exact absurd h (by simp [spec_l02Node.l0])
 | succ kl0 =>
 rw [spec_l02Node.l0] at h
 revert h
 refine bif_e (fun c1 => ?_) (fun c1 => ?_)
 ·refine bind_e (fun v3 e3 => ?_)
  replace e3 := nf_ (ix_en en94 e3)
  refine bif_e (fun c2 => ?_) (fun c2 => ?_)
  ·refine go 12 ?_
   refine ret_e (fun hr_ => ?_)
   subst hr_
   exact ret_ Tryz.func66 []
  ·refine go 13 ?_
   exact fun h => good_again hl0 (by omega) ⟨_, ⟨by omega, _, rfl, h⟩, frle_, memle_⟩
 ·refine go 7 ?_
  refine ret_e (fun hr_ => ?_)
  subst hr_
  exact ret_ Tryz.func66 []
mutual
def spec_GraphFault.j0 : Nat → Int → S31 → Option (Int)
 | 0, _, _ => none
 | k + 1, v1, v0 => (spec_GraphFault.l0 k (IntKind.i64.wrap (v1 + 1)) v0)
def spec_GraphFault.l1 : Nat → Int → S31 → Option (Int)
 | 0, _, _ => none
 | k + 1, v6, v0 => (bif decide (v6 < (v0.f1.length : Int)) then ((ix v0.f1 v6).bind fun v8 => ((spec_l02IsEdge.f k v8).bind fun v9 => (bif v9 then (bif decide (0 < v6) then ((ix v0.f1 (IntKind.i64.wrap (v6 - 1))).bind fun v10 => (bif decide (v8.f0 ≤ v10.f0) then (some 1) else ((spec_l02Node.f k v0 v8.f2).bind fun v11 => (bif decide (v11 < 0) then (some 1) else ((spec_l02Node.f k v0 v8.f3).bind fun v12 => (bif decide (v12 < 0) then (some 1) else (spec_GraphFault.l1 k (IntKind.i64.wrap (v6 + 1)) v0))))))) else ((spec_l02Node.f k v0 v8.f2).bind fun v13 => (bif decide (v13 < 0) then (some 1) else ((spec_l02Node.f k v0 v8.f3).bind fun v14 => (bif decide (v14 < 0) then (some 1) else (spec_GraphFault.l1 k (IntKind.i64.wrap (v6 + 1)) v0)))))) else (some 1)))) else (some 0))
def spec_GraphFault.l0 : Nat → Int → S31 → Option (Int)
 | 0, _, _ => none
 | k + 1, v1, v0 => (bif decide (v1 < (v0.f0.length : Int)) then ((ix v0.f0 v1).bind fun v2 => ((spec_l02IsNode.f k v2).bind fun v3 => (bif v3 then (bif decide (0 < v1) then ((ix v0.f0 (IntKind.i64.wrap (v1 - 1))).bind fun v4 => (bif decide (v2.f0 ≤ v4.f0) then (some 1) else (spec_GraphFault.j0 k v1 v0))) else (spec_GraphFault.j0 k v1 v0)) else (some 1)))) else (spec_GraphFault.l1 k 0 v0))
def spec_GraphFault.f : Nat → S31 → Option (Int)
 | 0, _ => none
 | k + 1, v0 => (bif decide (200 < (v0.f0.length : Int)) then (some 1) else (bif decide (400 < (v0.f1.length : Int)) then (some 1) else (spec_GraphFault.l0 k 0 v0)))
end
set_option maxRecDepth 100000 in
set_option maxHeartbeats 4000000 in
theorem spec_GraphFault.con {K : Kn} [KOk K] {k : Nat} {v0 : S31} {r : Int} (h : spec_GraphFault.f k v0 = some r) : Con K Tryz.prog 65 [.agg [.p (.lst false (List.map en94 v0.f0)), .p (.lst false (List.map en110 v0.f1))]] [] (.p (.int .i64 r)) [] := by
 cases k with
 | zero => exact absurd h (by simp [spec_GraphFault.f])
 | succ k =>
 rw [spec_GraphFault.f] at h
 refine con_intro 95 [] Tryz.func65 (by kernel_rfl) rfl rfl (by kernel_rfl) fun ι0 w0 hk0 => ?_
 revert h
 refine bif_e (fun c1 => ?_) (fun c1 => ?_)
 ·refine go 8 ?_
  refine ret_e (fun hr_ => ?_)
  subst hr_
  exact ret_ Tryz.func65 []
 ·refine bif_e (fun c2 => ?_) (fun c2 => ?_)
  ·refine go 8 ?_
   refine ret_e (fun hr_ => ?_)
   subst hr_
   exact ret_ Tryz.func65 []
  ·refine go 11 ?_
   refine fun h => good_loop (fun n st => n ≤ k ∧ ∃ (v1 : _), st = ⟨[(1, .ptr 1 1 0), (3, .p (.int .i64 v1))], [(1, (1, .cells [.p (.lst false (List.map en94 v0.f0)), .p (.lst false (List.map en110 v0.f1))]))]⟩ ∧ spec_GraphFault.l0 n v1 v0 = some r) k ⟨_, ⟨Nat.le_refl _, _, rfl, h⟩, frle_, memle_⟩ ?_
   clear c1 c2
   clear h
   rintro n _ ⟨hkl0, v1, rfl, h⟩ hl0
   cases n with
   | zero => exact absurd h (by simp [spec_GraphFault.l0])
   | succ kl0 =>
   rw [spec_GraphFault.l0] at h
   revert h
   refine bif_e (fun c3 => ?_) (fun c3 => ?_)
   ·refine go 8 ?_
    refine good_cut_f (fun st => ∃ (q_ : Nat), q_ ≤ kl0 ∧ st = ⟨[(1, .ptr 1 1 0), (3, .p (.int .i64 v1))], [(1, (1, .cells [.p (.lst false (List.map en94 v0.f0)), .p (.lst false (List.map en110 v0.f1))]))]⟩ ∧ spec_GraphFault.j0 q_ v1 v0 = some r) ?_ (fun hj0 => ?_)
    ·clear c3
     rintro _ ⟨q_, hqj0, rfl, h⟩
     cases q_ with
     | zero => exact absurd h (by simp [spec_GraphFault.j0])
     | succ kj0 =>
     rw [spec_GraphFault.j0] at h
     revert h
     refine go 3 ?_
     exact fun h => good_again hl0 (by omega) ⟨_, ⟨by omega, _, rfl, h⟩, frle_, memle_⟩
    ·refine bind_e (fun v2 e2 => ?_)
     replace e2 := nf_ (ix_en en94 e2)
     refine grs ?_
     refine gr_run ?_
     refine bind_e (fun v3 e3 => gr_call [] (spec_l02IsNode.con e3) ?_)
     clear e3
     refine bif_e (fun c4 => ?_) (fun c4 => ?_)
     ·refine bif_e (fun c5 => ?_) (fun c5 => ?_)
      ·refine bind_e (fun v4 e4 => ?_)
       replace e4 := nf_ (ix_en en94 e4)
       refine gr_run ?_
       refine gr_done ?_
       refine bif_e (fun c6 => ?_) (fun c6 => ?_)
       ·refine go 3 ?_
        refine ret_e (fun hr_ => ?_)
        subst hr_
        exact ret_ Tryz.func65 []
       ·refine go 1 ?_
        exact fun h => good_jump hj0 ⟨_, ⟨_, by omega, rfl, h⟩, frle_, memle_⟩
      ·refine gr_run ?_
       refine gr_done ?_
       refine go 1 ?_
       exact fun h => good_jump hj0 ⟨_, ⟨_, by omega, rfl, h⟩, frle_, memle_⟩
     ·refine gr_run ?_
      refine gr_done ?_
      refine go 3 ?_
      refine ret_e (fun hr_ => ?_)
      subst hr_
      exact ret_ Tryz.func65 []
   ·refine go 9 ?_
    refine fun h => good_loop (fun n st => n ≤ kl0 ∧ ∃ (v6 : _) (g7 : Nat), st = ⟨[(1, .ptr 1 1 0), (4, .p (.int .i64 v6))], [(1, (1, .cells [.p (.lst false (List.map en94 v0.f0)), .p (.lst false (List.map en110 v0.f1))])), (5, (g7, .gone))]⟩ ∧ spec_GraphFault.l1 n v6 v0 = some r) kl0 ⟨_, ⟨Nat.le_refl _, _, 0, rfl, h⟩, frle_, memle_⟩ ?_
    clear c3
    clear h
    rintro n _ ⟨hkl1, v6, g7, rfl, h⟩ hl1
    cases n with
    | zero => exact absurd h (by simp [spec_GraphFault.l1])
    | succ kl1 =>
    rw [spec_GraphFault.l1] at h
    revert h
    refine bif_e (fun c7 => ?_) (fun c7 => ?_)
    ·refine bind_e (fun v8 e8 => ?_)
     replace e8 := nf_ (ix_en en110 e8)
     refine go 10 ?_
     refine grs ?_
     refine gr_run ?_
     refine bind_e (fun v9 e9 => gr_call [] (spec_l02IsEdge.con e9) ?_)
     clear e9
     refine bif_e (fun c8 => ?_) (fun c8 => ?_)
     ·refine bif_e (fun c9 => ?_) (fun c9 => ?_)
      ·refine bind_e (fun v10 e10 => ?_)
       replace e10 := nf_ (ix_en en110 e10)
       refine bif_e (fun c10 => ?_) (fun c10 => ?_)
       ·refine gr_run ?_
        refine gr_done ?_
        refine go 3 ?_
        refine ret_e (fun hr_ => ?_)
        subst hr_
        exact ret_ Tryz.func65 []
       ·refine gr_run ?_
        refine bind_e (fun v11 e11 => gr_call [] (spec_l02Node.con e11) ?_)
        clear e11
        refine bif_e (fun c11 => ?_) (fun c11 => ?_)
        ·refine gr_run ?_
         refine gr_done ?_
         refine go 3 ?_
         refine ret_e (fun hr_ => ?_)
         subst hr_
         exact ret_ Tryz.func65 []
        ·refine gr_run ?_
         refine bind_e (fun v12 e12 => gr_call [] (spec_l02Node.con e12) ?_)
         clear e12
         refine gr_run ?_
         refine gr_done ?_
         refine bif_e (fun c12 => ?_) (fun c12 => ?_)
         ·refine go 3 ?_
          refine ret_e (fun hr_ => ?_)
          subst hr_
          exact ret_ Tryz.func65 []
         ·refine go 4 ?_
          exact fun h => good_again hl1 (by omega) ⟨_, ⟨by omega, _, g7 + 1, rfl, h⟩, frle_, memle_⟩
      ·refine gr_run ?_
       refine bind_e (fun v13 e13 => gr_call [] (spec_l02Node.con e13) ?_)
       clear e13
       refine bif_e (fun c13 => ?_) (fun c13 => ?_)
       ·refine gr_run ?_
        refine gr_done ?_
        refine go 3 ?_
        refine ret_e (fun hr_ => ?_)
        subst hr_
        exact ret_ Tryz.func65 []
       ·refine gr_run ?_
        refine bind_e (fun v14 e14 => gr_call [] (spec_l02Node.con e14) ?_)
        clear e14
        refine gr_run ?_
        refine gr_done ?_
        refine bif_e (fun c14 => ?_) (fun c14 => ?_)
        ·refine go 3 ?_
         refine ret_e (fun hr_ => ?_)
         subst hr_
         exact ret_ Tryz.func65 []
        ·refine go 4 ?_
         exact fun h => good_again hl1 (by omega) ⟨_, ⟨by omega, _, g7 + 1, rfl, h⟩, frle_, memle_⟩
     ·refine gr_run ?_
      refine gr_done ?_
      refine go 3 ?_
      refine ret_e (fun hr_ => ?_)
      subst hr_
      exact ret_ Tryz.func65 []
    ·refine go 7 ?_
     refine ret_e (fun hr_ => ?_)
     subst hr_
     exact ret_ Tryz.func65 []
mutual
def spec_l01InTexts.l0 : Nat → (List ByteArray) → ByteArray → Int → Option (Bool)
 | 0, _, _, _ => none
 | k + 1, v0, v1, v2 => (bif decide (v2 < (v0.length : Int)) then ((ix v0 v2).bind fun v3 => (bif decide (v3 = v1) then (some true) else (spec_l01InTexts.l0 k v0 v1 (IntKind.i64.wrap (v2 + 1))))) else (some false))
def spec_l01InTexts.f : Nat → (List ByteArray) → ByteArray → Option (Bool)
 | 0, _, _ => none
 | k + 1, v0, v1 => (spec_l01InTexts.l0 k v0 v1 0)
end
set_option maxRecDepth 100000 in
set_option maxHeartbeats 4000000 in
theorem spec_l01InTexts.con {K : Kn} [KOk K] {k : Nat} {v0 : (List ByteArray)} {v1 : ByteArray} {r : Bool} (h : spec_l01InTexts.f k v0 v1 = some r) : Con K Tryz.prog 135 [.p (.lst false (List.map srw v0)), .p (.str v1)] [] (.p (.bool r)) [] := by
 cases k with
 | zero => exact absurd h (by simp [spec_l01InTexts.f])
 | succ k =>
 rw [spec_l01InTexts.f] at h
 refine con_intro 18 [] Tryz.func135 (by kernel_rfl) rfl rfl (by kernel_rfl) fun ι0 w0 hk0 => ?_
 revert h
 refine go 6 ?_
 refine fun h => good_loop (fun n st => n ≤ k ∧ ∃ (v2 : _), st = ⟨[(0, .p (.lst false (List.map srw v0))), (1, .p (.str v1)), (5, .p (.int .i64 v2))], []⟩ ∧ spec_l01InTexts.l0 n v0 v1 v2 = some r) k ⟨_, ⟨Nat.le_refl _, _, rfl, h⟩, frle_, memle_⟩ ?_
 clear h
 rintro n _ ⟨hkl0, v2, rfl, h⟩ hl0
 cases n with
 | zero => exact absurd h (by simp [spec_l01InTexts.l0])
 | succ kl0 =>
 rw [spec_l01InTexts.l0] at h
 revert h
 refine bif_e (fun c1 => ?_) (fun c1 => ?_)
 ·refine bind_e (fun v3 e3 => ?_)
  replace e3 := nf_ (ix_en srw e3)
  refine bif_e (fun c2 => ?_) (fun c2 => ?_)
  ·refine go 12 ?_
   refine ret_e (fun hr_ => ?_)
   subst hr_
   exact ret_ Tryz.func135 []
  ·refine go 13 ?_
   exact fun h => good_again hl0 (by omega) ⟨_, ⟨by omega, _, rfl, h⟩, frle_, memle_⟩
 ·refine go 7 ?_
  refine ret_e (fun hr_ => ?_)
  subst hr_
  exact ret_ Tryz.func135 []
mutual
def spec_l05Labelled.l0 : Nat → ByteArray → (List S94) → Int → S31 → Option ((List S94))
 | 0, _, _, _, _ => none
 | k + 1, v1, v2, v3, v0 => (bif decide (v3 < (v0.f0.length : Int)) then ((ix v0.f0 v3).bind fun v5 => ((spec_l01InTexts.f k v5.f1 v1).bind fun v6 => (bif v6 then ((app v2 ([v5] : List S94)).bind fun v8 => (spec_l05Labelled.l0 k v1 v8 (IntKind.i64.wrap (v3 + 1)) v0)) else (spec_l05Labelled.l0 k v1 v2 (IntKind.i64.wrap (v3 + 1)) v0)))) else (some v2))
def spec_l05Labelled.f : Nat → S31 → ByteArray → Option ((List S94))
 | 0, _, _ => none
 | k + 1, v0, v1 => (spec_l05Labelled.l0 k v1 ([] : List S94) 0 v0)
end
set_option maxRecDepth 100000 in
set_option maxHeartbeats 4000000 in
theorem spec_l05Labelled.con {K : Kn} [KOk K] {k : Nat} {v0 : S31} {v1 : ByteArray} {r : (List S94)} (h : spec_l05Labelled.f k v0 v1 = some r) : Con K Tryz.prog 94 [.agg [.p (.lst false (List.map en94 v0.f0)), .p (.lst false (List.map en110 v0.f1))], .p (.str v1)] [] (.p (.lst false (List.map en94 r))) [] := by
 cases k with
 | zero => exact absurd h (by simp [spec_l05Labelled.f])
 | succ k =>
 rw [spec_l05Labelled.f] at h
 refine con_intro 32 [] Tryz.func94 (by kernel_rfl) rfl rfl (by kernel_rfl) fun ι0 w0 hk0 => ?_
 revert h
 refine go 8 ?_
 refine adoptF_ 5 30 3 ?_
 refine fun h => good_loop (fun n st => n ≤ k ∧ ∃ (v2 : _) (v3 : _) (g4 : Nat), st = ⟨[(1, .p (.str v1)), (2, .ptr 2 1 0), (5, .tip 30 g4 (List.map en94 v2)), (6, .p (.int .i64 v3))], [(2, (1, .cells [.p (.lst false (List.map en94 v0.f0)), .p (.lst false (List.map en110 v0.f1))])), (30, (g4, .tip 3 (v2).length))]⟩ ∧ spec_l05Labelled.l0 n v1 v2 v3 v0 = some r) k ⟨_, ⟨Nat.le_refl _, _, _, 1, rfl, h⟩, frle_, memle_⟩ ?_
 clear h
 rintro n _ ⟨hkl0, v2, v3, g4, rfl, h⟩ hl0
 cases n with
 | zero => exact absurd h (by simp [spec_l05Labelled.l0])
 | succ kl0 =>
 rw [spec_l05Labelled.l0] at h
 revert h
 refine bif_e (fun c1 => ?_) (fun c1 => ?_)
 ·refine bind_e (fun v5 e5 => ?_)
  replace e5 := nf_ (ix_en en94 e5)
  refine go 8 ?_
  refine grs ?_
  refine gr_run ?_
  refine bind_e (fun v6 e6 => gr_call [] (spec_l01InTexts.con e6) ?_)
  clear e6
  refine gr_done ?_
  refine bif_e (fun c2 => ?_) (fun c2 => ?_)
  ·refine bind_e (fun v8 e8 => ?_)
   replace e8 := nf_ (app_en en94 e8)
   refine go 4 ?_
   exact fun h => good_again hl0 (by omega) ⟨_, ⟨by omega, _, _, g4, rfl, h⟩, frle_, memle_⟩
  ·refine go 4 ?_
   exact fun h => good_again hl0 (by omega) ⟨_, ⟨by omega, _, _, g4, rfl, h⟩, frle_, memle_⟩
 ·refine go 7 ?_
  refine ret_e (fun hr_ => ?_)
  subst hr_
  exact ret_ Tryz.func94 []
mutual
def spec_l02Field.l0 : Nat → (List S193) → ByteArray → Int → Option (ByteArray)
 | 0, _, _, _ => none
 | k + 1, v0, v1, v2 => (bif decide (v2 < (v0.length : Int)) then ((ix v0 v2).bind fun v3 => (bif decide (v3.f0 = v1) then (some v3.f1) else (spec_l02Field.l0 k v0 v1 (IntKind.i64.wrap (v2 + 1))))) else (some (⟨#[110, 117, 108, 108]⟩ : ByteArray)))
def spec_l02Field.f : Nat → (List S193) → ByteArray → Option (ByteArray)
 | 0, _, _ => none
 | k + 1, v0, v1 => (spec_l02Field.l0 k v0 v1 0)
end
set_option maxRecDepth 100000 in
set_option maxHeartbeats 4000000 in
theorem spec_l02Field.con {K : Kn} [KOk K] {k : Nat} {v0 : (List S193)} {v1 : ByteArray} {r : ByteArray} (h : spec_l02Field.f k v0 v1 = some r) : Con K Tryz.prog 95 [.p (.lst false (List.map en193 v0)), .p (.str v1)] [] (.p (.str r)) [] := by
 cases k with
 | zero => exact absurd h (by simp [spec_l02Field.f])
 | succ k =>
 rw [spec_l02Field.f] at h
 refine con_intro 24 [] Tryz.func95 (by kernel_rfl) rfl rfl (by kernel_rfl) fun ι0 w0 hk0 => ?_
 revert h
 refine go 6 ?_
 refine fun h => good_loop (fun n st => n ≤ k ∧ ∃ (v2 : _), st = ⟨[(0, .p (.lst false (List.map en193 v0))), (1, .p (.str v1)), (5, .p (.int .i64 v2))], []⟩ ∧ spec_l02Field.l0 n v0 v1 v2 = some r) k ⟨_, ⟨Nat.le_refl _, _, rfl, h⟩, frle_, memle_⟩ ?_
 clear h
 rintro n _ ⟨hkl0, v2, rfl, h⟩ hl0
 cases n with
 | zero => exact absurd h (by simp [spec_l02Field.l0])
 | succ kl0 =>
 rw [spec_l02Field.l0] at h
 revert h
 refine bif_e (fun c1 => ?_) (fun c1 => ?_)
 ·refine bind_e (fun v3 e3 => ?_)
  replace e3 := nf_ (ix_en en193 e3)
  refine bif_e (fun c2 => ?_) (fun c2 => ?_)
  ·refine go 12 ?_
   refine ret_e (fun hr_ => ?_)
   subst hr_
   exact ret_ Tryz.func95 []
  ·refine go 13 ?_
   exact fun h => good_again hl0 (by omega) ⟨_, ⟨by omega, _, rfl, h⟩, frle_, memle_⟩
 ·refine go 7 ?_
  refine ret_e (fun hr_ => ?_)
  subst hr_
  exact ret_ Tryz.func95 []
def spec_l01Min.f (k : Nat) (v0 : Int) (v1 : Int) : Option (Int) := (bif decide (v0 < v1) then (some v0) else (some v1))
set_option maxRecDepth 100000 in
set_option maxHeartbeats 4000000 in
theorem spec_l01Min.con {K : Kn} [KOk K] {k : Nat} {v0 : Int} {v1 : Int} {r : Int} (h : spec_l01Min.f k v0 v1 = some r) : Con K Tryz.prog 151 [.p (.int .i64 v0), .p (.int .i64 v1)] [] (.p (.int .i64 r)) [] := by
 rw [spec_l01Min.f] at h
 refine con_intro 10 [] Tryz.func151 (by kernel_rfl) rfl rfl (by kernel_rfl) fun ι0 w0 hk0 => ?_
 revert h
 refine bif_e (fun c1 => ?_) (fun c1 => ?_)
 ·refine go 8 ?_
  refine ret_e (fun hr_ => ?_)
  subst hr_
  exact ret_ Tryz.func151 []
 ·refine go 9 ?_
  refine ret_e (fun hr_ => ?_)
  subst hr_
  exact ret_ Tryz.func151 []
def spec_l01Max.f (k : Nat) (v0 : Int) (v1 : Int) : Option (Int) := (bif decide (v1 < v0) then (some v0) else (some v1))
set_option maxRecDepth 100000 in
set_option maxHeartbeats 4000000 in
theorem spec_l01Max.con {K : Kn} [KOk K] {k : Nat} {v0 : Int} {v1 : Int} {r : Int} (h : spec_l01Max.f k v0 v1 = some r) : Con K Tryz.prog 152 [.p (.int .i64 v0), .p (.int .i64 v1)] [] (.p (.int .i64 r)) [] := by
 rw [spec_l01Max.f] at h
 refine con_intro 10 [] Tryz.func152 (by kernel_rfl) rfl rfl (by kernel_rfl) fun ι0 w0 hk0 => ?_
 revert h
 refine bif_e (fun c1 => ?_) (fun c1 => ?_)
 ·refine go 8 ?_
  refine ret_e (fun hr_ => ?_)
  subst hr_
  exact ret_ Tryz.func152 []
 ·refine go 9 ?_
  refine ret_e (fun hr_ => ?_)
  subst hr_
  exact ret_ Tryz.func152 []
def spec_l05Between.f (k : Nat) (v0 : Int) (v1 : Int) (v2 : Int) : Option (Bool) := ((spec_l01Min.f k v1 v2).bind fun v3 => (bif decide (v3 ≤ v0) then ((spec_l01Max.f k v1 v2).bind fun v4 => (some (decide (v0 ≤ v4)))) else (some false)))
set_option maxRecDepth 100000 in
set_option maxHeartbeats 4000000 in
theorem spec_l05Between.con {K : Kn} [KOk K] {k : Nat} {v0 : Int} {v1 : Int} {v2 : Int} {r : Bool} (h : spec_l05Between.f k v0 v1 v2 = some r) : Con K Tryz.prog 96 [.p (.int .i64 v0), .p (.int .i64 v1), .p (.int .i64 v2)] [] (.p (.bool r)) [] := by
 rw [spec_l05Between.f] at h
 refine con_intro 19 [] Tryz.func96 (by kernel_rfl) rfl rfl (by kernel_rfl) fun ι0 w0 hk0 => ?_
 revert h
 refine go 3 ?_
 refine grs ?_
 refine gr_run ?_
 refine bind_e (fun v3 e3 => gr_call [] (spec_l01Min.con e3) ?_)
 clear e3
 refine bif_e (fun c1 => ?_) (fun c1 => ?_)
 ·refine gr_run ?_
  refine bind_e (fun v4 e4 => gr_call [] (spec_l01Max.con e4) ?_)
  clear e4
  refine gr_run ?_
  refine gr_done ?_
  refine ret_e (fun hr_ => ?_)
  subst hr_
  exact ret_ Tryz.func96 []
 ·refine gr_run ?_
  refine gr_done ?_
  refine ret_e (fun hr_ => ?_)
  subst hr_
  exact ret_ Tryz.func96 []
mutual
def spec_FindBox_O.l0 : Nat → ByteArray → (List Int) → (List S94) → Int → S157 → S157 → Option ((List Int))
 | 0, _, _, _, _, _, _ => none
 | k + 1, v2, v12, v8, v9, v5, v6 => (bif decide (v9 < (v8.length : Int)) then ((ix v8 v9).bind fun v13 => ((spec_l02Field.f k v13.f2 v2).bind fun v14 => ((spec_l01Read.f k v14).bind fun v15 => (bif (v15.f0 == 5) then ((spec_l05Between.f k v15.f1 v5.f1 v6.f1).bind fun v16 => (bif v16 then ((spec_l05Between.f k v15.f2 v5.f2 v6.f2).bind fun v17 => (bif v17 then ((app v12 ([v13.f0] : List Int)).bind fun v19 => (spec_FindBox_O.l0 k v2 v19 v8 (IntKind.i64.wrap (v9 + 1)) v5 v6)) else (spec_FindBox_O.l0 k v2 v12 v8 (IntKind.i64.wrap (v9 + 1)) v5 v6))) else (spec_FindBox_O.l0 k v2 v12 v8 (IntKind.i64.wrap (v9 + 1)) v5 v6))) else (spec_FindBox_O.l0 k v2 v12 v8 (IntKind.i64.wrap (v9 + 1)) v5 v6))))) else (some v12))
def spec_FindBox_O.f : Nat → S31 → ByteArray → ByteArray → ByteArray → ByteArray → Option ((List Int))
 | 0, _, _, _, _, _ => none
 | k + 1, v0, v1, v2, v3, v4 => ((spec_l01Read.f k v3).bind fun v5 => ((spec_l01Read.f k v4).bind fun v6 => (bif decide (65536 < (v1.size : Int)) then (some ([] : List Int)) else (bif decide (65536 < (v2.size : Int)) then (some ([] : List Int)) else ((spec_GraphFault.f k v0).bind fun v7 => (bif (v7 == 0) then (bif (v5.f0 == 5) then (bif (v6.f0 == 5) then ((spec_l05Labelled.f k v0 v1).bind fun v8 => (spec_FindBox_O.l0 k v2 [] v8 0 v5 v6)) else (some ([] : List Int))) else (some ([] : List Int))) else (some ([] : List Int))))))))
end
set_option maxRecDepth 100000 in
set_option maxHeartbeats 4000000 in
theorem spec_FindBox_O.con {K : Kn} [KOk K] {k : Nat} {v0 : S31} {v1 : ByteArray} {v2 : ByteArray} {v3 : ByteArray} {v4 : ByteArray} {r : (List Int)} (h : spec_FindBox_O.f k v0 v1 v2 v3 v4 = some r) : Con K Tryz.prog 41 [.agg [.p (.lst false (List.map en94 v0.f0)), .p (.lst false (List.map en110 v0.f1))], .p (.str v1), .p (.str v2), .p (.str v3), .p (.str v4)] [] (.buf 2000 1 0 r.length) [(2000, (1, .buf 1 (List.map (irow .i64) r)))] := by
 cases k with
 | zero => exact absurd h (by simp [spec_FindBox_O.f])
 | succ k =>
 rw [spec_FindBox_O.f] at h
 refine con_intro 93 [91] Tryz.func41 (by kernel_rfl) rfl rfl (by kernel_rfl) fun ι0 w0 hk0 => ?_
 revert h
 refine go 5 ?_
 refine grs ?_
 refine gr_run ?_
 refine bind_e (fun v5 e5 => gr_call [] (spec_l01Read.con e5) ?_)
 clear e5
 refine gr_run ?_
 refine gr_done ?_
 refine go 1 ?_
 refine grs ?_
 refine gr_run ?_
 refine bind_e (fun v6 e6 => gr_call [] (spec_l01Read.con e6) ?_)
 clear e6
 refine gr_run ?_
 refine gr_done ?_
 refine bif_e (fun c1 => ?_) (fun c1 => ?_)
 ·refine go 6 ?_
  refine adoptB_ 10 2510 1 ?_
  refine ret_e (fun hr_ => ?_)
  subst hr_
  exact ret_ Tryz.func41 [(2000, (1, 2510, 1))]
 ·refine bif_e (fun c2 => ?_) (fun c2 => ?_)
  ·refine go 6 ?_
   refine adoptB_ 10 2510 1 ?_
   refine ret_e (fun hr_ => ?_)
   subst hr_
   exact ret_ Tryz.func41 [(2000, (1, 2510, 1))]
  ·refine go 2 ?_
   refine grs ?_
   refine gr_run ?_
   refine bind_e (fun v7 e7 => gr_call [] (spec_GraphFault.con e7) ?_)
   clear e7
   refine bif_e (fun c3 => ?_) (fun c3 => ?_)
   ·refine bif_e (fun c4 => ?_) (fun c4 => ?_)
    ·refine gr_run ?_
     refine gr_done ?_
     refine bif_e (fun c5 => ?_) (fun c5 => ?_)
     ·refine go 3 ?_
      refine grs ?_
      refine gr_run ?_
      refine bind_e (fun v8 e8 => gr_call [] (spec_l05Labelled.con e8) ?_)
      clear e8
      refine gr_run ?_
      refine gr_done ?_
      refine go 4 ?_
      refine adoptB_ 11 91 1 ?_
      refine fun h => good_loop (fun n st => n ≤ k ∧ ∃ (v9 : _) (v12 : _) (g10 : Nat) (g11 : Nat), st = ⟨[(2, .p (.str v2)), (11, .buf 91 g11 0 v12.length), (12, .ptr 12 1 0), (13, .ptr 13 1 0), (14, .p (.lst false (List.map en94 v8))), (15, .p (.int .i64 v9))], [(5, (1, .gone)), (12, (1, .cells [.p (.int .i64 v5.f0), .p (.int .i64 v5.f1), .p (.int .i64 v5.f2), .p (.str v5.f3), .p (.lst false (List.map en157 v5.f4)), .p (.lst false (List.map srw v5.f5))])), (13, (1, .cells [.p (.int .i64 v6.f0), .p (.int .i64 v6.f1), .p (.int .i64 v6.f2), .p (.str v6.f3), .p (.lst false (List.map en157 v6.f4)), .p (.lst false (List.map srw v6.f5))])), (16, (g10, .gone)), (91, (g11, .buf 1 (List.map (irow .i64) v12)))]⟩ ∧ spec_FindBox_O.l0 n v2 v12 v8 v9 v5 v6 = some r) k ⟨_, ⟨Nat.le_refl _, _, _, 0, 1, rfl, h⟩, frle_, memle_⟩ ?_
      clear c1 c2 c3 c4 c5
      clear h
      rintro n _ ⟨hkl0, v9, v12, g10, g11, rfl, h⟩ hl0
      cases n with
      | zero => exact absurd h (by simp [spec_FindBox_O.l0])
      | succ kl0 =>
      rw [spec_FindBox_O.l0] at h
      revert h
      refine bif_e (fun c6 => ?_) (fun c6 => ?_)
      ·refine bind_e (fun v13 e13 => ?_)
       replace e13 := nf_ (ix_en en94 e13)
       refine go 8 ?_
       refine grs ?_
       refine gr_run ?_
       refine bind_e (fun v14 e14 => gr_call [] (spec_l02Field.con e14) ?_)
       clear e14
       refine bind_e (fun v15 e15 => gr_call [] (spec_l01Read.con e15) ?_)
       clear e15
       refine gr_run ?_
       refine gr_done ?_
       refine bif_e (fun c7 => ?_) (fun c7 => ?_)
       ·refine go 1 ?_
        refine grs ?_
        refine gr_run ?_
        refine bind_e (fun v16 e16 => gr_call [] (spec_l05Between.con e16) ?_)
        clear e16
        refine bif_e (fun c8 => ?_) (fun c8 => ?_)
        ·refine gr_run ?_
         refine bind_e (fun v17 e17 => gr_call [] (spec_l05Between.con e17) ?_)
         clear e17
         refine gr_run ?_
         refine gr_done ?_
         refine bif_e (fun c9 => ?_) (fun c9 => ?_)
         ·refine bind_e (fun v19 e19 => ?_)
          replace e19 := nf_ (app_en (irow .i64) e19)
          refine go 4 ?_
          exact fun h => good_again hl0 (by omega) ⟨_, ⟨by omega, _, _, g10 + 1, g11 + 1, rfl, h⟩, frle_, memle_⟩
         ·refine go 4 ?_
          exact fun h => good_again hl0 (by omega) ⟨_, ⟨by omega, _, _, g10 + 1, g11, rfl, h⟩, frle_, memle_⟩
        ·refine gr_run ?_
         refine gr_done ?_
         refine go 4 ?_
         exact fun h => good_again hl0 (by omega) ⟨_, ⟨by omega, _, _, g10 + 1, g11, rfl, h⟩, frle_, memle_⟩
       ·refine go 6 ?_
        exact fun h => good_again hl0 (by omega) ⟨_, ⟨by omega, _, _, g10 + 1, g11, rfl, h⟩, frle_, memle_⟩
      ·refine go 7 ?_
       refine ret_e (fun hr_ => ?_)
       subst hr_
       exact ret_ Tryz.func41 [(2000, (1, 91, g11))]
     ·refine go 3 ?_
      refine adoptB_ 10 2510 1 ?_
      refine ret_e (fun hr_ => ?_)
      subst hr_
      exact ret_ Tryz.func41 [(2000, (1, 2510, 1))]
    ·refine gr_run ?_
     refine gr_done ?_
     refine go 3 ?_
     refine adoptB_ 10 2510 1 ?_
     refine ret_e (fun hr_ => ?_)
     subst hr_
     exact ret_ Tryz.func41 [(2000, (1, 2510, 1))]
   ·refine gr_run ?_
    refine gr_done ?_
    refine go 3 ?_
    refine adoptB_ 10 2510 1 ?_
    refine ret_e (fun hr_ => ?_)
    subst hr_
    exact ret_ Tryz.func41 [(2000, (1, 2510, 1))]
end Go.Ab
