/- What the functions compute, and their contracts, part 4. No condition beyond KOk. -/
import Derived.Test.YtkjoeomgnkfljaaGreatDoorAbX
import Derived.Test.YtkjoeomgnkfljaaGreatDoorAbF2
import Derived.Test.YtkjoeomgnkfljaaGreatDoorAbF3
namespace Go.Ab
open Go.Proofs
set_option linter.unusedVariables false
set_option linter.unusedSimpArgs false
def spec_l01Read.f (k : Nat) (v0 : ByteArray) : Option (S157) := (bif decide (2000 < (v0.size : Int)) then (some (⟨(-1), 0, 0, (⟨#[]⟩ : ByteArray), ([] : (List S157)), ([] : (List ByteArray))⟩ : S157)) else ((spec_l01Reader_value.f k 0 (⟨v0, 0, false⟩ : S231)).bind fun v1 => (bif v1.2.f2 then (some (⟨(-1), 0, 0, (⟨#[]⟩ : ByteArray), ([] : (List S157)), ([] : (List ByteArray))⟩ : S157)) else (bif (v1.2.f1 == (v0.size : Int)) then (some v1.1) else (some (⟨(-1), 0, 0, (⟨#[]⟩ : ByteArray), ([] : (List S157)), ([] : (List ByteArray))⟩ : S157))))))
set_option maxRecDepth 100000 in
set_option maxHeartbeats 4000000 in
theorem spec_l01Read.con {K : Kn} [KOk K] {k : Nat} {v0 : ByteArray} {r : S157} (h : spec_l01Read.f k v0 = some r) : Con K Tryz.prog 93 [.p (.str v0)] [] (.agg [.p (.int .i64 r.f0), .p (.int .i64 r.f1), .p (.int .i64 r.f2), .p (.str r.f3), .p (.lst false (List.map en157 r.f4)), .p (.lst false (List.map srw r.f5))]) [] := by
 rw [spec_l01Read.f] at h
 refine con_intro 29 [] Tryz.func93 (by kernel_rfl) rfl rfl (by kernel_rfl) fun ι0 w0 hk0 => ?_
 revert h
 refine bif_e (fun c1 => ?_) (fun c1 => ?_)
 ·refine go 8 ?_
  refine ret_e (fun hr_ => ?_)
  subst hr_
  exact ret_ Tryz.func93 []
 ·refine go 10 ?_
  refine grs ?_
  refine gr_run ?_
  refine bind_e (fun v1 e1 => gr_call [(1000, (0, 11, 1))] (spec_l01Reader_value.con e1) ?_)
  clear e1
  refine gr_run ?_
  refine gr_done ?_
  refine bif_e (fun c2 => ?_) (fun c2 => ?_)
  ·refine go 6 ?_
   refine ret_e (fun hr_ => ?_)
   subst hr_
   exact ret_ Tryz.func93 []
  ·refine bif_e (fun c3 => ?_) (fun c3 => ?_)
   ·refine go 7 ?_
    refine ret_e (fun hr_ => ?_)
    subst hr_
    exact ret_ Tryz.func93 []
   ·refine go 6 ?_
    refine ret_e (fun hr_ => ?_)
    subst hr_
    exact ret_ Tryz.func93 []
mutual
def spec_l02Plain.l0 : Nat → Int → S157 → Option (Bool)
 | 0, _, _ => none
 | k + 1, v1, v0 => (bif decide (v1 < (v0.f4.length : Int)) then ((ix v0.f4 v1).bind fun v2 => (bif (v2.f0 == 0) then (spec_l02Plain.l0 k (IntKind.i64.wrap (v1 + 1)) v0) else ((spec_l02Plain.f k v2).bind fun v4 => (bif v4 then (spec_l02Plain.l0 k (IntKind.i64.wrap (v1 + 1)) v0) else (some false))))) else (some true))
def spec_l02Plain.f : Nat → S157 → Option (Bool)
 | 0, _ => none
 | k + 1, v0 => (bif decide (v0.f0 < 0) then (some false) else (bif decide (8 ≤ v0.f0) then (some false) else (spec_l02Plain.l0 k 0 v0)))
end
def spec_l02Plain.C (K : Kn) (k : Nat) : Prop := ∀ (v0 : S157) (r : Bool), spec_l02Plain.f k v0 = some r → Con K Tryz.prog 219 [.agg [.p (.int .i64 v0.f0), .p (.int .i64 v0.f1), .p (.int .i64 v0.f2), .p (.str v0.f3), .p (.lst false (List.map en157 v0.f4)), .p (.lst false (List.map srw v0.f5))]] [] (.p (.bool r)) []
set_option maxRecDepth 100000 in
set_option maxHeartbeats 4000000 in
theorem spec_l02Plain.con1 {K : Kn} [KOk K] (k : Nat) (spec_l02Plain_ih : ∀ m, m < k → spec_l02Plain.C K m) : spec_l02Plain.C K k := by
 intro v0 r h
 cases k with
 | zero => exact absurd h (by simp [spec_l02Plain.f])
 | succ k =>
 rw [spec_l02Plain.f] at h
 refine con_intro 35 [] Tryz.func219 (by kernel_rfl) rfl rfl (by kernel_rfl) fun ι0 w0 hk0 => ?_
 revert h
 refine bif_e (fun c1 => ?_) (fun c1 => ?_)
 ·refine go 8 ?_
  refine ret_e (fun hr_ => ?_)
  subst hr_
  exact ret_ Tryz.func219 []
 ·refine bif_e (fun c2 => ?_) (fun c2 => ?_)
  ·refine go 8 ?_
   refine ret_e (fun hr_ => ?_)
   subst hr_
   exact ret_ Tryz.func219 []
  ·refine go 11 ?_
   refine fun h => good_loop (fun n st => n ≤ k ∧ ∃ (v1 : _), st = ⟨[(1, .ptr 1 1 0), (3, .p (.int .i64 v1))], [(1, (1, .cells [.p (.int .i64 v0.f0), .p (.int .i64 v0.f1), .p (.int .i64 v0.f2), .p (.str v0.f3), .p (.lst false (List.map en157 v0.f4)), .p (.lst false (List.map srw v0.f5))]))]⟩ ∧ spec_l02Plain.l0 n v1 v0 = some r) k ⟨_, ⟨Nat.le_refl _, _, rfl, h⟩, frle_, memle_⟩ ?_
   clear c1 c2
   clear h
   rintro n _ ⟨hkl0, v1, rfl, h⟩ hl0
   cases n with
   | zero => exact absurd h (by simp [spec_l02Plain.l0])
   | succ kl0 =>
   rw [spec_l02Plain.l0] at h
   revert h
   refine bif_e (fun c3 => ?_) (fun c3 => ?_)
   ·refine bind_e (fun v2 e2 => ?_)
    replace e2 := nf_ (ix_en en157 e2)
    refine bif_e (fun c4 => ?_) (fun c4 => ?_)
    ·refine go 13 ?_
     exact fun h => good_again hl0 (by omega) ⟨_, ⟨by omega, _, rfl, h⟩, frle_, memle_⟩
    ·refine go 8 ?_
     refine grs ?_
     refine gr_run ?_
     refine bind_e (fun v4 e4 => gr_call [] (spec_l02Plain_ih _ (by omega) _ _ e4) ?_)
     clear e4
     refine gr_run ?_
     refine gr_done ?_
     refine bif_e (fun c5 => ?_) (fun c5 => ?_)
     ·refine go 4 ?_
      exact fun h => good_again hl0 (by omega) ⟨_, ⟨by omega, _, rfl, h⟩, frle_, memle_⟩
     ·refine go 3 ?_
      refine ret_e (fun hr_ => ?_)
      subst hr_
      exact ret_ Tryz.func219 []
   ·refine go 7 ?_
    refine ret_e (fun hr_ => ?_)
    subst hr_
    exact ret_ Tryz.func219 []
theorem spec_l02Plain.all {K : Kn} [KOk K] (k : Nat) : spec_l02Plain.C K k := by
 induction k using Nat.strongRecOn with
 | _ k ih => exact spec_l02Plain.con1 k ih
theorem spec_l02Plain.con {K : Kn} [KOk K] {k : Nat} {v0 : S157} {r : Bool} (h : spec_l02Plain.f k v0 = some r) : Con K Tryz.prog 219 [.agg [.p (.int .i64 v0.f0), .p (.int .i64 v0.f1), .p (.int .i64 v0.f2), .p (.str v0.f3), .p (.lst false (List.map en157 v0.f4)), .p (.lst false (List.map srw v0.f5))]] [] (.p (.bool r)) [] := (spec_l02Plain.all k) _ r h
def spec_l02Value.f (k : Nat) (v0 : ByteArray) : Option (Bool) := ((spec_l01Read.f k v0).bind fun v1 => (bif (v1.f0 == 0) then (some false) else ((spec_l02Plain.f k v1).bind fun v2 => (some v2))))
set_option maxRecDepth 100000 in
set_option maxHeartbeats 4000000 in
theorem spec_l02Value.con {K : Kn} [KOk K] {k : Nat} {v0 : ByteArray} {r : Bool} (h : spec_l02Value.f k v0 = some r) : Con K Tryz.prog 185 [.p (.str v0)] [] (.p (.bool r)) [] := by
 rw [spec_l02Value.f] at h
 refine con_intro 13 [] Tryz.func185 (by kernel_rfl) rfl rfl (by kernel_rfl) fun ι0 w0 hk0 => ?_
 revert h
 refine go 3 ?_
 refine grs ?_
 refine gr_run ?_
 refine bind_e (fun v1 e1 => gr_call [] (spec_l01Read.con e1) ?_)
 clear e1
 refine gr_run ?_
 refine gr_done ?_
 refine bif_e (fun c1 => ?_) (fun c1 => ?_)
 ·refine go 2 ?_
  refine ret_e (fun hr_ => ?_)
  subst hr_
  exact ret_ Tryz.func185 []
 ·refine go 1 ?_
  refine grs ?_
  refine gr_run ?_
  refine bind_e (fun v2 e2 => gr_call [] (spec_l02Plain.con e2) ?_)
  clear e2
  refine gr_run ?_
  refine gr_done ?_
  refine ret_e (fun hr_ => ?_)
  subst hr_
  exact ret_ Tryz.func185 []
mutual
def spec_l02Fields.l0 : Nat → (List S193) → Int → Option (Bool)
 | 0, _, _ => none
 | k + 1, v0, v1 => (bif decide (v1 < (v0.length : Int)) then ((ix v0 v1).bind fun v2 => ((spec_l01Name.f k v2.f0).bind fun v3 => (bif v3 then (bif decide (0 < v1) then ((ix v0 (IntKind.i64.wrap (v1 - 1))).bind fun v4 => (bif slt v4.f0 v2.f0 then ((spec_l02Value.f k v2.f1).bind fun v7 => (bif v7 then (spec_l02Fields.l0 k v0 (IntKind.i64.wrap (v1 + 1))) else (some false))) else (some false))) else ((spec_l02Value.f k v2.f1).bind fun v9 => (bif v9 then (spec_l02Fields.l0 k v0 (IntKind.i64.wrap (v1 + 1))) else (some false)))) else (some false)))) else (some true))
def spec_l02Fields.f : Nat → (List S193) → Option (Bool)
 | 0, _ => none
 | k + 1, v0 => (bif decide (20 < (v0.length : Int)) then (some false) else (spec_l02Fields.l0 k v0 0))
end
set_option maxRecDepth 100000 in
set_option maxHeartbeats 4000000 in
theorem spec_l02Fields.con {K : Kn} [KOk K] {k : Nat} {v0 : (List S193)} {r : Bool} (h : spec_l02Fields.f k v0 = some r) : Con K Tryz.prog 174 [.p (.lst false (List.map en193 v0))] [] (.p (.bool r)) [] := by
 cases k with
 | zero => exact absurd h (by simp [spec_l02Fields.f])
 | succ k =>
 rw [spec_l02Fields.f] at h
 refine con_intro 47 [] Tryz.func174 (by kernel_rfl) rfl rfl (by kernel_rfl) fun ι0 w0 hk0 => ?_
 revert h
 refine bif_e (fun c1 => ?_) (fun c1 => ?_)
 ·refine go 8 ?_
  refine ret_e (fun hr_ => ?_)
  subst hr_
  exact ret_ Tryz.func174 []
 ·refine go 11 ?_
  refine fun h => good_loop (fun n st => n ≤ k ∧ ∃ (v1 : _), st = ⟨[(0, .p (.lst false (List.map en193 v0))), (3, .p (.int .i64 v1))], []⟩ ∧ spec_l02Fields.l0 n v0 v1 = some r) k ⟨_, ⟨Nat.le_refl _, _, rfl, h⟩, frle_, memle_⟩ ?_
  clear c1
  clear h
  rintro n _ ⟨hkl0, v1, rfl, h⟩ hl0
  cases n with
  | zero => exact absurd h (by simp [spec_l02Fields.l0])
  | succ kl0 =>
  rw [spec_l02Fields.l0] at h
  revert h
  refine bif_e (fun c2 => ?_) (fun c2 => ?_)
  ·refine bind_e (fun v2 e2 => ?_)
   replace e2 := nf_ (ix_en en193 e2)
   refine go 8 ?_
   refine grs ?_
   refine gr_run ?_
   refine bind_e (fun v3 e3 => gr_call [] (spec_l01Name.con e3) ?_)
   clear e3
   refine bif_e (fun c3 => ?_) (fun c3 => ?_)
   ·refine bif_e (fun c4 => ?_) (fun c4 => ?_)
    ·refine bind_e (fun v4 e4 => ?_)
     replace e4 := nf_ (ix_en en193 e4)
     refine bif_e (fun c5 => ?_) (fun c5 => ?_)
     ·refine gr_run ?_
      refine bind_e (fun v7 e7 => gr_call [] (spec_l02Value.con e7) ?_)
      clear e7
      refine gr_run ?_
      refine gr_done ?_
      refine bif_e (fun c6 => ?_) (fun c6 => ?_)
      ·refine go 4 ?_
       exact fun h => good_again hl0 (by omega) ⟨_, ⟨by omega, _, rfl, h⟩, frle_, memle_⟩
      ·refine go 3 ?_
       refine ret_e (fun hr_ => ?_)
       subst hr_
       exact ret_ Tryz.func174 []
     ·refine gr_run ?_
      refine gr_done ?_
      refine go 3 ?_
      refine ret_e (fun hr_ => ?_)
      subst hr_
      exact ret_ Tryz.func174 []
    ·refine gr_run ?_
     refine bind_e (fun v9 e9 => gr_call [] (spec_l02Value.con e9) ?_)
     clear e9
     refine gr_run ?_
     refine gr_done ?_
     refine bif_e (fun c7 => ?_) (fun c7 => ?_)
     ·refine go 4 ?_
      exact fun h => good_again hl0 (by omega) ⟨_, ⟨by omega, _, rfl, h⟩, frle_, memle_⟩
     ·refine go 3 ?_
      refine ret_e (fun hr_ => ?_)
      subst hr_
      exact ret_ Tryz.func174 []
   ·refine gr_run ?_
    refine gr_done ?_
    refine go 3 ?_
    refine ret_e (fun hr_ => ?_)
    subst hr_
    exact ret_ Tryz.func174 []
  ·refine go 7 ?_
   refine ret_e (fun hr_ => ?_)
   subst hr_
   exact ret_ Tryz.func174 []
def spec_l02IsNode.f (k : Nat) (v0 : S94) : Option (Bool) := ((spec_l02Id.f k v0.f0).bind fun v1 => (bif v1 then ((spec_l02Labels.f k v0.f1).bind fun v2 => (bif v2 then ((spec_l02Fields.f k v0.f2).bind fun v3 => (some v3)) else (some false))) else (some false)))
set_option maxRecDepth 100000 in
set_option maxHeartbeats 4000000 in
theorem spec_l02IsNode.con {K : Kn} [KOk K] {k : Nat} {v0 : S94} {r : Bool} (h : spec_l02IsNode.f k v0 = some r) : Con K Tryz.prog 124 [.agg [.p (.int .i64 v0.f0), .p (.lst false (List.map srw v0.f1)), .p (.lst false (List.map en193 v0.f2))]] [] (.p (.bool r)) [] := by
 rw [spec_l02IsNode.f] at h
 refine con_intro 16 [] Tryz.func124 (by kernel_rfl) rfl rfl (by kernel_rfl) fun ι0 w0 hk0 => ?_
 revert h
 refine go 3 ?_
 refine grs ?_
 refine gr_run ?_
 refine bind_e (fun v1 e1 => gr_call [] (spec_l02Id.con e1) ?_)
 clear e1
 refine bif_e (fun c1 => ?_) (fun c1 => ?_)
 ·refine gr_run ?_
  refine bind_e (fun v2 e2 => gr_call [] (spec_l02Labels.con e2) ?_)
  clear e2
  refine bif_e (fun c2 => ?_) (fun c2 => ?_)
  ·refine gr_run ?_
   refine bind_e (fun v3 e3 => gr_call [] (spec_l02Fields.con e3) ?_)
   clear e3
   refine gr_run ?_
   refine gr_done ?_
   refine ret_e (fun hr_ => ?_)
   subst hr_
   exact ret_ Tryz.func124 []
  ·refine gr_run ?_
   refine gr_done ?_
   refine ret_e (fun hr_ => ?_)
   subst hr_
   exact ret_ Tryz.func124 []
 ·refine gr_run ?_
  refine gr_done ?_
  refine ret_e (fun hr_ => ?_)
  subst hr_
  exact ret_ Tryz.func124 []
def spec_l02IsEdge.f (k : Nat) (v0 : S110) : Option (Bool) := ((spec_l02Id.f k v0.f0).bind fun v1 => (bif v1 then ((spec_l01Name.f k v0.f1).bind fun v2 => (bif v2 then ((spec_l02Id.f k v0.f2).bind fun v3 => (bif v3 then ((spec_l02Id.f k v0.f3).bind fun v4 => (bif v4 then ((spec_l02Fields.f k v0.f4).bind fun v5 => (some v5)) else (some false))) else (some false))) else (some false))) else (some false)))
set_option maxRecDepth 100000 in
set_option maxHeartbeats 4000000 in
theorem spec_l02IsEdge.con {K : Kn} [KOk K] {k : Nat} {v0 : S110} {r : Bool} (h : spec_l02IsEdge.f k v0 = some r) : Con K Tryz.prog 125 [.agg [.p (.int .i64 v0.f0), .p (.str v0.f1), .p (.int .i64 v0.f2), .p (.int .i64 v0.f3), .p (.lst false (List.map en193 v0.f4))]] [] (.p (.bool r)) [] := by
 rw [spec_l02IsEdge.f] at h
 refine con_intro 26 [] Tryz.func125 (by kernel_rfl) rfl rfl (by kernel_rfl) fun ι0 w0 hk0 => ?_
 revert h
 refine go 3 ?_
 refine grs ?_
 refine gr_run ?_
 refine bind_e (fun v1 e1 => gr_call [] (spec_l02Id.con e1) ?_)
 clear e1
 refine bif_e (fun c1 => ?_) (fun c1 => ?_)
 ·refine gr_run ?_
  refine bind_e (fun v2 e2 => gr_call [] (spec_l01Name.con e2) ?_)
  clear e2
  refine bif_e (fun c2 => ?_) (fun c2 => ?_)
  ·refine gr_run ?_
   refine bind_e (fun v3 e3 => gr_call [] (spec_l02Id.con e3) ?_)
   clear e3
   refine bif_e (fun c3 => ?_) (fun c3 => ?_)
   ·refine gr_run ?_
    refine bind_e (fun v4 e4 => gr_call [] (spec_l02Id.con e4) ?_)
    clear e4
    refine bif_e (fun c4 => ?_) (fun c4 => ?_)
    ·refine gr_run ?_
     refine bind_e (fun v5 e5 => gr_call [] (spec_l02Fields.con e5) ?_)
     clear e5
     refine gr_run ?_
     refine gr_done ?_
     refine ret_e (fun hr_ => ?_)
     subst hr_
     exact ret_ Tryz.func125 []
    ·refine gr_run ?_
     refine gr_done ?_
     refine ret_e (fun hr_ => ?_)
     subst hr_
     exact ret_ Tryz.func125 []
   ·refine gr_run ?_
    refine gr_done ?_
    refine ret_e (fun hr_ => ?_)
    subst hr_
    exact ret_ Tryz.func125 []
  ·refine gr_run ?_
   refine gr_done ?_
   refine ret_e (fun hr_ => ?_)
   subst hr_
   exact ret_ Tryz.func125 []
 ·refine gr_run ?_
  refine gr_done ?_
  refine ret_e (fun hr_ => ?_)
  subst hr_
  exact ret_ Tryz.func125 []
mutual
def spec_l02Node.l0 : Nat → Int → Int → S31 → Option (Int)
 | 0, _, _, _ => none
 | k + 1, v1, v2, v0 => (bif decide (v2 < (v0.f0.length : Int)) then ((ix v0.f0 v2).bind fun v3 => (bif (v3.f0 == v1) then (some v2) else (spec_l02Node.l0 k v1 (IntKind.i64.wrap (v2 + 1)) v0))) else (some (-1)))
def spec_l02Node.f : Nat → S31 → Int → Option (Int)
 | 0, _, _ => none
 | k + 1, v0, v1 => (spec_l02Node.l0 k v1 0 v0)
end
set_option maxRecDepth 100000 in
set_option maxHeartbeats 4000000 in
theorem spec_l02Node.con {K : Kn} [KOk K] {k : Nat} {v0 : S31} {v1 : Int} {r : Int} (h : spec_l02Node.f k v0 v1 = some r) : Con K Tryz.prog 66 [.agg [.p (.lst false (List.map en94 v0.f0)), .p (.lst false (List.map en110 v0.f1))], .p (.int .i64 v1)] [] (.p (.int .i64 r)) [] := by
 cases k with
 | zero => exact absurd h (by simp [spec_l02Node.f])
 | succ k =>
 rw [spec_l02Node.f] at h
 refine con_intro 22 [] Tryz.func66 (by kernel_rfl) rfl rfl (by kernel_rfl) fun ι0 w0 hk0 => ?_
 revert h
 refine go 6 ?_
 refine fun h => good_loop (fun n st => n ≤ k ∧ ∃ (v2 : _), st = ⟨[(1, .p (.int .i64 v1)), (2, .ptr 2 1 0), (5, .p (.int .i64 v2))], [(2, (1, .cells [.p (.lst false (List.map en94 v0.f0)), .p (.lst false (List.map en110 v0.f1))]))]⟩ ∧ spec_l02Node.l0 n v1 v2 v0 = some r) k ⟨_, ⟨Nat.le_refl _, _, rfl, h⟩, frle_, memle_⟩ ?_
 clear h
 rintro n _ ⟨hkl0, v2, rfl, h⟩ hl0
 cases n with
 | zero => exact absurd h (by simp [spec_l02Node.l0])
 | succ kl0 =>
 rw [spec_l02Node.l0] at h
 revert h
 refine bif_e (fun c1 => ?_) (fun c1 => ?_)
 ·refine bind_e (fun v3 e3 => ?_)
  replace e3 := nf_ (ix_en en94 e3)
  refine bif_e (fun c2 => ?_) (fun c2 => ?_)
  ·refine go 12 ?_
   refine ret_e (fun hr_ => ?_)
   subst hr_
   exact ret_ Tryz.func66 []
  ·refine go 13 ?_
   exact fun h => good_again hl0 (by omega) ⟨_, ⟨by omega, _, rfl, h⟩, frle_, memle_⟩
 ·refine go 7 ?_
  refine ret_e (fun hr_ => ?_)
  subst hr_
  exact ret_ Tryz.func66 []
mutual
def spec_GraphFault.j0 : Nat → Int → S31 → Option (Int)
 | 0, _, _ => none
 | k + 1, v1, v0 => (spec_GraphFault.l0 k (IntKind.i64.wrap (v1 + 1)) v0)
def spec_GraphFault.l1 : Nat → Int → S31 → Option (Int)
 | 0, _, _ => none
 | k + 1, v6, v0 => (bif decide (v6 < (v0.f1.length : Int)) then ((ix v0.f1 v6).bind fun v8 => ((spec_l02IsEdge.f k v8).bind fun v9 => (bif v9 then (bif decide (0 < v6) then ((ix v0.f1 (IntKind.i64.wrap (v6 - 1))).bind fun v10 => (bif decide (v8.f0 ≤ v10.f0) then (some 1) else ((spec_l02Node.f k v0 v8.f2).bind fun v11 => (bif decide (v11 < 0) then (some 1) else ((spec_l02Node.f k v0 v8.f3).bind fun v12 => (bif decide (v12 < 0) then (some 1) else (spec_GraphFault.l1 k (IntKind.i64.wrap (v6 + 1)) v0))))))) else ((spec_l02Node.f k v0 v8.f2).bind fun v13 => (bif decide (v13 < 0) then (some 1) else ((spec_l02Node.f k v0 v8.f3).bind fun v14 => (bif decide (v14 < 0) then (some 1) else (spec_GraphFault.l1 k (IntKind.i64.wrap (v6 + 1)) v0)))))) else (some 1)))) else (some 0))
def spec_GraphFault.l0 : Nat → Int → S31 → Option (Int)
 | 0, _, _ => none
 | k + 1, v1, v0 => (bif decide (v1 < (v0.f0.length : Int)) then ((ix v0.f0 v1).bind fun v2 => ((spec_l02IsNode.f k v2).bind fun v3 => (bif v3 then (bif decide (0 < v1) then ((ix v0.f0 (IntKind.i64.wrap (v1 - 1))).bind fun v4 => (bif decide (v2.f0 ≤ v4.f0) then (some 1) else (spec_GraphFault.j0 k v1 v0))) else (spec_GraphFault.j0 k v1 v0)) else (some 1)))) else (spec_GraphFault.l1 k 0 v0))
def spec_GraphFault.f : Nat → S31 → Option (Int)
 | 0, _ => none
 | k + 1, v0 => (bif decide (200 < (v0.f0.length : Int)) then (some 1) else (bif decide (400 < (v0.f1.length : Int)) then (some 1) else (spec_GraphFault.l0 k 0 v0)))
end
set_option maxRecDepth 100000 in
set_option maxHeartbeats 4000000 in
theorem spec_GraphFault.con {K : Kn} [KOk K] {k : Nat} {v0 : S31} {r : Int} (h : spec_GraphFault.f k v0 = some r) : Con K Tryz.prog 65 [.agg [.p (.lst false (List.map en94 v0.f0)), .p (.lst false (List.map en110 v0.f1))]] [] (.p (.int .i64 r)) [] := by
 cases k with
 | zero => exact absurd h (by simp [spec_GraphFault.f])
 | succ k =>
 rw [spec_GraphFault.f] at h
 refine con_intro 95 [] Tryz.func65 (by kernel_rfl) rfl rfl (by kernel_rfl) fun ι0 w0 hk0 => ?_
 revert h
 refine bif_e (fun c1 => ?_) (fun c1 => ?_)
 ·refine go 8 ?_
  refine ret_e (fun hr_ => ?_)
  subst hr_
  exact ret_ Tryz.func65 []
 ·refine bif_e (fun c2 => ?_) (fun c2 => ?_)
  ·refine go 8 ?_
   refine ret_e (fun hr_ => ?_)
   subst hr_
   exact ret_ Tryz.func65 []
  ·refine go 11 ?_
   refine fun h => good_loop (fun n st => n ≤ k ∧ ∃ (v1 : _), st = ⟨[(1, .ptr 1 1 0), (3, .p (.int .i64 v1))], [(1, (1, .cells [.p (.lst false (List.map en94 v0.f0)), .p (.lst false (List.map en110 v0.f1))]))]⟩ ∧ spec_GraphFault.l0 n v1 v0 = some r) k ⟨_, ⟨Nat.le_refl _, _, rfl, h⟩, frle_, memle_⟩ ?_
   clear c1 c2
   clear h
   rintro n _ ⟨hkl0, v1, rfl, h⟩ hl0
   cases n with
   | zero => exact absurd h (by simp [spec_GraphFault.l0])
   | succ kl0 =>
   rw [spec_GraphFault.l0] at h
   revert h
   refine bif_e (fun c3 => ?_) (fun c3 => ?_)
   ·refine go 8 ?_
    refine good_cut_f (fun st => ∃ (q_ : Nat), q_ ≤ kl0 ∧ st = ⟨[(1, .ptr 1 1 0), (3, .p (.int .i64 v1))], [(1, (1, .cells [.p (.lst false (List.map en94 v0.f0)), .p (.lst false (List.map en110 v0.f1))]))]⟩ ∧ spec_GraphFault.j0 q_ v1 v0 = some r) ?_ (fun hj0 => ?_)
    ·clear c3
     rintro _ ⟨q_, hqj0, rfl, h⟩
     cases q_ with
     | zero => exact absurd h (by simp [spec_GraphFault.j0])
     | succ kj0 =>
     rw [spec_GraphFault.j0] at h
     revert h
     refine go 3 ?_
     exact fun h => good_again hl0 (by omega) ⟨_, ⟨by omega, _, rfl, h⟩, frle_, memle_⟩
    ·refine bind_e (fun v2 e2 => ?_)
     replace e2 := nf_ (ix_en en94 e2)
     refine grs ?_
     refine gr_run ?_
     refine bind_e (fun v3 e3 => gr_call [] (spec_l02IsNode.con e3) ?_)
     clear e3
     refine bif_e (fun c4 => ?_) (fun c4 => ?_)
     ·refine bif_e (fun c5 => ?_) (fun c5 => ?_)
      ·refine bind_e (fun v4 e4 => ?_)
       replace e4 := nf_ (ix_en en94 e4)
       refine gr_run ?_
       refine gr_done ?_
       refine bif_e (fun c6 => ?_) (fun c6 => ?_)
       ·refine go 3 ?_
        refine ret_e (fun hr_ => ?_)
        subst hr_
        exact ret_ Tryz.func65 []
       ·refine go 1 ?_
        exact fun h => good_jump hj0 ⟨_, ⟨_, by omega, rfl, h⟩, frle_, memle_⟩
      ·refine gr_run ?_
       refine gr_done ?_
       refine go 1 ?_
       exact fun h => good_jump hj0 ⟨_, ⟨_, by omega, rfl, h⟩, frle_, memle_⟩
     ·refine gr_run ?_
      refine gr_done ?_
      refine go 3 ?_
      refine ret_e (fun hr_ => ?_)
      subst hr_
      exact ret_ Tryz.func65 []
   ·refine go 9 ?_
    refine fun h => good_loop (fun n st => n ≤ kl0 ∧ ∃ (v6 : _) (g7 : Nat), st = ⟨[(1, .ptr 1 1 0), (4, .p (.int .i64 v6))], [(1, (1, .cells [.p (.lst false (List.map en94 v0.f0)), .p (.lst false (List.map en110 v0.f1))])), (5, (g7, .gone))]⟩ ∧ spec_GraphFault.l1 n v6 v0 = some r) kl0 ⟨_, ⟨Nat.le_refl _, _, 0, rfl, h⟩, frle_, memle_⟩ ?_
    clear c3
    clear h
    rintro n _ ⟨hkl1, v6, g7, rfl, h⟩ hl1
    cases n with
    | zero => exact absurd h (by simp [spec_GraphFault.l1])
    | succ kl1 =>
    rw [spec_GraphFault.l1] at h
    revert h
    refine bif_e (fun c7 => ?_) (fun c7 => ?_)
    ·refine bind_e (fun v8 e8 => ?_)
     replace e8 := nf_ (ix_en en110 e8)
     refine go 10 ?_
     refine grs ?_
     refine gr_run ?_
     refine bind_e (fun v9 e9 => gr_call [] (spec_l02IsEdge.con e9) ?_)
     clear e9
     refine bif_e (fun c8 => ?_) (fun c8 => ?_)
     ·refine bif_e (fun c9 => ?_) (fun c9 => ?_)
      ·refine bind_e (fun v10 e10 => ?_)
       replace e10 := nf_ (ix_en en110 e10)
       refine bif_e (fun c10 => ?_) (fun c10 => ?_)
       ·refine gr_run ?_
        refine gr_done ?_
        refine go 3 ?_
        refine ret_e (fun hr_ => ?_)
        subst hr_
        exact ret_ Tryz.func65 []
       ·refine gr_run ?_
        refine bind_e (fun v11 e11 => gr_call [] (spec_l02Node.con e11) ?_)
        clear e11
        refine bif_e (fun c11 => ?_) (fun c11 => ?_)
        ·refine gr_run ?_
         refine gr_done ?_
         refine go 3 ?_
         refine ret_e (fun hr_ => ?_)
         subst hr_
         exact ret_ Tryz.func65 []
        ·refine gr_run ?_
         refine bind_e (fun v12 e12 => gr_call [] (spec_l02Node.con e12) ?_)
         clear e12
         refine gr_run ?_
         refine gr_done ?_
         refine bif_e (fun c12 => ?_) (fun c12 => ?_)
         ·refine go 3 ?_
          refine ret_e (fun hr_ => ?_)
          subst hr_
          exact ret_ Tryz.func65 []
         ·refine go 4 ?_
          exact fun h => good_again hl1 (by omega) ⟨_, ⟨by omega, _, g7 + 1, rfl, h⟩, frle_, memle_⟩
      ·refine gr_run ?_
       refine bind_e (fun v13 e13 => gr_call [] (spec_l02Node.con e13) ?_)
       clear e13
       refine bif_e (fun c13 => ?_) (fun c13 => ?_)
       ·refine gr_run ?_
        refine gr_done ?_
        refine go 3 ?_
        refine ret_e (fun hr_ => ?_)
        subst hr_
        exact ret_ Tryz.func65 []
       ·refine gr_run ?_
        refine bind_e (fun v14 e14 => gr_call [] (spec_l02Node.con e14) ?_)
        clear e14
        refine gr_run ?_
        refine gr_done ?_
        refine bif_e (fun c14 => ?_) (fun c14 => ?_)
        ·refine go 3 ?_
         refine ret_e (fun hr_ => ?_)
         subst hr_
         exact ret_ Tryz.func65 []
        ·refine go 4 ?_
         exact fun h => good_again hl1 (by omega) ⟨_, ⟨by omega, _, g7 + 1, rfl, h⟩, frle_, memle_⟩
     ·refine gr_run ?_
      refine gr_done ?_
      refine go 3 ?_
      refine ret_e (fun hr_ => ?_)
      subst hr_
      exact ret_ Tryz.func65 []
    ·refine go 7 ?_
     refine ret_e (fun hr_ => ?_)
     subst hr_
     exact ret_ Tryz.func65 []
mutual
def spec_l02Edge.l0 : Nat → Int → Int → S31 → Option (Int)
 | 0, _, _, _ => none
 | k + 1, v1, v2, v0 => (bif decide (v2 < (v0.f1.length : Int)) then ((ix v0.f1 v2).bind fun v3 => (bif (v3.f0 == v1) then (some v2) else (spec_l02Edge.l0 k v1 (IntKind.i64.wrap (v2 + 1)) v0))) else (some (-1)))
def spec_l02Edge.f : Nat → S31 → Int → Option (Int)
 | 0, _, _ => none
 | k + 1, v0, v1 => (spec_l02Edge.l0 k v1 0 v0)
end
set_option maxRecDepth 100000 in
set_option maxHeartbeats 4000000 in
theorem spec_l02Edge.con {K : Kn} [KOk K] {k : Nat} {v0 : S31} {v1 : Int} {r : Int} (h : spec_l02Edge.f k v0 v1 = some r) : Con K Tryz.prog 67 [.agg [.p (.lst false (List.map en94 v0.f0)), .p (.lst false (List.map en110 v0.f1))], .p (.int .i64 v1)] [] (.p (.int .i64 r)) [] := by
 cases k with
 | zero => exact absurd h (by simp [spec_l02Edge.f])
 | succ k =>
 rw [spec_l02Edge.f] at h
 refine con_intro 22 [] Tryz.func67 (by kernel_rfl) rfl rfl (by kernel_rfl) fun ι0 w0 hk0 => ?_
 revert h
 refine go 6 ?_
 refine fun h => good_loop (fun n st => n ≤ k ∧ ∃ (v2 : _), st = ⟨[(1, .p (.int .i64 v1)), (2, .ptr 2 1 0), (5, .p (.int .i64 v2))], [(2, (1, .cells [.p (.lst false (List.map en94 v0.f0)), .p (.lst false (List.map en110 v0.f1))]))]⟩ ∧ spec_l02Edge.l0 n v1 v2 v0 = some r) k ⟨_, ⟨Nat.le_refl _, _, rfl, h⟩, frle_, memle_⟩ ?_
 clear h
 rintro n _ ⟨hkl0, v2, rfl, h⟩ hl0
 cases n with
 | zero => exact absurd h (by simp [spec_l02Edge.l0])
 | succ kl0 =>
 rw [spec_l02Edge.l0] at h
 revert h
 refine bif_e (fun c1 => ?_) (fun c1 => ?_)
 ·refine bind_e (fun v3 e3 => ?_)
  replace e3 := nf_ (ix_en en110 e3)
  refine bif_e (fun c2 => ?_) (fun c2 => ?_)
  ·refine go 12 ?_
   refine ret_e (fun hr_ => ?_)
   subst hr_
   exact ret_ Tryz.func67 []
  ·refine go 13 ?_
   exact fun h => good_again hl0 (by omega) ⟨_, ⟨by omega, _, rfl, h⟩, frle_, memle_⟩
 ·refine go 7 ?_
  refine ret_e (fun hr_ => ?_)
  subst hr_
  exact ret_ Tryz.func67 []
mutual
def spec_l02Field.l0 : Nat → (List S193) → ByteArray → Int → Option (ByteArray)
 | 0, _, _, _ => none
 | k + 1, v0, v1, v2 => (bif decide (v2 < (v0.length : Int)) then ((ix v0 v2).bind fun v3 => (bif decide (v3.f0 = v1) then (some v3.f1) else (spec_l02Field.l0 k v0 v1 (IntKind.i64.wrap (v2 + 1))))) else (some (⟨#[110, 117, 108, 108]⟩ : ByteArray)))
def spec_l02Field.f : Nat → (List S193) → ByteArray → Option (ByteArray)
 | 0, _, _ => none
 | k + 1, v0, v1 => (spec_l02Field.l0 k v0 v1 0)
end
set_option maxRecDepth 100000 in
set_option maxHeartbeats 4000000 in
theorem spec_l02Field.con {K : Kn} [KOk K] {k : Nat} {v0 : (List S193)} {v1 : ByteArray} {r : ByteArray} (h : spec_l02Field.f k v0 v1 = some r) : Con K Tryz.prog 95 [.p (.lst false (List.map en193 v0)), .p (.str v1)] [] (.p (.str r)) [] := by
 cases k with
 | zero => exact absurd h (by simp [spec_l02Field.f])
 | succ k =>
 rw [spec_l02Field.f] at h
 refine con_intro 24 [] Tryz.func95 (by kernel_rfl) rfl rfl (by kernel_rfl) fun ι0 w0 hk0 => ?_
 revert h
 refine go 6 ?_
 refine fun h => good_loop (fun n st => n ≤ k ∧ ∃ (v2 : _), st = ⟨[(0, .p (.lst false (List.map en193 v0))), (1, .p (.str v1)), (5, .p (.int .i64 v2))], []⟩ ∧ spec_l02Field.l0 n v0 v1 v2 = some r) k ⟨_, ⟨Nat.le_refl _, _, rfl, h⟩, frle_, memle_⟩ ?_
 clear h
 rintro n _ ⟨hkl0, v2, rfl, h⟩ hl0
 cases n with
 | zero => exact absurd h (by simp [spec_l02Field.l0])
 | succ kl0 =>
 rw [spec_l02Field.l0] at h
 revert h
 refine bif_e (fun c1 => ?_) (fun c1 => ?_)
 ·refine bind_e (fun v3 e3 => ?_)
  replace e3 := nf_ (ix_en en193 e3)
  refine bif_e (fun c2 => ?_) (fun c2 => ?_)
  ·refine go 12 ?_
   refine ret_e (fun hr_ => ?_)
   subst hr_
   exact ret_ Tryz.func95 []
  ·refine go 13 ?_
   exact fun h => good_again hl0 (by omega) ⟨_, ⟨by omega, _, rfl, h⟩, frle_, memle_⟩
 ·refine go 7 ?_
  refine ret_e (fun hr_ => ?_)
  subst hr_
  exact ret_ Tryz.func95 []
def spec_l17Cap.f (k : Nat) (v0 : S110) (v1 : ByteArray) : Option (Int) := ((spec_l02Field.f k v0.f4 v1).bind fun v2 => ((spec_l01Read.f k v2).bind fun v3 => (bif (v3.f0 == 2) then (bif decide (v3.f1 < 0) then (some 0) else (bif decide (1000000 < v3.f1) then (some 0) else (some v3.f1))) else (some 0))))
set_option maxRecDepth 100000 in
set_option maxHeartbeats 4000000 in
theorem spec_l17Cap.con {K : Kn} [KOk K] {k : Nat} {v0 : S110} {v1 : ByteArray} {r : Int} (h : spec_l17Cap.f k v0 v1 = some r) : Con K Tryz.prog 68 [.agg [.p (.int .i64 v0.f0), .p (.str v0.f1), .p (.int .i64 v0.f2), .p (.int .i64 v0.f3), .p (.lst false (List.map en193 v0.f4))], .p (.str v1)] [] (.p (.int .i64 r)) [] := by
 rw [spec_l17Cap.f] at h
 refine con_intro 26 [] Tryz.func68 (by kernel_rfl) rfl rfl (by kernel_rfl) fun ι0 w0 hk0 => ?_
 revert h
 refine go 3 ?_
 refine grs ?_
 refine gr_run ?_
 refine bind_e (fun v2 e2 => gr_call [] (spec_l02Field.con e2) ?_)
 clear e2
 refine bind_e (fun v3 e3 => gr_call [] (spec_l01Read.con e3) ?_)
 clear e3
 refine gr_run ?_
 refine gr_done ?_
 refine bif_e (fun c1 => ?_) (fun c1 => ?_)
 ·refine bif_e (fun c2 => ?_) (fun c2 => ?_)
  ·refine go 6 ?_
   refine ret_e (fun hr_ => ?_)
   subst hr_
   exact ret_ Tryz.func68 []
  ·refine bif_e (fun c3 => ?_) (fun c3 => ?_)
   ·refine go 6 ?_
    refine ret_e (fun hr_ => ?_)
    subst hr_
    exact ret_ Tryz.func68 []
   ·refine go 7 ?_
    refine ret_e (fun hr_ => ?_)
    subst hr_
    exact ret_ Tryz.func68 []
 ·refine go 6 ?_
  refine ret_e (fun hr_ => ?_)
  subst hr_
  exact ret_ Tryz.func68 []
def spec_l01Bool.f (k : Nat) (v0 : Bool) : Option (Int) := (bif v0 then (some 1) else (some 0))
set_option maxRecDepth 100000 in
set_option maxHeartbeats 4000000 in
theorem spec_l01Bool.con {K : Kn} [KOk K] {k : Nat} {v0 : Bool} {r : Int} (h : spec_l01Bool.f k v0 = some r) : Con K Tryz.prog 69 [.p (.bool v0)] [] (.p (.int .i64 r)) [] := by
 rw [spec_l01Bool.f] at h
 refine con_intro 4 [] Tryz.func69 (by kernel_rfl) rfl rfl (by kernel_rfl) fun ι0 w0 hk0 => ?_
 revert h
 refine bif_e (fun c1 => ?_) (fun c1 => ?_)
 ·refine go 8 ?_
  refine ret_e (fun hr_ => ?_)
  subst hr_
  exact ret_ Tryz.func69 []
 ·refine go 9 ?_
  refine ret_e (fun hr_ => ?_)
  subst hr_
  exact ret_ Tryz.func69 []
mutual
def spec_l17Rising.l0 : Nat → (List Int) → Int → Option (Bool)
 | 0, _, _ => none
 | k + 1, v0, v1 => (bif decide (v1 < (v0.length : Int)) then ((ix v0 (IntKind.i64.wrap (v1 - 1))).bind fun v2 => ((ix v0 v1).bind fun v3 => (bif decide (v3 ≤ v2) then (some false) else (spec_l17Rising.l0 k v0 (IntKind.i64.wrap (v1 + 1)))))) else (some true))
def spec_l17Rising.f : Nat → (List Int) → Option (Bool)
 | 0, _ => none
 | k + 1, v0 => (spec_l17Rising.l0 k v0 1)
end
set_option maxRecDepth 100000 in
set_option maxHeartbeats 4000000 in
theorem spec_l17Rising.con {K : Kn} [KOk K] {k : Nat} {v0 : (List Int)} {r : Bool} (h : spec_l17Rising.f k v0 = some r) : Con K Tryz.prog 104 [.p (.lst false (List.map (irow .i64) v0))] [] (.p (.bool r)) [] := by
 cases k with
 | zero => exact absurd h (by simp [spec_l17Rising.f])
 | succ k =>
 rw [spec_l17Rising.f] at h
 refine con_intro 20 [] Tryz.func104 (by kernel_rfl) rfl rfl (by kernel_rfl) fun ι0 w0 hk0 => ?_
 revert h
 refine go 6 ?_
 refine fun h => good_loop (fun n st => n ≤ k ∧ ∃ (v1 : _), st = ⟨[(0, .p (.lst false (List.map (irow .i64) v0))), (3, .p (.int .i64 v1))], []⟩ ∧ spec_l17Rising.l0 n v0 v1 = some r) k ⟨_, ⟨Nat.le_refl _, _, rfl, h⟩, frle_, memle_⟩ ?_
 clear h
 rintro n _ ⟨hkl0, v1, rfl, h⟩ hl0
 cases n with
 | zero => exact absurd h (by simp [spec_l17Rising.l0])
 | succ kl0 =>
 rw [spec_l17Rising.l0] at h
 revert h
 refine bif_e (fun c1 => ?_) (fun c1 => ?_)
 ·refine bind_e (fun v2 e2 => ?_)
  replace e2 := nf_ (ix_en (irow .i64) e2)
  refine bind_e (fun v3 e3 => ?_)
  replace e3 := nf_ (ix_en (irow .i64) e3)
  refine go 8 ?_
  refine grs ?_
  refine gr_run ?_
  refine gr_done ?_
  refine bif_e (fun c2 => ?_) (fun c2 => ?_)
  ·refine go 3 ?_
   refine ret_e (fun hr_ => ?_)
   subst hr_
   exact ret_ Tryz.func104 []
  ·refine go 4 ?_
   exact fun h => good_again hl0 (by omega) ⟨_, ⟨by omega, _, rfl, h⟩, frle_, memle_⟩
 ·refine go 7 ?_
  refine ret_e (fun hr_ => ?_)
  subst hr_
  exact ret_ Tryz.func104 []
mutual
def spec_l17Nodes.l0 : Nat → (List Int) → Int → S31 → Option (Bool)
 | 0, _, _, _ => none
 | k + 1, v1, v2, v0 => (bif decide (v2 < (v1.length : Int)) then ((ix v1 v2).bind fun v4 => ((spec_l02Node.f k v0 v4).bind fun v5 => (bif decide (v5 < 0) then (some false) else (spec_l17Nodes.l0 k v1 (IntKind.i64.wrap (v2 + 1)) v0)))) else ((spec_l17Rising.f k v1).bind fun v3 => (some v3)))
def spec_l17Nodes.f : Nat → S31 → (List Int) → Option (Bool)
 | 0, _, _ => none
 | k + 1, v0, v1 => (spec_l17Nodes.l0 k v1 0 v0)
end
set_option maxRecDepth 100000 in
set_option maxHeartbeats 4000000 in
theorem spec_l17Nodes.con {K : Kn} [KOk K] {k : Nat} {v0 : S31} {v1 : (List Int)} {r : Bool} (h : spec_l17Nodes.f k v0 v1 = some r) : Con K Tryz.prog 70 [.agg [.p (.lst false (List.map en94 v0.f0)), .p (.lst false (List.map en110 v0.f1))], .p (.lst false (List.map (irow .i64) v1))] [] (.p (.bool r)) [] := by
 cases k with
 | zero => exact absurd h (by simp [spec_l17Nodes.f])
 | succ k =>
 rw [spec_l17Nodes.f] at h
 refine con_intro 21 [] Tryz.func70 (by kernel_rfl) rfl rfl (by kernel_rfl) fun ι0 w0 hk0 => ?_
 revert h
 refine go 6 ?_
 refine fun h => good_loop (fun n st => n ≤ k ∧ ∃ (v2 : _), st = ⟨[(1, .p (.lst false (List.map (irow .i64) v1))), (2, .ptr 2 1 0), (5, .p (.int .i64 v2))], [(2, (1, .cells [.p (.lst false (List.map en94 v0.f0)), .p (.lst false (List.map en110 v0.f1))]))]⟩ ∧ spec_l17Nodes.l0 n v1 v2 v0 = some r) k ⟨_, ⟨Nat.le_refl _, _, rfl, h⟩, frle_, memle_⟩ ?_
 clear h
 rintro n _ ⟨hkl0, v2, rfl, h⟩ hl0
 cases n with
 | zero => exact absurd h (by simp [spec_l17Nodes.l0])
 | succ kl0 =>
 rw [spec_l17Nodes.l0] at h
 revert h
 refine bif_e (fun c1 => ?_) (fun c1 => ?_)
 ·refine bind_e (fun v4 e4 => ?_)
  replace e4 := nf_ (ix_en (irow .i64) e4)
  refine go 8 ?_
  refine grs ?_
  refine gr_run ?_
  refine bind_e (fun v5 e5 => gr_call [] (spec_l02Node.con e5) ?_)
  clear e5
  refine gr_run ?_
  refine gr_done ?_
  refine bif_e (fun c2 => ?_) (fun c2 => ?_)
  ·refine go 3 ?_
   refine ret_e (fun hr_ => ?_)
   subst hr_
   exact ret_ Tryz.func70 []
  ·refine go 4 ?_
   exact fun h => good_again hl0 (by omega) ⟨_, ⟨by omega, _, rfl, h⟩, frle_, memle_⟩
 ·refine go 6 ?_
  refine grs ?_
  refine gr_run ?_
  refine bind_e (fun v3 e3 => gr_call [] (spec_l17Rising.con e3) ?_)
  clear e3
  refine gr_run ?_
  refine gr_done ?_
  refine ret_e (fun hr_ => ?_)
  subst hr_
  exact ret_ Tryz.func70 []
mutual
def spec_l01InInts.l0 : Nat → (List Int) → Int → Int → Option (Bool)
 | 0, _, _, _ => none
 | k + 1, v0, v1, v2 => (bif decide (v2 < (v0.length : Int)) then ((ix v0 v2).bind fun v3 => (bif (v3 == v1) then (some true) else (spec_l01InInts.l0 k v0 v1 (IntKind.i64.wrap (v2 + 1))))) else (some false))
def spec_l01InInts.f : Nat → (List Int) → Int → Option (Bool)
 | 0, _, _ => none
 | k + 1, v0, v1 => (spec_l01InInts.l0 k v0 v1 0)
end
set_option maxRecDepth 100000 in
set_option maxHeartbeats 4000000 in
theorem spec_l01InInts.con {K : Kn} [KOk K] {k : Nat} {v0 : (List Int)} {v1 : Int} {r : Bool} (h : spec_l01InInts.f k v0 v1 = some r) : Con K Tryz.prog 71 [.p (.lst false (List.map (irow .i64) v0)), .p (.int .i64 v1)] [] (.p (.bool r)) [] := by
 cases k with
 | zero => exact absurd h (by simp [spec_l01InInts.f])
 | succ k =>
 rw [spec_l01InInts.f] at h
 refine con_intro 18 [] Tryz.func71 (by kernel_rfl) rfl rfl (by kernel_rfl) fun ι0 w0 hk0 => ?_
 revert h
 refine go 6 ?_
 refine fun h => good_loop (fun n st => n ≤ k ∧ ∃ (v2 : _), st = ⟨[(0, .p (.lst false (List.map (irow .i64) v0))), (1, .p (.int .i64 v1)), (5, .p (.int .i64 v2))], []⟩ ∧ spec_l01InInts.l0 n v0 v1 v2 = some r) k ⟨_, ⟨Nat.le_refl _, _, rfl, h⟩, frle_, memle_⟩ ?_
 clear h
 rintro n _ ⟨hkl0, v2, rfl, h⟩ hl0
 cases n with
 | zero => exact absurd h (by simp [spec_l01InInts.l0])
 | succ kl0 =>
 rw [spec_l01InInts.l0] at h
 revert h
 refine bif_e (fun c1 => ?_) (fun c1 => ?_)
 ·refine bind_e (fun v3 e3 => ?_)
  replace e3 := nf_ (ix_en (irow .i64) e3)
  refine bif_e (fun c2 => ?_) (fun c2 => ?_)
  ·refine go 12 ?_
   refine ret_e (fun hr_ => ?_)
   subst hr_
   exact ret_ Tryz.func71 []
  ·refine go 13 ?_
   exact fun h => good_again hl0 (by omega) ⟨_, ⟨by omega, _, rfl, h⟩, frle_, memle_⟩
 ·refine go 7 ?_
  refine ret_e (fun hr_ => ?_)
  subst hr_
  exact ret_ Tryz.func71 []
mutual
def spec_FlowFault.j0 : Nat → Int → Int → ByteArray → (List Int) → Int → Int → S31 → S45 → (List Int) → Option (Int)
 | 0, _, _, _, _, _, _, _, _, _ => none
 | k + 1, v1, v2, v3, v8, v9, v12, v0, v4, v10 => ((ix v4.f2 v9).bind fun v23 => ((inr v12 v8.length).bind fun v24 => ((v10[(Int.toNat v12)]?).bind fun v25 => (spec_FlowFault.l0 k v1 v2 v3 v8 (IntKind.i64.wrap (v9 + 1)) v0 v4 (setr v10 (Int.toNat v12) v23.f1)))))
def spec_FlowFault.j1 : Nat → Int → Int → ByteArray → (List Int) → Int → S31 → S45 → (List Int) → Option (Int)
 | 0, _, _, _, _, _, _, _, _ => none
 | k + 1, v1, v2, v3, v8, v26, v0, v4, v10 => (spec_FlowFault.l1 k v1 v2 v3 v8 (IntKind.i64.wrap (v26 + 1)) v0 v4 v10)
def spec_FlowFault.l2 : Nat → Int → Int → ByteArray → (List Int) → Int → S94 → Int → Int → S31 → S45 → (List Int) → Option (Int)
 | 0, _, _, _, _, _, _, _, _, _, _, _ => none
 | k + 1, v1, v2, v3, v8, v26, v27, v28, v29, v0, v4, v10 => (bif decide (v29 < (v8.length : Int)) then ((inr v29 v8.length).bind fun v30 => ((v10[(Int.toNat v29)]?).bind fun v31 => ((ix v0.f1 v29).bind fun v32 => ((spec_l01Bool.f k (v32.f2 == v27.f0)).bind fun v33 => ((spec_l01Bool.f k (v32.f3 == v27.f0)).bind fun v35 => (spec_FlowFault.l2 k v1 v2 v3 v8 v26 v27 (IntKind.i64.wrap (v28 + (IntKind.i64.wrap (v31 * (IntKind.i64.wrap (v33 - v35)))))) (IntKind.i64.wrap (v29 + 1)) v0 v4 v10)))))) else (bif (v27.f0 == v1) then (bif (v28 == v4.f1) then (bif (v27.f0 == v2) then (bif (v28 == (IntKind.i64.wrap (0 - v4.f1))) then (spec_FlowFault.j1 k v1 v2 v3 v8 v26 v0 v4 v10) else (some 1)) else (spec_FlowFault.j1 k v1 v2 v3 v8 v26 v0 v4 v10)) else (some 1)) else (bif (v27.f0 == v2) then (bif (v28 == (IntKind.i64.wrap (0 - v4.f1))) then (spec_FlowFault.j1 k v1 v2 v3 v8 v26 v0 v4 v10) else (some 1)) else (bif (v28 == 0) then (spec_FlowFault.j1 k v1 v2 v3 v8 v26 v0 v4 v10) else (some 1)))))
def spec_FlowFault.l3 : Nat → ByteArray → (List Int) → Int → S31 → S45 → (List Int) → Option (Int)
 | 0, _, _, _, _, _, _ => none
 | k + 1, v3, v8, v39, v0, v4, v10 => (bif decide (v39 < (v8.length : Int)) then ((ix v0.f1 v39).bind fun v40 => ((spec_l01InInts.f k v4.f3 v40.f2).bind fun v41 => ((spec_l01InInts.f k v4.f3 v40.f3).bind fun v43 => (bif v41 then (bif v43 then (spec_FlowFault.l3 k v3 v8 (IntKind.i64.wrap (v39 + 1)) v0 v4 v10) else ((inr v39 v8.length).bind fun v44 => ((v10[(Int.toNat v39)]?).bind fun v45 => ((spec_l17Cap.f k v40 v3).bind fun v47 => (bif (v45 == v47) then (spec_FlowFault.l3 k v3 v8 (IntKind.i64.wrap (v39 + 1)) v0 v4 v10) else (some 1)))))) else (bif v43 then ((inr v39 v8.length).bind fun v48 => ((v10[(Int.toNat v39)]?).bind fun v49 => (bif (v49 == 0) then (spec_FlowFault.l3 k v3 v8 (IntKind.i64.wrap (v39 + 1)) v0 v4 v10) else (some 1)))) else (spec_FlowFault.l3 k v3 v8 (IntKind.i64.wrap (v39 + 1)) v0 v4 v10)))))) else (some 0))
def spec_FlowFault.l1 : Nat → Int → Int → ByteArray → (List Int) → Int → S31 → S45 → (List Int) → Option (Int)
 | 0, _, _, _, _, _, _, _, _ => none
 | k + 1, v1, v2, v3, v8, v26, v0, v4, v10 => (bif decide (v26 < (v0.f0.length : Int)) then ((ix v0.f0 v26).bind fun v27 => (spec_FlowFault.l2 k v1 v2 v3 v8 v26 v27 0 0 v0 v4 v10)) else ((spec_l17Nodes.f k v0 v4.f3).bind fun v36 => (bif v36 then ((spec_l01InInts.f k v4.f3 v1).bind fun v37 => (bif v37 then ((spec_l01InInts.f k v4.f3 v2).bind fun v38 => (bif v38 then (some 1) else (spec_FlowFault.l3 k v3 v8 0 v0 v4 v10))) else (some 1))) else (some 1))))
def spec_FlowFault.l0 : Nat → Int → Int → ByteArray → (List Int) → Int → S31 → S45 → (List Int) → Option (Int)
 | 0, _, _, _, _, _, _, _, _ => none
 | k + 1, v1, v2, v3, v8, v9, v0, v4, v10 => (bif decide (v9 < (v4.f2.length : Int)) then ((ix v4.f2 v9).bind fun v11 => ((spec_l02Edge.f k v0 v11.f0).bind fun v12 => (bif decide (v12 < 0) then (some 1) else (bif decide (0 < v9) then ((ix v4.f2 (IntKind.i64.wrap (v9 - 1))).bind fun v13 => (bif decide (v11.f0 ≤ v13.f0) then (some 1) else (bif decide (v11.f1 < 1) then (some 1) else ((ix v0.f1 v12).bind fun v17 => ((spec_l17Cap.f k v17 v3).bind fun v18 => (bif decide (v18 < v11.f1) then (some 1) else (spec_FlowFault.j0 k v1 v2 v3 v8 v9 v12 v0 v4 v10))))))) else (bif decide (v11.f1 < 1) then (some 1) else ((ix v0.f1 v12).bind fun v21 => ((spec_l17Cap.f k v21 v3).bind fun v22 => (bif decide (v22 < v11.f1) then (some 1) else (spec_FlowFault.j0 k v1 v2 v3 v8 v9 v12 v0 v4 v10))))))))) else (spec_FlowFault.l1 k v1 v2 v3 v8 0 v0 v4 v10))
def spec_FlowFault.f : Nat → S31 → Int → Int → ByteArray → S45 → Option (Int)
 | 0, _, _, _, _, _ => none
 | k + 1, v0, v1, v2, v3, v4 => (bif decide (65536 < (v3.size : Int)) then (some 1) else ((spec_GraphFault.f k v0).bind fun v5 => (bif (v5 == 0) then ((spec_l02Node.f k v0 v1).bind fun v6 => (bif decide (v6 < 0) then (some 1) else ((spec_l02Node.f k v0 v2).bind fun v7 => (bif decide (v7 < 0) then (some 1) else (bif (v1 == v2) then (some 1) else (bif (v4.f0 == 0) then ((mks 0 (v0.f1.length : Int) (v0.f1.length : Int)).bind fun v8 => (spec_FlowFault.l0 k v1 v2 v3 v8 0 v0 v4 v8)) else (some 1))))))) else (some 1))))
end
set_option maxRecDepth 100000 in
set_option maxHeartbeats 4000000 in
theorem spec_FlowFault.con {K : Kn} [KOk K] {k : Nat} {v0 : S31} {v1 : Int} {v2 : Int} {v3 : ByteArray} {v4 : S45} {r : Int} (h : spec_FlowFault.f k v0 v1 v2 v3 v4 = some r) : Con K Tryz.prog 21 [.agg [.p (.lst false (List.map en94 v0.f0)), .p (.lst false (List.map en110 v0.f1))], .p (.int .i64 v1), .p (.int .i64 v2), .p (.str v3), .agg [.p (.int .i64 v4.f0), .p (.int .i64 v4.f1), .p (.lst false (List.map en107 v4.f2)), .p (.lst false (List.map (irow .i64) v4.f3))]] [] (.p (.int .i64 r)) [] := by
 cases k with
 | zero => exact absurd h (by simp [spec_FlowFault.f])
 | succ k =>
 rw [spec_FlowFault.f] at h
 refine con_intro 281 [] Tryz.func21 (by kernel_rfl) rfl rfl (by kernel_rfl) fun ι0 w0 hk0 => ?_
 revert h
 refine bif_e (fun c1 => ?_) (fun c1 => ?_)
 ·refine go 8 ?_
  refine ret_e (fun hr_ => ?_)
  subst hr_
  exact ret_ Tryz.func21 []
 ·refine go 4 ?_
  refine grs ?_
  refine gr_run ?_
  refine bind_e (fun v5 e5 => gr_call [] (spec_GraphFault.con e5) ?_)
  clear e5
  refine bif_e (fun c2 => ?_) (fun c2 => ?_)
  ·refine gr_run ?_
   refine bind_e (fun v6 e6 => gr_call [] (spec_l02Node.con e6) ?_)
   clear e6
   refine bif_e (fun c3 => ?_) (fun c3 => ?_)
   ·refine gr_run ?_
    refine gr_done ?_
    refine go 3 ?_
    refine ret_e (fun hr_ => ?_)
    subst hr_
    exact ret_ Tryz.func21 []
   ·refine gr_run ?_
    refine bind_e (fun v7 e7 => gr_call [] (spec_l02Node.con e7) ?_)
    clear e7
    refine bif_e (fun c4 => ?_) (fun c4 => ?_)
    ·refine gr_run ?_
     refine gr_done ?_
     refine go 3 ?_
     refine ret_e (fun hr_ => ?_)
     subst hr_
     exact ret_ Tryz.func21 []
    ·refine bif_e (fun c5 => ?_) (fun c5 => ?_)
     ·refine gr_run ?_
      refine gr_done ?_
      refine go 3 ?_
      refine ret_e (fun hr_ => ?_)
      subst hr_
      exact ret_ Tryz.func21 []
     ·refine gr_run ?_
      refine gr_done ?_
      refine bif_e (fun c6 => ?_) (fun c6 => ?_)
      ·refine bind_e (fun v8 e8 => ?_)
       replace e8 := nf_ (mks_en (irow .i64) e8)
       refine go 8 ?_
       refine fun h => good_loop (fun n st => n ≤ k ∧ ∃ (v9 : _) (v10 : _), st = ⟨[(1, .p (.int .i64 v1)), (2, .p (.int .i64 v2)), (3, .p (.str v3)), (5, .ptr 5 1 0), (9, .ptr 9 1 0), (11, .buf 54 1 0 v8.length), (12, .p (.int .i64 v9))], [(5, (1, .cells [.p (.lst false (List.map en94 v0.f0)), .p (.lst false (List.map en110 v0.f1))])), (9, (1, .cells [.p (.int .i64 v4.f0), .p (.int .i64 v4.f1), .p (.lst false (List.map en107 v4.f2)), .p (.lst false (List.map (irow .i64) v4.f3))])), (54, (1, .buf 1 (List.map (irow .i64) v10)))]⟩ ∧ spec_FlowFault.l0 n v1 v2 v3 v8 v9 v0 v4 v10 = some r) k ⟨_, ⟨Nat.le_refl _, _, _, rfl, h⟩, frle_, memle_⟩ ?_
       clear c1 c2 c3 c4 c5 c6 e8
       clear h
       rintro n _ ⟨hkl0, v9, v10, rfl, h⟩ hl0
       cases n with
       | zero => exact absurd h (by simp [spec_FlowFault.l0])
       | succ kl0 =>
       rw [spec_FlowFault.l0] at h
       revert h
       refine bif_e (fun c7 => ?_) (fun c7 => ?_)
       ·refine bind_e (fun v11 e11 => ?_)
        replace e11 := nf_ (ix_en en107 e11)
        refine go 8 ?_
        refine grs ?_
        refine gr_run ?_
        refine bind_e (fun v12 e12 => gr_call [] (spec_l02Edge.con e12) ?_)
        clear e12
        refine gr_run ?_
        refine gr_done ?_
        refine go 2 ?_
        refine good_cut_f (fun st => ∃ (q_ : Nat), q_ ≤ kl0 ∧ st = ⟨[(1, .p (.int .i64 v1)), (2, .p (.int .i64 v2)), (3, .p (.str v3)), (5, .ptr 5 1 0), (9, .ptr 9 1 0), (11, .buf 54 1 0 v8.length), (12, .p (.int .i64 v9)), (13, .p (.int .i64 v12))], [(5, (1, .cells [.p (.lst false (List.map en94 v0.f0)), .p (.lst false (List.map en110 v0.f1))])), (9, (1, .cells [.p (.int .i64 v4.f0), .p (.int .i64 v4.f1), .p (.lst false (List.map en107 v4.f2)), .p (.lst false (List.map (irow .i64) v4.f3))])), (54, (1, .buf 1 (List.map (irow .i64) v10)))]⟩ ∧ spec_FlowFault.j0 q_ v1 v2 v3 v8 v9 v12 v0 v4 v10 = some r) ?_ (fun hj0 => ?_)
        ·clear c7 e11
         rintro _ ⟨q_, hqj0, rfl, h⟩
         cases q_ with
         | zero => exact absurd h (by simp [spec_FlowFault.j0])
         | succ kj0 =>
         rw [spec_FlowFault.j0] at h
         revert h
         refine bind_e (fun v23 e23 => ?_)
         replace e23 := nf_ (ix_en en107 e23)
         refine bind_e (fun v24 e24 => ?_)
         refine bind_e (fun v25 e25 => ?_)
         replace e25 := nf_ (gx_en (irow .i64) e25)
         refine go 4 ?_
         exact fun h => good_again hl0 (by omega) ⟨_, ⟨by omega, _, _, rfl, h⟩, frle_, memle_⟩
        ·refine bif_e (fun c8 => ?_) (fun c8 => ?_)
         ·refine grs ?_
          refine gr_run ?_
          refine gr_done ?_
          refine go 3 ?_
          refine ret_e (fun hr_ => ?_)
          subst hr_
          exact ret_ Tryz.func21 []
         ·refine bif_e (fun c9 => ?_) (fun c9 => ?_)
          ·refine bind_e (fun v13 e13 => ?_)
           replace e13 := nf_ (ix_en en107 e13)
           refine bif_e (fun c10 => ?_) (fun c10 => ?_)
           ·refine grs ?_
            refine gr_run ?_
            refine gr_done ?_
            refine go 3 ?_
            refine ret_e (fun hr_ => ?_)
            subst hr_
            exact ret_ Tryz.func21 []
           ·refine bif_e (fun c11 => ?_) (fun c11 => ?_)
            ·refine grs ?_
             refine gr_run ?_
             refine gr_done ?_
             refine go 3 ?_
             refine ret_e (fun hr_ => ?_)
             subst hr_
             exact ret_ Tryz.func21 []
            ·refine bind_e (fun v17 e17 => ?_)
             replace e17 := nf_ (ix_en en110 e17)
             refine grs ?_
             refine gr_run ?_
             refine bind_e (fun v18 e18 => gr_call [] (spec_l17Cap.con e18) ?_)
             clear e18
             refine gr_run ?_
             refine gr_done ?_
             refine bif_e (fun c12 => ?_) (fun c12 => ?_)
             ·refine go 3 ?_
              refine ret_e (fun hr_ => ?_)
              subst hr_
              exact ret_ Tryz.func21 []
             ·refine go 1 ?_
              exact fun h => good_jump hj0 ⟨_, ⟨_, by omega, rfl, h⟩, frle_, memle_⟩
          ·refine bif_e (fun c13 => ?_) (fun c13 => ?_)
           ·refine grs ?_
            refine gr_run ?_
            refine gr_done ?_
            refine go 3 ?_
            refine ret_e (fun hr_ => ?_)
            subst hr_
            exact ret_ Tryz.func21 []
           ·refine bind_e (fun v21 e21 => ?_)
            replace e21 := nf_ (ix_en en110 e21)
            refine grs ?_
            refine gr_run ?_
            refine bind_e (fun v22 e22 => gr_call [] (spec_l17Cap.con e22) ?_)
            clear e22
            refine gr_run ?_
            refine gr_done ?_
            refine bif_e (fun c14 => ?_) (fun c14 => ?_)
            ·refine go 3 ?_
             refine ret_e (fun hr_ => ?_)
             subst hr_
             exact ret_ Tryz.func21 []
            ·refine go 1 ?_
             exact fun h => good_jump hj0 ⟨_, ⟨_, by omega, rfl, h⟩, frle_, memle_⟩
       ·refine go 9 ?_
        refine fun h => good_loop (fun n st => n ≤ kl0 ∧ ∃ (v26 : _), st = ⟨[(1, .p (.int .i64 v1)), (2, .p (.int .i64 v2)), (3, .p (.str v3)), (5, .ptr 5 1 0), (9, .ptr 9 1 0), (11, .buf 54 1 0 v8.length), (14, .p (.int .i64 v26))], [(5, (1, .cells [.p (.lst false (List.map en94 v0.f0)), .p (.lst false (List.map en110 v0.f1))])), (9, (1, .cells [.p (.int .i64 v4.f0), .p (.int .i64 v4.f1), .p (.lst false (List.map en107 v4.f2)), .p (.lst false (List.map (irow .i64) v4.f3))])), (54, (1, .buf 1 (List.map (irow .i64) v10)))]⟩ ∧ spec_FlowFault.l1 n v1 v2 v3 v8 v26 v0 v4 v10 = some r) kl0 ⟨_, ⟨Nat.le_refl _, _, rfl, h⟩, frle_, memle_⟩ ?_
        clear c7
        clear h
        rintro n _ ⟨hkl1, v26, rfl, h⟩ hl1
        cases n with
        | zero => exact absurd h (by simp [spec_FlowFault.l1])
        | succ kl1 =>
        rw [spec_FlowFault.l1] at h
        revert h
        refine bif_e (fun c15 => ?_) (fun c15 => ?_)
        ·refine bind_e (fun v27 e27 => ?_)
         replace e27 := nf_ (ix_en en94 e27)
         refine go 15 ?_
         refine fun h => good_loop (fun n st => n ≤ kl1 ∧ ∃ (v28 : _) (v29 : _), st = ⟨[(1, .p (.int .i64 v1)), (2, .p (.int .i64 v2)), (3, .p (.str v3)), (5, .ptr 5 1 0), (9, .ptr 9 1 0), (11, .buf 54 1 0 v8.length), (14, .p (.int .i64 v26)), (15, .p (.int .i64 v27.f0)), (16, .p (.int .i64 v28)), (17, .p (.int .i64 v29))], [(5, (1, .cells [.p (.lst false (List.map en94 v0.f0)), .p (.lst false (List.map en110 v0.f1))])), (9, (1, .cells [.p (.int .i64 v4.f0), .p (.int .i64 v4.f1), .p (.lst false (List.map en107 v4.f2)), .p (.lst false (List.map (irow .i64) v4.f3))])), (54, (1, .buf 1 (List.map (irow .i64) v10)))]⟩ ∧ spec_FlowFault.l2 n v1 v2 v3 v8 v26 v27 v28 v29 v0 v4 v10 = some r) kl1 ⟨_, ⟨Nat.le_refl _, _, _, rfl, h⟩, frle_, memle_⟩ ?_
         clear c15 e27
         clear h
         rintro n _ ⟨hkl2, v28, v29, rfl, h⟩ hl2
         cases n with
         | zero => exact absurd h (by simp [spec_FlowFault.l2])
         | succ kl2 =>
         rw [spec_FlowFault.l2] at h
         revert h
         refine bif_e (fun c16 => ?_) (fun c16 => ?_)
         ·refine bind_e (fun v30 e30 => ?_)
          refine bind_e (fun v31 e31 => ?_)
          replace e31 := nf_ (gx_en (irow .i64) e31)
          refine bind_e (fun v32 e32 => ?_)
          replace e32 := nf_ (ix_en en110 e32)
          refine go 7 ?_
          refine grs ?_
          refine gr_run ?_
          refine bind_e (fun v33 e33 => gr_call [] (spec_l01Bool.con e33) ?_)
          clear e33
          refine gr_run ?_
          refine bind_e (fun v35 e35 => gr_call [] (spec_l01Bool.con e35) ?_)
          clear e35
          refine gr_run ?_
          refine gr_done ?_
          refine go 2 ?_
          exact fun h => good_again hl2 (by omega) ⟨_, ⟨by omega, _, _, rfl, h⟩, frle_, memle_⟩
         ·refine go 6 ?_
          refine good_cut_f (fun st => ∃ (q_ : Nat), q_ ≤ kl2 ∧ st = ⟨[(1, .p (.int .i64 v1)), (2, .p (.int .i64 v2)), (3, .p (.str v3)), (5, .ptr 5 1 0), (9, .ptr 9 1 0), (11, .buf 54 1 0 v8.length), (14, .p (.int .i64 v26))], [(5, (1, .cells [.p (.lst false (List.map en94 v0.f0)), .p (.lst false (List.map en110 v0.f1))])), (9, (1, .cells [.p (.int .i64 v4.f0), .p (.int .i64 v4.f1), .p (.lst false (List.map en107 v4.f2)), .p (.lst false (List.map (irow .i64) v4.f3))])), (54, (1, .buf 1 (List.map (irow .i64) v10)))]⟩ ∧ spec_FlowFault.j1 q_ v1 v2 v3 v8 v26 v0 v4 v10 = some r) ?_ (fun hj1 => ?_)
          ·clear c16
           rintro _ ⟨q_, hqj1, rfl, h⟩
           cases q_ with
           | zero => exact absurd h (by simp [spec_FlowFault.j1])
           | succ kj1 =>
           rw [spec_FlowFault.j1] at h
           revert h
           refine go 3 ?_
           exact fun h => good_again hl1 (by omega) ⟨_, ⟨by omega, _, rfl, h⟩, frle_, memle_⟩
          ·refine bif_e (fun c17 => ?_) (fun c17 => ?_)
           ·refine bif_e (fun c18 => ?_) (fun c18 => ?_)
            ·refine bif_e (fun c19 => ?_) (fun c19 => ?_)
             ·refine bif_e (fun c20 => ?_) (fun c20 => ?_)
              ·refine go 2 ?_
               exact fun h => good_jump hj1 ⟨_, ⟨_, by omega, rfl, h⟩, frle_, memle_⟩
              ·refine go 4 ?_
               refine ret_e (fun hr_ => ?_)
               subst hr_
               exact ret_ Tryz.func21 []
             ·refine go 2 ?_
              exact fun h => good_jump hj1 ⟨_, ⟨_, by omega, rfl, h⟩, frle_, memle_⟩
            ·refine go 4 ?_
             refine ret_e (fun hr_ => ?_)
             subst hr_
             exact ret_ Tryz.func21 []
           ·refine bif_e (fun c21 => ?_) (fun c21 => ?_)
            ·refine bif_e (fun c22 => ?_) (fun c22 => ?_)
             ·refine go 2 ?_
              exact fun h => good_jump hj1 ⟨_, ⟨_, by omega, rfl, h⟩, frle_, memle_⟩
             ·refine go 4 ?_
              refine ret_e (fun hr_ => ?_)
              subst hr_
              exact ret_ Tryz.func21 []
            ·refine bif_e (fun c23 => ?_) (fun c23 => ?_)
             ·refine go 2 ?_
              exact fun h => good_jump hj1 ⟨_, ⟨_, by omega, rfl, h⟩, frle_, memle_⟩
             ·refine go 4 ?_
              refine ret_e (fun hr_ => ?_)
              subst hr_
              exact ret_ Tryz.func21 []
        ·refine go 7 ?_
         refine grs ?_
         refine gr_run ?_
         refine bind_e (fun v36 e36 => gr_call [] (spec_l17Nodes.con e36) ?_)
         clear e36
         refine bif_e (fun c24 => ?_) (fun c24 => ?_)
         ·refine gr_run ?_
          refine bind_e (fun v37 e37 => gr_call [] (spec_l01InInts.con e37) ?_)
          clear e37
          refine bif_e (fun c25 => ?_) (fun c25 => ?_)
          ·refine gr_run ?_
           refine bind_e (fun v38 e38 => gr_call [] (spec_l01InInts.con e38) ?_)
           clear e38
           refine gr_run ?_
           refine gr_done ?_
           refine bif_e (fun c26 => ?_) (fun c26 => ?_)
           ·refine go 3 ?_
            refine ret_e (fun hr_ => ?_)
            subst hr_
            exact ret_ Tryz.func21 []
           ·refine go 6 ?_
            refine fun h => good_loop (fun n st => n ≤ kl1 ∧ ∃ (v39 : _), st = ⟨[(3, .p (.str v3)), (5, .ptr 5 1 0), (9, .ptr 9 1 0), (11, .buf 54 1 0 v8.length), (18, .p (.int .i64 v39))], [(5, (1, .cells [.p (.lst false (List.map en94 v0.f0)), .p (.lst false (List.map en110 v0.f1))])), (9, (1, .cells [.p (.int .i64 v4.f0), .p (.int .i64 v4.f1), .p (.lst false (List.map en107 v4.f2)), .p (.lst false (List.map (irow .i64) v4.f3))])), (54, (1, .buf 1 (List.map (irow .i64) v10)))]⟩ ∧ spec_FlowFault.l3 n v3 v8 v39 v0 v4 v10 = some r) kl1 ⟨_, ⟨Nat.le_refl _, _, rfl, h⟩, frle_, memle_⟩ ?_
            clear c15 c24 c25 c26
            clear h
            rintro n _ ⟨hkl3, v39, rfl, h⟩ hl3
            cases n with
            | zero => exact absurd h (by simp [spec_FlowFault.l3])
            | succ kl3 =>
            rw [spec_FlowFault.l3] at h
            revert h
            refine bif_e (fun c27 => ?_) (fun c27 => ?_)
            ·refine bind_e (fun v40 e40 => ?_)
             replace e40 := nf_ (ix_en en110 e40)
             refine go 8 ?_
             refine grs ?_
             refine gr_run ?_
             refine bind_e (fun v41 e41 => gr_call [] (spec_l01InInts.con e41) ?_)
             clear e41
             refine gr_run ?_
             refine gr_done ?_
             refine go 1 ?_
             refine grs ?_
             refine gr_run ?_
             refine bind_e (fun v43 e43 => gr_call [] (spec_l01InInts.con e43) ?_)
             clear e43
             refine gr_run ?_
             refine gr_done ?_
             refine bif_e (fun c28 => ?_) (fun c28 => ?_)
             ·refine bif_e (fun c29 => ?_) (fun c29 => ?_)
              ·refine go 1 ?_
               refine grs ?_
               refine gr_run ?_
               refine gr_done ?_
               refine go 4 ?_
               exact fun h => good_again hl3 (by omega) ⟨_, ⟨by omega, _, rfl, h⟩, frle_, memle_⟩
              ·refine bind_e (fun v44 e44 => ?_)
               refine bind_e (fun v45 e45 => ?_)
               replace e45 := nf_ (gx_en (irow .i64) e45)
               refine go 1 ?_
               refine grs ?_
               refine gr_run ?_
               refine bind_e (fun v47 e47 => gr_call [] (spec_l17Cap.con e47) ?_)
               clear e47
               refine bif_e (fun c30 => ?_) (fun c30 => ?_)
               ·refine gr_run ?_
                refine gr_done ?_
                refine go 4 ?_
                exact fun h => good_again hl3 (by omega) ⟨_, ⟨by omega, _, rfl, h⟩, frle_, memle_⟩
               ·refine gr_run ?_
                refine gr_done ?_
                refine go 3 ?_
                refine ret_e (fun hr_ => ?_)
                subst hr_
                exact ret_ Tryz.func21 []
             ·refine bif_e (fun c31 => ?_) (fun c31 => ?_)
              ·refine bind_e (fun v48 e48 => ?_)
               refine bind_e (fun v49 e49 => ?_)
               replace e49 := nf_ (gx_en (irow .i64) e49)
               refine go 1 ?_
               refine grs ?_
               refine gr_run ?_
               refine gr_done ?_
               refine bif_e (fun c32 => ?_) (fun c32 => ?_)
               ·refine go 4 ?_
                exact fun h => good_again hl3 (by omega) ⟨_, ⟨by omega, _, rfl, h⟩, frle_, memle_⟩
               ·refine go 3 ?_
                refine ret_e (fun hr_ => ?_)
                subst hr_
                exact ret_ Tryz.func21 []
              ·refine go 1 ?_
               refine grs ?_
               refine gr_run ?_
               refine gr_done ?_
               refine go 4 ?_
               exact fun h => good_again hl3 (by omega) ⟨_, ⟨by omega, _, rfl, h⟩, frle_, memle_⟩
            ·refine go 7 ?_
             refine ret_e (fun hr_ => ?_)
             subst hr_
             exact ret_ Tryz.func21 []
          ·refine gr_run ?_
           refine gr_done ?_
           refine go 3 ?_
           refine ret_e (fun hr_ => ?_)
           subst hr_
           exact ret_ Tryz.func21 []
         ·refine gr_run ?_
          refine gr_done ?_
          refine go 3 ?_
          refine ret_e (fun hr_ => ?_)
          subst hr_
          exact ret_ Tryz.func21 []
      ·refine go 3 ?_
       refine ret_e (fun hr_ => ?_)
       subst hr_
       exact ret_ Tryz.func21 []
  ·refine gr_run ?_
   refine gr_done ?_
   refine go 3 ?_
   refine ret_e (fun hr_ => ?_)
   subst hr_
   exact ret_ Tryz.func21 []
end Go.Ab
