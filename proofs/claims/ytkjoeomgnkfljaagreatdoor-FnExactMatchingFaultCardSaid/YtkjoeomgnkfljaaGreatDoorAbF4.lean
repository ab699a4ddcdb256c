/- What the functions compute, and their contracts, part 4. No condition beyond KOk. -/
import Derived.Test.YtkjoeomgnkfljaaGreatDoorAbX
import Derived.Test.YtkjoeomgnkfljaaGreatDoorAbF2
import Derived.Test.YtkjoeomgnkfljaaGreatDoorAbF3
namespace Go.Ab
open Go.Proofs
set_option linter.unusedVariables false
set_option linter.unusedSimpArgs false
def spec_l01Read.f (k : Nat) (v0 : ByteArray) : Option (S157) := (bif decide (2000 < (v0.size : Int)) then (some (⟨(-1), 0, 0, (⟨#[]⟩ : ByteArray), ([] : (List S157)), ([] : (List ByteArray))⟩ : S157)) else ((spec_l01Reader_value.f k 0 (⟨v0, 0, false⟩ : S231)).bind fun v1 => (bif v1.2.f2 then (some (⟨(-1), 0, 0, (⟨#[]⟩ : ByteArray), ([] : (List S157)), ([] : (List ByteArray))⟩ : S157)) else (bif (v1.2.f1 == (v0.size : Int)) then (some v1.1) else (some (⟨(-1), 0, 0, (⟨#[]⟩ : ByteArray), ([] : (List S157)), ([] : (List ByteArray))⟩ : S157))))))
set_option maxRecDepth 100000 in
set_option maxHeartbeats 4000000 in
theorem spec_l01Read.con {K : Kn} [KOk K] {k : Nat} {v0 : ByteArray} {r : S157} (h : spec_l01Read.f k v0 = some r) : Con K Tryz.prog 93 [.p (.str v0)] [] (.agg [.p (.int .i64 r.f0), .p (.int .i64 r.f1), .p (.int .i64 r.f2), .p (.str r.f3), .p (.lst false (List.map en157 r.f4)), .p (.lst false (List.map srw r.f5))]) [] := by
 rw [spec_l01Read.f] at h
 refine con_intro 29 [] Tryz.func93 (by kernel_rfl) rfl rfl (by kernel_rfl) fun ι0 w0 hk0 => ?_
 revert h
 refine bif_e (fun c1 => ?_) (fun c1 => ?_)
 ·refine go 8 ?_
  refine ret_e (fun hr_ => ?_)
  subst hr_
  exact ret_ Tryz.func93 []
 ·refine go 10 ?_
  refine grs ?_
  refine gr_run ?_
  refine bind_e (fun v1 e1 => gr_call [(1000, (0, 11, 1))] (spec_l01Reader_value.con e1) ?_)
  clear e1
  refine gr_run ?_
  refine gr_done ?_
  refine bif_e (fun c2 => ?_) (fun c2 => ?_)
  ·refine go 6 ?_
   refine ret_e (fun hr_ => ?_)
   subst hr_
   exact ret_ Tryz.func93 []
  ·refine bif_e (fun c3 => ?_) (fun c3 => ?_)
   ·refine go 7 ?_
    refine ret_e (fun hr_ => ?_)
    subst hr_
    exact ret_ Tryz.func93 []
   ·refine go 6 ?_
    refine ret_e (fun hr_ => ?_)
    subst hr_
    exact ret_ Tryz.func93 []
mutual
def spec_l02Plain.l0 : Nat → Int → S157 → Option (Bool)
 | 0, _, _ => none
 | k + 1, v1, v0 => (bif decide (v1 < (v0.f4.length : Int)) then ((ix v0.f4 v1).bind fun v2 => (bif (v2.f0 == 0) then (spec_l02Plain.l0 k (IntKind.i64.wrap (v1 + 1)) v0) else ((spec_l02Plain.f k v2).bind fun v4 => (bif v4 then (spec_l02Plain.l0 k (IntKind.i64.wrap (v1 + 1)) v0) else (some false))))) else (some true))
def spec_l02Plain.f : Nat → S157 → Option (Bool)
 | 0, _ => none
 | k + 1, v0 => (bif decide (v0.f0 < 0) then (some false) else (bif decide (8 ≤ v0.f0) then (some false) else (spec_l02Plain.l0 k 0 v0)))
end
def spec_l02Plain.C (K : Kn) (k : Nat) : Prop := ∀ (v0 : S157) (r : Bool), spec_l02Plain.f k v0 = some r → Con K Tryz.prog 219 [.agg [.p (.int .i64 v0.f0), .p (.int .i64 v0.f1), .p (.int .i64 v0.f2), .p (.str v0.f3), .p (.lst false (List.map en157 v0.f4)), .p (.lst false (List.map srw v0.f5))]] [] (.p (.bool r)) []
set_option maxRecDepth 100000 in
set_option maxHeartbeats 4000000 in
theorem spec_l02Plain.con1 {K : Kn} [KOk K] (k : Nat) (spec_l02Plain_ih : ∀ m, m < k → spec_l02Plain.C K m) : spec_l02Plain.C K k := by
 intro v0 r h
 cases k with
 | zero => exact absurd h (by simp [spec_l02Plain.f])
 | succ k =>
 rw [spec_l02Plain.f] at h
 refine con_intro 35 [] Tryz.func219 (by kernel_rfl) rfl rfl (by kernel_rfl) fun ι0 w0 hk0 => ?_
 revert h
 refine bif_e (fun c1 => ?_) (fun c1 => ?_)
 ·refine go 8 ?_
  refine ret_e (fun hr_ => ?_)
  subst hr_
  exact ret_ Tryz.func219 []
 ·refine bif_e (fun c2 => ?_) (fun c2 => ?_)
  ·refine go 8 ?_
   refine ret_e (fun hr_ => ?_)
   subst hr_
   exact ret_ Tryz.func219 []
  ·refine go 11 ?_
   refine fun h => good_loop (fun n st => n ≤ k ∧ ∃ (v1 : _), st = ⟨[(1, .ptr 1 1 0), (3, .p (.int .i64 v1))], [(1, (1, .cells [.p (.int .i64 v0.f0), .p (.int .i64 v0.f1), .p (.int .i64 v0.f2), .p (.str v0.f3), .p (.lst false (List.map en157 v0.f4)), .p (.lst false (List.map srw v0.f5))]))]⟩ ∧ spec_l02Plain.l0 n v1 v0 = some r) k ⟨_, ⟨Nat.le_refl _, _, rfl, h⟩, frle_, memle_⟩ ?_
   clear c1 c2
   clear h
   rintro n _ ⟨hkl0, v1, rfl, h⟩ hl0
   cases n with
   | zero => exact absurd h (by simp [spec_l02Plain.l0])
   | succ kl0 =>
   rw [spec_l02Plain.l0] at h
   revert h
   refine bif_e (fun c3 => ?_) (fun c3 => ?_)
   ·refine bind_e (fun v2 e2 => ?_)
    replace e2 := nf_ (ix_en en157 e2)
    refine bif_e (fun c4 => ?_) (fun c4 => ?_)
    ·refine go 13 ?_
     exact fun h => good_again hl0 (by omega) ⟨_, ⟨by omega, _, rfl, h⟩, frle_, memle_⟩
    ·refine go 8 ?_
     refine grs ?_
     refine gr_run ?_
     refine bind_e (fun v4 e4 => gr_call [] (spec_l02Plain_ih _ (by omega) _ _ e4) ?_)
     clear e4
     refine gr_run ?_
     refine gr_done ?_
     refine bif_e (fun c5 => ?_) (fun c5 => ?_)
     ·refine go 4 ?_
      exact fun h => good_again hl0 (by omega) ⟨_, ⟨by omega, _, rfl, h⟩, frle_, memle_⟩
     ·refine go 3 ?_
      refine ret_e (fun hr_ => ?_)
      subst hr_
      exact ret_ Tryz.func219 []
   ·refine go 7 ?_
    refine ret_e (fun hr_ => ?_)
    subst hr_
    exact ret_ Tryz.func219 []
theorem spec_l02Plain.all {K : Kn} [KOk K] (k : Nat) : spec_l02Plain.C K k := by
 induction k using Nat.strongRecOn with
 | _ k ih => exact spec_l02Plain.con1 k ih
theorem spec_l02Plain.con {K : Kn} [KOk K] {k : Nat} {v0 : S157} {r : Bool} (h : spec_l02Plain.f k v0 = some r) : Con K Tryz.prog 219 [.agg [.p (.int .i64 v0.f0), .p (.int .i64 v0.f1), .p (.int .i64 v0.f2), .p (.str v0.f3), .p (.lst false (List.map en157 v0.f4)), .p (.lst false (List.map srw v0.f5))]] [] (.p (.bool r)) [] := (spec_l02Plain.all k) _ r h
def spec_l02Value.f (k : Nat) (v0 : ByteArray) : Option (Bool) := ((spec_l01Read.f k v0).bind fun v1 => (bif (v1.f0 == 0) then (some false) else ((spec_l02Plain.f k v1).bind fun v2 => (some v2))))
set_option maxRecDepth 100000 in
set_option maxHeartbeats 4000000 in
theorem spec_l02Value.con {K : Kn} [KOk K] {k : Nat} {v0 : ByteArray} {r : Bool} (h : spec_l02Value.f k v0 = some r) : Con K Tryz.prog 185 [.p (.str v0)] [] (.p (.bool r)) [] := by
 rw [spec_l02Value.f] at h
 refine con_intro 13 [] Tryz.func185 (by kernel_rfl) rfl rfl (by kernel_rfl) fun ι0 w0 hk0 => ?_
 revert h
 refine go 3 ?_
 refine grs ?_
 refine gr_run ?_
 refine bind_e (fun v1 e1 => gr_call [] (spec_l01Read.con e1) ?_)
 clear e1
 refine gr_run ?_
 refine gr_done ?_
 refine bif_e (fun c1 => ?_) (fun c1 => ?_)
 ·refine go 2 ?_
  refine ret_e (fun hr_ => ?_)
  subst hr_
  exact ret_ Tryz.func185 []
 ·refine go 1 ?_
  refine grs ?_
  refine gr_run ?_
  refine bind_e (fun v2 e2 => gr_call [] (spec_l02Plain.con e2) ?_)
  clear e2
  refine gr_run ?_
  refine gr_done ?_
  refine ret_e (fun hr_ => ?_)
  subst hr_
  exact ret_ Tryz.func185 []
mutual
def spec_l02Fields.l0 : Nat → (List S193) → Int → Option (Bool)
 | 0, _, _ => none
 | k + 1, v0, v1 => (bif decide (v1 < (v0.length : Int)) then ((ix v0 v1).bind fun v2 => ((spec_l01Name.f k v2.f0).bind fun v3 => (bif v3 then (bif decide (0 < v1) then ((ix v0 (IntKind.i64.wrap (v1 - 1))).bind fun v4 => (bif slt v4.f0 v2.f0 then ((spec_l02Value.f k v2.f1).bind fun v7 => (bif v7 then (spec_l02Fields.l0 k v0 (IntKind.i64.wrap (v1 + 1))) else (some false))) else (some false))) else ((spec_l02Value.f k v2.f1).bind fun v9 => (bif v9 then (spec_l02Fields.l0 k v0 (IntKind.i64.wrap (v1 + 1))) else (some false)))) else (some false)))) else (some true))
def spec_l02Fields.f : Nat → (List S193) → Option (Bool)
 | 0, _ => none
 | k + 1, v0 => (bif decide (20 < (v0.length : Int)) then (some false) else (spec_l02Fields.l0 k v0 0))
end
set_option maxRecDepth 100000 in
set_option maxHeartbeats 4000000 in
theorem spec_l02Fields.con {K : Kn} [KOk K] {k : Nat} {v0 : (List S193)} {r : Bool} (h : spec_l02Fields.f k v0 = some r) : Con K Tryz.prog 174 [.p (.lst false (List.map en193 v0))] [] (.p (.bool r)) [] := by
 cases k with
 | zero => exact absurd h (by simp [spec_l02Fields.f])
 | succ k =>
 rw [spec_l02Fields.f] at h
 refine con_intro 47 [] Tryz.func174 (by kernel_rfl) rfl rfl (by kernel_rfl) fun ι0 w0 hk0 => ?_
 revert h
 refine bif_e (fun c1 => ?_) (fun c1 => ?_)
 ·refine go 8 ?_
  refine ret_e (fun hr_ => ?_)
  subst hr_
  exact ret_ Tryz.func174 []
 ·refine go 11 ?_
  refine fun h => good_loop (fun n st => n ≤ k ∧ ∃ (v1 : _), st = ⟨[(0, .p (.lst false (List.map en193 v0))), (3, .p (.int .i64 v1))], []⟩ ∧ spec_l02Fields.l0 n v0 v1 = some r) k ⟨_, ⟨Nat.le_refl _, _, rfl, h⟩, frle_, memle_⟩ ?_
  clear c1
  clear h
  rintro n _ ⟨hkl0, v1, rfl, h⟩ hl0
  cases n with
  | zero => exact absurd h (by simp [spec_l02Fields.l0])
  | succ kl0 =>
  rw [spec_l02Fields.l0] at h
  revert h
  refine bif_e (fun c2 => ?_) (fun c2 => ?_)
  ·refine bind_e (fun v2 e2 => ?_)
   replace e2 := nf_ (ix_en en193 e2)
   refine go 8 ?_
   refine grs ?_
   refine gr_run ?_
   refine bind_e (fun v3 e3 => gr_call [] (spec_l01Name.con e3) ?_)
   clear e3
   refine bif_e (fun c3 => ?_) (fun c3 => ?_)
   ·refine bif_e (fun c4 => ?_) (fun c4 => ?_)
    ·refine bind_e (fun v4 e4 => ?_)
     replace e4 := nf_ (ix_en en193 e4)
     refine bif_e (fun c5 => ?_) (fun c5 => ?_)
     ·refine gr_run ?_
      refine bind_e (fun v7 e7 => gr_call [] (spec_l02Value.con e7) ?_)
      clear e7
      refine gr_run ?_
      refine gr_done ?_
      refine bif_e (fun c6 => ?_) (fun c6 => ?_)
      ·refine go 4 ?_
       exact fun h => good_again hl0 (by omega) ⟨_, ⟨by omega, _, rfl, h⟩, frle_, memle_⟩
      ·refine go 3 ?_
       refine ret_e (fun hr_ => ?_)
       subst hr_
       exact ret_ Tryz.func174 []
     ·refine gr_run ?_
      refine gr_done ?_
      refine go 3 ?_
      refine ret_e (fun hr_ => ?_)
      subst hr_
      exact ret_ Tryz.func174 []
    ·refine gr_run ?_
     refine bind_e (fun v9 e9 => gr_call [] (spec_l02Value.con e9) ?_)
     clear e9
     refine gr_run ?_
     refine gr_done ?_
     refine bif_e (fun c7 => ?_) (fun c7 => ?_)
     ·refine go 4 ?_
      exact fun h => good_again hl0 (by omega) ⟨_, ⟨by omega, _, rfl, h⟩, frle_, memle_⟩
     ·refine go 3 ?_
      refine ret_e (fun hr_ => ?_)
      subst hr_
      exact ret_ Tryz.func174 []
   ·refine gr_run ?_
    refine gr_done ?_
    refine go 3 ?_
    refine ret_e (fun hr_ => ?_)
    subst hr_
    exact ret_ Tryz.func174 []
  ·refine go 7 ?_
   refine ret_e (fun hr_ => ?_)
   subst hr_
   exact ret_ Tryz.func174 []
def spec_l02IsNode.f (k : Nat) (v0 : S94) : Option (Bool) := ((spec_l02Id.f k v0.f0).bind fun v1 => (bif v1 then ((spec_l02Labels.f k v0.f1).bind fun v2 => (bif v2 then ((spec_l02Fields.f k v0.f2).bind fun v3 => (some v3)) else (some false))) else (some false)))
set_option maxRecDepth 100000 in
set_option maxHeartbeats 4000000 in
theorem spec_l02IsNode.con {K : Kn} [KOk K] {k : Nat} {v0 : S94} {r : Bool} (h : spec_l02IsNode.f k v0 = some r) : Con K Tryz.prog 124 [.agg [.p (.int .i64 v0.f0), .p (.lst false (List.map srw v0.f1)), .p (.lst false (List.map en193 v0.f2))]] [] (.p (.bool r)) [] := by
 rw [spec_l02IsNode.f] at h
 refine con_intro 16 [] Tryz.func124 (by kernel_rfl) rfl rfl (by kernel_rfl) fun ι0 w0 hk0 => ?_
 revert h
 refine go 3 ?_
 refine grs ?_
 refine gr_run ?_
 refine bind_e (fun v1 e1 => gr_call [] (spec_l02Id.con e1) ?_)
 clear e1
 refine bif_e (fun c1 => ?_) (fun c1 => ?_)
 ·refine gr_run ?_
  refine bind_e (fun v2 e2 => gr_call [] (spec_l02Labels.con e2) ?_)
  clear e2
  refine bif_e (fun c2 => ?_) (fun c2 => ?_)
  ·refine gr_run ?_
   refine bind_e (fun v3 e3 => gr_call [] (spec_l02Fields.con e3) ?_)
   clear e3
   refine gr_run ?_
   refine gr_done ?_
   refine ret_e (fun hr_ => ?_)
   subst hr_
   exact ret_ Tryz.func124 []
  ·refine gr_run ?_
   refine gr_done ?_
   refine ret_e (fun hr_ => ?_)
   subst hr_
   exact ret_ Tryz.func124 []
 ·refine gr_run ?_
  refine gr_done ?_
  refine ret_e (fun hr_ => ?_)
  subst hr_
  exact ret_ Tryz.func124 []
def spec_l02IsEdge.f (k : Nat) (v0 : S110) : Option (Bool) := ((spec_l02Id.f k v0.f0).bind fun v1 => (bif v1 then ((spec_l01Name.f k v0.f1).bind fun v2 => (bif v2 then ((spec_l02Id.f k v0.f2).bind fun v3 => (bif v3 then ((spec_l02Id.f k v0.f3).bind fun v4 => (bif v4 then ((spec_l02Fields.f k v0.f4).bind fun v5 => (some v5)) else (some false))) else (some false))) else (some false))) else (some false)))
set_option maxRecDepth 100000 in
set_option maxHeartbeats 4000000 in
theorem spec_l02IsEdge.con {K : Kn} [KOk K] {k : Nat} {v0 : S110} {r : Bool} (h : spec_l02IsEdge.f k v0 = some r) : Con K Tryz.prog 125 [.agg [.p (.int .i64 v0.f0), .p (.str v0.f1), .p (.int .i64 v0.f2), .p (.int .i64 v0.f3), .p (.lst false (List.map en193 v0.f4))]] [] (.p (.bool r)) [] := by
 rw [spec_l02IsEdge.f] at h
 refine con_intro 26 [] Tryz.func125 (by kernel_rfl) rfl rfl (by kernel_rfl) fun ι0 w0 hk0 => ?_
 revert h
 refine go 3 ?_
 refine grs ?_
 refine gr_run ?_
 refine bind_e (fun v1 e1 => gr_call [] (spec_l02Id.con e1) ?_)
 clear e1
 refine bif_e (fun c1 => ?_) (fun c1 => ?_)
 ·refine gr_run ?_
  refine bind_e (fun v2 e2 => gr_call [] (spec_l01Name.con e2) ?_)
  clear e2
  refine bif_e (fun c2 => ?_) (fun c2 => ?_)
  ·refine gr_run ?_
   refine bind_e (fun v3 e3 => gr_call [] (spec_l02Id.con e3) ?_)
   clear e3
   refine bif_e (fun c3 => ?_) (fun c3 => ?_)
   ·refine gr_run ?_
    refine bind_e (fun v4 e4 => gr_call [] (spec_l02Id.con e4) ?_)
    clear e4
    refine bif_e (fun c4 => ?_) (fun c4 => ?_)
    ·refine gr_run ?_
     refine bind_e (fun v5 e5 => gr_call [] (spec_l02Fields.con e5) ?_)
     clear e5
     refine gr_run ?_
     refine gr_done ?_
     refine ret_e (fun hr_ => ?_)
     subst hr_
     exact ret_ Tryz.func125 []
    ·refine gr_run ?_
     refine gr_done ?_
     refine ret_e (fun hr_ => ?_)
     subst hr_
     exact ret_ Tryz.func125 []
   ·refine gr_run ?_
    refine gr_done ?_
    refine ret_e (fun hr_ => ?_)
    subst hr_
    exact ret_ Tryz.func125 []
  ·refine gr_run ?_
   refine gr_done ?_
   refine ret_e (fun hr_ => ?_)
   subst hr_
   exact ret_ Tryz.func125 []
 ·refine gr_run ?_
  refine gr_done ?_
  refine ret_e (fun hr_ => ?_)
  subst hr_
  exact ret_ Tryz.func125 []
mutual
def spec_l02Node.l0 : Nat → Int → Int → S31 → Option (Int)
 | 0, _, _, _ => none
 | k + 1, v1, v2, v0 => (bif decide (v2 < (v0.f0.length : Int)) then ((ix v0.f0 v2).bind fun v3 => (bif (v3.f0 == v1) then (some v2) else (spec_l02Node.l0 k v1 (IntKind.i64.wrap (v2 + 1)) v0))) else (some (-1)))
def spec_l02Node.f : Nat → S31 → Int → Option (Int)
 | 0, _, _ => none
 | k + 1, v0, v1 => (spec_l02Node.l0 k v1 0 v0)
end
set_option maxRecDepth 100000 in
set_option maxHeartbeats 4000000 in
theorem spec_l02Node.con {K : Kn} [KOk K] {k : Nat} {v0 : S31} {v1 : Int} {r : Int} (h : spec_l02Node.f k v0 v1 = some r) : Con K Tryz.prog 66 [.agg [.p (.lst false (List.map en94 v0.f0)), .p (.lst false (List.map en110 v0.f1))], .p (.int .i64 v1)] [] (.p (.int .i64 r)) [] := by
 cases k with
 | zero => exact absurd h (by simp [spec_l02Node.f])
 | succ k =>
 rw [spec_l02Node.f] at h
 refine con_intro 22 [] Tryz.func66 (by kernel_rfl) rfl rfl (by kernel_rfl) fun ι0 w0 hk0 => ?_
 revert h
 refine go 6 ?_
 refine fun h => good_loop (fun n st => n ≤ k ∧ ∃ (v2 : _), st = ⟨[(1, .p (.int .i64 v1)), (2, .ptr 2 1 0), (5, .p (.int .i64 v2))], [(2, (1, .cells [.p (.lst false (List.map en94 v0.f0)), .p (.lst false (List.map en110 v0.f1))]))]⟩ ∧ spec_l02Node.l0 n v1 v2 v0 = some r) k ⟨_, ⟨Nat.le_refl _, _, rfl, h⟩, frle_, memle_⟩ ?_
 clear h
 rintro n _ ⟨hkl0, v2, rfl, h⟩ hl0
 cases n with
 | zero => exact absurd h (by simp [spec_l02Node.l0])
 | succ kl0 =>
 rw [spec_l02Node.l0] at h
 revert h
 refine bif_e (fun c1 => ?_) (fun c1 => ?_)
 ·refine bind_e (fun v3 e3 => ?_)
  replace e3 := nf_ (ix_en en94 e3)
  refine bif_e (fun c2 => ?_) (fun c2 => ?_)
  ·refine go 12 ?_
   refine ret_e (fun hr_ => ?_)
   subst hr_
   exact ret_ Tryz.func66 []
  ·refine go 13 ?_
   exact fun h => good_again hl0 (by omega) ⟨_, ⟨by omega, _, rfl, h⟩, frle_, memle_⟩
 ·refine go 7 ?_
  refine ret_e (fun hr_ => ?_)
  subst hr_
  exact ret_ Tryz.func66 []
mutual
def spec_GraphFault.j0 : Nat → Int → S31 → Option (Int)
 | 0, _, _ => none
 | k + 1, v1, v0 => (spec_GraphFault.l0 k (IntKind.i64.wrap (v1 + 1)) v0)
def spec_GraphFault.l1 : Nat → Int → S31 → Option (Int)
 | 0, _, _ => none
 | k + 1, v6, v0 => (bif decide (v6 < (v0.f1.length : Int)) then ((ix v0.f1 v6).bind fun v8 => ((spec_l02IsEdge.f k v8).bind fun v9 => (bif v9 then (bif decide (0 < v6) then ((ix v0.f1 (IntKind.i64.wrap (v6 - 1))).bind fun v10 => (bif decide (v8.f0 ≤ v10.f0) then (some 1) else ((spec_l02Node.f k v0 v8.f2).bind fun v11 => (bif decide (v11 < 0) then (some 1) else ((spec_l02Node.f k v0 v8.f3).bind fun v12 => (bif decide (v12 < 0) then (some 1) else (spec_GraphFault.l1 k (IntKind.i64.wrap (v6 + 1)) v0))))))) else ((spec_l02Node.f k v0 v8.f2).bind fun v13 => (bif decide (v13 < 0) then (some 1) else ((spec_l02Node.f k v0 v8.f3).bind fun v14 => (bif decide (v14 < 0) then (some 1) else (spec_GraphFault.l1 k (IntKind.i64.wrap (v6 + 1)) v0)))))) else (some 1)))) else (some 0))
def spec_GraphFault.l0 : Nat → Int → S31 → Option (Int)
 | 0, _, _ => none
 | k + 1, v1, v0 => (bif decide (v1 < (v0.f0.length : Int)) then ((ix v0.f0 v1).bind fun v2 => ((spec_l02IsNode.f k v2).bind fun v3 => (bif v3 then (bif decide (0 < v1) then ((ix v0.f0 (IntKind.i64.wrap (v1 - 1))).bind fun v4 => (bif decide (v2.f0 ≤ v4.f0) then (some 1) else (spec_GraphFault.j0 k v1 v0))) else (spec_GraphFault.j0 k v1 v0)) else (some 1)))) else (spec_GraphFault.l1 k 0 v0))
def spec_GraphFault.f : Nat → S31 → Option (Int)
 | 0, _ => none
 | k + 1, v0 => (bif decide (200 < (v0.f0.length : Int)) then (some 1) else (bif decide (400 < (v0.f1.length : Int)) then (some 1) else (spec_GraphFault.l0 k 0 v0)))
end
set_option maxRecDepth 100000 in
set_option maxHeartbeats 4000000 in
theorem spec_GraphFault.con {K : Kn} [KOk K] {k : Nat} {v0 : S31} {r : Int} (h : spec_GraphFault.f k v0 = some r) : Con K Tryz.prog 65 [.agg [.p (.lst false (List.map en94 v0.f0)), .p (.lst false (List.map en110 v0.f1))]] [] (.p (.int .i64 r)) [] := by
 cases k with
 | zero => exact absurd h (by simp [spec_GraphFault.f])
 | succ k =>
 rw [spec_GraphFault.f] at h
 refine con_intro 95 [] Tryz.func65 (by kernel_rfl) rfl rfl (by kernel_rfl) fun ι0 w0 hk0 => ?_
 revert h
 refine bif_e (fun c1 => ?_) (fun c1 => ?_)
 ·refine go 8 ?_
  refine ret_e (fun hr_ => ?_)
  subst hr_
  exact ret_ Tryz.func65 []
 ·refine bif_e (fun c2 => ?_) (fun c2 => ?_)
  ·refine go 8 ?_
   refine ret_e (fun hr_ => ?_)
   subst hr_
   exact ret_ Tryz.func65 []
  ·refine go 11 ?_
   refine fun h => good_loop (fun n st => n ≤ k ∧ ∃ (v1 : _), st = ⟨[(1, .ptr 1 1 0), (3, .p (.int .i64 v1))], [(1, (1, .cells [.p (.lst false (List.map en94 v0.f0)), .p (.lst false (List.map en110 v0.f1))]))]⟩ ∧ spec_GraphFault.l0 n v1 v0 = some r) k ⟨_, ⟨Nat.le_refl _, _, rfl, h⟩, frle_, memle_⟩ ?_
   clear c1 c2
   clear h
   rintro n _ ⟨hkl0, v1, rfl, h⟩ hl0
   cases n with
   | zero => exact absurd h (by simp [spec_GraphFault.l0])
   | succ kl0 =>
   rw [spec_GraphFault.l0] at h
   revert h
   refine bif_e (fun c3 => ?_) (fun c3 => ?_)
   ·refine go 8 ?_
    refine good_cut_f (fun st => ∃ (q_ : Nat), q_ ≤ kl0 ∧ st = ⟨[(1, .ptr 1 1 0), (3, .p (.int .i64 v1))], [(1, (1, .cells [.p (.lst false (List.map en94 v0.f0)), .p (.lst false (List.map en110 v0.f1))]))]⟩ ∧ spec_GraphFault.j0 q_ v1 v0 = some r) ?_ (fun hj0 => ?_)
    ·clear c3
     rintro _ ⟨q_, hqj0, rfl, h⟩
     cases q_ with
     | zero => exact absurd h (by simp [spec_GraphFault.j0])
     | succ kj0 =>
     rw [spec_GraphFault.j0] at h
     revert h
     refine go 3 ?_
     exact fun h => good_again hl0 (by omega) ⟨_, ⟨by omega, _, rfl, h⟩, frle_, memle_⟩
    ·refine bind_e (fun v2 e2 => ?_)
     replace e2 := nf_ (ix_en en94 e2)
     refine grs ?_
     refine gr_run ?_
     refine bind_e (fun v3 e3 => gr_call [] (spec_l02IsNode.con e3) ?_)
     clear e3
     refine bif_e (fun c4 => ?_) (fun c4 => ?_)
     ·refine bif_e (fun c5 => ?_) (fun c5 => ?_)
      ·refine bind_e (fun v4 e4 => ?_)
       replace e4 := nf_ (ix_en en94 e4)
       refine gr_run ?_
       refine gr_done ?_
       refine bif_e (fun c6 => ?_) (fun c6 => ?_)
       ·refine go 3 ?_
        refine ret_e (fun hr_ => ?_)
        subst hr_
        exact ret_ Tryz.func65 []
       ·refine go 1 ?_
        exact fun h => good_jump hj0 ⟨_, ⟨_, by omega, rfl, h⟩, frle_, memle_⟩
      ·refine gr_run ?_
       refine gr_done ?_
       refine go 1 ?_
       exact fun h => good_jump hj0 ⟨_, ⟨_, by omega, rfl, h⟩, frle_, memle_⟩
     ·refine gr_run ?_
      refine gr_done ?_
      refine go 3 ?_
      refine ret_e (fun hr_ => ?_)
      subst hr_
      exact ret_ Tryz.func65 []
   ·refine go 9 ?_
    refine fun h => good_loop (fun n st => n ≤ kl0 ∧ ∃ (v6 : _) (g7 : Nat), st = ⟨[(1, .ptr 1 1 0), (4, .p (.int .i64 v6))], [(1, (1, .cells [.p (.lst false (List.map en94 v0.f0)), .p (.lst false (List.map en110 v0.f1))])), (5, (g7, .gone))]⟩ ∧ spec_GraphFault.l1 n v6 v0 = some r) kl0 ⟨_, ⟨Nat.le_refl _, _, 0, rfl, h⟩, frle_, memle_⟩ ?_
    clear c3
    clear h
    rintro n _ ⟨hkl1, v6, g7, rfl, h⟩ hl1
    cases n with
    | zero => exact absurd h (by simp [spec_GraphFault.l1])
    | succ kl1 =>
    rw [spec_GraphFault.l1] at h
    revert h
    refine bif_e (fun c7 => ?_) (fun c7 => ?_)
    ·refine bind_e (fun v8 e8 => ?_)
     replace e8 := nf_ (ix_en en110 e8)
     refine go 10 ?_
     refine grs ?_
     refine gr_run ?_
     refine bind_e (fun v9 e9 => gr_call [] (spec_l02IsEdge.con e9) ?_)
     clear e9
     refine bif_e (fun c8 => ?_) (fun c8 => ?_)
     ·refine bif_e (fun c9 => ?_) (fun c9 => ?_)
      ·refine bind_e (fun v10 e10 => ?_)
       replace e10 := nf_ (ix_en en110 e10)
       refine bif_e (fun c10 => ?_) (fun c10 => ?_)
       ·refine gr_run ?_
        refine gr_done ?_
        refine go 3 ?_
        refine ret_e (fun hr_ => ?_)
        subst hr_
        exact ret_ Tryz.func65 []
       ·refine gr_run ?_
        refine bind_e (fun v11 e11 => gr_call [] (spec_l02Node.con e11) ?_)
        clear e11
        refine bif_e (fun c11 => ?_) (fun c11 => ?_)
        ·refine gr_run ?_
         refine gr_done ?_
         refine go 3 ?_
         refine ret_e (fun hr_ => ?_)
         subst hr_
         exact ret_ Tryz.func65 []
        ·refine gr_run ?_
         refine bind_e (fun v12 e12 => gr_call [] (spec_l02Node.con e12) ?_)
         clear e12
         refine gr_run ?_
         refine gr_done ?_
         refine bif_e (fun c12 => ?_) (fun c12 => ?_)
         ·refine go 3 ?_
          refine ret_e (fun hr_ => ?_)
          subst hr_
          exact ret_ Tryz.func65 []
         ·refine go 4 ?_
          exact fun h => good_again hl1 (by omega) ⟨_, ⟨by omega, _, g7 + 1, rfl, h⟩, frle_, memle_⟩
      ·refine gr_run ?_
       refine bind_e (fun v13 e13 => gr_call [] (spec_l02Node.con e13) ?_)
       clear e13
       refine bif_e (fun c13 => ?_) (fun c13 => ?_)
       ·refine gr_run ?_
        refine gr_done ?_
        refine go 3 ?_
        refine ret_e (fun hr_ => ?_)
        subst hr_
        exact ret_ Tryz.func65 []
       ·refine gr_run ?_
        refine bind_e (fun v14 e14 => gr_call [] (spec_l02Node.con e14) ?_)
        clear e14
        refine gr_run ?_
        refine gr_done ?_
        refine bif_e (fun c14 => ?_) (fun c14 => ?_)
        ·refine go 3 ?_
         refine ret_e (fun hr_ => ?_)
         subst hr_
         exact ret_ Tryz.func65 []
        ·refine go 4 ?_
         exact fun h => good_again hl1 (by omega) ⟨_, ⟨by omega, _, g7 + 1, rfl, h⟩, frle_, memle_⟩
     ·refine gr_run ?_
      refine gr_done ?_
      refine go 3 ?_
      refine ret_e (fun hr_ => ?_)
      subst hr_
      exact ret_ Tryz.func65 []
    ·refine go 7 ?_
     refine ret_e (fun hr_ => ?_)
     subst hr_
     exact ret_ Tryz.func65 []
mutual
def spec_l17Rising.l0 : Nat → (List Int) → Int → Option (Bool)
 | 0, _, _ => none
 | k + 1, v0, v1 => (bif decide (v1 < (v0.length : Int)) then ((ix v0 (IntKind.i64.wrap (v1 - 1))).bind fun v2 => ((ix v0 v1).bind fun v3 => (bif decide (v3 ≤ v2) then (some false) else (spec_l17Rising.l0 k v0 (IntKind.i64.wrap (v1 + 1)))))) else (some true))
def spec_l17Rising.f : Nat → (List Int) → Option (Bool)
 | 0, _ => none
 | k + 1, v0 => (spec_l17Rising.l0 k v0 1)
end
set_option maxRecDepth 100000 in
set_option maxHeartbeats 4000000 in
theorem spec_l17Rising.con {K : Kn} [KOk K] {k : Nat} {v0 : (List Int)} {r : Bool} (h : spec_l17Rising.f k v0 = some r) : Con K Tryz.prog 104 [.p (.lst false (List.map (irow .i64) v0))] [] (.p (.bool r)) [] := by
 cases k with
 | zero => exact absurd h (by simp [spec_l17Rising.f])
 | succ k =>
 rw [spec_l17Rising.f] at h
 refine con_intro 20 [] Tryz.func104 (by kernel_rfl) rfl rfl (by kernel_rfl) fun ι0 w0 hk0 => ?_
 revert h
 refine go 6 ?_
 refine fun h => good_loop (fun n st => n ≤ k ∧ ∃ (v1 : _), st = ⟨[(0, .p (.lst false (List.map (irow .i64) v0))), (3, .p (.int .i64 v1))], []⟩ ∧ spec_l17Rising.l0 n v0 v1 = some r) k ⟨_, ⟨Nat.le_refl _, _, rfl, h⟩, frle_, memle_⟩ ?_
 clear h
 rintro n _ ⟨hkl0, v1, rfl, h⟩ hl0
 cases n with
 | zero => exact absurd h (by simp [spec_l17Rising.l0])
 | succ kl0 =>
 rw [spec_l17Rising.l0] at h
 revert h
 refine bif_e (fun c1 => ?_) (fun c1 => ?_)
 ·refine bind_e (fun v2 e2 => ?_)
  replace e2 := nf_ (ix_en (irow .i64) e2)
  refine bind_e (fun v3 e3 => ?_)
  replace e3 := nf_ (ix_en (irow .i64) e3)
  refine go 8 ?_
  refine grs ?_
  refine gr_run ?_
  refine gr_done ?_
  refine bif_e (fun c2 => ?_) (fun c2 => ?_)
  ·refine go 3 ?_
   refine ret_e (fun hr_ => ?_)
   subst hr_
   exact ret_ Tryz.func104 []
  ·refine go 4 ?_
   exact fun h => good_again hl0 (by omega) ⟨_, ⟨by omega, _, rfl, h⟩, frle_, memle_⟩
 ·refine go 7 ?_
  refine ret_e (fun hr_ => ?_)
  subst hr_
  exact ret_ Tryz.func104 []
mutual
def spec_l17Nodes.l0 : Nat → (List Int) → Int → S31 → Option (Bool)
 | 0, _, _, _ => none
 | k + 1, v1, v2, v0 => (bif decide (v2 < (v1.length : Int)) then ((ix v1 v2).bind fun v4 => ((spec_l02Node.f k v0 v4).bind fun v5 => (bif decide (v5 < 0) then (some false) else (spec_l17Nodes.l0 k v1 (IntKind.i64.wrap (v2 + 1)) v0)))) else ((spec_l17Rising.f k v1).bind fun v3 => (some v3)))
def spec_l17Nodes.f : Nat → S31 → (List Int) → Option (Bool)
 | 0, _, _ => none
 | k + 1, v0, v1 => (spec_l17Nodes.l0 k v1 0 v0)
end
set_option maxRecDepth 100000 in
set_option maxHeartbeats 4000000 in
theorem spec_l17Nodes.con {K : Kn} [KOk K] {k : Nat} {v0 : S31} {v1 : (List Int)} {r : Bool} (h : spec_l17Nodes.f k v0 v1 = some r) : Con K Tryz.prog 70 [.agg [.p (.lst false (List.map en94 v0.f0)), .p (.lst false (List.map en110 v0.f1))], .p (.lst false (List.map (irow .i64) v1))] [] (.p (.bool r)) [] := by
 cases k with
 | zero => exact absurd h (by simp [spec_l17Nodes.f])
 | succ k =>
 rw [spec_l17Nodes.f] at h
 refine con_intro 21 [] Tryz.func70 (by kernel_rfl) rfl rfl (by kernel_rfl) fun ι0 w0 hk0 => ?_
 revert h
 refine go 6 ?_
 refine fun h => good_loop (fun n st => n ≤ k ∧ ∃ (v2 : _), st = ⟨[(1, .p (.lst false (List.map (irow .i64) v1))), (2, .ptr 2 1 0), (5, .p (.int .i64 v2))], [(2, (1, .cells [.p (.lst false (List.map en94 v0.f0)), .p (.lst false (List.map en110 v0.f1))]))]⟩ ∧ spec_l17Nodes.l0 n v1 v2 v0 = some r) k ⟨_, ⟨Nat.le_refl _, _, rfl, h⟩, frle_, memle_⟩ ?_
 clear h
 rintro n _ ⟨hkl0, v2, rfl, h⟩ hl0
 cases n with
 | zero => exact absurd h (by simp [spec_l17Nodes.l0])
 | succ kl0 =>
 rw [spec_l17Nodes.l0] at h
 revert h
 refine bif_e (fun c1 => ?_) (fun c1 => ?_)
 ·refine bind_e (fun v4 e4 => ?_)
  replace e4 := nf_ (ix_en (irow .i64) e4)
  refine go 8 ?_
  refine grs ?_
  refine gr_run ?_
  refine bind_e (fun v5 e5 => gr_call [] (spec_l02Node.con e5) ?_)
  clear e5
  refine gr_run ?_
  refine gr_done ?_
  refine bif_e (fun c2 => ?_) (fun c2 => ?_)
  ·refine go 3 ?_
   refine ret_e (fun hr_ => ?_)
   subst hr_
   exact ret_ Tryz.func70 []
  ·refine go 4 ?_
   exact fun h => good_again hl0 (by omega) ⟨_, ⟨by omega, _, rfl, h⟩, frle_, memle_⟩
 ·refine go 6 ?_
  refine grs ?_
  refine gr_run ?_
  refine bind_e (fun v3 e3 => gr_call [] (spec_l17Rising.con e3) ?_)
  clear e3
  refine gr_run ?_
  refine gr_done ?_
  refine ret_e (fun hr_ => ?_)
  subst hr_
  exact ret_ Tryz.func70 []
mutual
def spec_l01InTexts.l0 : Nat → (List ByteArray) → ByteArray → Int → Option (Bool)
 | 0, _, _, _ => none
 | k + 1, v0, v1, v2 => (bif decide (v2 < (v0.length : Int)) then ((ix v0 v2).bind fun v3 => (bif decide (v3 = v1) then (some true) else (spec_l01InTexts.l0 k v0 v1 (IntKind.i64.wrap (v2 + 1))))) else (some false))
def spec_l01InTexts.f : Nat → (List ByteArray) → ByteArray → Option (Bool)
 | 0, _, _ => none
 | k + 1, v0, v1 => (spec_l01InTexts.l0 k v0 v1 0)
end
set_option maxRecDepth 100000 in
set_option maxHeartbeats 4000000 in
theorem spec_l01InTexts.con {K : Kn} [KOk K] {k : Nat} {v0 : (List ByteArray)} {v1 : ByteArray} {r : Bool} (h : spec_l01InTexts.f k v0 v1 = some r) : Con K Tryz.prog 135 [.p (.lst false (List.map srw v0)), .p (.str v1)] [] (.p (.bool r)) [] := by
 cases k with
 | zero => exact absurd h (by simp [spec_l01InTexts.f])
 | succ k =>
 rw [spec_l01InTexts.f] at h
 refine con_intro 18 [] Tryz.func135 (by kernel_rfl) rfl rfl (by kernel_rfl) fun ι0 w0 hk0 => ?_
 revert h
 refine go 6 ?_
 refine fun h => good_loop (fun n st => n ≤ k ∧ ∃ (v2 : _), st = ⟨[(0, .p (.lst false (List.map srw v0))), (1, .p (.str v1)), (5, .p (.int .i64 v2))], []⟩ ∧ spec_l01InTexts.l0 n v0 v1 v2 = some r) k ⟨_, ⟨Nat.le_refl _, _, rfl, h⟩, frle_, memle_⟩ ?_
 clear h
 rintro n _ ⟨hkl0, v2, rfl, h⟩ hl0
 cases n with
 | zero => exact absurd h (by simp [spec_l01InTexts.l0])
 | succ kl0 =>
 rw [spec_l01InTexts.l0] at h
 revert h
 refine bif_e (fun c1 => ?_) (fun c1 => ?_)
 ·refine bind_e (fun v3 e3 => ?_)
  replace e3 := nf_ (ix_en srw e3)
  refine bif_e (fun c2 => ?_) (fun c2 => ?_)
  ·refine go 12 ?_
   refine ret_e (fun hr_ => ?_)
   subst hr_
   exact ret_ Tryz.func135 []
  ·refine go 13 ?_
   exact fun h => good_again hl0 (by omega) ⟨_, ⟨by omega, _, rfl, h⟩, frle_, memle_⟩
 ·refine go 7 ?_
  refine ret_e (fun hr_ => ?_)
  subst hr_
  exact ret_ Tryz.func135 []
mutual
def spec_l17Sides.l0 : Nat → ByteArray → (List Bool) → Int → S31 → Option ((List Bool))
 | 0, _, _, _, _ => none
 | k + 1, v1, v2, v3, v0 => (bif decide (v3 < (v0.f0.length : Int)) then ((ix v0.f0 v3).bind fun v5 => ((spec_l01InTexts.f k v5.f1 v1).bind fun v6 => ((app v2 ([v6] : List Bool)).bind fun v7 => (spec_l17Sides.l0 k v1 v7 (IntKind.i64.wrap (v3 + 1)) v0)))) else (some v2))
def spec_l17Sides.f : Nat → S31 → ByteArray → Option ((List Bool))
 | 0, _, _ => none
 | k + 1, v0, v1 => (spec_l17Sides.l0 k v1 ([] : List Bool) 0 v0)
end
set_option maxRecDepth 100000 in
set_option maxHeartbeats 4000000 in
theorem spec_l17Sides.con {K : Kn} [KOk K] {k : Nat} {v0 : S31} {v1 : ByteArray} {r : (List Bool)} (h : spec_l17Sides.f k v0 v1 = some r) : Con K Tryz.prog 157 [.agg [.p (.lst false (List.map en94 v0.f0)), .p (.lst false (List.map en110 v0.f1))], .p (.str v1)] [] (.p (.lst false (List.map brw r))) [] := by
 cases k with
 | zero => exact absurd h (by simp [spec_l17Sides.f])
 | succ k =>
 rw [spec_l17Sides.f] at h
 refine con_intro 27 [] Tryz.func157 (by kernel_rfl) rfl rfl (by kernel_rfl) fun ι0 w0 hk0 => ?_
 revert h
 refine go 8 ?_
 refine adoptF_ 5 25 1 ?_
 refine fun h => good_loop (fun n st => n ≤ k ∧ ∃ (v2 : _) (v3 : _) (g4 : Nat), st = ⟨[(1, .p (.str v1)), (2, .ptr 2 1 0), (5, .tip 25 g4 (List.map brw v2)), (6, .p (.int .i64 v3))], [(2, (1, .cells [.p (.lst false (List.map en94 v0.f0)), .p (.lst false (List.map en110 v0.f1))])), (25, (g4, .tip 1 (v2).length))]⟩ ∧ spec_l17Sides.l0 n v1 v2 v3 v0 = some r) k ⟨_, ⟨Nat.le_refl _, _, _, 1, rfl, h⟩, frle_, memle_⟩ ?_
 clear h
 rintro n _ ⟨hkl0, v2, v3, g4, rfl, h⟩ hl0
 cases n with
 | zero => exact absurd h (by simp [spec_l17Sides.l0])
 | succ kl0 =>
 rw [spec_l17Sides.l0] at h
 revert h
 refine bif_e (fun c1 => ?_) (fun c1 => ?_)
 ·refine bind_e (fun v5 e5 => ?_)
  replace e5 := nf_ (ix_en en94 e5)
  refine go 7 ?_
  refine grs ?_
  refine gr_run ?_
  refine bind_e (fun v6 e6 => gr_call [] (spec_l01InTexts.con e6) ?_)
  clear e6
  refine bind_e (fun v7 e7 => ?_)
  replace e7 := nf_ (app_en brw e7)
  refine gr_run ?_
  refine gr_done ?_
  refine go 2 ?_
  exact fun h => good_again hl0 (by omega) ⟨_, ⟨by omega, _, _, g4, rfl, h⟩, frle_, memle_⟩
 ·refine go 7 ?_
  refine ret_e (fun hr_ => ?_)
  subst hr_
  exact ret_ Tryz.func157 []
mutual
def spec_l17New.l0 : Nat → Int → S31 → (List Bool) → (List Bool) → (List Bool) → Option (((List S94) × (List S110) × (List Bool) × (List Bool) × (List Bool)))
 | 0, _, _, _, _, _ => none
 | k + 1, v4, v0, v3, v2, v5 => (bif decide (v4 < (v0.f1.length : Int)) then ((ix v0.f1 v4).bind fun v7 => ((spec_l02Node.f k v0 v7.f2).bind fun v8 => ((ix v2 v8).bind fun v9 => ((spec_l02Node.f k v0 v7.f3).bind fun v11 => ((ix v2 v11).bind fun v12 => ((app v5 ([(!(v9 == v12))] : List Bool)).bind fun v13 => (spec_l17New.l0 k (IntKind.i64.wrap (v4 + 1)) v0 v3 v2 v13))))))) else (some (v0.f0, v0.f1, v2, v5, v3)))
def spec_l17New.f : Nat → S31 → ByteArray → Option (((List S94) × (List S110) × (List Bool) × (List Bool) × (List Bool)))
 | 0, _, _ => none
 | k + 1, v0, v1 => ((spec_l17Sides.f k v0 v1).bind fun v2 => ((mks false (v0.f1.length : Int) (v0.f1.length : Int)).bind fun v3 => (spec_l17New.l0 k 0 v0 v3 v2 [])))
end
set_option maxRecDepth 100000 in
set_option maxHeartbeats 4000000 in
theorem spec_l17New.con {K : Kn} [KOk K] {k : Nat} {v0 : S31} {v1 : ByteArray} {r : ((List S94) × (List S110) × (List Bool) × (List Bool) × (List Bool))} (h : spec_l17New.f k v0 v1 = some r) : Con K Tryz.prog 105 [.agg [.p (.lst false (List.map en94 v0.f0)), .p (.lst false (List.map en110 v0.f1))], .p (.str v1)] [] (.ptr 2000 1 0) [(2000, (1, .cells [.p (.lst false (List.map en94 r.1)), .p (.lst false (List.map en110 r.2.1)), .p (.lst false (List.map brw r.2.2.1)), .p (.lst false (List.map brw r.2.2.2.1)), .p (.lst false (List.map brw r.2.2.2.2))]))] := by
 cases k with
 | zero => exact absurd h (by simp [spec_l17New.f])
 | succ k =>
 rw [spec_l17New.f] at h
 refine con_intro 63 [] Tryz.func105 (by kernel_rfl) rfl rfl (by kernel_rfl) fun ι0 w0 hk0 => ?_
 revert h
 refine go 3 ?_
 refine grs ?_
 refine gr_run ?_
 refine bind_e (fun v2 e2 => gr_call [] (spec_l17Sides.con e2) ?_)
 clear e2
 refine bind_e (fun v3 e3 => ?_)
 replace e3 := nf_ (mks_en brw e3)
 refine gr_run ?_
 refine gr_done ?_
 refine go 4 ?_
 refine adoptc_ 16 3 59 1 ?_
 refine fun h => good_loop (fun n st => n ≤ k ∧ ∃ (v4 : _) (v5 : _) (g6 : Nat), st = ⟨[(2, .ptr 2 1 0), (5, .ptr 16 1 0), (6, .p (.int .i64 v4))], [(2, (1, .cells [.p (.lst false (List.map en94 v0.f0)), .p (.lst false (List.map en110 v0.f1))])), (14, (1, .buf 1 (List.map brw v3))), (16, (1, .cells [.p (.lst false (List.map en94 v0.f0)), .p (.lst false (List.map en110 v0.f1)), .p (.lst false (List.map brw v2)), .tip 59 g6 (List.map brw v5), .buf 14 1 0 v3.length])), (59, (g6, .tip 1 (v5).length))]⟩ ∧ spec_l17New.l0 n v4 v0 v3 v2 v5 = some r) k ⟨_, ⟨Nat.le_refl _, _, _, 1, rfl, h⟩, frle_, memle_⟩ ?_
 clear e3
 clear h
 rintro n _ ⟨hkl0, v4, v5, g6, rfl, h⟩ hl0
 cases n with
 | zero => exact absurd h (by simp [spec_l17New.l0])
 | succ kl0 =>
 rw [spec_l17New.l0] at h
 revert h
 refine bif_e (fun c1 => ?_) (fun c1 => ?_)
 ·refine bind_e (fun v7 e7 => ?_)
  replace e7 := nf_ (ix_en en110 e7)
  refine go 7 ?_
  refine grs ?_
  refine gr_run ?_
  refine bind_e (fun v8 e8 => gr_call [] (spec_l02Node.con e8) ?_)
  clear e8
  refine bind_e (fun v9 e9 => ?_)
  replace e9 := nf_ (ix_en brw e9)
  refine gr_run ?_
  refine bind_e (fun v11 e11 => gr_call [] (spec_l02Node.con e11) ?_)
  clear e11
  refine bind_e (fun v12 e12 => ?_)
  replace e12 := nf_ (ix_en brw e12)
  refine bind_e (fun v13 e13 => ?_)
  replace e13 := nf_ (app_en brw e13)
  refine gr_run ?_
  refine gr_done ?_
  refine go 2 ?_
  exact fun h => good_again hl0 (by omega) ⟨_, ⟨by omega, _, _, g6, rfl, h⟩, frle_, memle_⟩
 ·refine go 7 ?_
  refine freezec_ 16 4 ?_
  refine ret_e (fun hr_ => ?_)
  subst hr_
  exact ret_ Tryz.func105 [(2000, (1, 16, 1))]
mutual
def spec_l02Edge.l0 : Nat → Int → Int → S31 → Option (Int)
 | 0, _, _, _ => none
 | k + 1, v1, v2, v0 => (bif decide (v2 < (v0.f1.length : Int)) then ((ix v0.f1 v2).bind fun v3 => (bif (v3.f0 == v1) then (some v2) else (spec_l02Edge.l0 k v1 (IntKind.i64.wrap (v2 + 1)) v0))) else (some (-1)))
def spec_l02Edge.f : Nat → S31 → Int → Option (Int)
 | 0, _, _ => none
 | k + 1, v0, v1 => (spec_l02Edge.l0 k v1 0 v0)
end
set_option maxRecDepth 100000 in
set_option maxHeartbeats 4000000 in
theorem spec_l02Edge.con {K : Kn} [KOk K] {k : Nat} {v0 : S31} {v1 : Int} {r : Int} (h : spec_l02Edge.f k v0 v1 = some r) : Con K Tryz.prog 67 [.agg [.p (.lst false (List.map en94 v0.f0)), .p (.lst false (List.map en110 v0.f1))], .p (.int .i64 v1)] [] (.p (.int .i64 r)) [] := by
 cases k with
 | zero => exact absurd h (by simp [spec_l02Edge.f])
 | succ k =>
 rw [spec_l02Edge.f] at h
 refine con_intro 22 [] Tryz.func67 (by kernel_rfl) rfl rfl (by kernel_rfl) fun ι0 w0 hk0 => ?_
 revert h
 refine go 6 ?_
 refine fun h => good_loop (fun n st => n ≤ k ∧ ∃ (v2 : _), st = ⟨[(1, .p (.int .i64 v1)), (2, .ptr 2 1 0), (5, .p (.int .i64 v2))], [(2, (1, .cells [.p (.lst false (List.map en94 v0.f0)), .p (.lst false (List.map en110 v0.f1))]))]⟩ ∧ spec_l02Edge.l0 n v1 v2 v0 = some r) k ⟨_, ⟨Nat.le_refl _, _, rfl, h⟩, frle_, memle_⟩ ?_
 clear h
 rintro n _ ⟨hkl0, v2, rfl, h⟩ hl0
 cases n with
 | zero => exact absurd h (by simp [spec_l02Edge.l0])
 | succ kl0 =>
 rw [spec_l02Edge.l0] at h
 revert h
 refine bif_e (fun c1 => ?_) (fun c1 => ?_)
 ·refine bind_e (fun v3 e3 => ?_)
  replace e3 := nf_ (ix_en en110 e3)
  refine bif_e (fun c2 => ?_) (fun c2 => ?_)
  ·refine go 12 ?_
   refine ret_e (fun hr_ => ?_)
   subst hr_
   exact ret_ Tryz.func67 []
  ·refine go 13 ?_
   exact fun h => good_again hl0 (by omega) ⟨_, ⟨by omega, _, rfl, h⟩, frle_, memle_⟩
 ·refine go 7 ?_
  refine ret_e (fun hr_ => ?_)
  subst hr_
  exact ret_ Tryz.func67 []
def spec_l17Match_ends.f (k : Nat) (v0 : Int) (v1 : S177) : Option (Int × Int × S177) := ((ix v1.f0.f1 v0).bind fun v2 => ((spec_l02Node.f k v1.f0 v2.f2).bind fun v3 => ((spec_l02Node.f k v1.f0 v2.f3).bind fun v5 => ((ix v1.f1 v3).bind fun v6 => (bif v6 then (some (v3, v5, v1)) else (some (v5, v3, v1)))))))
set_option maxRecDepth 100000 in
set_option maxHeartbeats 4000000 in
theorem spec_l17Match_ends.con {K : Kn} [KOk K] {k : Nat} {v0 : Int} {v1 : S177} {r : Int × Int × S177} (h : spec_l17Match_ends.f k v0 v1 = some r) : Con K Tryz.prog 106 [.ptr 1000 0 0, .p (.int .i64 v0)] [(1000, (0, .cells [.p (.lst false (List.map en94 v1.f0.f0)), .p (.lst false (List.map en110 v1.f0.f1)), .p (.lst false (List.map brw v1.f1)), .p (.lst false (List.map brw v1.f2)), .p (.lst false (List.map brw v1.f3))]))] (.tup [.p (.int .i64 r.1), .p (.int .i64 r.2.1)]) [(1000, (0, .cells [.p (.lst false (List.map en94 r.2.2.f0.f0)), .p (.lst false (List.map en110 r.2.2.f0.f1)), .p (.lst false (List.map brw r.2.2.f1)), .p (.lst false (List.map brw r.2.2.f2)), .p (.lst false (List.map brw r.2.2.f3))]))] := by
 rw [spec_l17Match_ends.f] at h
 refine con_intro 47 [] Tryz.func106 (by kernel_rfl) rfl rfl (by kernel_rfl) fun ι0 w0 hk0 => ?_
 revert h
 refine bind_e (fun v2 e2 => ?_)
 replace e2 := nf_ (ix_en en110 e2)
 refine go 3 ?_
 refine grs ?_
 refine gr_run ?_
 refine bind_e (fun v3 e3 => gr_call [] (spec_l02Node.con e3) ?_)
 clear e3
 refine gr_run ?_
 refine gr_done ?_
 refine go 1 ?_
 refine grs ?_
 refine gr_run ?_
 refine bind_e (fun v5 e5 => gr_call [] (spec_l02Node.con e5) ?_)
 clear e5
 refine gr_run ?_
 refine gr_done ?_
 refine bind_e (fun v6 e6 => ?_)
 replace e6 := nf_ (ix_en brw e6)
 refine bif_e (fun c1 => ?_) (fun c1 => ?_)
 ·refine go 6 ?_
  refine ret_e (fun hr_ => ?_)
  subst hr_
  exact ret_ Tryz.func106 [(1000, (0, 1000, 0))]
 ·refine go 7 ?_
  refine ret_e (fun hr_ => ?_)
  subst hr_
  exact ret_ Tryz.func106 [(1000, (0, 1000, 0))]
mutual
def spec_l01InInts.l0 : Nat → (List Int) → Int → Int → Option (Bool)
 | 0, _, _, _ => none
 | k + 1, v0, v1, v2 => (bif decide (v2 < (v0.length : Int)) then ((ix v0 v2).bind fun v3 => (bif (v3 == v1) then (some true) else (spec_l01InInts.l0 k v0 v1 (IntKind.i64.wrap (v2 + 1))))) else (some false))
def spec_l01InInts.f : Nat → (List Int) → Int → Option (Bool)
 | 0, _, _ => none
 | k + 1, v0, v1 => (spec_l01InInts.l0 k v0 v1 0)
end
set_option maxRecDepth 100000 in
set_option maxHeartbeats 4000000 in
theorem spec_l01InInts.con {K : Kn} [KOk K] {k : Nat} {v0 : (List Int)} {v1 : Int} {r : Bool} (h : spec_l01InInts.f k v0 v1 = some r) : Con K Tryz.prog 71 [.p (.lst false (List.map (irow .i64) v0)), .p (.int .i64 v1)] [] (.p (.bool r)) [] := by
 cases k with
 | zero => exact absurd h (by simp [spec_l01InInts.f])
 | succ k =>
 rw [spec_l01InInts.f] at h
 refine con_intro 18 [] Tryz.func71 (by kernel_rfl) rfl rfl (by kernel_rfl) fun ι0 w0 hk0 => ?_
 revert h
 refine go 6 ?_
 refine fun h => good_loop (fun n st => n ≤ k ∧ ∃ (v2 : _), st = ⟨[(0, .p (.lst false (List.map (irow .i64) v0))), (1, .p (.int .i64 v1)), (5, .p (.int .i64 v2))], []⟩ ∧ spec_l01InInts.l0 n v0 v1 v2 = some r) k ⟨_, ⟨Nat.le_refl _, _, rfl, h⟩, frle_, memle_⟩ ?_
 clear h
 rintro n _ ⟨hkl0, v2, rfl, h⟩ hl0
 cases n with
 | zero => exact absurd h (by simp [spec_l01InInts.l0])
 | succ kl0 =>
 rw [spec_l01InInts.l0] at h
 revert h
 refine bif_e (fun c1 => ?_) (fun c1 => ?_)
 ·refine bind_e (fun v3 e3 => ?_)
  replace e3 := nf_ (ix_en (irow .i64) e3)
  refine bif_e (fun c2 => ?_) (fun c2 => ?_)
  ·refine go 12 ?_
   refine ret_e (fun hr_ => ?_)
   subst hr_
   exact ret_ Tryz.func71 []
  ·refine go 13 ?_
   exact fun h => good_again hl0 (by omega) ⟨_, ⟨by omega, _, rfl, h⟩, frle_, memle_⟩
 ·refine go 7 ?_
  refine ret_e (fun hr_ => ?_)
  subst hr_
  exact ret_ Tryz.func71 []
mutual
def spec_MatchingFault.l1 : Nat → Int → S31 → S80 → (List S94) → (List S110) → (List Bool) → (List Bool) → (List Bool) → Option (Int)
 | 0, _, _, _, _, _, _, _, _ => none
 | k + 1, v27, v0, v2, v9, v10, v11, v12, v13 => (bif decide (v27 < (v12.length : Int)) then ((ix v12 v27).bind fun v28 => (bif v28 then ((ix v0.f1 v27).bind fun v29 => ((spec_l01InInts.f k v2.f2 v29.f2).bind fun v30 => (bif v30 then (spec_MatchingFault.l1 k (IntKind.i64.wrap (v27 + 1)) v0 v2 v9 v10 v11 v12 v13) else ((spec_l01InInts.f k v2.f2 v29.f3).bind fun v32 => (bif v32 then (spec_MatchingFault.l1 k (IntKind.i64.wrap (v27 + 1)) v0 v2 v9 v10 v11 v12 v13) else (some 1)))))) else (spec_MatchingFault.l1 k (IntKind.i64.wrap (v27 + 1)) v0 v2 v9 v10 v11 v12 v13))) else (some 0))
def spec_MatchingFault.l0 : Nat → (List Bool) → Int → S31 → S80 → (List S94) → (List S110) → (List Bool) → (List Bool) → (List Bool) → (List Bool) → Option (Int)
 | 0, _, _, _, _, _, _, _, _, _, _ => none
 | k + 1, v7, v8, v0, v2, v9, v10, v11, v12, v13, v14 => (bif decide (v8 < (v2.f1.length : Int)) then ((ix v2.f1 v8).bind fun v15 => ((spec_l02Edge.f k v0 v15).bind fun v16 => (bif decide (v16 < 0) then (some 1) else ((ix v12 v16).bind fun v17 => (bif v17 then ((spec_l17Match_ends.f k v16 (⟨(⟨v9, v10⟩ : S31), v11, v12, v13⟩ : S177)).bind fun v18 => ((inr v18.1 v7.length).bind fun v19 => ((v14[(Int.toNat v18.1)]?).bind fun v20 => (bif v20 then (some 1) else ((inr v18.2.1 v7.length).bind fun v21 => ((v14[(Int.toNat v18.2.1)]?).bind fun v22 => (bif v22 then (some 1) else (((setr v14 (Int.toNat v18.1) true)[(Int.toNat v18.2.1)]?).bind fun v26 => (spec_MatchingFault.l0 k v7 (IntKind.i64.wrap (v8 + 1)) v0 v2 v18.2.2.f0.f0 v18.2.2.f0.f1 v18.2.2.f1 v18.2.2.f2 v18.2.2.f3 (setr (setr v14 (Int.toNat v18.1) true) (Int.toNat v18.2.1) true)))))))))) else (some 1)))))) else (spec_MatchingFault.l1 k 0 v0 v2 v9 v10 v11 v12 v13))
def spec_MatchingFault.f : Nat → S31 → ByteArray → S80 → Option (Int)
 | 0, _, _, _ => none
 | k + 1, v0, v1, v2 => (bif decide (65536 < (v1.size : Int)) then (some 1) else ((spec_GraphFault.f k v0).bind fun v3 => (bif (v3 == 0) then (bif (v2.f0 == 0) then ((spec_l17Rising.f k v2.f1).bind fun v4 => (bif v4 then ((spec_l17Nodes.f k v0 v2.f2).bind fun v5 => (bif v5 then (bif ((v2.f1.length : Int) == (v2.f2.length : Int)) then ((spec_l17New.f k v0 v1).bind fun v6 => ((mks false (v0.f0.length : Int) (v0.f0.length : Int)).bind fun v7 => (spec_MatchingFault.l0 k v7 0 v0 v2 v6.1 v6.2.1 v6.2.2.1 v6.2.2.2.1 v6.2.2.2.2 v7))) else (some 1)) else (some 1))) else (some 1))) else (some 1)) else (some 1))))
end
set_option maxRecDepth 100000 in
set_option maxHeartbeats 4000000 in
theorem spec_MatchingFault.con {K : Kn} [KOk K] {k : Nat} {v0 : S31} {v1 : ByteArray} {v2 : S80} {r : Int} (h : spec_MatchingFault.f k v0 v1 v2 = some r) : Con K Tryz.prog 49 [.agg [.p (.lst false (List.map en94 v0.f0)), .p (.lst false (List.map en110 v0.f1))], .p (.str v1), .agg [.p (.int .i64 v2.f0), .p (.lst false (List.map (irow .i64) v2.f1)), .p (.lst false (List.map (irow .i64) v2.f2))]] [] (.p (.int .i64 r)) [] := by
 cases k with
 | zero => exact absurd h (by simp [spec_MatchingFault.f])
 | succ k =>
 rw [spec_MatchingFault.f] at h
 refine con_intro 144 [] Tryz.func49 (by kernel_rfl) rfl rfl (by kernel_rfl) fun ι0 w0 hk0 => ?_
 revert h
 refine bif_e (fun c1 => ?_) (fun c1 => ?_)
 ·refine go 8 ?_
  refine ret_e (fun hr_ => ?_)
  subst hr_
  exact ret_ Tryz.func49 []
 ·refine go 4 ?_
  refine grs ?_
  refine gr_run ?_
  refine bind_e (fun v3 e3 => gr_call [] (spec_GraphFault.con e3) ?_)
  clear e3
  refine bif_e (fun c2 => ?_) (fun c2 => ?_)
  ·refine bif_e (fun c3 => ?_) (fun c3 => ?_)
   ·refine gr_run ?_
    refine bind_e (fun v4 e4 => gr_call [] (spec_l17Rising.con e4) ?_)
    clear e4
    refine bif_e (fun c4 => ?_) (fun c4 => ?_)
    ·refine gr_run ?_
     refine bind_e (fun v5 e5 => gr_call [] (spec_l17Nodes.con e5) ?_)
     clear e5
     refine bif_e (fun c5 => ?_) (fun c5 => ?_)
     ·refine gr_run ?_
      refine gr_done ?_
      refine bif_e (fun c6 => ?_) (fun c6 => ?_)
      ·refine go 3 ?_
       refine grs ?_
       refine gr_run ?_
       refine bind_e (fun v6 e6 => gr_call [(2000, (1, 51, 1))] (spec_l17New.con e6) ?_)
       clear e6
       refine gr_run ?_
       refine gr_done ?_
       refine bind_e (fun v7 e7 => ?_)
       replace e7 := nf_ (mks_en brw e7)
       refine go 6 ?_
       refine fun h => good_loop (fun n st => n ≤ k ∧ ∃ (v8 : _) (v9 : _) (v10 : _) (v11 : _) (v12 : _) (v13 : _) (v14 : _), st = ⟨[(3, .ptr 3 1 0), (5, .ptr 5 1 0), (7, .ptr 51 1 0), (8, .buf 55 1 0 v7.length), (9, .p (.int .i64 v8))], [(3, (1, .cells [.p (.lst false (List.map en94 v0.f0)), .p (.lst false (List.map en110 v0.f1))])), (5, (1, .cells [.p (.int .i64 v2.f0), .p (.lst false (List.map (irow .i64) v2.f1)), .p (.lst false (List.map (irow .i64) v2.f2))])), (51, (1, .cells [.p (.lst false (List.map en94 v9)), .p (.lst false (List.map en110 v10)), .p (.lst false (List.map brw v11)), .p (.lst false (List.map brw v12)), .p (.lst false (List.map brw v13))])), (55, (1, .buf 1 (List.map brw v14)))]⟩ ∧ spec_MatchingFault.l0 n v7 v8 v0 v2 v9 v10 v11 v12 v13 v14 = some r) k ⟨_, ⟨Nat.le_refl _, _, _, _, _, _, _, _, rfl, h⟩, frle_, memle_⟩ ?_
       clear c1 c2 c3 c4 c5 c6 e7
       clear h
       rintro n _ ⟨hkl0, v8, v9, v10, v11, v12, v13, v14, rfl, h⟩ hl0
       cases n with
       | zero => exact absurd h (by simp [spec_MatchingFault.l0])
       | succ kl0 =>
       rw [spec_MatchingFault.l0] at h
       revert h
       refine bif_e (fun c7 => ?_) (fun c7 => ?_)
       ·refine bind_e (fun v15 e15 => ?_)
        replace e15 := nf_ (ix_en (irow .i64) e15)
        refine go 8 ?_
        refine grs ?_
        refine gr_run ?_
        refine bind_e (fun v16 e16 => gr_call [] (spec_l02Edge.con e16) ?_)
        clear e16
        refine gr_run ?_
        refine gr_done ?_
        refine bif_e (fun c8 => ?_) (fun c8 => ?_)
        ·refine go 6 ?_
         refine ret_e (fun hr_ => ?_)
         subst hr_
         exact ret_ Tryz.func49 []
        ·refine bind_e (fun v17 e17 => ?_)
         replace e17 := nf_ (ix_en brw e17)
         refine bif_e (fun c9 => ?_) (fun c9 => ?_)
         ·refine go 6 ?_
          refine grs ?_
          refine gr_run ?_
          refine bind_e (fun v18 e18 => gr_call [(1000, (0, 51, 1))] (spec_l17Match_ends.con e18) ?_)
          clear e18
          refine gr_run ?_
          refine gr_done ?_
          refine bind_e (fun v19 e19 => ?_)
          refine bind_e (fun v20 e20 => ?_)
          replace e20 := nf_ (gx_en brw e20)
          refine bif_e (fun c10 => ?_) (fun c10 => ?_)
          ·refine go 6 ?_
           refine ret_e (fun hr_ => ?_)
           subst hr_
           exact ret_ Tryz.func49 []
          ·refine bind_e (fun v21 e21 => ?_)
           refine bind_e (fun v22 e22 => ?_)
           replace e22 := nf_ (gx_en brw e22)
           refine bif_e (fun c11 => ?_) (fun c11 => ?_)
           ·refine go 6 ?_
            refine ret_e (fun hr_ => ?_)
            subst hr_
            exact ret_ Tryz.func49 []
           ·refine bind_e (fun v26 e26 => ?_)
            replace e26 := nf_ (gx_en brw e26)
            refine go 10 ?_
            exact fun h => good_again hl0 (by omega) ⟨_, ⟨by omega, _, _, _, _, _, _, _, rfl, h⟩, frle_, memle_⟩
         ·refine go 6 ?_
          refine ret_e (fun hr_ => ?_)
          subst hr_
          exact ret_ Tryz.func49 []
       ·refine go 9 ?_
        refine fun h => good_loop (fun n st => n ≤ kl0 ∧ ∃ (v27 : _), st = ⟨[(3, .ptr 3 1 0), (5, .ptr 5 1 0), (7, .ptr 51 1 0), (13, .p (.int .i64 v27))], [(3, (1, .cells [.p (.lst false (List.map en94 v0.f0)), .p (.lst false (List.map en110 v0.f1))])), (5, (1, .cells [.p (.int .i64 v2.f0), .p (.lst false (List.map (irow .i64) v2.f1)), .p (.lst false (List.map (irow .i64) v2.f2))])), (51, (1, .cells [.p (.lst false (List.map en94 v9)), .p (.lst false (List.map en110 v10)), .p (.lst false (List.map brw v11)), .p (.lst false (List.map brw v12)), .p (.lst false (List.map brw v13))])), (55, (1, .gone))]⟩ ∧ spec_MatchingFault.l1 n v27 v0 v2 v9 v10 v11 v12 v13 = some r) kl0 ⟨_, ⟨Nat.le_refl _, _, rfl, h⟩, frle_, memle_⟩ ?_
        clear c7
        clear h
        rintro n _ ⟨hkl1, v27, rfl, h⟩ hl1
        cases n with
        | zero => exact absurd h (by simp [spec_MatchingFault.l1])
        | succ kl1 =>
        rw [spec_MatchingFault.l1] at h
        revert h
        refine bif_e (fun c12 => ?_) (fun c12 => ?_)
        ·refine bind_e (fun v28 e28 => ?_)
         replace e28 := nf_ (ix_en brw e28)
         refine bif_e (fun c13 => ?_) (fun c13 => ?_)
         ·refine bind_e (fun v29 e29 => ?_)
          replace e29 := nf_ (ix_en en110 e29)
          refine go 8 ?_
          refine grs ?_
          refine gr_run ?_
          refine bind_e (fun v30 e30 => gr_call [] (spec_l01InInts.con e30) ?_)
          clear e30
          refine bif_e (fun c14 => ?_) (fun c14 => ?_)
          ·refine gr_run ?_
           refine gr_done ?_
           refine go 4 ?_
           exact fun h => good_again hl1 (by omega) ⟨_, ⟨by omega, _, rfl, h⟩, frle_, memle_⟩
          ·refine gr_run ?_
           refine bind_e (fun v32 e32 => gr_call [] (spec_l01InInts.con e32) ?_)
           clear e32
           refine gr_run ?_
           refine gr_done ?_
           refine bif_e (fun c15 => ?_) (fun c15 => ?_)
           ·refine go 4 ?_
            exact fun h => good_again hl1 (by omega) ⟨_, ⟨by omega, _, rfl, h⟩, frle_, memle_⟩
           ·refine go 3 ?_
            refine ret_e (fun hr_ => ?_)
            subst hr_
            exact ret_ Tryz.func49 []
         ·refine go 8 ?_
          refine grs ?_
          refine gr_run ?_
          refine gr_done ?_
          refine go 4 ?_
          exact fun h => good_again hl1 (by omega) ⟨_, ⟨by omega, _, rfl, h⟩, frle_, memle_⟩
        ·refine go 7 ?_
         refine ret_e (fun hr_ => ?_)
         subst hr_
         exact ret_ Tryz.func49 []
      ·refine go 3 ?_
       refine ret_e (fun hr_ => ?_)
       subst hr_
       exact ret_ Tryz.func49 []
     ·refine gr_run ?_
      refine gr_done ?_
      refine go 3 ?_
      refine ret_e (fun hr_ => ?_)
      subst hr_
      exact ret_ Tryz.func49 []
    ·refine gr_run ?_
     refine gr_done ?_
     refine go 3 ?_
     refine ret_e (fun hr_ => ?_)
     subst hr_
     exact ret_ Tryz.func49 []
   ·refine gr_run ?_
    refine gr_done ?_
    refine go 3 ?_
    refine ret_e (fun hr_ => ?_)
    subst hr_
    exact ret_ Tryz.func49 []
  ·refine gr_run ?_
   refine gr_done ?_
   refine go 3 ?_
   refine ret_e (fun hr_ => ?_)
   subst hr_
   exact ret_ Tryz.func49 []
end Go.Ab
