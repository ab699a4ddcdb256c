/- What the functions compute, and their contracts, part 4. No condition beyond KOk. -/
import Derived.Test.YtaddedbombndlaaGreatDoorAbX
import Derived.Test.YtaddedbombndlaaGreatDoorAbF2
import Derived.Test.YtaddedbombndlaaGreatDoorAbF3
namespace Go.Ab
open Go.Proofs
set_option linter.unusedVariables false
set_option linter.unusedSimpArgs false
def spec_l01Read.f (k : Nat) (v0 : ByteArray) : Option (S101) := (bif decide (2000 < (v0.size : Int)) then (some (⟨(-1), 0, 0, (⟨#[]⟩ : ByteArray), ([] : (List S101)), ([] : (List ByteArray))⟩ : S101)) else ((spec_l01Reader_value.f k 0 (⟨v0, 0, false⟩ : S112)).bind fun v1 => (bif v1.2.f2 then (some (⟨(-1), 0, 0, (⟨#[]⟩ : ByteArray), ([] : (List S101)), ([] : (List ByteArray))⟩ : S101)) else (bif (v1.2.f1 == (v0.size : Int)) then (some v1.1) else (some (⟨(-1), 0, 0, (⟨#[]⟩ : ByteArray), ([] : (List S101)), ([] : (List ByteArray))⟩ : S101))))))
set_option maxRecDepth 100000 in
set_option maxHeartbeats 4000000 in
theorem spec_l01Read.con {K : Kn} [KOk K] {k : Nat} {v0 : ByteArray} {r : S101} (h : spec_l01Read.f k v0 = some r) : Con K Tryz.prog 66 [.p (.str v0)] [] (.agg [.p (.int .i64 r.f0), .p (.int .i64 r.f1), .p (.int .i64 r.f2), .p (.str r.f3), .p (.lst false (List.map en101 r.f4)), .p (.lst false (List.map srw r.f5))]) [] := by
 rw [spec_l01Read.f] at h
 refine con_intro 29 [] Tryz.func66 (by kernel_rfl) rfl rfl (by kernel_rfl) fun ι0 w0 hk0 => ?_
 revert h
 refine bif_e (fun c1 => ?_) (fun c1 => ?_)
 ·refine go 8 ?_
  refine ret_e (fun hr_ => ?_)
  subst hr_
  exact ret_ Tryz.func66 []
 ·refine go 10 ?_
  refine grs ?_
  refine gr_run ?_
  refine bind_e (fun v1 e1 => gr_call [(1000, (0, 11, 1))] (spec_l01Reader_value.con e1) ?_)
  clear e1
  refine gr_run ?_
  refine gr_done ?_
  refine bif_e (fun c2 => ?_) (fun c2 => ?_)
  ·refine go 6 ?_
   refine ret_e (fun hr_ => ?_)
   subst hr_
   exact ret_ Tryz.func66 []
  ·refine bif_e (fun c3 => ?_) (fun c3 => ?_)
   ·refine go 7 ?_
    refine ret_e (fun hr_ => ?_)
    subst hr_
    exact ret_ Tryz.func66 []
   ·refine go 6 ?_
    refine ret_e (fun hr_ => ?_)
    subst hr_
    exact ret_ Tryz.func66 []
mutual
def spec_l02Plain.l0 : Nat → Int → S101 → Option (Bool)
 | 0, _, _ => none
 | k + 1, v1, v0 => (bif decide (v1 < (v0.f4.length : Int)) then ((ix v0.f4 v1).bind fun v2 => (bif (v2.f0 == 0) then (spec_l02Plain.l0 k (IntKind.i64.wrap (v1 + 1)) v0) else ((spec_l02Plain.f k v2).bind fun v4 => (bif v4 then (spec_l02Plain.l0 k (IntKind.i64.wrap (v1 + 1)) v0) else (some false))))) else (some true))
def spec_l02Plain.f : Nat → S101 → Option (Bool)
 | 0, _ => none
 | k + 1, v0 => (bif decide (v0.f0 < 0) then (some false) else (bif decide (8 ≤ v0.f0) then (some false) else (spec_l02Plain.l0 k 0 v0)))
end
def spec_l02Plain.C (K : Kn) (k : Nat) : Prop := ∀ (v0 : S101) (r : Bool), spec_l02Plain.f k v0 = some r → Con K Tryz.prog 67 [.agg [.p (.int .i64 v0.f0), .p (.int .i64 v0.f1), .p (.int .i64 v0.f2), .p (.str v0.f3), .p (.lst false (List.map en101 v0.f4)), .p (.lst false (List.map srw v0.f5))]] [] (.p (.bool r)) []
set_option maxRecDepth 100000 in
set_option maxHeartbeats 4000000 in
theorem spec_l02Plain.con1 {K : Kn} [KOk K] (k : Nat) (spec_l02Plain_ih : ∀ m, m < k → spec_l02Plain.C K m) : spec_l02Plain.C K k := by
 intro v0 r h
 cases k with
 | zero => exact absurd h (by simp [spec_l02Plain.f])
 | succ k =>
 rw [spec_l02Plain.f] at h
 refine con_intro 35 [] Tryz.func67 (by kernel_rfl) rfl rfl (by kernel_rfl) fun ι0 w0 hk0 => ?_
 revert h
 refine bif_e (fun c1 => ?_) (fun c1 => ?_)
 ·refine go 8 ?_
  refine ret_e (fun hr_ => ?_)
  subst hr_
  exact ret_ Tryz.func67 []
 ·refine bif_e (fun c2 => ?_) (fun c2 => ?_)
  ·refine go 8 ?_
   refine ret_e (fun hr_ => ?_)
   subst hr_
   exact ret_ Tryz.func67 []
  ·refine go 11 ?_
   refine fun h => good_loop (fun n st => n ≤ k ∧ ∃ (v1 : _), st = ⟨[(1, .ptr 1 1 0), (3, .p (.int .i64 v1))], [(1, (1, .cells [.p (.int .i64 v0.f0), .p (.int .i64 v0.f1), .p (.int .i64 v0.f2), .p (.str v0.f3), .p (.lst false (List.map en101 v0.f4)), .p (.lst false (List.map srw v0.f5))]))]⟩ ∧ spec_l02Plain.l0 n v1 v0 = some r) k ⟨_, ⟨Nat.le_refl _, _, rfl, h⟩, frle_, memle_⟩ ?_
   clear c1 c2
   clear h
   rintro n _ ⟨hkl0, v1, rfl, h⟩ hl0
   cases n with
   | zero => exact absurd h (by simp [spec_l02Plain.l0])
   | succ kl0 =>
   rw [spec_l02Plain.l0] at h
   revert h
   refine bif_e (fun c3 => ?_) (fun c3 => ?_)
   ·refine bind_e (fun v2 e2 => ?_)
    replace e2 := nf_ (ix_en en101 e2)
    refine bif_e (fun c4 => ?_) (fun c4 => ?_)
    ·refine go 13 ?_
     exact fun h => good_again hl0 (by omega) ⟨_, ⟨by omega, _, rfl, h⟩, frle_, memle_⟩
    ·refine go 8 ?_
     refine grs ?_
     refine gr_run ?_
     refine bind_e (fun v4 e4 => gr_call [] (spec_l02Plain_ih _ (by omega) _ _ e4) ?_)
     clear e4
     refine gr_run ?_
     refine gr_done ?_
     refine bif_e (fun c5 => ?_) (fun c5 => ?_)
     ·refine go 4 ?_
      exact fun h => good_again hl0 (by omega) ⟨_, ⟨by omega, _, rfl, h⟩, frle_, memle_⟩
     ·refine go 3 ?_
      refine ret_e (fun hr_ => ?_)
      subst hr_
      exact ret_ Tryz.func67 []
   ·refine go 7 ?_
    refine ret_e (fun hr_ => ?_)
    subst hr_
    exact ret_ Tryz.func67 []
theorem spec_l02Plain.all {K : Kn} [KOk K] (k : Nat) : spec_l02Plain.C K k := by
 induction k using Nat.strongRecOn with
 | _ k ih => exact spec_l02Plain.con1 k ih
theorem spec_l02Plain.con {K : Kn} [KOk K] {k : Nat} {v0 : S101} {r : Bool} (h : spec_l02Plain.f k v0 = some r) : Con K Tryz.prog 67 [.agg [.p (.int .i64 v0.f0), .p (.int .i64 v0.f1), .p (.int .i64 v0.f2), .p (.str v0.f3), .p (.lst false (List.map en101 v0.f4)), .p (.lst false (List.map srw v0.f5))]] [] (.p (.bool r)) [] := (spec_l02Plain.all k) _ r h
def spec_l02Value.f (k : Nat) (v0 : ByteArray) : Option (Bool) := ((spec_l01Read.f k v0).bind fun v1 => (bif (v1.f0 == 0) then (some false) else ((spec_l02Plain.f k v1).bind fun v2 => (some v2))))
set_option maxRecDepth 100000 in
set_option maxHeartbeats 4000000 in
theorem spec_l02Value.con {K : Kn} [KOk K] {k : Nat} {v0 : ByteArray} {r : Bool} (h : spec_l02Value.f k v0 = some r) : Con K Tryz.prog 58 [.p (.str v0)] [] (.p (.bool r)) [] := by
 rw [spec_l02Value.f] at h
 refine con_intro 13 [] Tryz.func58 (by kernel_rfl) rfl rfl (by kernel_rfl) fun ι0 w0 hk0 => ?_
 revert h
 refine go 3 ?_
 refine grs ?_
 refine gr_run ?_
 refine bind_e (fun v1 e1 => gr_call [] (spec_l01Read.con e1) ?_)
 clear e1
 refine gr_run ?_
 refine gr_done ?_
 refine bif_e (fun c1 => ?_) (fun c1 => ?_)
 ·refine go 2 ?_
  refine ret_e (fun hr_ => ?_)
  subst hr_
  exact ret_ Tryz.func58 []
 ·refine go 1 ?_
  refine grs ?_
  refine gr_run ?_
  refine bind_e (fun v2 e2 => gr_call [] (spec_l02Plain.con e2) ?_)
  clear e2
  refine gr_run ?_
  refine gr_done ?_
  refine ret_e (fun hr_ => ?_)
  subst hr_
  exact ret_ Tryz.func58 []
mutual
def spec_l02Fields.l0 : Nat → (List S92) → Int → Option (Bool)
 | 0, _, _ => none
 | k + 1, v0, v1 => (bif decide (v1 < (v0.length : Int)) then ((ix v0 v1).bind fun v2 => ((spec_l01Name.f k v2.f0).bind fun v3 => (bif v3 then (bif decide (0 < v1) then ((ix v0 (IntKind.i64.wrap (v1 - 1))).bind fun v4 => (bif slt v4.f0 v2.f0 then ((spec_l02Value.f k v2.f1).bind fun v7 => (bif v7 then (spec_l02Fields.l0 k v0 (IntKind.i64.wrap (v1 + 1))) else (some false))) else (some false))) else ((spec_l02Value.f k v2.f1).bind fun v9 => (bif v9 then (spec_l02Fields.l0 k v0 (IntKind.i64.wrap (v1 + 1))) else (some false)))) else (some false)))) else (some true))
def spec_l02Fields.f : Nat → (List S92) → Option (Bool)
 | 0, _ => none
 | k + 1, v0 => (bif decide (20 < (v0.length : Int)) then (some false) else (spec_l02Fields.l0 k v0 0))
end
set_option maxRecDepth 100000 in
set_option maxHeartbeats 4000000 in
theorem spec_l02Fields.con {K : Kn} [KOk K] {k : Nat} {v0 : (List S92)} {r : Bool} (h : spec_l02Fields.f k v0 = some r) : Con K Tryz.prog 46 [.p (.lst false (List.map en92 v0))] [] (.p (.bool r)) [] := by
 cases k with
 | zero => exact absurd h (by simp [spec_l02Fields.f])
 | succ k =>
 rw [spec_l02Fields.f] at h
 refine con_intro 47 [] Tryz.func46 (by kernel_rfl) rfl rfl (by kernel_rfl) fun ι0 w0 hk0 => ?_
 revert h
 refine bif_e (fun c1 => ?_) (fun c1 => ?_)
 ·refine go 8 ?_
  refine ret_e (fun hr_ => ?_)
  subst hr_
  exact ret_ Tryz.func46 []
 ·refine go 11 ?_
  refine fun h => good_loop (fun n st => n ≤ k ∧ ∃ (v1 : _), st = ⟨[(0, .p (.lst false (List.map en92 v0))), (3, .p (.int .i64 v1))], []⟩ ∧ spec_l02Fields.l0 n v0 v1 = some r) k ⟨_, ⟨Nat.le_refl _, _, rfl, h⟩, frle_, memle_⟩ ?_
  clear c1
  clear h
  rintro n _ ⟨hkl0, v1, rfl, h⟩ hl0
  cases n with
  | zero => exact absurd h (by simp [spec_l02Fields.l0])
  | succ kl0 =>
  rw [spec_l02Fields.l0] at h
  revert h
  refine bif_e (fun c2 => ?_) (fun c2 => ?_)
  ·refine bind_e (fun v2 e2 => ?_)
   replace e2 := nf_ (ix_en en92 e2)
   refine go 8 ?_
   refine grs ?_
   refine gr_run ?_
   refine bind_e (fun v3 e3 => gr_call [] (spec_l01Name.con e3) ?_)
   clear e3
   refine bif_e (fun c3 => ?_) (fun c3 => ?_)
   ·refine bif_e (fun c4 => ?_) (fun c4 => ?_)
    ·refine bind_e (fun v4 e4 => ?_)
     replace e4 := nf_ (ix_en en92 e4)
     refine bif_e (fun c5 => ?_) (fun c5 => ?_)
     ·refine gr_run ?_
      refine bind_e (fun v7 e7 => gr_call [] (spec_l02Value.con e7) ?_)
      clear e7
      refine gr_run ?_
      refine gr_done ?_
      refine bif_e (fun c6 => ?_) (fun c6 => ?_)
      ·refine go 4 ?_
       exact fun h => good_again hl0 (by omega) ⟨_, ⟨by omega, _, rfl, h⟩, frle_, memle_⟩
      ·refine go 3 ?_
       refine ret_e (fun hr_ => ?_)
       subst hr_
       exact ret_ Tryz.func46 []
     ·refine gr_run ?_
      refine gr_done ?_
      refine go 3 ?_
      refine ret_e (fun hr_ => ?_)
      subst hr_
      exact ret_ Tryz.func46 []
    ·refine gr_run ?_
     refine bind_e (fun v9 e9 => gr_call [] (spec_l02Value.con e9) ?_)
     clear e9
     refine gr_run ?_
     refine gr_done ?_
     refine bif_e (fun c7 => ?_) (fun c7 => ?_)
     ·refine go 4 ?_
      exact fun h => good_again hl0 (by omega) ⟨_, ⟨by omega, _, rfl, h⟩, frle_, memle_⟩
     ·refine go 3 ?_
      refine ret_e (fun hr_ => ?_)
      subst hr_
      exact ret_ Tryz.func46 []
   ·refine gr_run ?_
    refine gr_done ?_
    refine go 3 ?_
    refine ret_e (fun hr_ => ?_)
    subst hr_
    exact ret_ Tryz.func46 []
  ·refine go 7 ?_
   refine ret_e (fun hr_ => ?_)
   subst hr_
   exact ret_ Tryz.func46 []
def spec_l02IsNode.f (k : Nat) (v0 : S46) : Option (Bool) := ((spec_l02Id.f k v0.f0).bind fun v1 => (bif v1 then ((spec_l02Labels.f k v0.f1).bind fun v2 => (bif v2 then ((spec_l02Fields.f k v0.f2).bind fun v3 => (some v3)) else (some false))) else (some false)))
set_option maxRecDepth 100000 in
set_option maxHeartbeats 4000000 in
theorem spec_l02IsNode.con {K : Kn} [KOk K] {k : Nat} {v0 : S46} {r : Bool} (h : spec_l02IsNode.f k v0 = some r) : Con K Tryz.prog 31 [.agg [.p (.int .i64 v0.f0), .p (.lst false (List.map srw v0.f1)), .p (.lst false (List.map en92 v0.f2))]] [] (.p (.bool r)) [] := by
 rw [spec_l02IsNode.f] at h
 refine con_intro 16 [] Tryz.func31 (by kernel_rfl) rfl rfl (by kernel_rfl) fun ι0 w0 hk0 => ?_
 revert h
 refine go 3 ?_
 refine grs ?_
 refine gr_run ?_
 refine bind_e (fun v1 e1 => gr_call [] (spec_l02Id.con e1) ?_)
 clear e1
 refine bif_e (fun c1 => ?_) (fun c1 => ?_)
 ·refine gr_run ?_
  refine bind_e (fun v2 e2 => gr_call [] (spec_l02Labels.con e2) ?_)
  clear e2
  refine bif_e (fun c2 => ?_) (fun c2 => ?_)
  ·refine gr_run ?_
   refine bind_e (fun v3 e3 => gr_call [] (spec_l02Fields.con e3) ?_)
   clear e3
   refine gr_run ?_
   refine gr_done ?_
   refine ret_e (fun hr_ => ?_)
   subst hr_
   exact ret_ Tryz.func31 []
  ·refine gr_run ?_
   refine gr_done ?_
   refine ret_e (fun hr_ => ?_)
   subst hr_
   exact ret_ Tryz.func31 []
 ·refine gr_run ?_
  refine gr_done ?_
  refine ret_e (fun hr_ => ?_)
  subst hr_
  exact ret_ Tryz.func31 []
def spec_l02IsEdge.f (k : Nat) (v0 : S49) : Option (Bool) := ((spec_l02Id.f k v0.f0).bind fun v1 => (bif v1 then ((spec_l01Name.f k v0.f1).bind fun v2 => (bif v2 then ((spec_l02Id.f k v0.f2).bind fun v3 => (bif v3 then ((spec_l02Id.f k v0.f3).bind fun v4 => (bif v4 then ((spec_l02Fields.f k v0.f4).bind fun v5 => (some v5)) else (some false))) else (some false))) else (some false))) else (some false)))
set_option maxRecDepth 100000 in
set_option maxHeartbeats 4000000 in
theorem spec_l02IsEdge.con {K : Kn} [KOk K] {k : Nat} {v0 : S49} {r : Bool} (h : spec_l02IsEdge.f k v0 = some r) : Con K Tryz.prog 32 [.agg [.p (.int .i64 v0.f0), .p (.str v0.f1), .p (.int .i64 v0.f2), .p (.int .i64 v0.f3), .p (.lst false (List.map en92 v0.f4))]] [] (.p (.bool r)) [] := by
 rw [spec_l02IsEdge.f] at h
 refine con_intro 26 [] Tryz.func32 (by kernel_rfl) rfl rfl (by kernel_rfl) fun ι0 w0 hk0 => ?_
 revert h
 refine go 3 ?_
 refine grs ?_
 refine gr_run ?_
 refine bind_e (fun v1 e1 => gr_call [] (spec_l02Id.con e1) ?_)
 clear e1
 refine bif_e (fun c1 => ?_) (fun c1 => ?_)
 ·refine gr_run ?_
  refine bind_e (fun v2 e2 => gr_call [] (spec_l01Name.con e2) ?_)
  clear e2
  refine bif_e (fun c2 => ?_) (fun c2 => ?_)
  ·refine gr_run ?_
   refine bind_e (fun v3 e3 => gr_call [] (spec_l02Id.con e3) ?_)
   clear e3
   refine bif_e (fun c3 => ?_) (fun c3 => ?_)
   ·refine gr_run ?_
    refine bind_e (fun v4 e4 => gr_call [] (spec_l02Id.con e4) ?_)
    clear e4
    refine bif_e (fun c4 => ?_) (fun c4 => ?_)
    ·refine gr_run ?_
     refine bind_e (fun v5 e5 => gr_call [] (spec_l02Fields.con e5) ?_)
     clear e5
     refine gr_run ?_
     refine gr_done ?_
     refine ret_e (fun hr_ => ?_)
     subst hr_
     exact ret_ Tryz.func32 []
    ·refine gr_run ?_
     refine gr_done ?_
     refine ret_e (fun hr_ => ?_)
     subst hr_
     exact ret_ Tryz.func32 []
   ·refine gr_run ?_
    refine gr_done ?_
    refine ret_e (fun hr_ => ?_)
    subst hr_
    exact ret_ Tryz.func32 []
  ·refine gr_run ?_
   refine gr_done ?_
   refine ret_e (fun hr_ => ?_)
   subst hr_
   exact ret_ Tryz.func32 []
 ·refine gr_run ?_
  refine gr_done ?_
  refine ret_e (fun hr_ => ?_)
  subst hr_
  exact ret_ Tryz.func32 []
mutual
def spec_l02Node.l0 : Nat → Int → Int → S31 → Option (Int)
 | 0, _, _, _ => none
 | k + 1, v1, v2, v0 => (bif decide (v2 < (v0.f0.length : Int)) then ((ix v0.f0 v2).bind fun v3 => (bif (v3.f0 == v1) then (some v2) else (spec_l02Node.l0 k v1 (IntKind.i64.wrap (v2 + 1)) v0))) else (some (-1)))
def spec_l02Node.f : Nat → S31 → Int → Option (Int)
 | 0, _, _ => none
 | k + 1, v0, v1 => (spec_l02Node.l0 k v1 0 v0)
end
set_option maxRecDepth 100000 in
set_option maxHeartbeats 4000000 in
theorem spec_l02Node.con {K : Kn} [KOk K] {k : Nat} {v0 : S31} {v1 : Int} {r : Int} (h : spec_l02Node.f k v0 v1 = some r) : Con K Tryz.prog 17 [.agg [.p (.lst false (List.map en46 v0.f0)), .p (.lst false (List.map en49 v0.f1))], .p (.int .i64 v1)] [] (.p (.int .i64 r)) [] := by
 cases k with
 | zero => exact absurd h (by simp [spec_l02Node.f])
 | succ k =>
 rw [spec_l02Node.f] at h
 refine con_intro 22 [] Tryz.func17 (by kernel_rfl) rfl rfl (by kernel_rfl) fun ι0 w0 hk0 => ?_
 revert h
 refine go 6 ?_
 refine fun h => good_loop (fun n st => n ≤ k ∧ ∃ (v2 : _), st = ⟨[(1, .p (.int .i64 v1)), (2, .ptr 2 1 0), (5, .p (.int .i64 v2))], [(2, (1, .cells [.p (.lst false (List.map en46 v0.f0)), .p (.lst false (List.map en49 v0.f1))]))]⟩ ∧ spec_l02Node.l0 n v1 v2 v0 = some r) k ⟨_, ⟨Nat.le_refl _, _, rfl, h⟩, frle_, memle_⟩ ?_
 clear h
 rintro n _ ⟨hkl0, v2, rfl, h⟩ hl0
 cases n with
 | zero => exact absurd h (by simp [spec_l02Node.l0])
 | succ kl0 =>
 rw [spec_l02Node.l0] at h
 revert h
 refine bif_e (fun c1 => ?_) (fun c1 => ?_)
 ·refine bind_e (fun v3 e3 => ?_)
  replace e3 := nf_ (ix_en en46 e3)
  refine bif_e (fun c2 => ?_) (fun c2 => ?_)
  ·refine go 12 ?_
   refine ret_e (fun hr_ => ?_)
   subst hr_
   exact ret_ Tryz.func17 []
  ·refine go 13 ?_
   exact fun h => good_again hl0 (by omega) ⟨_, ⟨by omega, _, rfl, h⟩, frle_, memle_⟩
 ·refine go 7 ?_
  refine ret_e (fun hr_ => ?_)
  subst hr_
  exact ret_ Tryz.func17 []
mutual
def spec_GraphFault.j0 : Nat → Int → S31 → Option (Int)
 | 0, _, _ => none
 | k + 1, v1, v0 => (spec_GraphFault.l0 k (IntKind.i64.wrap (v1 + 1)) v0)
def spec_GraphFault.l1 : Nat → Int → S31 → Option (Int)
 | 0, _, _ => none
 | k + 1, v6, v0 => (bif decide (v6 < (v0.f1.length : Int)) then ((ix v0.f1 v6).bind fun v8 => ((spec_l02IsEdge.f k v8).bind fun v9 => (bif v9 then (bif decide (0 < v6) then ((ix v0.f1 (IntKind.i64.wrap (v6 - 1))).bind fun v10 => (bif decide (v8.f0 ≤ v10.f0) then (some 1) else ((spec_l02Node.f k v0 v8.f2).bind fun v11 => (bif decide (v11 < 0) then (some 1) else ((spec_l02Node.f k v0 v8.f3).bind fun v12 => (bif decide (v12 < 0) then (some 1) else (spec_GraphFault.l1 k (IntKind.i64.wrap (v6 + 1)) v0))))))) else ((spec_l02Node.f k v0 v8.f2).bind fun v13 => (bif decide (v13 < 0) then (some 1) else ((spec_l02Node.f k v0 v8.f3).bind fun v14 => (bif decide (v14 < 0) then (some 1) else (spec_GraphFault.l1 k (IntKind.i64.wrap (v6 + 1)) v0)))))) else (some 1)))) else (some 0))
def spec_GraphFault.l0 : Nat → Int → S31 → Option (Int)
 | 0, _, _ => none
 | k + 1, v1, v0 => (bif decide (v1 < (v0.f0.length : Int)) then ((ix v0.f0 v1).bind fun v2 => ((spec_l02IsNode.f k v2).bind fun v3 => (bif v3 then (bif decide (0 < v1) then ((ix v0.f0 (IntKind.i64.wrap (v1 - 1))).bind fun v4 => (bif decide (v2.f0 ≤ v4.f0) then (some 1) else (spec_GraphFault.j0 k v1 v0))) else (spec_GraphFault.j0 k v1 v0)) else (some 1)))) else (spec_GraphFault.l1 k 0 v0))
def spec_GraphFault.f : Nat → S31 → Option (Int)
 | 0, _ => none
 | k + 1, v0 => (bif decide (200 < (v0.f0.length : Int)) then (some 1) else (bif decide (400 < (v0.f1.length : Int)) then (some 1) else (spec_GraphFault.l0 k 0 v0)))
end
set_option maxRecDepth 100000 in
set_option maxHeartbeats 4000000 in
theorem spec_GraphFault.con {K : Kn} [KOk K] {k : Nat} {v0 : S31} {r : Int} (h : spec_GraphFault.f k v0 = some r) : Con K Tryz.prog 15 [.agg [.p (.lst false (List.map en46 v0.f0)), .p (.lst false (List.map en49 v0.f1))]] [] (.p (.int .i64 r)) [] := by
 cases k with
 | zero => exact absurd h (by simp [spec_GraphFault.f])
 | succ k =>
 rw [spec_GraphFault.f] at h
 refine con_intro 95 [] Tryz.func15 (by kernel_rfl) rfl rfl (by kernel_rfl) fun ι0 w0 hk0 => ?_
 revert h
 refine bif_e (fun c1 => ?_) (fun c1 => ?_)
 ·refine go 8 ?_
  refine ret_e (fun hr_ => ?_)
  subst hr_
  exact ret_ Tryz.func15 []
 ·refine bif_e (fun c2 => ?_) (fun c2 => ?_)
  ·refine go 8 ?_
   refine ret_e (fun hr_ => ?_)
   subst hr_
   exact ret_ Tryz.func15 []
  ·refine go 11 ?_
   refine fun h => good_loop (fun n st => n ≤ k ∧ ∃ (v1 : _), st = ⟨[(1, .ptr 1 1 0), (3, .p (.int .i64 v1))], [(1, (1, .cells [.p (.lst false (List.map en46 v0.f0)), .p (.lst false (List.map en49 v0.f1))]))]⟩ ∧ spec_GraphFault.l0 n v1 v0 = some r) k ⟨_, ⟨Nat.le_refl _, _, rfl, h⟩, frle_, memle_⟩ ?_
   clear c1 c2
   clear h
   rintro n _ ⟨hkl0, v1, rfl, h⟩ hl0
   cases n with
   | zero => exact absurd h (by simp [spec_GraphFault.l0])
   | succ kl0 =>
   rw [spec_GraphFault.l0] at h
   revert h
   refine bif_e (fun c3 => ?_) (fun c3 => ?_)
   ·refine go 8 ?_
    refine good_cut_f (fun st => ∃ (q_ : Nat), q_ ≤ kl0 ∧ st = ⟨[(1, .ptr 1 1 0), (3, .p (.int .i64 v1))], [(1, (1, .cells [.p (.lst false (List.map en46 v0.f0)), .p (.lst false (List.map en49 v0.f1))]))]⟩ ∧ spec_GraphFault.j0 q_ v1 v0 = some r) ?_ (fun hj0 => ?_)
    ·clear c3
     rintro _ ⟨q_, hqj0, rfl, h⟩
     cases q_ with
     | zero => exact absurd h (by simp [spec_GraphFault.j0])
     | succ kj0 =>
     rw [spec_GraphFault.j0] at h
     revert h
     refine go 3 ?_
     exact fun h => good_again hl0 (by omega) ⟨_, ⟨by omega, _, rfl, h⟩, frle_, memle_⟩
    ·refine bind_e (fun v2 e2 => ?_)
     replace e2 := nf_ (ix_en en46 e2)
     refine grs ?_
     refine gr_run ?_
     refine bind_e (fun v3 e3 => gr_call [] (spec_l02IsNode.con e3) ?_)
     clear e3
     refine bif_e (fun c4 => ?_) (fun c4 => ?_)
     ·refine bif_e (fun c5 => ?_) (fun c5 => ?_)
      ·refine bind_e (fun v4 e4 => ?_)
       replace e4 := nf_ (ix_en en46 e4)
       refine gr_run ?_
       refine gr_done ?_
       refine bif_e (fun c6 => ?_) (fun c6 => ?_)
       ·refine go 3 ?_
        refine ret_e (fun hr_ => ?_)
        subst hr_
        exact ret_ Tryz.func15 []
       ·refine go 1 ?_
        exact fun h => good_jump hj0 ⟨_, ⟨_, by omega, rfl, h⟩, frle_, memle_⟩
      ·refine gr_run ?_
       refine gr_done ?_
       refine go 1 ?_
       exact fun h => good_jump hj0 ⟨_, ⟨_, by omega, rfl, h⟩, frle_, memle_⟩
     ·refine gr_run ?_
      refine gr_done ?_
      refine go 3 ?_
      refine ret_e (fun hr_ => ?_)
      subst hr_
      exact ret_ Tryz.func15 []
   ·refine go 9 ?_
    refine fun h => good_loop (fun n st => n ≤ kl0 ∧ ∃ (v6 : _) (g7 : Nat), st = ⟨[(1, .ptr 1 1 0), (4, .p (.int .i64 v6))], [(1, (1, .cells [.p (.lst false (List.map en46 v0.f0)), .p (.lst false (List.map en49 v0.f1))])), (5, (g7, .gone))]⟩ ∧ spec_GraphFault.l1 n v6 v0 = some r) kl0 ⟨_, ⟨Nat.le_refl _, _, 0, rfl, h⟩, frle_, memle_⟩ ?_
    clear c3
    clear h
    rintro n _ ⟨hkl1, v6, g7, rfl, h⟩ hl1
    cases n with
    | zero => exact absurd h (by simp [spec_GraphFault.l1])
    | succ kl1 =>
    rw [spec_GraphFault.l1] at h
    revert h
    refine bif_e (fun c7 => ?_) (fun c7 => ?_)
    ·refine bind_e (fun v8 e8 => ?_)
     replace e8 := nf_ (ix_en en49 e8)
     refine go 10 ?_
     refine grs ?_
     refine gr_run ?_
     refine bind_e (fun v9 e9 => gr_call [] (spec_l02IsEdge.con e9) ?_)
     clear e9
     refine bif_e (fun c8 => ?_) (fun c8 => ?_)
     ·refine bif_e (fun c9 => ?_) (fun c9 => ?_)
      ·refine bind_e (fun v10 e10 => ?_)
       replace e10 := nf_ (ix_en en49 e10)
       refine bif_e (fun c10 => ?_) (fun c10 => ?_)
       ·refine gr_run ?_
        refine gr_done ?_
        refine go 3 ?_
        refine ret_e (fun hr_ => ?_)
        subst hr_
        exact ret_ Tryz.func15 []
       ·refine gr_run ?_
        refine bind_e (fun v11 e11 => gr_call [] (spec_l02Node.con e11) ?_)
        clear e11
        refine bif_e (fun c11 => ?_) (fun c11 => ?_)
        ·refine gr_run ?_
         refine gr_done ?_
         refine go 3 ?_
         refine ret_e (fun hr_ => ?_)
         subst hr_
         exact ret_ Tryz.func15 []
        ·refine gr_run ?_
         refine bind_e (fun v12 e12 => gr_call [] (spec_l02Node.con e12) ?_)
         clear e12
         refine gr_run ?_
         refine gr_done ?_
         refine bif_e (fun c12 => ?_) (fun c12 => ?_)
         ·refine go 3 ?_
          refine ret_e (fun hr_ => ?_)
          subst hr_
          exact ret_ Tryz.func15 []
         ·refine go 4 ?_
          exact fun h => good_again hl1 (by omega) ⟨_, ⟨by omega, _, g7 + 1, rfl, h⟩, frle_, memle_⟩
      ·refine gr_run ?_
       refine bind_e (fun v13 e13 => gr_call [] (spec_l02Node.con e13) ?_)
       clear e13
       refine bif_e (fun c13 => ?_) (fun c13 => ?_)
       ·refine gr_run ?_
        refine gr_done ?_
        refine go 3 ?_
        refine ret_e (fun hr_ => ?_)
        subst hr_
        exact ret_ Tryz.func15 []
       ·refine gr_run ?_
        refine bind_e (fun v14 e14 => gr_call [] (spec_l02Node.con e14) ?_)
        clear e14
        refine gr_run ?_
        refine gr_done ?_
        refine bif_e (fun c14 => ?_) (fun c14 => ?_)
        ·refine go 3 ?_
         refine ret_e (fun hr_ => ?_)
         subst hr_
         exact ret_ Tryz.func15 []
        ·refine go 4 ?_
         exact fun h => good_again hl1 (by omega) ⟨_, ⟨by omega, _, g7 + 1, rfl, h⟩, frle_, memle_⟩
     ·refine gr_run ?_
      refine gr_done ?_
      refine go 3 ?_
      refine ret_e (fun hr_ => ?_)
      subst hr_
      exact ret_ Tryz.func15 []
    ·refine go 7 ?_
     refine ret_e (fun hr_ => ?_)
     subst hr_
     exact ret_ Tryz.func15 []
mutual
def spec_l02Around.j0 : Nat → Int → Bool → (List Int) → Int → S31 → Option ((List Int))
 | 0, _, _, _, _, _ => none
 | k + 1, v1, v9, v4, v5, v0 => ((ix v0.f1 v5).bind fun v10 => ((app v4 ([v10.f0] : List Int)).bind fun v11 => (spec_l02Around.l0 k v1 v9 v11 (IntKind.i64.wrap (v5 + 1)) v0)))
def spec_l02Around.l0 : Nat → Int → Bool → (List Int) → Int → S31 → Option ((List Int))
 | 0, _, _, _, _, _ => none
 | k + 1, v1, v3, v4, v5, v0 => (bif decide (v5 < (v0.f1.length : Int)) then (bif v3 then ((ix v0.f1 v5).bind fun v7 => (bif (v7.f2 == v1) then (spec_l02Around.j0 k v1 true v4 v5 v0) else (spec_l02Around.l0 k v1 true v4 (IntKind.i64.wrap (v5 + 1)) v0))) else ((ix v0.f1 v5).bind fun v8 => (bif (v8.f3 == v1) then (spec_l02Around.j0 k v1 false v4 v5 v0) else (spec_l02Around.l0 k v1 false v4 (IntKind.i64.wrap (v5 + 1)) v0)))) else (some v4))
def spec_l02Around.f : Nat → S31 → Int → Bool → Option ((List Int))
 | 0, _, _, _ => none
 | k + 1, v0, v1, v2 => (spec_l02Around.l0 k v1 v2 ([] : List Int) 0 v0)
end
set_option maxRecDepth 100000 in
set_option maxHeartbeats 4000000 in
theorem spec_l02Around.con {K : Kn} [KOk K] {k : Nat} {v0 : S31} {v1 : Int} {v2 : Bool} {r : (List Int)} (h : spec_l02Around.f k v0 v1 v2 = some r) : Con K Tryz.prog 16 [.agg [.p (.lst false (List.map en46 v0.f0)), .p (.lst false (List.map en49 v0.f1))], .p (.int .i64 v1), .p (.bool v2)] [] (.p (.lst false (List.map (irow .i64) r))) [] := by
 cases k with
 | zero => exact absurd h (by simp [spec_l02Around.f])
 | succ k =>
 rw [spec_l02Around.f] at h
 refine con_intro 52 [] Tryz.func16 (by kernel_rfl) rfl rfl (by kernel_rfl) fun ι0 w0 hk0 => ?_
 revert h
 refine go 8 ?_
 refine adoptF_ 7 50 1 ?_
 refine fun h => good_loop (fun n st => n ≤ k ∧ ∃ (v3 : _) (v4 : _) (v5 : _) (g6 : Nat), st = ⟨[(1, .p (.int .i64 v1)), (2, .p (.bool v3)), (3, .ptr 3 1 0), (7, .tip 50 g6 (List.map (irow .i64) v4)), (8, .p (.int .i64 v5))], [(3, (1, .cells [.p (.lst false (List.map en46 v0.f0)), .p (.lst false (List.map en49 v0.f1))])), (50, (g6, .tip 1 (v4).length))]⟩ ∧ spec_l02Around.l0 n v1 v3 v4 v5 v0 = some r) k ⟨_, ⟨Nat.le_refl _, _, _, _, 1, rfl, h⟩, frle_, memle_⟩ ?_
 clear h
 rintro n _ ⟨hkl0, v3, v4, v5, g6, rfl, h⟩ hl0
 cases n with
 | zero => exact absurd h (by simp [spec_l02Around.l0])
 | succ kl0 =>
 rw [spec_l02Around.l0] at h
 revert h
 refine bif_e (fun c1 => ?_) (fun c1 => ?_)
 ·refine go 8 ?_
  refine good_cut_t (fun st => ∃ (v9 : _) (q_ : Nat), q_ ≤ kl0 ∧ st = ⟨[(1, .p (.int .i64 v1)), (2, .p (.bool v9)), (3, .ptr 3 1 0), (7, .tip 50 g6 (List.map (irow .i64) v4)), (8, .p (.int .i64 v5))], [(3, (1, .cells [.p (.lst false (List.map en46 v0.f0)), .p (.lst false (List.map en49 v0.f1))])), (50, (g6, .tip 1 (v4).length))]⟩ ∧ spec_l02Around.j0 q_ v1 v9 v4 v5 v0 = some r) ?_ (fun hj0 => ?_)
  ·clear c1
   rintro _ ⟨v9, q_, hqj0, rfl, h⟩
   cases q_ with
   | zero => exact absurd h (by simp [spec_l02Around.j0])
   | succ kj0 =>
   rw [spec_l02Around.j0] at h
   revert h
   refine bind_e (fun v10 e10 => ?_)
   replace e10 := nf_ (ix_en en49 e10)
   refine bind_e (fun v11 e11 => ?_)
   replace e11 := nf_ (app_en (irow .i64) e11)
   refine go 3 ?_
   exact fun h => good_again hl0 (by omega) ⟨_, ⟨by omega, _, _, _, g6, rfl, h⟩, frle_, memle_⟩
  ·refine bif_e (fun c2 => ?_) (fun c2 => ?_)
   ·refine bind_e (fun v7 e7 => ?_)
    replace e7 := nf_ (ix_en en49 e7)
    refine bif_e (fun c3 => ?_) (fun c3 => ?_)
    ·refine go 2 ?_
     exact fun h => good_jump hj0 ⟨_, ⟨_, _, by omega, rfl, h⟩, frle_, memle_⟩
    ·refine go 5 ?_
     exact fun h => good_again hl0 (by omega) ⟨_, ⟨by omega, _, _, _, g6, rfl, h⟩, frle_, memle_⟩
   ·refine bind_e (fun v8 e8 => ?_)
    replace e8 := nf_ (ix_en en49 e8)
    refine bif_e (fun c4 => ?_) (fun c4 => ?_)
    ·refine go 2 ?_
     exact fun h => good_jump hj0 ⟨_, ⟨_, _, by omega, rfl, h⟩, frle_, memle_⟩
    ·refine go 5 ?_
     exact fun h => good_again hl0 (by omega) ⟨_, ⟨by omega, _, _, _, g6, rfl, h⟩, frle_, memle_⟩
 ·refine go 7 ?_
  refine ret_e (fun hr_ => ?_)
  subst hr_
  exact ret_ Tryz.func16 []
mutual
def spec_l16Parts_vb_O.l0 : Nat → Nat → (List S59) → Int → (List Int) → S31 → Option ((List S59))
 | 0, _, _, _, _, _ => none
 | k + 1, v1, v5, v3, v2, v0 => (bif decide (v3 < (v0.f0.length : Int)) then ((ix v0.f0 v3).bind fun v6 => ((inr v3 v1).bind fun v7 => ((v2[(Int.toNat v3)]?).bind fun v8 => ((app v5 ([(⟨v6.f0, v8⟩ : S59)] : List S59)).bind fun v9 => (spec_l16Parts_vb_O.l0 k v1 v9 (IntKind.i64.wrap (v3 + 1)) v2 v0))))) else (some v5))
def spec_l16Parts_vb_O.f : Nat → S31 → Nat → (List Int) → Option ((List S59))
 | 0, _, _, _ => none
 | k + 1, v0, v1, v2 => (spec_l16Parts_vb_O.l0 k v1 [] 0 v2 v0)
end
set_option maxRecDepth 100000 in
set_option maxHeartbeats 4000000 in
theorem spec_l16Parts_vb_O.con {K : Kn} [KOk K] {k : Nat} {v0 : S31} {v1 : Nat} {v2 : (List Int)} {r : (List S59)} (h : spec_l16Parts_vb_O.f k v0 v1 v2 = some r) : Con K Tryz.prog 18 [.agg [.p (.lst false (List.map en46 v0.f0)), .p (.lst false (List.map en49 v0.f1))], .buf 1000 0 0 v1] [(1000, (0, .buf 1 (List.map (irow .i64) v2)))] (.buf 2000 1 0 r.length) [(2000, (1, .buf 2 (List.map en59 r))), (1000, (0, .buf 1 (List.map (irow .i64) v2)))] := by
 cases k with
 | zero => exact absurd h (by simp [spec_l16Parts_vb_O.f])
 | succ k =>
 rw [spec_l16Parts_vb_O.f] at h
 refine con_intro 30 [28] Tryz.func18 (by kernel_rfl) rfl rfl (by kernel_rfl) fun ι0 w0 hk0 => ?_
 revert h
 refine go 8 ?_
 refine adoptB_ 5 28 2 ?_
 refine fun h => good_loop (fun n st => n ≤ k ∧ ∃ (v3 : _) (v5 : _) (g4 : Nat), st = ⟨[(1, .buf 1000 0 0 v1), (2, .ptr 2 1 0), (5, .buf 28 g4 0 v5.length), (6, .p (.int .i64 v3))], [(1000, (0, .buf 1 (List.map (irow .i64) v2))), (2, (1, .cells [.p (.lst false (List.map en46 v0.f0)), .p (.lst false (List.map en49 v0.f1))])), (28, (g4, .buf 2 (List.map en59 v5)))]⟩ ∧ spec_l16Parts_vb_O.l0 n v1 v5 v3 v2 v0 = some r) k ⟨_, ⟨Nat.le_refl _, _, _, 1, rfl, h⟩, frle_, memle_⟩ ?_
 clear h
 rintro n _ ⟨hkl0, v3, v5, g4, rfl, h⟩ hl0
 cases n with
 | zero => exact absurd h (by simp [spec_l16Parts_vb_O.l0])
 | succ kl0 =>
 rw [spec_l16Parts_vb_O.l0] at h
 revert h
 refine bif_e (fun c1 => ?_) (fun c1 => ?_)
 ·refine bind_e (fun v6 e6 => ?_)
  replace e6 := nf_ (ix_en en46 e6)
  refine bind_e (fun v7 e7 => ?_)
  refine bind_e (fun v8 e8 => ?_)
  replace e8 := nf_ (gx_en (irow .i64) e8)
  refine bind_e (fun v9 e9 => ?_)
  replace e9 := nf_ (app_en en59 e9)
  refine go 7 ?_
  refine grs ?_
  refine gr_run ?_
  refine gr_done ?_
  refine go 2 ?_
  exact fun h => good_again hl0 (by omega) ⟨_, ⟨by omega, _, _, g4 + 1, rfl, h⟩, frle_, memle_⟩
 ·refine go 7 ?_
  refine ret_e (fun hr_ => ?_)
  subst hr_
  exact ret_ Tryz.func18 [(2000, (1, 28, g4)), (1000, (0, 1000, 0))]
mutual
def spec_l16Parts_O.l0 : Nat → (List Int) → (List S59) → Int → S31 → Option ((List S59))
 | 0, _, _, _, _ => none
 | k + 1, v1, v4, v2, v0 => (bif decide (v2 < (v0.f0.length : Int)) then ((ix v0.f0 v2).bind fun v5 => ((ix v1 v2).bind fun v6 => ((app v4 ([(⟨v5.f0, v6⟩ : S59)] : List S59)).bind fun v7 => (spec_l16Parts_O.l0 k v1 v7 (IntKind.i64.wrap (v2 + 1)) v0)))) else (some v4))
def spec_l16Parts_O.f : Nat → S31 → (List Int) → Option ((List S59))
 | 0, _, _ => none
 | k + 1, v0, v1 => (spec_l16Parts_O.l0 k v1 [] 0 v0)
end
set_option maxRecDepth 100000 in
set_option maxHeartbeats 4000000 in
theorem spec_l16Parts_O.con {K : Kn} [KOk K] {k : Nat} {v0 : S31} {v1 : (List Int)} {r : (List S59)} (h : spec_l16Parts_O.f k v0 v1 = some r) : Con K Tryz.prog 18 [.agg [.p (.lst false (List.map en46 v0.f0)), .p (.lst false (List.map en49 v0.f1))], .p (.lst false (List.map (irow .i64) v1))] [] (.buf 2000 1 0 r.length) [(2000, (1, .buf 2 (List.map en59 r)))] := by
 cases k with
 | zero => exact absurd h (by simp [spec_l16Parts_O.f])
 | succ k =>
 rw [spec_l16Parts_O.f] at h
 refine con_intro 30 [28] Tryz.func18 (by kernel_rfl) rfl rfl (by kernel_rfl) fun ι0 w0 hk0 => ?_
 revert h
 refine go 8 ?_
 refine adoptB_ 5 28 2 ?_
 refine fun h => good_loop (fun n st => n ≤ k ∧ ∃ (v2 : _) (v4 : _) (g3 : Nat), st = ⟨[(1, .p (.lst false (List.map (irow .i64) v1))), (2, .ptr 2 1 0), (5, .buf 28 g3 0 v4.length), (6, .p (.int .i64 v2))], [(2, (1, .cells [.p (.lst false (List.map en46 v0.f0)), .p (.lst false (List.map en49 v0.f1))])), (28, (g3, .buf 2 (List.map en59 v4)))]⟩ ∧ spec_l16Parts_O.l0 n v1 v4 v2 v0 = some r) k ⟨_, ⟨Nat.le_refl _, _, _, 1, rfl, h⟩, frle_, memle_⟩ ?_
 clear h
 rintro n _ ⟨hkl0, v2, v4, g3, rfl, h⟩ hl0
 cases n with
 | zero => exact absurd h (by simp [spec_l16Parts_O.l0])
 | succ kl0 =>
 rw [spec_l16Parts_O.l0] at h
 revert h
 refine bif_e (fun c1 => ?_) (fun c1 => ?_)
 ·refine bind_e (fun v5 e5 => ?_)
  replace e5 := nf_ (ix_en en46 e5)
  refine bind_e (fun v6 e6 => ?_)
  replace e6 := nf_ (ix_en (irow .i64) e6)
  refine bind_e (fun v7 e7 => ?_)
  replace e7 := nf_ (app_en en59 e7)
  refine go 7 ?_
  refine grs ?_
  refine gr_run ?_
  refine gr_done ?_
  refine go 2 ?_
  exact fun h => good_again hl0 (by omega) ⟨_, ⟨by omega, _, _, g3 + 1, rfl, h⟩, frle_, memle_⟩
 ·refine go 7 ?_
  refine ret_e (fun hr_ => ?_)
  subst hr_
  exact ret_ Tryz.func18 [(2000, (1, 28, g3))]
mutual
def spec_RankOf_O.j0 : Nat → Int → S31 → (List Int) → Nat → Nat → Int → (List Int) → (List Int) → Option ((List S59))
 | 0, _, _, _, _, _, _, _, _ => none
 | k + 1, v18, v0, v19, v11, v23, v24, v13, v32 => (spec_RankOf_O.l3 k v18 v0 v19 v11 v23 (IntKind.i64.wrap (v24 + 1)) v13 v32)
def spec_RankOf_O.l4 : Nat → Int → S31 → (List Int) → Nat → Nat → Int → Int → (List Int) → (List Int) → Option ((List S59))
 | 0, _, _, _, _, _, _, _, _, _ => none
 | k + 1, v18, v0, v19, v11, v23, v24, v31, v13, v32 => (bif decide (v31 < (v19.length : Int)) then ((inr v24 v11).bind fun v33 => ((v13[(Int.toNat v24)]?).bind fun v34 => (bif (v34 == 0) then ((inr v31 v23).bind fun v35 => ((v32[(Int.toNat v31)]?).bind fun v36 => ((ix v19 v24).bind fun v37 => ((quo .i64 (IntKind.i64.wrap (850 * v37)) (IntKind.i64.wrap (1000 * (v0.f0.length : Int)))).bind fun v38 => (spec_RankOf_O.l4 k v18 v0 v19 v11 v23 v24 (IntKind.i64.wrap (v31 + 1)) v13 (setr v32 (Int.toNat v31) (IntKind.i64.wrap (v36 + v38)))))))) else (spec_RankOf_O.j0 k v18 v0 v19 v11 v23 v24 v13 v32)))) else (spec_RankOf_O.j0 k v18 v0 v19 v11 v23 v24 v13 v32))
def spec_RankOf_O.l5 : Nat → Int → S31 → (List Int) → Nat → Nat → Int → (List Int) → (List Int) → Option ((List S59))
 | 0, _, _, _, _, _, _, _, _ => none
 | k + 1, v18, v0, v19, v11, v23, v41, v13, v42 => (bif decide (v41 < (v0.f1.length : Int)) then ((ix v0.f1 v41).bind fun v43 => ((spec_l02Node.f k v0 v43.f2).bind fun v44 => ((spec_l02Node.f k v0 v43.f3).bind fun v46 => ((inr v46 v23).bind fun v47 => ((v42[(Int.toNat v46)]?).bind fun v48 => ((ix v19 v44).bind fun v49 => ((inr v44 v11).bind fun v50 => ((v13[(Int.toNat v44)]?).bind fun v51 => ((quo .i64 (IntKind.i64.wrap (850 * v49)) (IntKind.i64.wrap (1000 * v51))).bind fun v52 => (spec_RankOf_O.l5 k v18 v0 v19 v11 v23 (IntKind.i64.wrap (v41 + 1)) v13 (setr v42 (Int.toNat v46) (IntKind.i64.wrap (v48 + v52))))))))))))) else (spec_RankOf_O.l2 k (IntKind.i64.wrap (v18 - 1)) v0 (List.take v23 v42) v11 v13))
def spec_RankOf_O.l3 : Nat → Int → S31 → (List Int) → Nat → Nat → Int → (List Int) → (List Int) → Option ((List S59))
 | 0, _, _, _, _, _, _, _, _ => none
 | k + 1, v18, v0, v19, v11, v23, v24, v13, v25 => (bif decide (v24 < (v19.length : Int)) then ((inr v24 v23).bind fun v26 => ((v25[(Int.toNat v24)]?).bind fun v27 => ((quo .i64 150000 (v0.f0.length : Int)).bind fun v28 => (spec_RankOf_O.l4 k v18 v0 v19 v11 v23 v24 0 v13 (setr v25 (Int.toNat v24) (IntKind.i64.wrap (v27 + v28))))))) else (spec_RankOf_O.l5 k v18 v0 v19 v11 v23 0 v13 v25))
def spec_RankOf_O.l2 : Nat → Int → S31 → (List Int) → Nat → (List Int) → Option ((List S59))
 | 0, _, _, _, _, _ => none
 | k + 1, v18, v0, v19, v11, v13 => (bif decide (0 < v18) then ((mks 0 (v0.f0.length : Int) (v0.f0.length : Int)).bind fun v22 => (spec_RankOf_O.l3 k v18 v0 v19 v11 v22.length 0 v13 v22)) else ((spec_l16Parts_O.f k v0 v19).bind fun v21 => (some v21)))
def spec_RankOf_O.l1 : Nat → Int → S31 → Nat → Nat → Int → (List Int) → (List Int) → Option ((List S59))
 | 0, _, _, _, _, _, _, _ => none
 | k + 1, v1, v0, v4, v11, v12, v6, v13 => (bif decide (v12 < (v4 : Int)) then ((ix v0.f0 v12).bind fun v14 => ((spec_l02Around.f k v0 v14.f0 true).bind fun v15 => ((inr v12 v11).bind fun v16 => ((v13[(Int.toNat v12)]?).bind fun v17 => (spec_RankOf_O.l1 k v1 v0 v4 v11 (IntKind.i64.wrap (v12 + 1)) v6 (setr v13 (Int.toNat v12) (v15.length : Int))))))) else (spec_RankOf_O.l2 k v1 v0 (List.take v4 v6) v11 v13))
def spec_RankOf_O.l0 : Nat → Int → S31 → Nat → Int → (List Int) → Option ((List S59))
 | 0, _, _, _, _, _ => none
 | k + 1, v1, v0, v4, v5, v6 => (bif decide (v5 < (v4 : Int)) then ((quo .i64 1000000 (v0.f0.length : Int)).bind fun v7 => ((inr v5 v4).bind fun v8 => ((v6[(Int.toNat v5)]?).bind fun v9 => (spec_RankOf_O.l0 k v1 v0 v4 (IntKind.i64.wrap (v5 + 1)) (setr v6 (Int.toNat v5) v7))))) else ((mks 0 (v0.f0.length : Int) (v0.f0.length : Int)).bind fun v10 => (spec_RankOf_O.l1 k v1 v0 v4 v10.length 0 v6 v10)))
def spec_RankOf_O.f : Nat → S31 → Int → Option ((List S59))
 | 0, _, _ => none
 | k + 1, v0, v1 => ((spec_GraphFault.f k v0).bind fun v2 => (bif (v2 == 0) then (bif decide (v1 < 0) then (some ([] : List S59)) else (bif decide (50 < v1) then (some ([] : List S59)) else (bif ((v0.f0.length : Int) == 0) then (some ([] : List S59)) else ((mks 0 (v0.f0.length : Int) (v0.f0.length : Int)).bind fun v3 => (spec_RankOf_O.l0 k v1 v0 v3.length 0 v3))))) else (some ([] : List S59))))
end
set_option maxRecDepth 100000 in
set_option maxHeartbeats 4000000 in
theorem spec_RankOf_O.con {K : Kn} [KOk K] {k : Nat} {v0 : S31} {v1 : Int} {r : (List S59)} (h : spec_RankOf_O.f k v0 v1 = some r) : Con K Tryz.prog 5 [.agg [.p (.lst false (List.map en46 v0.f0)), .p (.lst false (List.map en49 v0.f1))], .p (.int .i64 v1)] [] (.buf 2000 1 0 r.length) [(2000, (1, .buf 2 (List.map en59 r)))] := by
 cases k with
 | zero => exact absurd h (by simp [spec_RankOf_O.f])
 | succ k =>
 rw [spec_RankOf_O.f] at h
 refine con_intro 165 [] Tryz.func5 (by kernel_rfl) rfl rfl (by kernel_rfl) fun ι0 w0 hk0 => ?_
 revert h
 refine go 6 ?_
 refine grs ?_
 refine gr_run ?_
 refine bind_e (fun v2 e2 => gr_call [] (spec_GraphFault.con e2) ?_)
 clear e2
 refine bif_e (fun c1 => ?_) (fun c1 => ?_)
 ·refine bif_e (fun c2 => ?_) (fun c2 => ?_)
  ·refine gr_run ?_
   refine gr_done ?_
   refine go 3 ?_
   refine adoptB_ 4 2504 2 ?_
   refine ret_e (fun hr_ => ?_)
   subst hr_
   exact ret_ Tryz.func5 [(2000, (1, 2504, 1))]
  ·refine bif_e (fun c3 => ?_) (fun c3 => ?_)
   ·refine gr_run ?_
    refine gr_done ?_
    refine go 3 ?_
    refine adoptB_ 4 2504 2 ?_
    refine ret_e (fun hr_ => ?_)
    subst hr_
    exact ret_ Tryz.func5 [(2000, (1, 2504, 1))]
   ·refine gr_run ?_
    refine gr_done ?_
    refine bif_e (fun c4 => ?_) (fun c4 => ?_)
    ·refine go 3 ?_
     refine adoptB_ 4 2504 2 ?_
     refine ret_e (fun hr_ => ?_)
     subst hr_
     exact ret_ Tryz.func5 [(2000, (1, 2504, 1))]
    ·refine bind_e (fun v3 e3 => ?_)
     replace e3 := nf_ (mks_en (irow .i64) e3)
     refine go 8 ?_
     refine fun h => good_loop (fun n st => n ≤ k ∧ ∃ (v4 : _) (v5 : _) (v6 : _), st = ⟨[(1, .p (.int .i64 v1)), (2, .ptr 2 1 0), (5, .p (.int .i64 (v0.f0.length : Int))), (6, .buf 36 1 0 v4), (7, .p (.int .i64 v5))], [(2, (1, .cells [.p (.lst false (List.map en46 v0.f0)), .p (.lst false (List.map en49 v0.f1))])), (36, (1, .buf 1 (List.map (irow .i64) v6)))]⟩ ∧ spec_RankOf_O.l0 n v1 v0 v4 v5 v6 = some r) k ⟨_, ⟨Nat.le_refl _, _, _, _, rfl, h⟩, frle_, memle_⟩ ?_
     clear c1 c2 c3 c4 e3
     clear h
     rintro n _ ⟨hkl0, v4, v5, v6, rfl, h⟩ hl0
     cases n with
     | zero => exact absurd h (by simp [spec_RankOf_O.l0])
     | succ kl0 =>
     rw [spec_RankOf_O.l0] at h
     revert h
     refine bif_e (fun c5 => ?_) (fun c5 => ?_)
     ·refine bind_e (fun v7 e7 => ?_)
      refine bind_e (fun v8 e8 => ?_)
      refine bind_e (fun v9 e9 => ?_)
      replace e9 := nf_ (gx_en (irow .i64) e9)
      refine go 10 ?_
      exact fun h => good_again hl0 (by omega) ⟨_, ⟨by omega, _, _, _, rfl, h⟩, frle_, memle_⟩
     ·refine bind_e (fun v10 e10 => ?_)
      replace e10 := nf_ (mks_en (irow .i64) e10)
      refine go 11 ?_
      refine fun h => good_loop (fun n st => n ≤ kl0 ∧ ∃ (v11 : _) (v12 : _) (v13 : _), st = ⟨[(1, .p (.int .i64 v1)), (2, .ptr 2 1 0), (5, .p (.int .i64 (v0.f0.length : Int))), (6, .buf 36 1 0 v4), (8, .buf 49 1 0 v11), (9, .p (.int .i64 v12))], [(2, (1, .cells [.p (.lst false (List.map en46 v0.f0)), .p (.lst false (List.map en49 v0.f1))])), (36, (1, .buf 1 (List.map (irow .i64) v6))), (49, (1, .buf 1 (List.map (irow .i64) v13)))]⟩ ∧ spec_RankOf_O.l1 n v1 v0 v4 v11 v12 v6 v13 = some r) kl0 ⟨_, ⟨Nat.le_refl _, _, _, _, rfl, h⟩, frle_, memle_⟩ ?_
      clear c5 e10
      clear h
      rintro n _ ⟨hkl1, v11, v12, v13, rfl, h⟩ hl1
      cases n with
      | zero => exact absurd h (by simp [spec_RankOf_O.l1])
      | succ kl1 =>
      rw [spec_RankOf_O.l1] at h
      revert h
      refine bif_e (fun c6 => ?_) (fun c6 => ?_)
      ·refine bind_e (fun v14 e14 => ?_)
       replace e14 := nf_ (ix_en en46 e14)
       refine go 7 ?_
       refine grs ?_
       refine gr_run ?_
       refine bind_e (fun v15 e15 => gr_call [] (spec_l02Around.con e15) ?_)
       clear e15
       refine bind_e (fun v16 e16 => ?_)
       refine bind_e (fun v17 e17 => ?_)
       replace e17 := nf_ (gx_en (irow .i64) e17)
       refine gr_run ?_
       refine gr_done ?_
       refine go 2 ?_
       exact fun h => good_again hl1 (by omega) ⟨_, ⟨by omega, _, _, _, rfl, h⟩, frle_, memle_⟩
      ·refine go 7 ?_
       refine freeze_ 6 ?_
       refine fun h => good_loop (fun n st => n ≤ kl1 ∧ ∃ (v18 : _) (v19 : _) (g20 : Nat), st = ⟨[(1, .p (.int .i64 v18)), (2, .ptr 2 1 0), (5, .p (.int .i64 (v0.f0.length : Int))), (6, .p (.lst false (List.map (irow .i64) v19))), (8, .buf 49 1 0 v11)], [(2, (1, .cells [.p (.lst false (List.map en46 v0.f0)), .p (.lst false (List.map en49 v0.f1))])), (36, (1, .gone)), (49, (1, .buf 1 (List.map (irow .i64) v13))), (73, (g20, .gone))]⟩ ∧ spec_RankOf_O.l2 n v18 v0 v19 v11 v13 = some r) kl1 ⟨_, ⟨Nat.le_refl _, _, _, 0, rfl, h⟩, frle_, memle_⟩ ?_
       clear c6
       clear h
       rintro n _ ⟨hkl2, v18, v19, g20, rfl, h⟩ hl2
       cases n with
       | zero => exact absurd h (by simp [spec_RankOf_O.l2])
       | succ kl2 =>
       rw [spec_RankOf_O.l2] at h
       revert h
       refine bif_e (fun c7 => ?_) (fun c7 => ?_)
       ·refine bind_e (fun v22 e22 => ?_)
        replace e22 := nf_ (mks_en (irow .i64) e22)
        refine go 13 ?_
        refine fun h => good_loop (fun n st => n ≤ kl2 ∧ ∃ (v23 : _) (v24 : _) (v25 : _), st = ⟨[(1, .p (.int .i64 v18)), (2, .ptr 2 1 0), (5, .p (.int .i64 (v0.f0.length : Int))), (6, .p (.lst false (List.map (irow .i64) v19))), (8, .buf 49 1 0 v11), (10, .buf 73 (g20 + 1) 0 v23), (11, .p (.int .i64 v24))], [(2, (1, .cells [.p (.lst false (List.map en46 v0.f0)), .p (.lst false (List.map en49 v0.f1))])), (36, (1, .gone)), (49, (1, .buf 1 (List.map (irow .i64) v13))), (73, (g20 + 1, .buf 1 (List.map (irow .i64) v25)))]⟩ ∧ spec_RankOf_O.l3 n v18 v0 v19 v11 v23 v24 v13 v25 = some r) kl2 ⟨_, ⟨Nat.le_refl _, _, _, _, rfl, h⟩, frle_, memle_⟩ ?_
        clear c7 e22
        clear h
        rintro n _ ⟨hkl3, v23, v24, v25, rfl, h⟩ hl3
        cases n with
        | zero => exact absurd h (by simp [spec_RankOf_O.l3])
        | succ kl3 =>
        rw [spec_RankOf_O.l3] at h
        revert h
        refine bif_e (fun c8 => ?_) (fun c8 => ?_)
        ·refine bind_e (fun v26 e26 => ?_)
         refine bind_e (fun v27 e27 => ?_)
         replace e27 := nf_ (gx_en (irow .i64) e27)
         refine bind_e (fun v28 e28 => ?_)
         refine go 8 ?_
         refine grs ?_
         refine gr_run ?_
         refine gr_done ?_
         refine go 3 ?_
         refine fun h => good_loop (fun n st => n ≤ kl3 ∧ ∃ (v31 : _) (v32 : _), st = ⟨[(1, .p (.int .i64 v18)), (2, .ptr 2 1 0), (5, .p (.int .i64 (v0.f0.length : Int))), (6, .p (.lst false (List.map (irow .i64) v19))), (8, .buf 49 1 0 v11), (10, .buf 73 (g20 + 1) 0 v23), (11, .p (.int .i64 v24)), (12, .p (.int .i64 v31))], [(2, (1, .cells [.p (.lst false (List.map en46 v0.f0)), .p (.lst false (List.map en49 v0.f1))])), (36, (1, .gone)), (49, (1, .buf 1 (List.map (irow .i64) v13))), (73, (g20 + 1, .buf 1 (List.map (irow .i64) v32)))]⟩ ∧ spec_RankOf_O.l4 n v18 v0 v19 v11 v23 v24 v31 v13 v32 = some r) kl3 ⟨_, ⟨Nat.le_refl _, _, _, rfl, h⟩, frle_, memle_⟩ ?_
         clear c8 e26 e27 e28
         clear h
         rintro n _ ⟨hkl4, v31, v32, rfl, h⟩ hl4
         cases n with
         | zero => exact absurd h (by simp [spec_RankOf_O.l4])
         | succ kl4 =>
         rw [spec_RankOf_O.l4] at h
         revert h
         refine go 2 ?_
         refine good_cut_f (fun st => ∃ (q_ : Nat), q_ ≤ kl4 ∧ st = ⟨[(1, .p (.int .i64 v18)), (2, .ptr 2 1 0), (5, .p (.int .i64 (v0.f0.length : Int))), (6, .p (.lst false (List.map (irow .i64) v19))), (8, .buf 49 1 0 v11), (10, .buf 73 (g20 + 1) 0 v23), (11, .p (.int .i64 v24))], [(2, (1, .cells [.p (.lst false (List.map en46 v0.f0)), .p (.lst false (List.map en49 v0.f1))])), (36, (1, .gone)), (49, (1, .buf 1 (List.map (irow .i64) v13))), (73, (g20 + 1, .buf 1 (List.map (irow .i64) v32)))]⟩ ∧ spec_RankOf_O.j0 q_ v18 v0 v19 v11 v23 v24 v13 v32 = some r) ?_ (fun hj0 => ?_)
         ·skip
          rintro _ ⟨q_, hqj0, rfl, h⟩
          cases q_ with
          | zero => exact absurd h (by simp [spec_RankOf_O.j0])
          | succ kj0 =>
          rw [spec_RankOf_O.j0] at h
          revert h
          refine go 3 ?_
          exact fun h => good_again hl3 (by omega) ⟨_, ⟨by omega, _, _, _, rfl, h⟩, frle_, memle_⟩
         ·refine bif_e (fun c9 => ?_) (fun c9 => ?_)
          ·refine bind_e (fun v33 e33 => ?_)
           refine bind_e (fun v34 e34 => ?_)
           replace e34 := nf_ (gx_en (irow .i64) e34)
           refine bif_e (fun c10 => ?_) (fun c10 => ?_)
           ·refine bind_e (fun v35 e35 => ?_)
            refine bind_e (fun v36 e36 => ?_)
            replace e36 := nf_ (gx_en (irow .i64) e36)
            refine bind_e (fun v37 e37 => ?_)
            replace e37 := nf_ (ix_en (irow .i64) e37)
            refine bind_e (fun v38 e38 => ?_)
            refine go 5 ?_
            refine grs ?_
            refine gr_run ?_
            refine gr_done ?_
            refine go 2 ?_
            exact fun h => good_again hl4 (by omega) ⟨_, ⟨by omega, _, _, rfl, h⟩, frle_, memle_⟩
           ·refine go 2 ?_
            exact fun h => good_jump hj0 ⟨_, ⟨_, by omega, rfl, h⟩, frle_, memle_⟩
          ·refine go 2 ?_
           exact fun h => good_jump hj0 ⟨_, ⟨_, by omega, rfl, h⟩, frle_, memle_⟩
        ·refine go 9 ?_
         refine fun h => good_loop (fun n st => n ≤ kl3 ∧ ∃ (v41 : _) (v42 : _), st = ⟨[(1, .p (.int .i64 v18)), (2, .ptr 2 1 0), (5, .p (.int .i64 (v0.f0.length : Int))), (6, .p (.lst false (List.map (irow .i64) v19))), (8, .buf 49 1 0 v11), (10, .buf 73 (g20 + 1) 0 v23), (13, .p (.int .i64 v41))], [(2, (1, .cells [.p (.lst false (List.map en46 v0.f0)), .p (.lst false (List.map en49 v0.f1))])), (36, (1, .gone)), (49, (1, .buf 1 (List.map (irow .i64) v13))), (73, (g20 + 1, .buf 1 (List.map (irow .i64) v42)))]⟩ ∧ spec_RankOf_O.l5 n v18 v0 v19 v11 v23 v41 v13 v42 = some r) kl3 ⟨_, ⟨Nat.le_refl _, _, _, rfl, h⟩, frle_, memle_⟩ ?_
         clear c8
         clear h
         rintro n _ ⟨hkl5, v41, v42, rfl, h⟩ hl5
         cases n with
         | zero => exact absurd h (by simp [spec_RankOf_O.l5])
         | succ kl5 =>
         rw [spec_RankOf_O.l5] at h
         revert h
         refine bif_e (fun c11 => ?_) (fun c11 => ?_)
         ·refine bind_e (fun v43 e43 => ?_)
          replace e43 := nf_ (ix_en en49 e43)
          refine go 8 ?_
          refine grs ?_
          refine gr_run ?_
          refine bind_e (fun v44 e44 => gr_call [] (spec_l02Node.con e44) ?_)
          clear e44
          refine gr_run ?_
          refine gr_done ?_
          refine go 1 ?_
          refine grs ?_
          refine gr_run ?_
          refine bind_e (fun v46 e46 => gr_call [] (spec_l02Node.con e46) ?_)
          clear e46
          refine gr_run ?_
          refine gr_done ?_
          refine bind_e (fun v47 e47 => ?_)
          refine bind_e (fun v48 e48 => ?_)
          replace e48 := nf_ (gx_en (irow .i64) e48)
          refine bind_e (fun v49 e49 => ?_)
          replace e49 := nf_ (ix_en (irow .i64) e49)
          refine bind_e (fun v50 e50 => ?_)
          refine bind_e (fun v51 e51 => ?_)
          replace e51 := nf_ (gx_en (irow .i64) e51)
          refine bind_e (fun v52 e52 => ?_)
          refine grs ?_
          refine gr_run ?_
          refine gr_done ?_
          refine go 2 ?_
          exact fun h => good_again hl5 (by omega) ⟨_, ⟨by omega, _, _, rfl, h⟩, frle_, memle_⟩
         ·refine go 8 ?_
          refine freeze_ 6 ?_
          exact fun h => good_again hl2 (by omega) ⟨_, ⟨by omega, _, _, g20 + 1, rfl, h⟩, frle_, memle_⟩
       ·refine go 6 ?_
        refine grs ?_
        refine gr_run ?_
        refine bind_e (fun v21 e21 => gr_call [(2000, (1, 164, 1))] (spec_l16Parts_O.con e21) ?_)
        clear e21
        refine gr_run ?_
        refine gr_done ?_
        refine ret_e (fun hr_ => ?_)
        subst hr_
        exact ret_ Tryz.func5 [(2000, (1, 164, 1))]
 ·refine gr_run ?_
  refine gr_done ?_
  refine go 3 ?_
  refine adoptB_ 4 2504 2 ?_
  refine ret_e (fun hr_ => ?_)
  subst hr_
  exact ret_ Tryz.func5 [(2000, (1, 2504, 1))]
end Go.Ab
