/- What the functions compute, and their contracts, part 4. No condition beyond KOk. -/
import Derived.Test.YtfeieigajdekhaaGreatDoorAbX
import Derived.Test.YtfeieigajdekhaaGreatDoorAbF2
import Derived.Test.YtfeieigajdekhaaGreatDoorAbF3
namespace Go.Ab
open Go.Proofs
set_option linter.unusedVariables false
set_option linter.unusedSimpArgs false
def spec_l01Read.f (k : Nat) (v0 : ByteArray) : Option (S100) := (bif decide (2000 < (v0.size : Int)) then (some (⟨(-1), 0, 0, (⟨#[]⟩ : ByteArray), ([] : (List S100)), ([] : (List ByteArray))⟩ : S100)) else ((spec_l01Reader_value.f k 0 (⟨v0, 0, false⟩ : S111)).bind fun v1 => (bif v1.2.f2 then (some (⟨(-1), 0, 0, (⟨#[]⟩ : ByteArray), ([] : (List S100)), ([] : (List ByteArray))⟩ : S100)) else (bif (v1.2.f1 == (v0.size : Int)) then (some v1.1) else (some (⟨(-1), 0, 0, (⟨#[]⟩ : ByteArray), ([] : (List S100)), ([] : (List ByteArray))⟩ : S100))))))
set_option maxRecDepth 100000 in
set_option maxHeartbeats 4000000 in
theorem spec_l01Read.con {K : Kn} [KOk K] {k : Nat} {v0 : ByteArray} {r : S100} (h : spec_l01Read.f k v0 = some r) : Con K Tryz.prog 64 [.p (.str v0)] [] (.agg [.p (.int .i64 r.f0), .p (.int .i64 r.f1), .p (.int .i64 r.f2), .p (.str r.f3), .p (.lst false (List.map en100 r.f4)), .p (.lst false (List.map srw r.f5))]) [] := by
 rw [spec_l01Read.f] at h
 refine con_intro 29 [] Tryz.func64 (by kernel_rfl) rfl rfl (by kernel_rfl) fun ι0 w0 hk0 => ?_
 revert h
 refine bif_e (fun c1 => ?_) (fun c1 => ?_)
 ·refine go 8 ?_
  refine ret_e (fun hr_ => ?_)
  subst hr_
  exact ret_ Tryz.func64 []
 ·refine go 10 ?_
  refine grs ?_
  refine gr_run ?_
  refine bind_e (fun v1 e1 => gr_call [(1000, (0, 11, 1))] (spec_l01Reader_value.con e1) ?_)
  clear e1
  refine gr_run ?_
  refine gr_done ?_
  refine bif_e (fun c2 => ?_) (fun c2 => ?_)
  ·refine go 6 ?_
   refine ret_e (fun hr_ => ?_)
   subst hr_
   exact ret_ Tryz.func64 []
  ·refine bif_e (fun c3 => ?_) (fun c3 => ?_)
   ·refine go 7 ?_
    refine ret_e (fun hr_ => ?_)
    subst hr_
    exact ret_ Tryz.func64 []
   ·refine go 6 ?_
    refine ret_e (fun hr_ => ?_)
    subst hr_
    exact ret_ Tryz.func64 []
mutual
def spec_l02Plain.l0 : Nat → Int → S100 → Option (Bool)
 | 0, _, _ => none
 | k + 1, v1, v0 => (bif decide (v1 < (v0.f4.length : Int)) then ((ix v0.f4 v1).bind fun v2 => (bif (v2.f0 == 0) then (spec_l02Plain.l0 k (IntKind.i64.wrap (v1 + 1)) v0) else ((spec_l02Plain.f k v2).bind fun v4 => (bif v4 then (spec_l02Plain.l0 k (IntKind.i64.wrap (v1 + 1)) v0) else (some false))))) else (some true))
def spec_l02Plain.f : Nat → S100 → Option (Bool)
 | 0, _ => none
 | k + 1, v0 => (bif decide (v0.f0 < 0) then (some false) else (bif decide (8 ≤ v0.f0) then (some false) else (spec_l02Plain.l0 k 0 v0)))
end
def spec_l02Plain.C (K : Kn) (k : Nat) : Prop := ∀ (v0 : S100) (r : Bool), spec_l02Plain.f k v0 = some r → Con K Tryz.prog 65 [.agg [.p (.int .i64 v0.f0), .p (.int .i64 v0.f1), .p (.int .i64 v0.f2), .p (.str v0.f3), .p (.lst false (List.map en100 v0.f4)), .p (.lst false (List.map srw v0.f5))]] [] (.p (.bool r)) []
set_option maxRecDepth 100000 in
set_option maxHeartbeats 4000000 in
theorem spec_l02Plain.con1 {K : Kn} [KOk K] (k : Nat) (spec_l02Plain_ih : ∀ m, m < k → spec_l02Plain.C K m) : spec_l02Plain.C K k := by
 intro v0 r h
 cases k with
 | zero => exact absurd h (by simp [spec_l02Plain.f])
 | succ k =>
 rw [spec_l02Plain.f] at h
 refine con_intro 35 [] Tryz.func65 (by kernel_rfl) rfl rfl (by kernel_rfl) fun ι0 w0 hk0 => ?_
 revert h
 refine bif_e (fun c1 => ?_) (fun c1 => ?_)
 ·refine go 8 ?_
  refine ret_e (fun hr_ => ?_)
  subst hr_
  exact ret_ Tryz.func65 []
 ·refine bif_e (fun c2 => ?_) (fun c2 => ?_)
  ·refine go 8 ?_
   refine ret_e (fun hr_ => ?_)
   subst hr_
   exact ret_ Tryz.func65 []
  ·refine go 11 ?_
   refine fun h => good_loop (fun n st => n ≤ k ∧ ∃ (v1 : _), st = ⟨[(1, .ptr 1 1 0), (3, .p (.int .i64 v1))], [(1, (1, .cells [.p (.int .i64 v0.f0), .p (.int .i64 v0.f1), .p (.int .i64 v0.f2), .p (.str v0.f3), .p (.lst false (List.map en100 v0.f4)), .p (.lst false (List.map srw v0.f5))]))]⟩ ∧ spec_l02Plain.l0 n v1 v0 = some r) k ⟨_, ⟨Nat.le_refl _, _, rfl, h⟩, frle_, memle_⟩ ?_
   clear c1 c2
   clear h
   rintro n _ ⟨hkl0, v1, rfl, h⟩ hl0
   cases n with
   | zero => exact absurd h (by simp [spec_l02Plain.l0])
   | succ kl0 =>
   rw [spec_l02Plain.l0] at h
   revert h
   refine bif_e (fun c3 => ?_) (fun c3 => ?_)
   ·refine bind_e (fun v2 e2 => ?_)
    replace e2 := nf_ (ix_en en100 e2)
    refine bif_e (fun c4 => ?_) (fun c4 => ?_)
    ·refine go 13 ?_
     exact fun h => good_again hl0 (by omega) ⟨_, ⟨by omega, _, rfl, h⟩, frle_, memle_⟩
    ·refine go 8 ?_
     refine grs ?_
     refine gr_run ?_
     refine bind_e (fun v4 e4 => gr_call [] (spec_l02Plain_ih _ (by omega) _ _ e4) ?_)
     clear e4
     refine gr_run ?_
     refine gr_done ?_
     refine bif_e (fun c5 => ?_) (fun c5 => ?_)
     ·refine go 4 ?_
      exact fun h => good_again hl0 (by omega) ⟨_, ⟨by omega, _, rfl, h⟩, frle_, memle_⟩
     ·refine go 3 ?_
      refine ret_e (fun hr_ => ?_)
      subst hr_
      exact ret_ Tryz.func65 []
   ·refine go 7 ?_
    refine ret_e (fun hr_ => ?_)
    subst hr_
    exact ret_ Tryz.func65 []
theorem spec_l02Plain.all {K : Kn} [KOk K] (k : Nat) : spec_l02Plain.C K k := by
 induction k using Nat.strongRecOn with
 | _ k ih => exact spec_l02Plain.con1 k ih
theorem spec_l02Plain.con {K : Kn} [KOk K] {k : Nat} {v0 : S100} {r : Bool} (h : spec_l02Plain.f k v0 = some r) : Con K Tryz.prog 65 [.agg [.p (.int .i64 v0.f0), .p (.int .i64 v0.f1), .p (.int .i64 v0.f2), .p (.str v0.f3), .p (.lst false (List.map en100 v0.f4)), .p (.lst false (List.map srw v0.f5))]] [] (.p (.bool r)) [] := (spec_l02Plain.all k) _ r h
def spec_l02Value.f (k : Nat) (v0 : ByteArray) : Option (Bool) := ((spec_l01Read.f k v0).bind fun v1 => (bif (v1.f0 == 0) then (some false) else ((spec_l02Plain.f k v1).bind fun v2 => (some v2))))
set_option maxRecDepth 100000 in
set_option maxHeartbeats 4000000 in
theorem spec_l02Value.con {K : Kn} [KOk K] {k : Nat} {v0 : ByteArray} {r : Bool} (h : spec_l02Value.f k v0 = some r) : Con K Tryz.prog 56 [.p (.str v0)] [] (.p (.bool r)) [] := by
 rw [spec_l02Value.f] at h
 refine con_intro 13 [] Tryz.func56 (by kernel_rfl) rfl rfl (by kernel_rfl) fun ι0 w0 hk0 => ?_
 revert h
 refine go 3 ?_
 refine grs ?_
 refine gr_run ?_
 refine bind_e (fun v1 e1 => gr_call [] (spec_l01Read.con e1) ?_)
 clear e1
 refine gr_run ?_
 refine gr_done ?_
 refine bif_e (fun c1 => ?_) (fun c1 => ?_)
 ·refine go 2 ?_
  refine ret_e (fun hr_ => ?_)
  subst hr_
  exact ret_ Tryz.func56 []
 ·refine go 1 ?_
  refine grs ?_
  refine gr_run ?_
  refine bind_e (fun v2 e2 => gr_call [] (spec_l02Plain.con e2) ?_)
  clear e2
  refine gr_run ?_
  refine gr_done ?_
  refine ret_e (fun hr_ => ?_)
  subst hr_
  exact ret_ Tryz.func56 []
mutual
def spec_l02Fields.l0 : Nat → (List S91) → Int → Option (Bool)
 | 0, _, _ => none
 | k + 1, v0, v1 => (bif decide (v1 < (v0.length : Int)) then ((ix v0 v1).bind fun v2 => ((spec_l01Name.f k v2.f0).bind fun v3 => (bif v3 then (bif decide (0 < v1) then ((ix v0 (IntKind.i64.wrap (v1 - 1))).bind fun v4 => (bif slt v4.f0 v2.f0 then ((spec_l02Value.f k v2.f1).bind fun v7 => (bif v7 then (spec_l02Fields.l0 k v0 (IntKind.i64.wrap (v1 + 1))) else (some false))) else (some false))) else ((spec_l02Value.f k v2.f1).bind fun v9 => (bif v9 then (spec_l02Fields.l0 k v0 (IntKind.i64.wrap (v1 + 1))) else (some false)))) else (some false)))) else (some true))
def spec_l02Fields.f : Nat → (List S91) → Option (Bool)
 | 0, _ => none
 | k + 1, v0 => (bif decide (20 < (v0.length : Int)) then (some false) else (spec_l02Fields.l0 k v0 0))
end
set_option maxRecDepth 100000 in
set_option maxHeartbeats 4000000 in
theorem spec_l02Fields.con {K : Kn} [KOk K] {k : Nat} {v0 : (List S91)} {r : Bool} (h : spec_l02Fields.f k v0 = some r) : Con K Tryz.prog 44 [.p (.lst false (List.map en91 v0))] [] (.p (.bool r)) [] := by
 cases k with
 | zero => exact absurd h (by simp [spec_l02Fields.f])
 | succ k =>
 rw [spec_l02Fields.f] at h
 refine con_intro 47 [] Tryz.func44 (by kernel_rfl) rfl rfl (by kernel_rfl) fun ι0 w0 hk0 => ?_
 revert h
 refine bif_e (fun c1 => ?_) (fun c1 => ?_)
 ·refine go 8 ?_
  refine ret_e (fun hr_ => ?_)
  subst hr_
  exact ret_ Tryz.func44 []
 ·refine go 11 ?_
  refine fun h => good_loop (fun n st => n ≤ k ∧ ∃ (v1 : _), st = ⟨[(0, .p (.lst false (List.map en91 v0))), (3, .p (.int .i64 v1))], []⟩ ∧ spec_l02Fields.l0 n v0 v1 = some r) k ⟨_, ⟨Nat.le_refl _, _, rfl, h⟩, frle_, memle_⟩ ?_
  clear c1
  clear h
  rintro n _ ⟨hkl0, v1, rfl, h⟩ hl0
  cases n with
  | zero => exact absurd h (by simp [spec_l02Fields.l0])
  | succ kl0 =>
  rw [spec_l02Fields.l0] at h
  revert h
  refine bif_e (fun c2 => ?_) (fun c2 => ?_)
  ·refine bind_e (fun v2 e2 => ?_)
   replace e2 := nf_ (ix_en en91 e2)
   refine go 8 ?_
   refine grs ?_
   refine gr_run ?_
   refine bind_e (fun v3 e3 => gr_call [] (spec_l01Name.con e3) ?_)
   clear e3
   refine bif_e (fun c3 => ?_) (fun c3 => ?_)
   ·refine bif_e (fun c4 => ?_) (fun c4 => ?_)
    ·refine bind_e (fun v4 e4 => ?_)
     replace e4 := nf_ (ix_en en91 e4)
     refine bif_e (fun c5 => ?_) (fun c5 => ?_)
     ·refine gr_run ?_
      refine bind_e (fun v7 e7 => gr_call [] (spec_l02Value.con e7) ?_)
      clear e7
      refine gr_run ?_
      refine gr_done ?_
      refine bif_e (fun c6 => ?_) (fun c6 => ?_)
      ·refine go 4 ?_
       exact fun h => good_again hl0 (by omega) ⟨_, ⟨by omega, _, rfl, h⟩, frle_, memle_⟩
      ·refine go 3 ?_
       refine ret_e (fun hr_ => ?_)
       subst hr_
       exact ret_ Tryz.func44 []
     ·refine gr_run ?_
      refine gr_done ?_
      refine go 3 ?_
      refine ret_e (fun hr_ => ?_)
      subst hr_
      exact ret_ Tryz.func44 []
    ·refine gr_run ?_
     refine bind_e (fun v9 e9 => gr_call [] (spec_l02Value.con e9) ?_)
     clear e9
     refine gr_run ?_
     refine gr_done ?_
     refine bif_e (fun c7 => ?_) (fun c7 => ?_)
     ·refine go 4 ?_
      exact fun h => good_again hl0 (by omega) ⟨_, ⟨by omega, _, rfl, h⟩, frle_, memle_⟩
     ·refine go 3 ?_
      refine ret_e (fun hr_ => ?_)
      subst hr_
      exact ret_ Tryz.func44 []
   ·refine gr_run ?_
    refine gr_done ?_
    refine go 3 ?_
    refine ret_e (fun hr_ => ?_)
    subst hr_
    exact ret_ Tryz.func44 []
  ·refine go 7 ?_
   refine ret_e (fun hr_ => ?_)
   subst hr_
   exact ret_ Tryz.func44 []
def spec_l02IsNode.f (k : Nat) (v0 : S49) : Option (Bool) := ((spec_l02Id.f k v0.f0).bind fun v1 => (bif v1 then ((spec_l02Labels.f k v0.f1).bind fun v2 => (bif v2 then ((spec_l02Fields.f k v0.f2).bind fun v3 => (some v3)) else (some false))) else (some false)))
set_option maxRecDepth 100000 in
set_option maxHeartbeats 4000000 in
theorem spec_l02IsNode.con {K : Kn} [KOk K] {k : Nat} {v0 : S49} {r : Bool} (h : spec_l02IsNode.f k v0 = some r) : Con K Tryz.prog 27 [.agg [.p (.int .i64 v0.f0), .p (.lst false (List.map srw v0.f1)), .p (.lst false (List.map en91 v0.f2))]] [] (.p (.bool r)) [] := by
 rw [spec_l02IsNode.f] at h
 refine con_intro 16 [] Tryz.func27 (by kernel_rfl) rfl rfl (by kernel_rfl) fun ι0 w0 hk0 => ?_
 revert h
 refine go 3 ?_
 refine grs ?_
 refine gr_run ?_
 refine bind_e (fun v1 e1 => gr_call [] (spec_l02Id.con e1) ?_)
 clear e1
 refine bif_e (fun c1 => ?_) (fun c1 => ?_)
 ·refine gr_run ?_
  refine bind_e (fun v2 e2 => gr_call [] (spec_l02Labels.con e2) ?_)
  clear e2
  refine bif_e (fun c2 => ?_) (fun c2 => ?_)
  ·refine gr_run ?_
   refine bind_e (fun v3 e3 => gr_call [] (spec_l02Fields.con e3) ?_)
   clear e3
   refine gr_run ?_
   refine gr_done ?_
   refine ret_e (fun hr_ => ?_)
   subst hr_
   exact ret_ Tryz.func27 []
  ·refine gr_run ?_
   refine gr_done ?_
   refine ret_e (fun hr_ => ?_)
   subst hr_
   exact ret_ Tryz.func27 []
 ·refine gr_run ?_
  refine gr_done ?_
  refine ret_e (fun hr_ => ?_)
  subst hr_
  exact ret_ Tryz.func27 []
def spec_l02IsEdge.f (k : Nat) (v0 : S68) : Option (Bool) := ((spec_l02Id.f k v0.f0).bind fun v1 => (bif v1 then ((spec_l01Name.f k v0.f1).bind fun v2 => (bif v2 then ((spec_l02Id.f k v0.f2).bind fun v3 => (bif v3 then ((spec_l02Id.f k v0.f3).bind fun v4 => (bif v4 then ((spec_l02Fields.f k v0.f4).bind fun v5 => (some v5)) else (some false))) else (some false))) else (some false))) else (some false)))
set_option maxRecDepth 100000 in
set_option maxHeartbeats 4000000 in
theorem spec_l02IsEdge.con {K : Kn} [KOk K] {k : Nat} {v0 : S68} {r : Bool} (h : spec_l02IsEdge.f k v0 = some r) : Con K Tryz.prog 28 [.agg [.p (.int .i64 v0.f0), .p (.str v0.f1), .p (.int .i64 v0.f2), .p (.int .i64 v0.f3), .p (.lst false (List.map en91 v0.f4))]] [] (.p (.bool r)) [] := by
 rw [spec_l02IsEdge.f] at h
 refine con_intro 26 [] Tryz.func28 (by kernel_rfl) rfl rfl (by kernel_rfl) fun ι0 w0 hk0 => ?_
 revert h
 refine go 3 ?_
 refine grs ?_
 refine gr_run ?_
 refine bind_e (fun v1 e1 => gr_call [] (spec_l02Id.con e1) ?_)
 clear e1
 refine bif_e (fun c1 => ?_) (fun c1 => ?_)
 ·refine gr_run ?_
  refine bind_e (fun v2 e2 => gr_call [] (spec_l01Name.con e2) ?_)
  clear e2
  refine bif_e (fun c2 => ?_) (fun c2 => ?_)
  ·refine gr_run ?_
   refine bind_e (fun v3 e3 => gr_call [] (spec_l02Id.con e3) ?_)
   clear e3
   refine bif_e (fun c3 => ?_) (fun c3 => ?_)
   ·refine gr_run ?_
    refine bind_e (fun v4 e4 => gr_call [] (spec_l02Id.con e4) ?_)
    clear e4
    refine bif_e (fun c4 => ?_) (fun c4 => ?_)
    ·refine gr_run ?_
     refine bind_e (fun v5 e5 => gr_call [] (spec_l02Fields.con e5) ?_)
     clear e5
     refine gr_run ?_
     refine gr_done ?_
     refine ret_e (fun hr_ => ?_)
     subst hr_
     exact ret_ Tryz.func28 []
    ·refine gr_run ?_
     refine gr_done ?_
     refine ret_e (fun hr_ => ?_)
     subst hr_
     exact ret_ Tryz.func28 []
   ·refine gr_run ?_
    refine gr_done ?_
    refine ret_e (fun hr_ => ?_)
    subst hr_
    exact ret_ Tryz.func28 []
  ·refine gr_run ?_
   refine gr_done ?_
   refine ret_e (fun hr_ => ?_)
   subst hr_
   exact ret_ Tryz.func28 []
 ·refine gr_run ?_
  refine gr_done ?_
  refine ret_e (fun hr_ => ?_)
  subst hr_
  exact ret_ Tryz.func28 []
mutual
def spec_l02Node.l0 : Nat → Int → Int → S31 → Option (Int)
 | 0, _, _, _ => none
 | k + 1, v1, v2, v0 => (bif decide (v2 < (v0.f0.length : Int)) then ((ix v0.f0 v2).bind fun v3 => (bif (v3.f0 == v1) then (some v2) else (spec_l02Node.l0 k v1 (IntKind.i64.wrap (v2 + 1)) v0))) else (some (-1)))
def spec_l02Node.f : Nat → S31 → Int → Option (Int)
 | 0, _, _ => none
 | k + 1, v0, v1 => (spec_l02Node.l0 k v1 0 v0)
end
set_option maxRecDepth 100000 in
set_option maxHeartbeats 4000000 in
theorem spec_l02Node.con {K : Kn} [KOk K] {k : Nat} {v0 : S31} {v1 : Int} {r : Int} (h : spec_l02Node.f k v0 v1 = some r) : Con K Tryz.prog 29 [.agg [.p (.lst false (List.map en49 v0.f0)), .p (.lst false (List.map en68 v0.f1))], .p (.int .i64 v1)] [] (.p (.int .i64 r)) [] := by
 cases k with
 | zero => exact absurd h (by simp [spec_l02Node.f])
 | succ k =>
 rw [spec_l02Node.f] at h
 refine con_intro 22 [] Tryz.func29 (by kernel_rfl) rfl rfl (by kernel_rfl) fun ι0 w0 hk0 => ?_
 revert h
 refine go 6 ?_
 refine fun h => good_loop (fun n st => n ≤ k ∧ ∃ (v2 : _), st = ⟨[(1, .p (.int .i64 v1)), (2, .ptr 2 1 0), (5, .p (.int .i64 v2))], [(2, (1, .cells [.p (.lst false (List.map en49 v0.f0)), .p (.lst false (List.map en68 v0.f1))]))]⟩ ∧ spec_l02Node.l0 n v1 v2 v0 = some r) k ⟨_, ⟨Nat.le_refl _, _, rfl, h⟩, frle_, memle_⟩ ?_
 clear h
 rintro n _ ⟨hkl0, v2, rfl, h⟩ hl0
 cases n with
 | zero => exact absurd h (by simp [spec_l02Node.l0])
 | succ kl0 =>
 rw [spec_l02Node.l0] at h
 revert h
 refine bif_e (fun c1 => ?_) (fun c1 => ?_)
 ·refine bind_e (fun v3 e3 => ?_)
  replace e3 := nf_ (ix_en en49 e3)
  refine bif_e (fun c2 => ?_) (fun c2 => ?_)
  ·refine go 12 ?_
   refine ret_e (fun hr_ => ?_)
   subst hr_
   exact ret_ Tryz.func29 []
  ·refine go 13 ?_
   exact fun h => good_again hl0 (by omega) ⟨_, ⟨by omega, _, rfl, h⟩, frle_, memle_⟩
 ·refine go 7 ?_
  refine ret_e (fun hr_ => ?_)
  subst hr_
  exact ret_ Tryz.func29 []
mutual
def spec_GraphFault.j0 : Nat → Int → S31 → Option (Int)
 | 0, _, _ => none
 | k + 1, v1, v0 => (spec_GraphFault.l0 k (IntKind.i64.wrap (v1 + 1)) v0)
def spec_GraphFault.l1 : Nat → Int → S31 → Option (Int)
 | 0, _, _ => none
 | k + 1, v6, v0 => (bif decide (v6 < (v0.f1.length : Int)) then ((ix v0.f1 v6).bind fun v8 => ((spec_l02IsEdge.f k v8).bind fun v9 => (bif v9 then (bif decide (0 < v6) then ((ix v0.f1 (IntKind.i64.wrap (v6 - 1))).bind fun v10 => (bif decide (v8.f0 ≤ v10.f0) then (some 1) else ((spec_l02Node.f k v0 v8.f2).bind fun v11 => (bif decide (v11 < 0) then (some 1) else ((spec_l02Node.f k v0 v8.f3).bind fun v12 => (bif decide (v12 < 0) then (some 1) else (spec_GraphFault.l1 k (IntKind.i64.wrap (v6 + 1)) v0))))))) else ((spec_l02Node.f k v0 v8.f2).bind fun v13 => (bif decide (v13 < 0) then (some 1) else ((spec_l02Node.f k v0 v8.f3).bind fun v14 => (bif decide (v14 < 0) then (some 1) else (spec_GraphFault.l1 k (IntKind.i64.wrap (v6 + 1)) v0)))))) else (some 1)))) else (some 0))
def spec_GraphFault.l0 : Nat → Int → S31 → Option (Int)
 | 0, _, _ => none
 | k + 1, v1, v0 => (bif decide (v1 < (v0.f0.length : Int)) then ((ix v0.f0 v1).bind fun v2 => ((spec_l02IsNode.f k v2).bind fun v3 => (bif v3 then (bif decide (0 < v1) then ((ix v0.f0 (IntKind.i64.wrap (v1 - 1))).bind fun v4 => (bif decide (v2.f0 ≤ v4.f0) then (some 1) else (spec_GraphFault.j0 k v1 v0))) else (spec_GraphFault.j0 k v1 v0)) else (some 1)))) else (spec_GraphFault.l1 k 0 v0))
def spec_GraphFault.f : Nat → S31 → Option (Int)
 | 0, _ => none
 | k + 1, v0 => (bif decide (200 < (v0.f0.length : Int)) then (some 1) else (bif decide (400 < (v0.f1.length : Int)) then (some 1) else (spec_GraphFault.l0 k 0 v0)))
end
set_option maxRecDepth 100000 in
set_option maxHeartbeats 4000000 in
theorem spec_GraphFault.con {K : Kn} [KOk K] {k : Nat} {v0 : S31} {r : Int} (h : spec_GraphFault.f k v0 = some r) : Con K Tryz.prog 15 [.agg [.p (.lst false (List.map en49 v0.f0)), .p (.lst false (List.map en68 v0.f1))]] [] (.p (.int .i64 r)) [] := by
 cases k with
 | zero => exact absurd h (by simp [spec_GraphFault.f])
 | succ k =>
 rw [spec_GraphFault.f] at h
 refine con_intro 95 [] Tryz.func15 (by kernel_rfl) rfl rfl (by kernel_rfl) fun ι0 w0 hk0 => ?_
 revert h
 refine bif_e (fun c1 => ?_) (fun c1 => ?_)
 ·refine go 8 ?_
  refine ret_e (fun hr_ => ?_)
  subst hr_
  exact ret_ Tryz.func15 []
 ·refine bif_e (fun c2 => ?_) (fun c2 => ?_)
  ·refine go 8 ?_
   refine ret_e (fun hr_ => ?_)
   subst hr_
   exact ret_ Tryz.func15 []
  ·refine go 11 ?_
   refine fun h => good_loop (fun n st => n ≤ k ∧ ∃ (v1 : _), st = ⟨[(1, .ptr 1 1 0), (3, .p (.int .i64 v1))], [(1, (1, .cells [.p (.lst false (List.map en49 v0.f0)), .p (.lst false (List.map en68 v0.f1))]))]⟩ ∧ spec_GraphFault.l0 n v1 v0 = some r) k ⟨_, ⟨Nat.le_refl _, _, rfl, h⟩, frle_, memle_⟩ ?_
   clear c1 c2
   clear h
   rintro n _ ⟨hkl0, v1, rfl, h⟩ hl0
   cases n with
   | zero => exact absurd h (by simp [spec_GraphFault.l0])
   | succ kl0 =>
   rw [spec_GraphFault.l0] at h
   revert h
   refine bif_e (fun c3 => ?_) (fun c3 => ?_)
   ·refine go 8 ?_
    refine good_cut_f (fun st => ∃ (q_ : Nat), q_ ≤ kl0 ∧ st = ⟨[(1, .ptr 1 1 0), (3, .p (.int .i64 v1))], [(1, (1, .cells [.p (.lst false (List.map en49 v0.f0)), .p (.lst false (List.map en68 v0.f1))]))]⟩ ∧ spec_GraphFault.j0 q_ v1 v0 = some r) ?_ (fun hj0 => ?_)
    ·clear c3
     rintro _ ⟨q_, hqj0, rfl, h⟩
     cases q_ with
     | zero => exact absurd h (by simp [spec_GraphFault.j0])
     | succ kj0 =>
     rw [spec_GraphFault.j0] at h
     revert h
     refine go 3 ?_
     exact fun h => good_again hl0 (by omega) ⟨_, ⟨by omega, _, rfl, h⟩, frle_, memle_⟩
    ·refine bind_e (fun v2 e2 => ?_)
     replace e2 := nf_ (ix_en en49 e2)
     refine grs ?_
     refine gr_run ?_
     refine bind_e (fun v3 e3 => gr_call [] (spec_l02IsNode.con e3) ?_)
     clear e3
     refine bif_e (fun c4 => ?_) (fun c4 => ?_)
     ·refine bif_e (fun c5 => ?_) (fun c5 => ?_)
      ·refine bind_e (fun v4 e4 => ?_)
       replace e4 := nf_ (ix_en en49 e4)
       refine gr_run ?_
       refine gr_done ?_
       refine bif_e (fun c6 => ?_) (fun c6 => ?_)
       ·refine go 3 ?_
        refine ret_e (fun hr_ => ?_)
        subst hr_
        exact ret_ Tryz.func15 []
       ·refine go 1 ?_
        exact fun h => good_jump hj0 ⟨_, ⟨_, by omega, rfl, h⟩, frle_, memle_⟩
      ·refine gr_run ?_
       refine gr_done ?_
       refine go 1 ?_
       exact fun h => good_jump hj0 ⟨_, ⟨_, by omega, rfl, h⟩, frle_, memle_⟩
     ·refine gr_run ?_
      refine gr_done ?_
      refine go 3 ?_
      refine ret_e (fun hr_ => ?_)
      subst hr_
      exact ret_ Tryz.func15 []
   ·refine go 9 ?_
    refine fun h => good_loop (fun n st => n ≤ kl0 ∧ ∃ (v6 : _) (g7 : Nat), st = ⟨[(1, .ptr 1 1 0), (4, .p (.int .i64 v6))], [(1, (1, .cells [.p (.lst false (List.map en49 v0.f0)), .p (.lst false (List.map en68 v0.f1))])), (5, (g7, .gone))]⟩ ∧ spec_GraphFault.l1 n v6 v0 = some r) kl0 ⟨_, ⟨Nat.le_refl _, _, 0, rfl, h⟩, frle_, memle_⟩ ?_
    clear c3
    clear h
    rintro n _ ⟨hkl1, v6, g7, rfl, h⟩ hl1
    cases n with
    | zero => exact absurd h (by simp [spec_GraphFault.l1])
    | succ kl1 =>
    rw [spec_GraphFault.l1] at h
    revert h
    refine bif_e (fun c7 => ?_) (fun c7 => ?_)
    ·refine bind_e (fun v8 e8 => ?_)
     replace e8 := nf_ (ix_en en68 e8)
     refine go 10 ?_
     refine grs ?_
     refine gr_run ?_
     refine bind_e (fun v9 e9 => gr_call [] (spec_l02IsEdge.con e9) ?_)
     clear e9
     refine bif_e (fun c8 => ?_) (fun c8 => ?_)
     ·refine bif_e (fun c9 => ?_) (fun c9 => ?_)
      ·refine bind_e (fun v10 e10 => ?_)
       replace e10 := nf_ (ix_en en68 e10)
       refine bif_e (fun c10 => ?_) (fun c10 => ?_)
       ·refine gr_run ?_
        refine gr_done ?_
        refine go 3 ?_
        refine ret_e (fun hr_ => ?_)
        subst hr_
        exact ret_ Tryz.func15 []
       ·refine gr_run ?_
        refine bind_e (fun v11 e11 => gr_call [] (spec_l02Node.con e11) ?_)
        clear e11
        refine bif_e (fun c11 => ?_) (fun c11 => ?_)
        ·refine gr_run ?_
         refine gr_done ?_
         refine go 3 ?_
         refine ret_e (fun hr_ => ?_)
         subst hr_
         exact ret_ Tryz.func15 []
        ·refine gr_run ?_
         refine bind_e (fun v12 e12 => gr_call [] (spec_l02Node.con e12) ?_)
         clear e12
         refine gr_run ?_
         refine gr_done ?_
         refine bif_e (fun c12 => ?_) (fun c12 => ?_)
         ·refine go 3 ?_
          refine ret_e (fun hr_ => ?_)
          subst hr_
          exact ret_ Tryz.func15 []
         ·refine go 4 ?_
          exact fun h => good_again hl1 (by omega) ⟨_, ⟨by omega, _, g7 + 1, rfl, h⟩, frle_, memle_⟩
      ·refine gr_run ?_
       refine bind_e (fun v13 e13 => gr_call [] (spec_l02Node.con e13) ?_)
       clear e13
       refine bif_e (fun c13 => ?_) (fun c13 => ?_)
       ·refine gr_run ?_
        refine gr_done ?_
        refine go 3 ?_
        refine ret_e (fun hr_ => ?_)
        subst hr_
        exact ret_ Tryz.func15 []
       ·refine gr_run ?_
        refine bind_e (fun v14 e14 => gr_call [] (spec_l02Node.con e14) ?_)
        clear e14
        refine gr_run ?_
        refine gr_done ?_
        refine bif_e (fun c14 => ?_) (fun c14 => ?_)
        ·refine go 3 ?_
         refine ret_e (fun hr_ => ?_)
         subst hr_
         exact ret_ Tryz.func15 []
        ·refine go 4 ?_
         exact fun h => good_again hl1 (by omega) ⟨_, ⟨by omega, _, g7 + 1, rfl, h⟩, frle_, memle_⟩
     ·refine gr_run ?_
      refine gr_done ?_
      refine go 3 ?_
      refine ret_e (fun hr_ => ?_)
      subst hr_
      exact ret_ Tryz.func15 []
    ·refine go 7 ?_
     refine ret_e (fun hr_ => ?_)
     subst hr_
     exact ret_ Tryz.func15 []
end Go.Ab
