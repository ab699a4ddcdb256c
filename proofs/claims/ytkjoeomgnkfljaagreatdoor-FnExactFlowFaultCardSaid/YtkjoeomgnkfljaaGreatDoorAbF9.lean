/- What the functions compute, and their contracts, part 9. No condition beyond KOk. -/
import Derived.Test.YtkjoeomgnkfljaaGreatDoorAbX
import Derived.Test.YtkjoeomgnkfljaaGreatDoorAbF1
import Derived.Test.YtkjoeomgnkfljaaGreatDoorAbF4
import Derived.Test.YtkjoeomgnkfljaaGreatDoorAbF8
namespace Go.Ab
open Go.Proofs
set_option linter.unusedVariables false
set_option linter.unusedSimpArgs false
mutual
def laws_eqNodeS.l0 : Nat → (List S94) → (List S94) → Int → Option (Bool)
 | 0, _, _, _ => none
 | k + 1, v0, v1, v2 => (bif decide (v2 < (v0.length : Int)) then ((ix v0 v2).bind fun v3 => ((ix v1 v2).bind fun v4 => ((laws_eqNode.f k v3 v4).bind fun v5 => (bif v5 then (laws_eqNodeS.l0 k v0 v1 (IntKind.i64.wrap (v2 + 1))) else (some false))))) else (some true))
def laws_eqNodeS.f : Nat → (List S94) → (List S94) → Option (Bool)
 | 0, _, _ => none
 | k + 1, v0, v1 => (bif ((v0.length : Int) == (v1.length : Int)) then (laws_eqNodeS.l0 k v0 v1 0) else (some false))
end
set_option maxRecDepth 100000 in
set_option maxHeartbeats 4000000 in
theorem laws_eqNodeS.con {K : Kn} [KOk K] {k : Nat} {v0 : (List S94)} {v1 : (List S94)} {r : Bool} (h : laws_eqNodeS.f k v0 v1 = some r) : Con K Tryz.prog 59 [.p (.lst false (List.map en94 v0)), .p (.lst false (List.map en94 v1))] [] (.p (.bool r)) [] := by
 cases k with
 | zero => exact absurd h (by simp [laws_eqNodeS.f])
 | succ k =>
 rw [laws_eqNodeS.f] at h
 refine con_intro 27 [] Tryz.func59 (by kernel_rfl) rfl rfl (by kernel_rfl) fun ι0 w0 hk0 => ?_
 revert h
 refine bif_e (fun c1 => ?_) (fun c1 => ?_)
 ·refine go 11 ?_
  refine fun h => good_loop (fun n st => n ≤ k ∧ ∃ (v2 : _), st = ⟨[(0, .p (.lst false (List.map en94 v0))), (1, .p (.lst false (List.map en94 v1))), (5, .p (.int .i64 v2))], []⟩ ∧ laws_eqNodeS.l0 n v0 v1 v2 = some r) k ⟨_, ⟨Nat.le_refl _, _, rfl, h⟩, frle_, memle_⟩ ?_
  clear c1
  clear h
  rintro n _ ⟨hkl0, v2, rfl, h⟩ hl0
  cases n with
  | zero => exact absurd h (by simp [laws_eqNodeS.l0])
  | succ kl0 =>
  rw [laws_eqNodeS.l0] at h
  revert h
  refine bif_e (fun c2 => ?_) (fun c2 => ?_)
  ·refine bind_e (fun v3 e3 => ?_)
   replace e3 := nf_ (ix_en en94 e3)
   refine bind_e (fun v4 e4 => ?_)
   replace e4 := nf_ (ix_en en94 e4)
   refine go 8 ?_
   refine grs ?_
   refine gr_run ?_
   refine bind_e (fun v5 e5 => gr_call [] (laws_eqNode.con e5) ?_)
   clear e5
   refine gr_run ?_
   refine gr_done ?_
   refine bif_e (fun c3 => ?_) (fun c3 => ?_)
   ·refine go 4 ?_
    exact fun h => good_again hl0 (by omega) ⟨_, ⟨by omega, _, rfl, h⟩, frle_, memle_⟩
   ·refine go 3 ?_
    refine ret_e (fun hr_ => ?_)
    subst hr_
    exact ret_ Tryz.func59 []
  ·refine go 7 ?_
   refine ret_e (fun hr_ => ?_)
   subst hr_
   exact ret_ Tryz.func59 []
 ·refine go 8 ?_
  refine ret_e (fun hr_ => ?_)
  subst hr_
  exact ret_ Tryz.func59 []
def laws_eqEdge.f (k : Nat) (v0 : S110) (v1 : S110) : Option (Bool) := (bif (v0.f0 == v1.f0) then (bif decide (v0.f1 = v1.f1) then (bif (v0.f2 == v1.f2) then (bif (v0.f3 == v1.f3) then ((laws_eqFieldS.f k v0.f4 v1.f4).bind fun v2 => (bif v2 then (some true) else (some false))) else (some false)) else (some false)) else (some false)) else (some false))
set_option maxRecDepth 100000 in
set_option maxHeartbeats 4000000 in
theorem laws_eqEdge.con {K : Kn} [KOk K] {k : Nat} {v0 : S110} {v1 : S110} {r : Bool} (h : laws_eqEdge.f k v0 v1 = some r) : Con K Tryz.prog 122 [.agg [.p (.int .i64 v0.f0), .p (.str v0.f1), .p (.int .i64 v0.f2), .p (.int .i64 v0.f3), .p (.lst false (List.map en193 v0.f4))], .agg [.p (.int .i64 v1.f0), .p (.str v1.f1), .p (.int .i64 v1.f2), .p (.int .i64 v1.f3), .p (.lst false (List.map en193 v1.f4))]] [] (.p (.bool r)) [] := by
 rw [laws_eqEdge.f] at h
 refine con_intro 31 [] Tryz.func122 (by kernel_rfl) rfl rfl (by kernel_rfl) fun ι0 w0 hk0 => ?_
 revert h
 refine bif_e (fun c1 => ?_) (fun c1 => ?_)
 ·refine bif_e (fun c2 => ?_) (fun c2 => ?_)
  ·refine bif_e (fun c3 => ?_) (fun c3 => ?_)
   ·refine bif_e (fun c4 => ?_) (fun c4 => ?_)
    ·refine go 24 ?_
     refine grs ?_
     refine gr_run ?_
     refine bind_e (fun v2 e2 => gr_call [] (laws_eqFieldS.con e2) ?_)
     clear e2
     refine gr_run ?_
     refine gr_done ?_
     refine bif_e (fun c5 => ?_) (fun c5 => ?_)
     ·refine go 4 ?_
      refine ret_e (fun hr_ => ?_)
      subst hr_
      exact ret_ Tryz.func122 []
     ·refine go 3 ?_
      refine ret_e (fun hr_ => ?_)
      subst hr_
      exact ret_ Tryz.func122 []
    ·refine go 23 ?_
     refine ret_e (fun hr_ => ?_)
     subst hr_
     exact ret_ Tryz.func122 []
   ·refine go 18 ?_
    refine ret_e (fun hr_ => ?_)
    subst hr_
    exact ret_ Tryz.func122 []
  ·refine go 13 ?_
   refine ret_e (fun hr_ => ?_)
   subst hr_
   exact ret_ Tryz.func122 []
 ·refine go 8 ?_
  refine ret_e (fun hr_ => ?_)
  subst hr_
  exact ret_ Tryz.func122 []
mutual
def laws_eqEdgeS.l0 : Nat → (List S110) → (List S110) → Int → Option (Bool)
 | 0, _, _, _ => none
 | k + 1, v0, v1, v2 => (bif decide (v2 < (v0.length : Int)) then ((ix v0 v2).bind fun v3 => ((ix v1 v2).bind fun v4 => ((laws_eqEdge.f k v3 v4).bind fun v5 => (bif v5 then (laws_eqEdgeS.l0 k v0 v1 (IntKind.i64.wrap (v2 + 1))) else (some false))))) else (some true))
def laws_eqEdgeS.f : Nat → (List S110) → (List S110) → Option (Bool)
 | 0, _, _ => none
 | k + 1, v0, v1 => (bif ((v0.length : Int) == (v1.length : Int)) then (laws_eqEdgeS.l0 k v0 v1 0) else (some false))
end
set_option maxRecDepth 100000 in
set_option maxHeartbeats 4000000 in
theorem laws_eqEdgeS.con {K : Kn} [KOk K] {k : Nat} {v0 : (List S110)} {v1 : (List S110)} {r : Bool} (h : laws_eqEdgeS.f k v0 v1 = some r) : Con K Tryz.prog 60 [.p (.lst false (List.map en110 v0)), .p (.lst false (List.map en110 v1))] [] (.p (.bool r)) [] := by
 cases k with
 | zero => exact absurd h (by simp [laws_eqEdgeS.f])
 | succ k =>
 rw [laws_eqEdgeS.f] at h
 refine con_intro 27 [] Tryz.func60 (by kernel_rfl) rfl rfl (by kernel_rfl) fun ι0 w0 hk0 => ?_
 revert h
 refine bif_e (fun c1 => ?_) (fun c1 => ?_)
 ·refine go 11 ?_
  refine fun h => good_loop (fun n st => n ≤ k ∧ ∃ (v2 : _), st = ⟨[(0, .p (.lst false (List.map en110 v0))), (1, .p (.lst false (List.map en110 v1))), (5, .p (.int .i64 v2))], []⟩ ∧ laws_eqEdgeS.l0 n v0 v1 v2 = some r) k ⟨_, ⟨Nat.le_refl _, _, rfl, h⟩, frle_, memle_⟩ ?_
  clear c1
  clear h
  rintro n _ ⟨hkl0, v2, rfl, h⟩ hl0
  cases n with
  | zero => exact absurd h (by simp [laws_eqEdgeS.l0])
  | succ kl0 =>
  rw [laws_eqEdgeS.l0] at h
  revert h
  refine bif_e (fun c2 => ?_) (fun c2 => ?_)
  ·refine bind_e (fun v3 e3 => ?_)
   replace e3 := nf_ (ix_en en110 e3)
   refine bind_e (fun v4 e4 => ?_)
   replace e4 := nf_ (ix_en en110 e4)
   refine go 8 ?_
   refine grs ?_
   refine gr_run ?_
   refine bind_e (fun v5 e5 => gr_call [] (laws_eqEdge.con e5) ?_)
   clear e5
   refine gr_run ?_
   refine gr_done ?_
   refine bif_e (fun c3 => ?_) (fun c3 => ?_)
   ·refine go 4 ?_
    exact fun h => good_again hl0 (by omega) ⟨_, ⟨by omega, _, rfl, h⟩, frle_, memle_⟩
   ·refine go 3 ?_
    refine ret_e (fun hr_ => ?_)
    subst hr_
    exact ret_ Tryz.func60 []
  ·refine go 7 ?_
   refine ret_e (fun hr_ => ?_)
   subst hr_
   exact ret_ Tryz.func60 []
 ·refine go 8 ?_
  refine ret_e (fun hr_ => ?_)
  subst hr_
  exact ret_ Tryz.func60 []
def laws_eqGraph.f (k : Nat) (v0 : S31) (v1 : S31) : Option (Bool) := ((laws_eqNodeS.f k v0.f0 v1.f0).bind fun v2 => (bif v2 then ((laws_eqEdgeS.f k v0.f1 v1.f1).bind fun v3 => (bif v3 then (some true) else (some false))) else (some false)))
set_option maxRecDepth 100000 in
set_option maxHeartbeats 4000000 in
theorem laws_eqGraph.con {K : Kn} [KOk K] {k : Nat} {v0 : S31} {v1 : S31} {r : Bool} (h : laws_eqGraph.f k v0 v1 = some r) : Con K Tryz.prog 16 [.agg [.p (.lst false (List.map en94 v0.f0)), .p (.lst false (List.map en110 v0.f1))], .agg [.p (.lst false (List.map en94 v1.f0)), .p (.lst false (List.map en110 v1.f1))]] [] (.p (.bool r)) [] := by
 rw [laws_eqGraph.f] at h
 refine con_intro 17 [] Tryz.func16 (by kernel_rfl) rfl rfl (by kernel_rfl) fun ι0 w0 hk0 => ?_
 revert h
 refine go 4 ?_
 refine grs ?_
 refine gr_run ?_
 refine bind_e (fun v2 e2 => gr_call [] (laws_eqNodeS.con e2) ?_)
 clear e2
 refine gr_run ?_
 refine gr_done ?_
 refine bif_e (fun c1 => ?_) (fun c1 => ?_)
 ·refine go 4 ?_
  refine grs ?_
  refine gr_run ?_
  refine bind_e (fun v3 e3 => gr_call [] (laws_eqEdgeS.con e3) ?_)
  clear e3
  refine gr_run ?_
  refine gr_done ?_
  refine bif_e (fun c2 => ?_) (fun c2 => ?_)
  ·refine go 4 ?_
   refine ret_e (fun hr_ => ?_)
   subst hr_
   exact ret_ Tryz.func16 []
  ·refine go 3 ?_
   refine ret_e (fun hr_ => ?_)
   subst hr_
   exact ret_ Tryz.func16 []
 ·refine go 3 ?_
  refine ret_e (fun hr_ => ?_)
  subst hr_
  exact ret_ Tryz.func16 []
def laws_eqFlowEdge.f (k : Nat) (v0 : S107) (v1 : S107) : Option (Bool) := (bif (v0.f0 == v1.f0) then (bif (v0.f1 == v1.f1) then (some true) else (some false)) else (some false))
set_option maxRecDepth 100000 in
set_option maxHeartbeats 4000000 in
theorem laws_eqFlowEdge.con {K : Kn} [KOk K] {k : Nat} {v0 : S107} {v1 : S107} {r : Bool} (h : laws_eqFlowEdge.f k v0 v1 = some r) : Con K Tryz.prog 132 [.agg [.p (.int .i64 v0.f0), .p (.int .i64 v0.f1)], .agg [.p (.int .i64 v1.f0), .p (.int .i64 v1.f1)]] [] (.p (.bool r)) [] := by
 rw [laws_eqFlowEdge.f] at h
 refine con_intro 15 [] Tryz.func132 (by kernel_rfl) rfl rfl (by kernel_rfl) fun ι0 w0 hk0 => ?_
 revert h
 refine bif_e (fun c1 => ?_) (fun c1 => ?_)
 ·refine bif_e (fun c2 => ?_) (fun c2 => ?_)
  ·refine go 14 ?_
   refine ret_e (fun hr_ => ?_)
   subst hr_
   exact ret_ Tryz.func132 []
  ·refine go 13 ?_
   refine ret_e (fun hr_ => ?_)
   subst hr_
   exact ret_ Tryz.func132 []
 ·refine go 8 ?_
  refine ret_e (fun hr_ => ?_)
  subst hr_
  exact ret_ Tryz.func132 []
mutual
def laws_eqFlowEdgeS.l0 : Nat → (List S107) → (List S107) → Int → Option (Bool)
 | 0, _, _, _ => none
 | k + 1, v0, v1, v2 => (bif decide (v2 < (v0.length : Int)) then ((ix v0 v2).bind fun v3 => ((ix v1 v2).bind fun v4 => ((laws_eqFlowEdge.f k v3 v4).bind fun v5 => (bif v5 then (laws_eqFlowEdgeS.l0 k v0 v1 (IntKind.i64.wrap (v2 + 1))) else (some false))))) else (some true))
def laws_eqFlowEdgeS.f : Nat → (List S107) → (List S107) → Option (Bool)
 | 0, _, _ => none
 | k + 1, v0, v1 => (bif ((v0.length : Int) == (v1.length : Int)) then (laws_eqFlowEdgeS.l0 k v0 v1 0) else (some false))
end
set_option maxRecDepth 100000 in
set_option maxHeartbeats 4000000 in
theorem laws_eqFlowEdgeS.con {K : Kn} [KOk K] {k : Nat} {v0 : (List S107)} {v1 : (List S107)} {r : Bool} (h : laws_eqFlowEdgeS.f k v0 v1 = some r) : Con K Tryz.prog 75 [.p (.lst false (List.map en107 v0)), .p (.lst false (List.map en107 v1))] [] (.p (.bool r)) [] := by
 cases k with
 | zero => exact absurd h (by simp [laws_eqFlowEdgeS.f])
 | succ k =>
 rw [laws_eqFlowEdgeS.f] at h
 refine con_intro 27 [] Tryz.func75 (by kernel_rfl) rfl rfl (by kernel_rfl) fun ι0 w0 hk0 => ?_
 revert h
 refine bif_e (fun c1 => ?_) (fun c1 => ?_)
 ·refine go 11 ?_
  refine fun h => good_loop (fun n st => n ≤ k ∧ ∃ (v2 : _), st = ⟨[(0, .p (.lst false (List.map en107 v0))), (1, .p (.lst false (List.map en107 v1))), (5, .p (.int .i64 v2))], []⟩ ∧ laws_eqFlowEdgeS.l0 n v0 v1 v2 = some r) k ⟨_, ⟨Nat.le_refl _, _, rfl, h⟩, frle_, memle_⟩ ?_
  clear c1
  clear h
  rintro n _ ⟨hkl0, v2, rfl, h⟩ hl0
  cases n with
  | zero => exact absurd h (by simp [laws_eqFlowEdgeS.l0])
  | succ kl0 =>
  rw [laws_eqFlowEdgeS.l0] at h
  revert h
  refine bif_e (fun c2 => ?_) (fun c2 => ?_)
  ·refine bind_e (fun v3 e3 => ?_)
   replace e3 := nf_ (ix_en en107 e3)
   refine bind_e (fun v4 e4 => ?_)
   replace e4 := nf_ (ix_en en107 e4)
   refine go 8 ?_
   refine grs ?_
   refine gr_run ?_
   refine bind_e (fun v5 e5 => gr_call [] (laws_eqFlowEdge.con e5) ?_)
   clear e5
   refine gr_run ?_
   refine gr_done ?_
   refine bif_e (fun c3 => ?_) (fun c3 => ?_)
   ·refine go 4 ?_
    exact fun h => good_again hl0 (by omega) ⟨_, ⟨by omega, _, rfl, h⟩, frle_, memle_⟩
   ·refine go 3 ?_
    refine ret_e (fun hr_ => ?_)
    subst hr_
    exact ret_ Tryz.func75 []
  ·refine go 7 ?_
   refine ret_e (fun hr_ => ?_)
   subst hr_
   exact ret_ Tryz.func75 []
 ·refine go 8 ?_
  refine ret_e (fun hr_ => ?_)
  subst hr_
  exact ret_ Tryz.func75 []
mutual
def laws_eqInt64S.l0 : Nat → (List Int) → (List Int) → Int → Option (Bool)
 | 0, _, _, _ => none
 | k + 1, v0, v1, v2 => (bif decide (v2 < (v0.length : Int)) then ((ix v0 v2).bind fun v3 => ((ix v1 v2).bind fun v4 => (bif (v3 == v4) then (laws_eqInt64S.l0 k v0 v1 (IntKind.i64.wrap (v2 + 1))) else (some false)))) else (some true))
def laws_eqInt64S.f : Nat → (List Int) → (List Int) → Option (Bool)
 | 0, _, _ => none
 | k + 1, v0, v1 => (bif ((v0.length : Int) == (v1.length : Int)) then (laws_eqInt64S.l0 k v0 v1 0) else (some false))
end
set_option maxRecDepth 100000 in
set_option maxHeartbeats 4000000 in
theorem laws_eqInt64S.con {K : Kn} [KOk K] {k : Nat} {v0 : (List Int)} {v1 : (List Int)} {r : Bool} (h : laws_eqInt64S.f k v0 v1 = some r) : Con K Tryz.prog 15 [.p (.lst false (List.map (irow .i64) v0)), .p (.lst false (List.map (irow .i64) v1))] [] (.p (.bool r)) [] := by
 cases k with
 | zero => exact absurd h (by simp [laws_eqInt64S.f])
 | succ k =>
 rw [laws_eqInt64S.f] at h
 refine con_intro 26 [] Tryz.func15 (by kernel_rfl) rfl rfl (by kernel_rfl) fun ι0 w0 hk0 => ?_
 revert h
 refine bif_e (fun c1 => ?_) (fun c1 => ?_)
 ·refine go 11 ?_
  refine fun h => good_loop (fun n st => n ≤ k ∧ ∃ (v2 : _), st = ⟨[(0, .p (.lst false (List.map (irow .i64) v0))), (1, .p (.lst false (List.map (irow .i64) v1))), (5, .p (.int .i64 v2))], []⟩ ∧ laws_eqInt64S.l0 n v0 v1 v2 = some r) k ⟨_, ⟨Nat.le_refl _, _, rfl, h⟩, frle_, memle_⟩ ?_
  clear c1
  clear h
  rintro n _ ⟨hkl0, v2, rfl, h⟩ hl0
  cases n with
  | zero => exact absurd h (by simp [laws_eqInt64S.l0])
  | succ kl0 =>
  rw [laws_eqInt64S.l0] at h
  revert h
  refine bif_e (fun c2 => ?_) (fun c2 => ?_)
  ·refine bind_e (fun v3 e3 => ?_)
   replace e3 := nf_ (ix_en (irow .i64) e3)
   refine bind_e (fun v4 e4 => ?_)
   replace e4 := nf_ (ix_en (irow .i64) e4)
   refine go 8 ?_
   refine grs ?_
   refine gr_run ?_
   refine gr_done ?_
   refine bif_e (fun c3 => ?_) (fun c3 => ?_)
   ·refine go 4 ?_
    exact fun h => good_again hl0 (by omega) ⟨_, ⟨by omega, _, rfl, h⟩, frle_, memle_⟩
   ·refine go 3 ?_
    refine ret_e (fun hr_ => ?_)
    subst hr_
    exact ret_ Tryz.func15 []
  ·refine go 7 ?_
   refine ret_e (fun hr_ => ?_)
   subst hr_
   exact ret_ Tryz.func15 []
 ·refine go 8 ?_
  refine ret_e (fun hr_ => ?_)
  subst hr_
  exact ret_ Tryz.func15 []
def laws_eqFlow.f (k : Nat) (v0 : S45) (v1 : S45) : Option (Bool) := (bif (v0.f0 == v1.f0) then (bif (v0.f1 == v1.f1) then ((laws_eqFlowEdgeS.f k v0.f2 v1.f2).bind fun v2 => (bif v2 then ((laws_eqInt64S.f k v0.f3 v1.f3).bind fun v3 => (bif v3 then (some true) else (some false))) else (some false))) else (some false)) else (some false))
set_option maxRecDepth 100000 in
set_option maxHeartbeats 4000000 in
theorem laws_eqFlow.con {K : Kn} [KOk K] {k : Nat} {v0 : S45} {v1 : S45} {r : Bool} (h : laws_eqFlow.f k v0 v1 = some r) : Con K Tryz.prog 24 [.agg [.p (.int .i64 v0.f0), .p (.int .i64 v0.f1), .p (.lst false (List.map en107 v0.f2)), .p (.lst false (List.map (irow .i64) v0.f3))], .agg [.p (.int .i64 v1.f0), .p (.int .i64 v1.f1), .p (.lst false (List.map en107 v1.f2)), .p (.lst false (List.map (irow .i64) v1.f3))]] [] (.p (.bool r)) [] := by
 rw [laws_eqFlow.f] at h
 refine con_intro 27 [] Tryz.func24 (by kernel_rfl) rfl rfl (by kernel_rfl) fun ι0 w0 hk0 => ?_
 revert h
 refine bif_e (fun c1 => ?_) (fun c1 => ?_)
 ·refine bif_e (fun c2 => ?_) (fun c2 => ?_)
  ·refine go 14 ?_
   refine grs ?_
   refine gr_run ?_
   refine bind_e (fun v2 e2 => gr_call [] (laws_eqFlowEdgeS.con e2) ?_)
   clear e2
   refine gr_run ?_
   refine gr_done ?_
   refine bif_e (fun c3 => ?_) (fun c3 => ?_)
   ·refine go 4 ?_
    refine grs ?_
    refine gr_run ?_
    refine bind_e (fun v3 e3 => gr_call [] (laws_eqInt64S.con e3) ?_)
    clear e3
    refine gr_run ?_
    refine gr_done ?_
    refine bif_e (fun c4 => ?_) (fun c4 => ?_)
    ·refine go 4 ?_
     refine ret_e (fun hr_ => ?_)
     subst hr_
     exact ret_ Tryz.func24 []
    ·refine go 3 ?_
     refine ret_e (fun hr_ => ?_)
     subst hr_
     exact ret_ Tryz.func24 []
   ·refine go 3 ?_
    refine ret_e (fun hr_ => ?_)
    subst hr_
    exact ret_ Tryz.func24 []
  ·refine go 13 ?_
   refine ret_e (fun hr_ => ?_)
   subst hr_
   exact ret_ Tryz.func24 []
 ·refine go 8 ?_
  refine ret_e (fun hr_ => ?_)
  subst hr_
  exact ret_ Tryz.func24 []
def laws_FnExactFlowFault.f (k : Nat) (v0 : S24) (v1 : Int) (v2 : Int) (v3 : ByteArray) (v4 : S40) : Option (Bool) := (bif decide (1048576 < (v3.size : Int)) then (some true) else ((laws_szGraph.f k v0 1048576).bind fun v5 => (bif decide (v5 < 0) then (some true) else ((laws_szFlow.f k v4 v5).bind fun v6 => (bif decide (v6 < 0) then (some true) else ((laws_toGraph.f k v0).bind fun v7 => ((laws_toFlow.f k v4).bind fun v8 => ((spec_FlowFault.f k v7 v1 v2 v3 v8).bind fun v9 => ((laws_toGraph.f k v0).bind fun v10 => ((laws_toFlow.f k v4).bind fun v11 => ((impl_FlowFault.f k v10 v1 v2 v3 v11).bind fun v12 => (bif (v12 == v9) then ((laws_toGraph.f k v0).bind fun v13 => ((laws_eqGraph.f k v10 v13).bind fun v14 => (bif v14 then ((laws_toFlow.f k v4).bind fun v15 => ((laws_eqFlow.f k v11 v15).bind fun v16 => (bif v16 then (some true) else (some false)))) else (some false)))) else (some false)))))))))))))
set_option maxRecDepth 100000 in
set_option maxHeartbeats 4000000 in
theorem laws_FnExactFlowFault.con {K : Kn} [KOk K] {k : Nat} {v0 : S24} {v1 : Int} {v2 : Int} {v3 : ByteArray} {v4 : S40} {r : Bool} (h : laws_FnExactFlowFault.f k v0 v1 v2 v3 v4 = some r) : Con K Tryz.prog 4 [.agg [.p (.lst false (List.map en137 v0.f0)), .p (.lst false (List.map en139 v0.f1))], .p (.int .i64 v1), .p (.int .i64 v2), .p (.str v3), .agg [.p (.int .i64 v4.f0), .p (.int .i64 v4.f1), .p (.lst false (List.map en107 v4.f2)), .p (.lst false (List.map (irow .i64) v4.f3))]] [] (.p (.bool r)) [] := by
 rw [laws_FnExactFlowFault.f] at h
 refine con_intro 60 [] Tryz.func4 (by kernel_rfl) rfl rfl (by kernel_rfl) fun ι0 w0 hk0 => ?_
 revert h
 refine bif_e (fun c1 => ?_) (fun c1 => ?_)
 ·refine go 8 ?_
  refine ret_e (fun hr_ => ?_)
  subst hr_
  exact ret_ Tryz.func4 []
 ·refine go 10 ?_
  refine grs ?_
  refine gr_run ?_
  refine bind_e (fun v5 e5 => gr_call [] (laws_szGraph.con e5) ?_)
  clear e5
  refine gr_run ?_
  refine gr_done ?_
  refine bif_e (fun c2 => ?_) (fun c2 => ?_)
  ·refine go 6 ?_
   refine ret_e (fun hr_ => ?_)
   subst hr_
   exact ret_ Tryz.func4 []
  ·refine go 6 ?_
   refine grs ?_
   refine gr_run ?_
   refine bind_e (fun v6 e6 => gr_call [] (laws_szFlow.con e6) ?_)
   clear e6
   refine gr_run ?_
   refine gr_done ?_
   refine bif_e (fun c3 => ?_) (fun c3 => ?_)
   ·refine go 6 ?_
    refine ret_e (fun hr_ => ?_)
    subst hr_
    exact ret_ Tryz.func4 []
   ·refine go 6 ?_
    refine grs ?_
    refine gr_run ?_
    refine bind_e (fun v7 e7 => gr_call [] (laws_toGraph.con e7) ?_)
    clear e7
    refine gr_run ?_
    refine bind_e (fun v8 e8 => gr_call [] (laws_toFlow.con e8) ?_)
    clear e8
    refine bind_e (fun v9 e9 => gr_call [] (spec_FlowFault.con e9) ?_)
    clear e9
    refine gr_run ?_
    refine gr_done ?_
    refine go 1 ?_
    refine grs ?_
    refine gr_run ?_
    refine bind_e (fun v10 e10 => gr_call [] (laws_toGraph.con e10) ?_)
    clear e10
    refine gr_run ?_
    refine gr_done ?_
    refine go 1 ?_
    refine grs ?_
    refine gr_run ?_
    refine bind_e (fun v11 e11 => gr_call [] (laws_toFlow.con e11) ?_)
    clear e11
    refine gr_run ?_
    refine gr_done ?_
    refine go 1 ?_
    refine grs ?_
    refine gr_run ?_
    refine bind_e (fun v12 e12 => gr_call [] (impl_FlowFault.con e12) ?_)
    clear e12
    refine gr_run ?_
    refine gr_done ?_
    refine bif_e (fun c4 => ?_) (fun c4 => ?_)
    ·refine go 7 ?_
     refine grs ?_
     refine gr_run ?_
     refine bind_e (fun v13 e13 => gr_call [] (laws_toGraph.con e13) ?_)
     clear e13
     refine bind_e (fun v14 e14 => gr_call [] (laws_eqGraph.con e14) ?_)
     clear e14
     refine gr_run ?_
     refine gr_done ?_
     refine bif_e (fun c5 => ?_) (fun c5 => ?_)
     ·refine go 4 ?_
      refine grs ?_
      refine gr_run ?_
      refine bind_e (fun v15 e15 => gr_call [] (laws_toFlow.con e15) ?_)
      clear e15
      refine bind_e (fun v16 e16 => gr_call [] (laws_eqFlow.con e16) ?_)
      clear e16
      refine gr_run ?_
      refine gr_done ?_
      refine bif_e (fun c6 => ?_) (fun c6 => ?_)
      ·refine go 4 ?_
       refine ret_e (fun hr_ => ?_)
       subst hr_
       exact ret_ Tryz.func4 []
      ·refine go 3 ?_
       refine ret_e (fun hr_ => ?_)
       subst hr_
       exact ret_ Tryz.func4 []
     ·refine go 3 ?_
      refine ret_e (fun hr_ => ?_)
      subst hr_
      exact ret_ Tryz.func4 []
    ·refine go 6 ?_
     refine ret_e (fun hr_ => ?_)
     subst hr_
     exact ret_ Tryz.func4 []
end Go.Ab
