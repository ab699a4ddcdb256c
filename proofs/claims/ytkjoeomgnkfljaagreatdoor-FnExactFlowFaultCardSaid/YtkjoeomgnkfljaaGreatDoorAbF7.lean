/- What the functions compute, and their contracts, part 7. No condition beyond KOk. -/
import Derived.Test.YtkjoeomgnkfljaaGreatDoorAbX
import Derived.Test.YtkjoeomgnkfljaaGreatDoorAbF5
import Derived.Test.YtkjoeomgnkfljaaGreatDoorAbF6
namespace Go.Ab
open Go.Proofs
set_option linter.unusedVariables false
set_option linter.unusedSimpArgs false
def impl_nodeOk.f (k : Nat) (v0 : S94) : Option (Bool) := ((impl_idOk.f k v0.f0).bind fun v1 => (bif v1 then ((impl_risingNames.f k v0.f1 10).bind fun v2 => (bif v2 then ((impl_fieldsOk.f k v0.f2).bind fun v3 => (some v3)) else (some false))) else (some false)))
set_option maxRecDepth 100000 in
set_option maxHeartbeats 4000000 in
theorem impl_nodeOk.con {K : Kn} [KOk K] {k : Nat} {v0 : S94} {r : Bool} (h : impl_nodeOk.f k v0 = some r) : Con K Tryz.prog 147 [.agg [.p (.int .i64 v0.f0), .p (.lst false (List.map srw v0.f1)), .p (.lst false (List.map en193 v0.f2))]] [] (.p (.bool r)) [] := by
 rw [impl_nodeOk.f] at h
 refine con_intro 16 [] Tryz.func147 (by kernel_rfl) rfl rfl (by kernel_rfl) fun ι0 w0 hk0 => ?_
 revert h
 refine go 3 ?_
 refine grs ?_
 refine gr_run ?_
 refine bind_e (fun v1 e1 => gr_call [] (impl_idOk.con e1) ?_)
 clear e1
 refine bif_e (fun c1 => ?_) (fun c1 => ?_)
 ·refine gr_run ?_
  refine bind_e (fun v2 e2 => gr_call [] (impl_risingNames.con e2) ?_)
  clear e2
  refine bif_e (fun c2 => ?_) (fun c2 => ?_)
  ·refine gr_run ?_
   refine bind_e (fun v3 e3 => gr_call [] (impl_fieldsOk.con e3) ?_)
   clear e3
   refine gr_run ?_
   refine gr_done ?_
   refine ret_e (fun hr_ => ?_)
   subst hr_
   exact ret_ Tryz.func147 []
  ·refine gr_run ?_
   refine gr_done ?_
   refine ret_e (fun hr_ => ?_)
   subst hr_
   exact ret_ Tryz.func147 []
 ·refine gr_run ?_
  refine gr_done ?_
  refine ret_e (fun hr_ => ?_)
  subst hr_
  exact ret_ Tryz.func147 []
def impl_edgeOk.f (k : Nat) (v0 : S110) : Option (Bool) := ((impl_idOk.f k v0.f0).bind fun v1 => (bif v1 then ((impl_isName.f k v0.f1).bind fun v2 => (bif v2 then ((impl_idOk.f k v0.f2).bind fun v3 => (bif v3 then ((impl_idOk.f k v0.f3).bind fun v4 => (bif v4 then ((impl_fieldsOk.f k v0.f4).bind fun v5 => (some v5)) else (some false))) else (some false))) else (some false))) else (some false)))
set_option maxRecDepth 100000 in
set_option maxHeartbeats 4000000 in
theorem impl_edgeOk.con {K : Kn} [KOk K] {k : Nat} {v0 : S110} {r : Bool} (h : impl_edgeOk.f k v0 = some r) : Con K Tryz.prog 148 [.agg [.p (.int .i64 v0.f0), .p (.str v0.f1), .p (.int .i64 v0.f2), .p (.int .i64 v0.f3), .p (.lst false (List.map en193 v0.f4))]] [] (.p (.bool r)) [] := by
 rw [impl_edgeOk.f] at h
 refine con_intro 26 [] Tryz.func148 (by kernel_rfl) rfl rfl (by kernel_rfl) fun ι0 w0 hk0 => ?_
 revert h
 refine go 3 ?_
 refine grs ?_
 refine gr_run ?_
 refine bind_e (fun v1 e1 => gr_call [] (impl_idOk.con e1) ?_)
 clear e1
 refine bif_e (fun c1 => ?_) (fun c1 => ?_)
 ·refine gr_run ?_
  refine bind_e (fun v2 e2 => gr_call [] (impl_isName.con e2) ?_)
  clear e2
  refine bif_e (fun c2 => ?_) (fun c2 => ?_)
  ·refine gr_run ?_
   refine bind_e (fun v3 e3 => gr_call [] (impl_idOk.con e3) ?_)
   clear e3
   refine bif_e (fun c3 => ?_) (fun c3 => ?_)
   ·refine gr_run ?_
    refine bind_e (fun v4 e4 => gr_call [] (impl_idOk.con e4) ?_)
    clear e4
    refine bif_e (fun c4 => ?_) (fun c4 => ?_)
    ·refine gr_run ?_
     refine bind_e (fun v5 e5 => gr_call [] (impl_fieldsOk.con e5) ?_)
     clear e5
     refine gr_run ?_
     refine gr_done ?_
     refine ret_e (fun hr_ => ?_)
     subst hr_
     exact ret_ Tryz.func148 []
    ·refine gr_run ?_
     refine gr_done ?_
     refine ret_e (fun hr_ => ?_)
     subst hr_
     exact ret_ Tryz.func148 []
   ·refine gr_run ?_
    refine gr_done ?_
    refine ret_e (fun hr_ => ?_)
    subst hr_
    exact ret_ Tryz.func148 []
  ·refine gr_run ?_
   refine gr_done ?_
   refine ret_e (fun hr_ => ?_)
   subst hr_
   exact ret_ Tryz.func148 []
 ·refine gr_run ?_
  refine gr_done ?_
  refine ret_e (fun hr_ => ?_)
  subst hr_
  exact ret_ Tryz.func148 []
mutual
def impl_graphOk.j0 : Nat → S31 → Int → (List (Int × Int)) → S94 → Option (Bool)
 | 0, _, _, _, _ => none
 | k + 1, v0, v1, v2, v4 => (impl_graphOk.l0 k v0 (IntKind.i64.wrap (v1 + 1)) (tput v2 v4.f0 1))
def impl_graphOk.l1 : Nat → S31 → Int → (List (Int × Int)) → Option (Bool)
 | 0, _, _, _ => none
 | k + 1, v0, v7, v2 => (bif decide (v7 < (v0.f1.length : Int)) then ((ix v0.f1 v7).bind fun v9 => ((impl_edgeOk.f k v9).bind fun v10 => (bif v10 then (bif decide (0 < v7) then ((ix v0.f1 (IntKind.i64.wrap (v7 - 1))).bind fun v11 => (bif decide (v9.f0 ≤ v11.f0) then (some false) else (bif ((tget v2 v9.f2 0) == 0) then (some false) else (bif ((tget v2 v9.f3 0) == 0) then (some false) else (impl_graphOk.l1 k v0 (IntKind.i64.wrap (v7 + 1)) v2))))) else (bif ((tget v2 v9.f2 0) == 0) then (some false) else (bif ((tget v2 v9.f3 0) == 0) then (some false) else (impl_graphOk.l1 k v0 (IntKind.i64.wrap (v7 + 1)) v2)))) else (some false)))) else (some true))
def impl_graphOk.l0 : Nat → S31 → Int → (List (Int × Int)) → Option (Bool)
 | 0, _, _, _ => none
 | k + 1, v0, v1, v2 => (bif decide (v1 < (v0.f0.length : Int)) then ((ix v0.f0 v1).bind fun v4 => ((impl_nodeOk.f k v4).bind fun v5 => (bif v5 then (bif decide (0 < v1) then ((ix v0.f0 (IntKind.i64.wrap (v1 - 1))).bind fun v6 => (bif decide (v4.f0 ≤ v6.f0) then (some false) else (impl_graphOk.j0 k v0 v1 v2 v4))) else (impl_graphOk.j0 k v0 v1 v2 v4)) else (some false)))) else (impl_graphOk.l1 k v0 0 v2))
def impl_graphOk.f : Nat → S31 → Option (Bool)
 | 0, _ => none
 | k + 1, v0 => (bif decide (200 < (v0.f0.length : Int)) then (some false) else (bif decide (400 < (v0.f1.length : Int)) then (some false) else (impl_graphOk.l0 k v0 0 ([] : List (Int × Int)))))
end
set_option maxRecDepth 100000 in
set_option maxHeartbeats 4000000 in
theorem impl_graphOk.con {K : Kn} [KOk K] {k : Nat} {v0 : S31} {r : Bool} (h : impl_graphOk.f k v0 = some r) : Con K Tryz.prog 91 [.agg [.p (.lst false (List.map en94 v0.f0)), .p (.lst false (List.map en110 v0.f1))]] [] (.p (.bool r)) [] := by
 cases k with
 | zero => exact absurd h (by simp [impl_graphOk.f])
 | succ k =>
 rw [impl_graphOk.f] at h
 refine con_intro 92 [] Tryz.func91 (by kernel_rfl) rfl rfl (by kernel_rfl) fun ι0 w0 hk0 => ?_
 revert h
 refine bif_e (fun c1 => ?_) (fun c1 => ?_)
 ·refine go 8 ?_
  refine ret_e (fun hr_ => ?_)
  subst hr_
  exact ret_ Tryz.func91 []
 ·refine bif_e (fun c2 => ?_) (fun c2 => ?_)
  ·refine go 8 ?_
   refine ret_e (fun hr_ => ?_)
   subst hr_
   exact ret_ Tryz.func91 []
  ·refine go 13 ?_
   refine fun h => good_loop (fun n st => n ≤ k ∧ ∃ (v1 : _) (v2 : _) (g3 : Nat), st = ⟨[(1, .ptr 1 1 0), (3, .mp 18 1), (20, .p (.lst false (List.map en94 v0.f0))), (21, .p (.int .i64 (v0.f0.length : Int))), (22, .p (.int .i64 v1))], [(1, (1, .cells [.p (.lst false (List.map en94 v0.f0)), .p (.lst false (List.map en110 v0.f1))])), (18, (1, .map (.int .i64) false (List.map (ei .i64 (irow .i64)) v2))), (5, (g3, .gone))]⟩ ∧ impl_graphOk.l0 n v0 v1 v2 = some r) k ⟨_, ⟨Nat.le_refl _, _, _, 0, rfl, h⟩, frle_, memle_⟩ ?_
   clear c1 c2
   clear h
   rintro n _ ⟨hkl0, v1, v2, g3, rfl, h⟩ hl0
   cases n with
   | zero => exact absurd h (by simp [impl_graphOk.l0])
   | succ kl0 =>
   rw [impl_graphOk.l0] at h
   revert h
   refine bif_e (fun c3 => ?_) (fun c3 => ?_)
   ·refine bind_e (fun v4 e4 => ?_)
    replace e4 := nf_ (ix_en en94 e4)
    refine go 11 ?_
    refine good_cut_f (fun st => ∃ (q_ : Nat), q_ ≤ kl0 ∧ st = ⟨[(1, .ptr 1 1 0), (3, .mp 18 1), (5, .ptr 5 (g3 + 1) 0), (20, .p (.lst false (List.map en94 v0.f0))), (21, .p (.int .i64 (v0.f0.length : Int))), (22, .p (.int .i64 v1))], [(1, (1, .cells [.p (.lst false (List.map en94 v0.f0)), .p (.lst false (List.map en110 v0.f1))])), (18, (1, .map (.int .i64) false (List.map (ei .i64 (irow .i64)) v2))), (5, (g3 + 1, .cells [.p (.int .i64 v4.f0), .p (.lst false (List.map srw v4.f1)), .p (.lst false (List.map en193 v4.f2))]))]⟩ ∧ impl_graphOk.j0 q_ v0 v1 v2 v4 = some r) ?_ (fun hj0 => ?_)
    ·clear c3 e4
     rintro _ ⟨q_, hqj0, rfl, h⟩
     cases q_ with
     | zero => exact absurd h (by simp [impl_graphOk.j0])
     | succ kj0 =>
     rw [impl_graphOk.j0] at h
     revert h
     refine go 4 ?_
     exact fun h => good_again hl0 (by omega) ⟨_, ⟨by omega, _, _, g3 + 1, rfl, h⟩, frle_, memle_⟩
    ·refine grs ?_
     refine gr_run ?_
     refine bind_e (fun v5 e5 => gr_call [] (impl_nodeOk.con e5) ?_)
     clear e5
     refine bif_e (fun c4 => ?_) (fun c4 => ?_)
     ·refine bif_e (fun c5 => ?_) (fun c5 => ?_)
      ·refine bind_e (fun v6 e6 => ?_)
       replace e6 := nf_ (ix_en en94 e6)
       refine gr_run ?_
       refine gr_done ?_
       refine bif_e (fun c6 => ?_) (fun c6 => ?_)
       ·refine go 3 ?_
        refine ret_e (fun hr_ => ?_)
        subst hr_
        exact ret_ Tryz.func91 []
       ·refine go 1 ?_
        exact fun h => good_jump hj0 ⟨_, ⟨_, by omega, rfl, h⟩, frle_, memle_⟩
      ·refine gr_run ?_
       refine gr_done ?_
       refine go 1 ?_
       exact fun h => good_jump hj0 ⟨_, ⟨_, by omega, rfl, h⟩, frle_, memle_⟩
     ·refine gr_run ?_
      refine gr_done ?_
      refine go 3 ?_
      refine ret_e (fun hr_ => ?_)
      subst hr_
      exact ret_ Tryz.func91 []
   ·refine go 9 ?_
    refine fun h => good_loop (fun n st => n ≤ kl0 ∧ ∃ (v7 : _) (g8 : Nat), st = ⟨[(1, .ptr 1 1 0), (3, .mp 18 1), (51, .p (.lst false (List.map en110 v0.f1))), (52, .p (.int .i64 (v0.f1.length : Int))), (53, .p (.int .i64 v7))], [(1, (1, .cells [.p (.lst false (List.map en94 v0.f0)), .p (.lst false (List.map en110 v0.f1))])), (18, (1, .map (.int .i64) false (List.map (ei .i64 (irow .i64)) v2))), (5, (g3, .gone)), (7, (g8, .gone))]⟩ ∧ impl_graphOk.l1 n v0 v7 v2 = some r) kl0 ⟨_, ⟨Nat.le_refl _, _, 0, rfl, h⟩, frle_, memle_⟩ ?_
    clear c3
    clear h
    rintro n _ ⟨hkl1, v7, g8, rfl, h⟩ hl1
    cases n with
    | zero => exact absurd h (by simp [impl_graphOk.l1])
    | succ kl1 =>
    rw [impl_graphOk.l1] at h
    revert h
    refine bif_e (fun c7 => ?_) (fun c7 => ?_)
    ·refine bind_e (fun v9 e9 => ?_)
     replace e9 := nf_ (ix_en en110 e9)
     refine go 10 ?_
     refine grs ?_
     refine gr_run ?_
     refine bind_e (fun v10 e10 => gr_call [] (impl_edgeOk.con e10) ?_)
     clear e10
     refine bif_e (fun c8 => ?_) (fun c8 => ?_)
     ·refine bif_e (fun c9 => ?_) (fun c9 => ?_)
      ·refine bind_e (fun v11 e11 => ?_)
       replace e11 := nf_ (ix_en en110 e11)
       refine bif_e (fun c10 => ?_) (fun c10 => ?_)
       ·refine gr_run ?_
        refine gr_done ?_
        refine go 3 ?_
        refine ret_e (fun hr_ => ?_)
        subst hr_
        exact ret_ Tryz.func91 []
       ·refine bif_e (fun c11 => ?_) (fun c11 => ?_)
        ·refine gr_run ?_
         refine gr_done ?_
         refine go 3 ?_
         refine ret_e (fun hr_ => ?_)
         subst hr_
         exact ret_ Tryz.func91 []
        ·refine gr_run ?_
         refine gr_done ?_
         refine bif_e (fun c12 => ?_) (fun c12 => ?_)
         ·refine go 3 ?_
          refine ret_e (fun hr_ => ?_)
          subst hr_
          exact ret_ Tryz.func91 []
         ·refine go 4 ?_
          exact fun h => good_again hl1 (by omega) ⟨_, ⟨by omega, _, g8 + 1, rfl, h⟩, frle_, memle_⟩
      ·refine bif_e (fun c13 => ?_) (fun c13 => ?_)
       ·refine gr_run ?_
        refine gr_done ?_
        refine go 3 ?_
        refine ret_e (fun hr_ => ?_)
        subst hr_
        exact ret_ Tryz.func91 []
       ·refine gr_run ?_
        refine gr_done ?_
        refine bif_e (fun c14 => ?_) (fun c14 => ?_)
        ·refine go 3 ?_
         refine ret_e (fun hr_ => ?_)
         subst hr_
         exact ret_ Tryz.func91 []
        ·refine go 4 ?_
         exact fun h => good_again hl1 (by omega) ⟨_, ⟨by omega, _, g8 + 1, rfl, h⟩, frle_, memle_⟩
     ·refine gr_run ?_
      refine gr_done ?_
      refine go 3 ?_
      refine ret_e (fun hr_ => ?_)
      subst hr_
      exact ret_ Tryz.func91 []
    ·refine go 7 ?_
     refine ret_e (fun hr_ => ?_)
     subst hr_
     exact ret_ Tryz.func91 []
mutual
def impl_nodeAt.l0 : Nat → Int → S31 → Int → Option (Int)
 | 0, _, _, _ => none
 | k + 1, v1, v0, v2 => (bif decide (v2 < (v0.f0.length : Int)) then ((ix v0.f0 v2).bind fun v4 => (bif (v4.f0 == v1) then (some v2) else (impl_nodeAt.l0 k v1 v0 (IntKind.i64.wrap (v2 + 1))))) else (some (-1)))
def impl_nodeAt.f : Nat → S31 → Int → Option (Int)
 | 0, _, _ => none
 | k + 1, v0, v1 => (impl_nodeAt.l0 k v1 v0 0)
end
set_option maxRecDepth 100000 in
set_option maxHeartbeats 4000000 in
theorem impl_nodeAt.con {K : Kn} [KOk K] {k : Nat} {v0 : S31} {v1 : Int} {r : Int} (h : impl_nodeAt.f k v0 v1 = some r) : Con K Tryz.prog 127 [.agg [.p (.lst false (List.map en94 v0.f0)), .p (.lst false (List.map en110 v0.f1))], .p (.int .i64 v1)] [] (.p (.int .i64 r)) [] := by
 cases k with
 | zero => exact absurd h (by simp [impl_nodeAt.f])
 | succ k =>
 rw [impl_nodeAt.f] at h
 refine con_intro 21 [] Tryz.func127 (by kernel_rfl) rfl rfl (by kernel_rfl) fun ι0 w0 hk0 => ?_
 revert h
 refine go 6 ?_
 refine fun h => good_loop (fun n st => n ≤ k ∧ ∃ (v2 : _) (g3 : Nat), st = ⟨[(1, .p (.int .i64 v1)), (8, .p (.lst false (List.map en94 v0.f0))), (9, .p (.int .i64 (v0.f0.length : Int))), (10, .p (.int .i64 v2))], [(2, (1, .gone)), (6, (g3, .gone))]⟩ ∧ impl_nodeAt.l0 n v1 v0 v2 = some r) k ⟨_, ⟨Nat.le_refl _, _, 0, rfl, h⟩, frle_, memle_⟩ ?_
 clear h
 rintro n _ ⟨hkl0, v2, g3, rfl, h⟩ hl0
 cases n with
 | zero => exact absurd h (by simp [impl_nodeAt.l0])
 | succ kl0 =>
 rw [impl_nodeAt.l0] at h
 revert h
 refine bif_e (fun c1 => ?_) (fun c1 => ?_)
 ·refine bind_e (fun v4 e4 => ?_)
  replace e4 := nf_ (ix_en en94 e4)
  refine bif_e (fun c2 => ?_) (fun c2 => ?_)
  ·refine go 14 ?_
   refine ret_e (fun hr_ => ?_)
   subst hr_
   exact ret_ Tryz.func127 []
  ·refine go 15 ?_
   exact fun h => good_again hl0 (by omega) ⟨_, ⟨by omega, _, g3 + 1, rfl, h⟩, frle_, memle_⟩
 ·refine go 7 ?_
  refine ret_e (fun hr_ => ?_)
  subst hr_
  exact ret_ Tryz.func127 []
mutual
def impl_rises.l0 : Nat → (List Int) → Int → Option (Bool)
 | 0, _, _ => none
 | k + 1, v0, v1 => (bif decide (v1 < (v0.length : Int)) then ((ix v0 (IntKind.i64.wrap (v1 - 1))).bind fun v2 => ((ix v0 v1).bind fun v3 => (bif decide (v3 ≤ v2) then (some false) else (impl_rises.l0 k v0 (IntKind.i64.wrap (v1 + 1)))))) else (some true))
def impl_rises.f : Nat → (List Int) → Option (Bool)
 | 0, _ => none
 | k + 1, v0 => (impl_rises.l0 k v0 1)
end
set_option maxRecDepth 100000 in
set_option maxHeartbeats 4000000 in
theorem impl_rises.con {K : Kn} [KOk K] {k : Nat} {v0 : (List Int)} {r : Bool} (h : impl_rises.f k v0 = some r) : Con K Tryz.prog 158 [.p (.lst false (List.map (irow .i64) v0))] [] (.p (.bool r)) [] := by
 cases k with
 | zero => exact absurd h (by simp [impl_rises.f])
 | succ k =>
 rw [impl_rises.f] at h
 refine con_intro 20 [] Tryz.func158 (by kernel_rfl) rfl rfl (by kernel_rfl) fun ι0 w0 hk0 => ?_
 revert h
 refine go 6 ?_
 refine fun h => good_loop (fun n st => n ≤ k ∧ ∃ (v1 : _), st = ⟨[(0, .p (.lst false (List.map (irow .i64) v0))), (3, .p (.int .i64 v1))], []⟩ ∧ impl_rises.l0 n v0 v1 = some r) k ⟨_, ⟨Nat.le_refl _, _, rfl, h⟩, frle_, memle_⟩ ?_
 clear h
 rintro n _ ⟨hkl0, v1, rfl, h⟩ hl0
 cases n with
 | zero => exact absurd h (by simp [impl_rises.l0])
 | succ kl0 =>
 rw [impl_rises.l0] at h
 revert h
 refine bif_e (fun c1 => ?_) (fun c1 => ?_)
 ·refine bind_e (fun v2 e2 => ?_)
  replace e2 := nf_ (ix_en (irow .i64) e2)
  refine bind_e (fun v3 e3 => ?_)
  replace e3 := nf_ (ix_en (irow .i64) e3)
  refine go 8 ?_
  refine grs ?_
  refine gr_run ?_
  refine gr_done ?_
  refine bif_e (fun c2 => ?_) (fun c2 => ?_)
  ·refine go 3 ?_
   refine ret_e (fun hr_ => ?_)
   subst hr_
   exact ret_ Tryz.func158 []
  ·refine go 4 ?_
   exact fun h => good_again hl0 (by omega) ⟨_, ⟨by omega, _, rfl, h⟩, frle_, memle_⟩
 ·refine go 7 ?_
  refine ret_e (fun hr_ => ?_)
  subst hr_
  exact ret_ Tryz.func158 []
mutual
def impl_nodesOk.l0 : Nat → (List Int) → Int → S31 → Option (Bool)
 | 0, _, _, _ => none
 | k + 1, v1, v2, v0 => (bif decide (v2 < (v1.length : Int)) then ((ix v1 v2).bind fun v4 => ((impl_nodeAt.f k v0 v4).bind fun v5 => (bif decide (v5 < 0) then (some false) else (impl_nodesOk.l0 k v1 (IntKind.i64.wrap (v2 + 1)) v0)))) else ((impl_rises.f k v1).bind fun v3 => (some v3)))
def impl_nodesOk.f : Nat → S31 → (List Int) → Option (Bool)
 | 0, _, _ => none
 | k + 1, v0, v1 => (impl_nodesOk.l0 k v1 0 v0)
end
set_option maxRecDepth 100000 in
set_option maxHeartbeats 4000000 in
theorem impl_nodesOk.con {K : Kn} [KOk K] {k : Nat} {v0 : S31} {v1 : (List Int)} {r : Bool} (h : impl_nodesOk.f k v0 v1 = some r) : Con K Tryz.prog 128 [.agg [.p (.lst false (List.map en94 v0.f0)), .p (.lst false (List.map en110 v0.f1))], .p (.lst false (List.map (irow .i64) v1))] [] (.p (.bool r)) [] := by
 cases k with
 | zero => exact absurd h (by simp [impl_nodesOk.f])
 | succ k =>
 rw [impl_nodesOk.f] at h
 refine con_intro 20 [] Tryz.func128 (by kernel_rfl) rfl rfl (by kernel_rfl) fun ι0 w0 hk0 => ?_
 revert h
 refine go 6 ?_
 refine fun h => good_loop (fun n st => n ≤ k ∧ ∃ (v2 : _), st = ⟨[(1, .p (.lst false (List.map (irow .i64) v1))), (2, .ptr 2 1 0), (7, .p (.lst false (List.map (irow .i64) v1))), (8, .p (.int .i64 (v1.length : Int))), (9, .p (.int .i64 v2))], [(2, (1, .cells [.p (.lst false (List.map en94 v0.f0)), .p (.lst false (List.map en110 v0.f1))]))]⟩ ∧ impl_nodesOk.l0 n v1 v2 v0 = some r) k ⟨_, ⟨Nat.le_refl _, _, rfl, h⟩, frle_, memle_⟩ ?_
 clear h
 rintro n _ ⟨hkl0, v2, rfl, h⟩ hl0
 cases n with
 | zero => exact absurd h (by simp [impl_nodesOk.l0])
 | succ kl0 =>
 rw [impl_nodesOk.l0] at h
 revert h
 refine bif_e (fun c1 => ?_) (fun c1 => ?_)
 ·refine bind_e (fun v4 e4 => ?_)
  replace e4 := nf_ (ix_en (irow .i64) e4)
  refine go 10 ?_
  refine grs ?_
  refine gr_run ?_
  refine bind_e (fun v5 e5 => gr_call [] (impl_nodeAt.con e5) ?_)
  clear e5
  refine gr_run ?_
  refine gr_done ?_
  refine bif_e (fun c2 => ?_) (fun c2 => ?_)
  ·refine go 3 ?_
   refine ret_e (fun hr_ => ?_)
   subst hr_
   exact ret_ Tryz.func128 []
  ·refine go 4 ?_
   exact fun h => good_again hl0 (by omega) ⟨_, ⟨by omega, _, rfl, h⟩, frle_, memle_⟩
 ·refine go 6 ?_
  refine grs ?_
  refine gr_run ?_
  refine bind_e (fun v3 e3 => gr_call [] (impl_rises.con e3) ?_)
  clear e3
  refine gr_run ?_
  refine gr_done ?_
  refine ret_e (fun hr_ => ?_)
  subst hr_
  exact ret_ Tryz.func128 []
mutual
def slices_Index.l0 : Nat → (List Int) → Int → Int → Option (Int)
 | 0, _, _, _ => none
 | k + 1, v0, v1, v2 => (bif decide (v2 < (v0.length : Int)) then ((ix v0 v2).bind fun v3 => (bif (v1 == v3) then (some v2) else (slices_Index.l0 k v0 v1 (IntKind.i64.wrap (v2 + 1))))) else (some (-1)))
def slices_Index.f : Nat → (List Int) → Int → Option (Int)
 | 0, _, _ => none
 | k + 1, v0, v1 => (slices_Index.l0 k v0 v1 0)
end
set_option maxRecDepth 100000 in
set_option maxHeartbeats 4000000 in
theorem slices_Index.con {K : Kn} [KOk K] {k : Nat} {v0 : (List Int)} {v1 : Int} {r : Int} (h : slices_Index.f k v0 v1 = some r) : Con K Tryz.prog 176 [.p (.lst false (List.map (irow .i64) v0)), .p (.int .i64 v1)] [] (.p (.int .i64 r)) [] := by
 cases k with
 | zero => exact absurd h (by simp [slices_Index.f])
 | succ k =>
 rw [slices_Index.f] at h
 refine con_intro 19 [] Tryz.func176 (by kernel_rfl) rfl rfl (by kernel_rfl) fun ι0 w0 hk0 => ?_
 revert h
 refine go 6 ?_
 refine fun h => good_loop (fun n st => n ≤ k ∧ ∃ (v2 : _), st = ⟨[(0, .p (.lst false (List.map (irow .i64) v0))), (1, .p (.int .i64 v1)), (7, .p (.int .i64 (v0.length : Int))), (8, .p (.int .i64 v2))], []⟩ ∧ slices_Index.l0 n v0 v1 v2 = some r) k ⟨_, ⟨Nat.le_refl _, _, rfl, h⟩, frle_, memle_⟩ ?_
 clear h
 rintro n _ ⟨hkl0, v2, rfl, h⟩ hl0
 cases n with
 | zero => exact absurd h (by simp [slices_Index.l0])
 | succ kl0 =>
 rw [slices_Index.l0] at h
 revert h
 refine bif_e (fun c1 => ?_) (fun c1 => ?_)
 ·refine bind_e (fun v3 e3 => ?_)
  replace e3 := nf_ (ix_en (irow .i64) e3)
  refine bif_e (fun c2 => ?_) (fun c2 => ?_)
  ·refine go 14 ?_
   refine ret_e (fun hr_ => ?_)
   subst hr_
   exact ret_ Tryz.func176 []
  ·refine go 15 ?_
   exact fun h => good_again hl0 (by omega) ⟨_, ⟨by omega, _, rfl, h⟩, frle_, memle_⟩
 ·refine go 7 ?_
  refine ret_e (fun hr_ => ?_)
  subst hr_
  exact ret_ Tryz.func176 []
def slices_Contains.f (k : Nat) (v0 : (List Int)) (v1 : Int) : Option (Bool) := ((slices_Index.f k v0 v1).bind fun v2 => (some (decide (0 ≤ v2))))
set_option maxRecDepth 100000 in
set_option maxHeartbeats 4000000 in
theorem slices_Contains.con {K : Kn} [KOk K] {k : Nat} {v0 : (List Int)} {v1 : Int} {r : Bool} (h : slices_Contains.f k v0 v1 = some r) : Con K Tryz.prog 129 [.p (.lst false (List.map (irow .i64) v0)), .p (.int .i64 v1)] [] (.p (.bool r)) [] := by
 rw [slices_Contains.f] at h
 refine con_intro 9 [] Tryz.func129 (by kernel_rfl) rfl rfl (by kernel_rfl) fun ι0 w0 hk0 => ?_
 revert h
 refine go 3 ?_
 refine grs ?_
 refine gr_run ?_
 refine bind_e (fun v2 e2 => gr_call [] (slices_Index.con e2) ?_)
 clear e2
 refine gr_run ?_
 refine gr_done ?_
 refine ret_e (fun hr_ => ?_)
 subst hr_
 exact ret_ Tryz.func129 []
mutual
def impl_fieldOf.l0 : Nat → ByteArray → (List S193) → Int → Option (ByteArray)
 | 0, _, _, _ => none
 | k + 1, v1, v0, v2 => (bif decide (v2 < (v0.length : Int)) then ((ix v0 v2).bind fun v4 => (bif decide (v4.f0 = v1) then (some v4.f1) else (impl_fieldOf.l0 k v1 v0 (IntKind.i64.wrap (v2 + 1))))) else (some (⟨#[110, 117, 108, 108]⟩ : ByteArray)))
def impl_fieldOf.f : Nat → (List S193) → ByteArray → Option (ByteArray)
 | 0, _, _ => none
 | k + 1, v0, v1 => (impl_fieldOf.l0 k v1 v0 0)
end
set_option maxRecDepth 100000 in
set_option maxHeartbeats 4000000 in
theorem impl_fieldOf.con {K : Kn} [KOk K] {k : Nat} {v0 : (List S193)} {v1 : ByteArray} {r : ByteArray} (h : impl_fieldOf.f k v0 v1 = some r) : Con K Tryz.prog 99 [.p (.lst false (List.map en193 v0)), .p (.str v1)] [] (.p (.str r)) [] := by
 cases k with
 | zero => exact absurd h (by simp [impl_fieldOf.f])
 | succ k =>
 rw [impl_fieldOf.f] at h
 refine con_intro 20 [] Tryz.func99 (by kernel_rfl) rfl rfl (by kernel_rfl) fun ι0 w0 hk0 => ?_
 revert h
 refine go 6 ?_
 refine fun h => good_loop (fun n st => n ≤ k ∧ ∃ (v2 : _) (g3 : Nat), st = ⟨[(1, .p (.str v1)), (7, .p (.lst false (List.map en193 v0))), (8, .p (.int .i64 (v0.length : Int))), (9, .p (.int .i64 v2))], [(6, (g3, .gone))]⟩ ∧ impl_fieldOf.l0 n v1 v0 v2 = some r) k ⟨_, ⟨Nat.le_refl _, _, 0, rfl, h⟩, frle_, memle_⟩ ?_
 clear h
 rintro n _ ⟨hkl0, v2, g3, rfl, h⟩ hl0
 cases n with
 | zero => exact absurd h (by simp [impl_fieldOf.l0])
 | succ kl0 =>
 rw [impl_fieldOf.l0] at h
 revert h
 refine bif_e (fun c1 => ?_) (fun c1 => ?_)
 ·refine bind_e (fun v4 e4 => ?_)
  replace e4 := nf_ (ix_en en193 e4)
  refine bif_e (fun c2 => ?_) (fun c2 => ?_)
  ·refine go 14 ?_
   refine ret_e (fun hr_ => ?_)
   subst hr_
   exact ret_ Tryz.func99 []
  ·refine go 15 ?_
   exact fun h => good_again hl0 (by omega) ⟨_, ⟨by omega, _, g3 + 1, rfl, h⟩, frle_, memle_⟩
 ·refine go 7 ?_
  refine ret_e (fun hr_ => ?_)
  subst hr_
  exact ret_ Tryz.func99 []
mutual
def impl_room.l0 : Nat → ByteArray → S31 → Int → (List (Int × Int)) → Option ((List (Int × Int)))
 | 0, _, _, _, _ => none
 | k + 1, v1, v0, v2, v3 => (bif decide (v2 < (v0.f1.length : Int)) then ((ix v0.f1 v2).bind fun v6 => ((impl_fieldOf.f k v6.f4 v1).bind fun v7 => ((impl_read.f k v7).bind fun v8 => (bif (v8.1.f0 == 2) then (bif decide (0 ≤ v8.1.f1) then (bif decide (v8.1.f1 ≤ 1000000) then (impl_room.l0 k v1 v0 (IntKind.i64.wrap (v2 + 1)) (tput v3 v6.f0 v8.1.f1)) else (impl_room.l0 k v1 v0 (IntKind.i64.wrap (v2 + 1)) v3)) else (impl_room.l0 k v1 v0 (IntKind.i64.wrap (v2 + 1)) v3)) else (impl_room.l0 k v1 v0 (IntKind.i64.wrap (v2 + 1)) v3))))) else (some v3))
def impl_room.f : Nat → S31 → ByteArray → Option ((List (Int × Int)))
 | 0, _, _ => none
 | k + 1, v0, v1 => (impl_room.l0 k v1 v0 0 ([] : List (Int × Int)))
end
set_option maxRecDepth 100000 in
set_option maxHeartbeats 4000000 in
theorem impl_room.con {K : Kn} [KOk K] {k : Nat} {v0 : S31} {v1 : ByteArray} {r : (List (Int × Int))} (h : impl_room.f k v0 v1 = some r) : Con K Tryz.prog 130 [.agg [.p (.lst false (List.map en94 v0.f0)), .p (.lst false (List.map en110 v0.f1))], .p (.str v1)] [] (.mp 2000 1) [(2000, (1, .map (.int .i64) false (List.map (ei .i64 (irow .i64)) r)))] := by
 cases k with
 | zero => exact absurd h (by simp [impl_room.f])
 | succ k =>
 rw [impl_room.f] at h
 refine con_intro 46 [] Tryz.func130 (by kernel_rfl) rfl rfl (by kernel_rfl) fun ι0 w0 hk0 => ?_
 revert h
 refine go 8 ?_
 refine fun h => good_loop (fun n st => n ≤ k ∧ ∃ (v2 : _) (v3 : _) (g4 : Nat) (g5 : Nat), st = ⟨[(1, .p (.str v1)), (5, .mp 10 1), (12, .p (.lst false (List.map en110 v0.f1))), (13, .p (.int .i64 (v0.f1.length : Int))), (14, .p (.int .i64 v2))], [(2, (1, .gone)), (10, (1, .map (.int .i64) false (List.map (ei .i64 (irow .i64)) v3))), (7, (g4, .gone)), (8, (g5, .gone))]⟩ ∧ impl_room.l0 n v1 v0 v2 v3 = some r) k ⟨_, ⟨Nat.le_refl _, _, _, 0, 0, rfl, h⟩, frle_, memle_⟩ ?_
 clear h
 rintro n _ ⟨hkl0, v2, v3, g4, g5, rfl, h⟩ hl0
 cases n with
 | zero => exact absurd h (by simp [impl_room.l0])
 | succ kl0 =>
 rw [impl_room.l0] at h
 revert h
 refine bif_e (fun c1 => ?_) (fun c1 => ?_)
 ·refine bind_e (fun v6 e6 => ?_)
  replace e6 := nf_ (ix_en en110 e6)
  refine go 10 ?_
  refine grs ?_
  refine gr_run ?_
  refine bind_e (fun v7 e7 => gr_call [] (impl_fieldOf.con e7) ?_)
  clear e7
  refine bind_e (fun v8 e8 => gr_call [] (impl_read.con e8) ?_)
  clear e8
  refine gr_run ?_
  refine gr_done ?_
  refine bif_e (fun c2 => ?_) (fun c2 => ?_)
  ·refine bif_e (fun c3 => ?_) (fun c3 => ?_)
   ·refine bif_e (fun c4 => ?_) (fun c4 => ?_)
    ·refine go 6 ?_
     exact fun h => good_again hl0 (by omega) ⟨_, ⟨by omega, _, _, g4 + 1, g5 + 1, rfl, h⟩, frle_, memle_⟩
    ·refine go 6 ?_
     exact fun h => good_again hl0 (by omega) ⟨_, ⟨by omega, _, _, g4 + 1, g5 + 1, rfl, h⟩, frle_, memle_⟩
   ·refine go 6 ?_
    exact fun h => good_again hl0 (by omega) ⟨_, ⟨by omega, _, _, g4 + 1, g5 + 1, rfl, h⟩, frle_, memle_⟩
  ·refine go 6 ?_
   exact fun h => good_again hl0 (by omega) ⟨_, ⟨by omega, _, _, g4 + 1, g5 + 1, rfl, h⟩, frle_, memle_⟩
 ·refine go 7 ?_
  refine ret_e (fun hr_ => ?_)
  subst hr_
  exact ret_ Tryz.func130 [(2000, (1, 10, 1))]
mutual
def impl_edgeAt.l0 : Nat → Int → S31 → Int → Option (Int)
 | 0, _, _, _ => none
 | k + 1, v1, v0, v2 => (bif decide (v2 < (v0.f1.length : Int)) then ((ix v0.f1 v2).bind fun v4 => (bif (v4.f0 == v1) then (some v2) else (impl_edgeAt.l0 k v1 v0 (IntKind.i64.wrap (v2 + 1))))) else (some (-1)))
def impl_edgeAt.f : Nat → S31 → Int → Option (Int)
 | 0, _, _ => none
 | k + 1, v0, v1 => (impl_edgeAt.l0 k v1 v0 0)
end
set_option maxRecDepth 100000 in
set_option maxHeartbeats 4000000 in
theorem impl_edgeAt.con {K : Kn} [KOk K] {k : Nat} {v0 : S31} {v1 : Int} {r : Int} (h : impl_edgeAt.f k v0 v1 = some r) : Con K Tryz.prog 131 [.agg [.p (.lst false (List.map en94 v0.f0)), .p (.lst false (List.map en110 v0.f1))], .p (.int .i64 v1)] [] (.p (.int .i64 r)) [] := by
 cases k with
 | zero => exact absurd h (by simp [impl_edgeAt.f])
 | succ k =>
 rw [impl_edgeAt.f] at h
 refine con_intro 21 [] Tryz.func131 (by kernel_rfl) rfl rfl (by kernel_rfl) fun ι0 w0 hk0 => ?_
 revert h
 refine go 6 ?_
 refine fun h => good_loop (fun n st => n ≤ k ∧ ∃ (v2 : _) (g3 : Nat), st = ⟨[(1, .p (.int .i64 v1)), (8, .p (.lst false (List.map en110 v0.f1))), (9, .p (.int .i64 (v0.f1.length : Int))), (10, .p (.int .i64 v2))], [(2, (1, .gone)), (6, (g3, .gone))]⟩ ∧ impl_edgeAt.l0 n v1 v0 v2 = some r) k ⟨_, ⟨Nat.le_refl _, _, 0, rfl, h⟩, frle_, memle_⟩ ?_
 clear h
 rintro n _ ⟨hkl0, v2, g3, rfl, h⟩ hl0
 cases n with
 | zero => exact absurd h (by simp [impl_edgeAt.l0])
 | succ kl0 =>
 rw [impl_edgeAt.l0] at h
 revert h
 refine bif_e (fun c1 => ?_) (fun c1 => ?_)
 ·refine bind_e (fun v4 e4 => ?_)
  replace e4 := nf_ (ix_en en110 e4)
  refine bif_e (fun c2 => ?_) (fun c2 => ?_)
  ·refine go 14 ?_
   refine ret_e (fun hr_ => ?_)
   subst hr_
   exact ret_ Tryz.func131 []
  ·refine go 15 ?_
   exact fun h => good_again hl0 (by omega) ⟨_, ⟨by omega, _, g3 + 1, rfl, h⟩, frle_, memle_⟩
 ·refine go 7 ?_
  refine ret_e (fun hr_ => ?_)
  subst hr_
  exact ret_ Tryz.func131 []
mutual
def impl_flowOk.j0 : Nat → Int → Int → S45 → Int → S31 → (List (Int × Int)) → (List (Int × Int)) → S107 → Option (Bool)
 | 0, _, _, _, _, _, _, _, _ => none
 | k + 1, v1, v2, v4, v12, v0, v11, v13, v15 => (impl_flowOk.l0 k v1 v2 v4 (IntKind.i64.wrap (v12 + 1)) v0 v11 (tput v13 v15.f0 v15.f1))
def impl_flowOk.j1 : Nat → Int → Int → S31 → Int → S45 → (List (Int × Int)) → (List (Int × Int)) → (List (Int × Int)) → S110 → Option (Bool)
 | 0, _, _, _, _, _, _, _, _, _ => none
 | k + 1, v1, v2, v0, v19, v4, v11, v13, v20, v22 => (impl_flowOk.l1 k v1 v2 v0 (IntKind.i64.wrap (v19 + 1)) v4 v11 v13 (tput (tput v20 v22.f2 (IntKind.i64.wrap ((tget v20 v22.f2 0) + (tget v13 v22.f0 0)))) v22.f3 (IntKind.i64.wrap ((tget (tput v20 v22.f2 (IntKind.i64.wrap ((tget v20 v22.f2 0) + (tget v13 v22.f0 0)))) v22.f3 0) - (tget v13 v22.f0 0)))))
def impl_flowOk.l2 : Nat → Int → Int → S31 → Int → S45 → (List (Int × Int)) → Option (Bool)
 | 0, _, _, _, _, _, _ => none
 | k + 1, v1, v2, v0, v25, v4, v20 => (bif decide (v25 < (v0.f0.length : Int)) then ((ix v0.f0 v25).bind fun v27 => (bif (v27.f0 == v1) then (impl_flowOk.l2 k v1 v2 v0 (IntKind.i64.wrap (v25 + 1)) v4 v20) else (bif (v27.f0 == v2) then (impl_flowOk.l2 k v1 v2 v0 (IntKind.i64.wrap (v25 + 1)) v4 v20) else (bif ((tget v20 v27.f0 0) == 0) then (impl_flowOk.l2 k v1 v2 v0 (IntKind.i64.wrap (v25 + 1)) v4 v20) else (some false))))) else (some ((tget v20 v1 0) == v4.f1)))
def impl_flowOk.l1 : Nat → Int → Int → S31 → Int → S45 → (List (Int × Int)) → (List (Int × Int)) → (List (Int × Int)) → Option (Bool)
 | 0, _, _, _, _, _, _, _, _ => none
 | k + 1, v1, v2, v0, v19, v4, v11, v13, v20 => (bif decide (v19 < (v0.f1.length : Int)) then ((ix v0.f1 v19).bind fun v22 => ((slices_Contains.f k v4.f3 v22.f2).bind fun v23 => ((slices_Contains.f k v4.f3 v22.f3).bind fun v24 => (bif v23 then (bif v24 then (impl_flowOk.j1 k v1 v2 v0 v19 v4 v11 v13 v20 v22) else (bif ((tget v13 v22.f0 0) == (tget v11 v22.f0 0)) then (impl_flowOk.j1 k v1 v2 v0 v19 v4 v11 v13 v20 v22) else (some false))) else (bif v24 then (bif ((tget v13 v22.f0 0) == 0) then (impl_flowOk.j1 k v1 v2 v0 v19 v4 v11 v13 v20 v22) else (some false)) else (impl_flowOk.j1 k v1 v2 v0 v19 v4 v11 v13 v20 v22)))))) else (impl_flowOk.l2 k v1 v2 v0 0 v4 v20))
def impl_flowOk.l0 : Nat → Int → Int → S45 → Int → S31 → (List (Int × Int)) → (List (Int × Int)) → Option (Bool)
 | 0, _, _, _, _, _, _, _ => none
 | k + 1, v1, v2, v4, v12, v0, v11, v13 => (bif decide (v12 < (v4.f2.length : Int)) then ((ix v4.f2 v12).bind fun v15 => (bif decide (0 < v12) then ((ix v4.f2 (IntKind.i64.wrap (v12 - 1))).bind fun v16 => (bif decide (v15.f0 ≤ v16.f0) then (some false) else ((impl_edgeAt.f k v0 v15.f0).bind fun v17 => (bif decide (v17 < 0) then (some false) else (bif decide (v15.f1 ≤ 0) then (some false) else (bif decide ((tget v11 v15.f0 0) < v15.f1) then (some false) else (impl_flowOk.j0 k v1 v2 v4 v12 v0 v11 v13 v15))))))) else ((impl_edgeAt.f k v0 v15.f0).bind fun v18 => (bif decide (v18 < 0) then (some false) else (bif decide (v15.f1 ≤ 0) then (some false) else (bif decide ((tget v11 v15.f0 0) < v15.f1) then (some false) else (impl_flowOk.j0 k v1 v2 v4 v12 v0 v11 v13 v15))))))) else (impl_flowOk.l1 k v1 v2 v0 0 v4 v11 v13 ([] : List (Int × Int))))
def impl_flowOk.f : Nat → S31 → Int → Int → ByteArray → S45 → Option (Bool)
 | 0, _, _, _, _, _ => none
 | k + 1, v0, v1, v2, v3, v4 => (bif decide (65536 < (v3.size : Int)) then (some false) else ((impl_graphOk.f k v0).bind fun v5 => (bif v5 then ((impl_nodeAt.f k v0 v1).bind fun v6 => (bif decide (v6 < 0) then (some false) else ((impl_nodeAt.f k v0 v2).bind fun v7 => (bif decide (v7 < 0) then (some false) else (bif (v1 == v2) then (some false) else (bif (v4.f0 == 0) then ((impl_nodesOk.f k v0 v4.f3).bind fun v8 => (bif v8 then ((slices_Contains.f k v4.f3 v1).bind fun v9 => (bif v9 then ((slices_Contains.f k v4.f3 v2).bind fun v10 => (bif v10 then (some false) else ((impl_room.f k v0 v3).bind fun v11 => (impl_flowOk.l0 k v1 v2 v4 0 v0 v11 ([] : List (Int × Int)))))) else (some false))) else (some false))) else (some false))))))) else (some false))))
end
set_option maxRecDepth 100000 in
set_option maxHeartbeats 4000000 in
theorem impl_flowOk.con {K : Kn} [KOk K] {k : Nat} {v0 : S31} {v1 : Int} {v2 : Int} {v3 : ByteArray} {v4 : S45} {r : Bool} (h : impl_flowOk.f k v0 v1 v2 v3 v4 = some r) : Con K Tryz.prog 74 [.agg [.p (.lst false (List.map en94 v0.f0)), .p (.lst false (List.map en110 v0.f1))], .p (.int .i64 v1), .p (.int .i64 v2), .p (.str v3), .agg [.p (.int .i64 v4.f0), .p (.int .i64 v4.f1), .p (.lst false (List.map en107 v4.f2)), .p (.lst false (List.map (irow .i64) v4.f3))]] [] (.p (.bool r)) [] := by
 cases k with
 | zero => exact absurd h (by simp [impl_flowOk.f])
 | succ k =>
 rw [impl_flowOk.f] at h
 refine con_intro 221 [] Tryz.func74 (by kernel_rfl) rfl rfl (by kernel_rfl) fun ι0 w0 hk0 => ?_
 revert h
 refine bif_e (fun c1 => ?_) (fun c1 => ?_)
 ·refine go 8 ?_
  refine ret_e (fun hr_ => ?_)
  subst hr_
  exact ret_ Tryz.func74 []
 ·refine go 4 ?_
  refine grs ?_
  refine gr_run ?_
  refine bind_e (fun v5 e5 => gr_call [] (impl_graphOk.con e5) ?_)
  clear e5
  refine bif_e (fun c2 => ?_) (fun c2 => ?_)
  ·refine gr_run ?_
   refine bind_e (fun v6 e6 => gr_call [] (impl_nodeAt.con e6) ?_)
   clear e6
   refine bif_e (fun c3 => ?_) (fun c3 => ?_)
   ·refine gr_run ?_
    refine gr_done ?_
    refine go 3 ?_
    refine ret_e (fun hr_ => ?_)
    subst hr_
    exact ret_ Tryz.func74 []
   ·refine gr_run ?_
    refine bind_e (fun v7 e7 => gr_call [] (impl_nodeAt.con e7) ?_)
    clear e7
    refine bif_e (fun c4 => ?_) (fun c4 => ?_)
    ·refine gr_run ?_
     refine gr_done ?_
     refine go 3 ?_
     refine ret_e (fun hr_ => ?_)
     subst hr_
     exact ret_ Tryz.func74 []
    ·refine bif_e (fun c5 => ?_) (fun c5 => ?_)
     ·refine gr_run ?_
      refine gr_done ?_
      refine go 3 ?_
      refine ret_e (fun hr_ => ?_)
      subst hr_
      exact ret_ Tryz.func74 []
     ·refine bif_e (fun c6 => ?_) (fun c6 => ?_)
      ·refine gr_run ?_
       refine bind_e (fun v8 e8 => gr_call [] (impl_nodesOk.con e8) ?_)
       clear e8
       refine gr_run ?_
       refine gr_done ?_
       refine bif_e (fun c7 => ?_) (fun c7 => ?_)
       ·refine go 4 ?_
        refine grs ?_
        refine gr_run ?_
        refine bind_e (fun v9 e9 => gr_call [] (slices_Contains.con e9) ?_)
        clear e9
        refine bif_e (fun c8 => ?_) (fun c8 => ?_)
        ·refine gr_run ?_
         refine bind_e (fun v10 e10 => gr_call [] (slices_Contains.con e10) ?_)
         clear e10
         refine gr_run ?_
         refine gr_done ?_
         refine bif_e (fun c9 => ?_) (fun c9 => ?_)
         ·refine go 3 ?_
          refine ret_e (fun hr_ => ?_)
          subst hr_
          exact ret_ Tryz.func74 []
         ·refine go 3 ?_
          refine grs ?_
          refine gr_run ?_
          refine bind_e (fun v11 e11 => gr_call [(2000, (1, 72, 1))] (impl_room.con e11) ?_)
          clear e11
          refine gr_run ?_
          refine gr_done ?_
          refine go 6 ?_
          refine fun h => good_loop (fun n st => n ≤ k ∧ ∃ (v12 : _) (v13 : _) (g14 : Nat), st = ⟨[(1, .p (.int .i64 v1)), (2, .p (.int .i64 v2)), (5, .ptr 5 1 0), (9, .ptr 9 1 0), (11, .mp 72 1), (12, .mp 73 1), (75, .p (.lst false (List.map en107 v4.f2))), (76, .p (.int .i64 (v4.f2.length : Int))), (77, .p (.int .i64 v12))], [(5, (1, .cells [.p (.lst false (List.map en94 v0.f0)), .p (.lst false (List.map en110 v0.f1))])), (9, (1, .cells [.p (.int .i64 v4.f0), .p (.int .i64 v4.f1), .p (.lst false (List.map en107 v4.f2)), .p (.lst false (List.map (irow .i64) v4.f3))])), (72, (1, .map (.int .i64) false (List.map (ei .i64 (irow .i64)) v11))), (73, (1, .map (.int .i64) false (List.map (ei .i64 (irow .i64)) v13))), (14, (g14, .gone))]⟩ ∧ impl_flowOk.l0 n v1 v2 v4 v12 v0 v11 v13 = some r) k ⟨_, ⟨Nat.le_refl _, _, _, 0, rfl, h⟩, frle_, memle_⟩ ?_
          clear c1 c2 c3 c4 c5 c6 c7 c8 c9
          clear h
          rintro n _ ⟨hkl0, v12, v13, g14, rfl, h⟩ hl0
          cases n with
          | zero => exact absurd h (by simp [impl_flowOk.l0])
          | succ kl0 =>
          rw [impl_flowOk.l0] at h
          revert h
          refine bif_e (fun c10 => ?_) (fun c10 => ?_)
          ·refine bind_e (fun v15 e15 => ?_)
           replace e15 := nf_ (ix_en en107 e15)
           refine go 11 ?_
           refine good_cut_f (fun st => ∃ (q_ : Nat), q_ ≤ kl0 ∧ st = ⟨[(1, .p (.int .i64 v1)), (2, .p (.int .i64 v2)), (5, .ptr 5 1 0), (9, .ptr 9 1 0), (11, .mp 72 1), (12, .mp 73 1), (14, .ptr 14 (g14 + 1) 0), (75, .p (.lst false (List.map en107 v4.f2))), (76, .p (.int .i64 (v4.f2.length : Int))), (77, .p (.int .i64 v12))], [(5, (1, .cells [.p (.lst false (List.map en94 v0.f0)), .p (.lst false (List.map en110 v0.f1))])), (9, (1, .cells [.p (.int .i64 v4.f0), .p (.int .i64 v4.f1), .p (.lst false (List.map en107 v4.f2)), .p (.lst false (List.map (irow .i64) v4.f3))])), (72, (1, .map (.int .i64) false (List.map (ei .i64 (irow .i64)) v11))), (73, (1, .map (.int .i64) false (List.map (ei .i64 (irow .i64)) v13))), (14, (g14 + 1, .cells [.p (.int .i64 v15.f0), .p (.int .i64 v15.f1)]))]⟩ ∧ impl_flowOk.j0 q_ v1 v2 v4 v12 v0 v11 v13 v15 = some r) ?_ (fun hj0 => ?_)
           ·clear c10 e15
            rintro _ ⟨q_, hqj0, rfl, h⟩
            cases q_ with
            | zero => exact absurd h (by simp [impl_flowOk.j0])
            | succ kj0 =>
            rw [impl_flowOk.j0] at h
            revert h
            refine go 4 ?_
            exact fun h => good_again hl0 (by omega) ⟨_, ⟨by omega, _, _, g14 + 1, rfl, h⟩, frle_, memle_⟩
           ·refine bif_e (fun c11 => ?_) (fun c11 => ?_)
            ·refine bind_e (fun v16 e16 => ?_)
             replace e16 := nf_ (ix_en en107 e16)
             refine bif_e (fun c12 => ?_) (fun c12 => ?_)
             ·refine grs ?_
              refine gr_run ?_
              refine gr_done ?_
              refine go 3 ?_
              refine ret_e (fun hr_ => ?_)
              subst hr_
              exact ret_ Tryz.func74 []
             ·refine grs ?_
              refine gr_run ?_
              refine bind_e (fun v17 e17 => gr_call [] (impl_edgeAt.con e17) ?_)
              clear e17
              refine bif_e (fun c13 => ?_) (fun c13 => ?_)
              ·refine gr_run ?_
               refine gr_done ?_
               refine go 3 ?_
               refine ret_e (fun hr_ => ?_)
               subst hr_
               exact ret_ Tryz.func74 []
              ·refine bif_e (fun c14 => ?_) (fun c14 => ?_)
               ·refine gr_run ?_
                refine gr_done ?_
                refine go 3 ?_
                refine ret_e (fun hr_ => ?_)
                subst hr_
                exact ret_ Tryz.func74 []
               ·refine gr_run ?_
                refine gr_done ?_
                refine bif_e (fun c15 => ?_) (fun c15 => ?_)
                ·refine go 3 ?_
                 refine ret_e (fun hr_ => ?_)
                 subst hr_
                 exact ret_ Tryz.func74 []
                ·refine go 1 ?_
                 exact fun h => good_jump hj0 ⟨_, ⟨_, by omega, rfl, h⟩, frle_, memle_⟩
            ·refine grs ?_
             refine gr_run ?_
             refine bind_e (fun v18 e18 => gr_call [] (impl_edgeAt.con e18) ?_)
             clear e18
             refine bif_e (fun c16 => ?_) (fun c16 => ?_)
             ·refine gr_run ?_
              refine gr_done ?_
              refine go 3 ?_
              refine ret_e (fun hr_ => ?_)
              subst hr_
              exact ret_ Tryz.func74 []
             ·refine bif_e (fun c17 => ?_) (fun c17 => ?_)
              ·refine gr_run ?_
               refine gr_done ?_
               refine go 3 ?_
               refine ret_e (fun hr_ => ?_)
               subst hr_
               exact ret_ Tryz.func74 []
              ·refine gr_run ?_
               refine gr_done ?_
               refine bif_e (fun c18 => ?_) (fun c18 => ?_)
               ·refine go 3 ?_
                refine ret_e (fun hr_ => ?_)
                subst hr_
                exact ret_ Tryz.func74 []
               ·refine go 1 ?_
                exact fun h => good_jump hj0 ⟨_, ⟨_, by omega, rfl, h⟩, frle_, memle_⟩
          ·refine go 11 ?_
           refine fun h => good_loop (fun n st => n ≤ kl0 ∧ ∃ (v19 : _) (v20 : _) (g21 : Nat), st = ⟨[(1, .p (.int .i64 v1)), (2, .p (.int .i64 v2)), (5, .ptr 5 1 0), (9, .ptr 9 1 0), (11, .mp 72 1), (12, .mp 73 1), (15, .mp 123 1), (125, .p (.lst false (List.map en110 v0.f1))), (126, .p (.int .i64 (v0.f1.length : Int))), (127, .p (.int .i64 v19))], [(5, (1, .cells [.p (.lst false (List.map en94 v0.f0)), .p (.lst false (List.map en110 v0.f1))])), (9, (1, .cells [.p (.int .i64 v4.f0), .p (.int .i64 v4.f1), .p (.lst false (List.map en107 v4.f2)), .p (.lst false (List.map (irow .i64) v4.f3))])), (72, (1, .map (.int .i64) false (List.map (ei .i64 (irow .i64)) v11))), (73, (1, .map (.int .i64) false (List.map (ei .i64 (irow .i64)) v13))), (14, (g14, .gone)), (123, (1, .map (.int .i64) false (List.map (ei .i64 (irow .i64)) v20))), (17, (g21, .gone))]⟩ ∧ impl_flowOk.l1 n v1 v2 v0 v19 v4 v11 v13 v20 = some r) kl0 ⟨_, ⟨Nat.le_refl _, _, _, 0, rfl, h⟩, frle_, memle_⟩ ?_
           clear c10
           clear h
           rintro n _ ⟨hkl1, v19, v20, g21, rfl, h⟩ hl1
           cases n with
           | zero => exact absurd h (by simp [impl_flowOk.l1])
           | succ kl1 =>
           rw [impl_flowOk.l1] at h
           revert h
           refine bif_e (fun c19 => ?_) (fun c19 => ?_)
           ·refine bind_e (fun v22 e22 => ?_)
            replace e22 := nf_ (ix_en en110 e22)
            refine go 14 ?_
            refine grs ?_
            refine gr_run ?_
            refine bind_e (fun v23 e23 => gr_call [] (slices_Contains.con e23) ?_)
            clear e23
            refine gr_run ?_
            refine bind_e (fun v24 e24 => gr_call [] (slices_Contains.con e24) ?_)
            clear e24
            refine gr_run ?_
            refine gr_done ?_
            refine go 1 ?_
            refine good_cut_f (fun st => ∃ (q_ : Nat), q_ ≤ kl1 ∧ st = ⟨[(1, .p (.int .i64 v1)), (2, .p (.int .i64 v2)), (5, .ptr 5 1 0), (9, .ptr 9 1 0), (11, .mp 72 1), (12, .mp 73 1), (15, .mp 123 1), (125, .p (.lst false (List.map en110 v0.f1))), (126, .p (.int .i64 (v0.f1.length : Int))), (127, .p (.int .i64 v19))], [(5, (1, .cells [.p (.lst false (List.map en94 v0.f0)), .p (.lst false (List.map en110 v0.f1))])), (9, (1, .cells [.p (.int .i64 v4.f0), .p (.int .i64 v4.f1), .p (.lst false (List.map en107 v4.f2)), .p (.lst false (List.map (irow .i64) v4.f3))])), (72, (1, .map (.int .i64) false (List.map (ei .i64 (irow .i64)) v11))), (73, (1, .map (.int .i64) false (List.map (ei .i64 (irow .i64)) v13))), (14, (g14, .gone)), (123, (1, .map (.int .i64) false (List.map (ei .i64 (irow .i64)) (tput (tput v20 v22.f2 (IntKind.i64.wrap ((tget v20 v22.f2 0) + (tget v13 v22.f0 0)))) v22.f3 (IntKind.i64.wrap ((tget (tput v20 v22.f2 (IntKind.i64.wrap ((tget v20 v22.f2 0) + (tget v13 v22.f0 0)))) v22.f3 0) - (tget v13 v22.f0 0))))))), (17, (g21 + 1, .gone))]⟩ ∧ impl_flowOk.j1 q_ v1 v2 v0 v19 v4 v11 v13 v20 v22 = some r) ?_ (fun hj1 => ?_)
            ·clear c19 e22
             rintro _ ⟨q_, hqj1, rfl, h⟩
             cases q_ with
             | zero => exact absurd h (by simp [impl_flowOk.j1])
             | succ kj1 =>
             rw [impl_flowOk.j1] at h
             revert h
             refine go 3 ?_
             exact fun h => good_again hl1 (by omega) ⟨_, ⟨by omega, _, _, g21 + 1, rfl, h⟩, frle_, memle_⟩
            ·refine bif_e (fun c20 => ?_) (fun c20 => ?_)
             ·refine bif_e (fun c21 => ?_) (fun c21 => ?_)
              ·refine go 2 ?_
               exact fun h => good_jump hj1 ⟨_, ⟨_, by omega, rfl, h⟩, frle_, memle_⟩
              ·refine bif_e (fun c22 => ?_) (fun c22 => ?_)
               ·refine go 2 ?_
                exact fun h => good_jump hj1 ⟨_, ⟨_, by omega, rfl, h⟩, frle_, memle_⟩
               ·refine go 4 ?_
                refine ret_e (fun hr_ => ?_)
                subst hr_
                exact ret_ Tryz.func74 []
             ·refine bif_e (fun c23 => ?_) (fun c23 => ?_)
              ·refine bif_e (fun c24 => ?_) (fun c24 => ?_)
               ·refine go 2 ?_
                exact fun h => good_jump hj1 ⟨_, ⟨_, by omega, rfl, h⟩, frle_, memle_⟩
               ·refine go 4 ?_
                refine ret_e (fun hr_ => ?_)
                subst hr_
                exact ret_ Tryz.func74 []
              ·refine go 2 ?_
               exact fun h => good_jump hj1 ⟨_, ⟨_, by omega, rfl, h⟩, frle_, memle_⟩
           ·refine go 9 ?_
            refine fun h => good_loop (fun n st => n ≤ kl1 ∧ ∃ (v25 : _) (g26 : Nat), st = ⟨[(1, .p (.int .i64 v1)), (2, .p (.int .i64 v2)), (9, .ptr 9 1 0), (15, .mp 123 1), (191, .p (.lst false (List.map en94 v0.f0))), (192, .p (.int .i64 (v0.f0.length : Int))), (193, .p (.int .i64 v25))], [(5, (1, .gone)), (9, (1, .cells [.p (.int .i64 v4.f0), .p (.int .i64 v4.f1), .p (.lst false (List.map en107 v4.f2)), .p (.lst false (List.map (irow .i64) v4.f3))])), (72, (1, .gone)), (73, (1, .gone)), (14, (g14, .gone)), (123, (1, .map (.int .i64) false (List.map (ei .i64 (irow .i64)) v20))), (17, (g21, .gone)), (21, (g26, .gone))]⟩ ∧ impl_flowOk.l2 n v1 v2 v0 v25 v4 v20 = some r) kl1 ⟨_, ⟨Nat.le_refl _, _, 0, rfl, h⟩, frle_, memle_⟩ ?_
            clear c19
            clear h
            rintro n _ ⟨hkl2, v25, g26, rfl, h⟩ hl2
            cases n with
            | zero => exact absurd h (by simp [impl_flowOk.l2])
            | succ kl2 =>
            rw [impl_flowOk.l2] at h
            revert h
            refine bif_e (fun c25 => ?_) (fun c25 => ?_)
            ·refine bind_e (fun v27 e27 => ?_)
             replace e27 := nf_ (ix_en en94 e27)
             refine bif_e (fun c26 => ?_) (fun c26 => ?_)
             ·refine go 15 ?_
              exact fun h => good_again hl2 (by omega) ⟨_, ⟨by omega, _, g26 + 1, rfl, h⟩, frle_, memle_⟩
             ·refine bif_e (fun c27 => ?_) (fun c27 => ?_)
              ·refine go 15 ?_
               exact fun h => good_again hl2 (by omega) ⟨_, ⟨by omega, _, g26 + 1, rfl, h⟩, frle_, memle_⟩
              ·refine bif_e (fun c28 => ?_) (fun c28 => ?_)
               ·refine go 15 ?_
                exact fun h => good_again hl2 (by omega) ⟨_, ⟨by omega, _, g26 + 1, rfl, h⟩, frle_, memle_⟩
               ·refine go 14 ?_
                refine ret_e (fun hr_ => ?_)
                subst hr_
                exact ret_ Tryz.func74 []
            ·refine go 7 ?_
             refine ret_e (fun hr_ => ?_)
             subst hr_
             exact ret_ Tryz.func74 []
        ·refine gr_run ?_
         refine gr_done ?_
         refine go 3 ?_
         refine ret_e (fun hr_ => ?_)
         subst hr_
         exact ret_ Tryz.func74 []
       ·refine go 3 ?_
        refine ret_e (fun hr_ => ?_)
        subst hr_
        exact ret_ Tryz.func74 []
      ·refine gr_run ?_
       refine gr_done ?_
       refine go 3 ?_
       refine ret_e (fun hr_ => ?_)
       subst hr_
       exact ret_ Tryz.func74 []
  ·refine gr_run ?_
   refine gr_done ?_
   refine go 3 ?_
   refine ret_e (fun hr_ => ?_)
   subst hr_
   exact ret_ Tryz.func74 []
end Go.Ab
