/- What the functions compute, and their contracts, part 7. No condition beyond KOk. -/
import Derived.Test.YtkjoeomgnkfljaaGreatDoorAbX
import Derived.Test.YtkjoeomgnkfljaaGreatDoorAbF5
import Derived.Test.YtkjoeomgnkfljaaGreatDoorAbF6
namespace Go.Ab
open Go.Proofs
set_option linter.unusedVariables false
set_option linter.unusedSimpArgs false
def impl_nodeOk.f (k : Nat) (v0 : S94) : Option (Bool) := ((impl_idOk.f k v0.f0).bind fun v1 => (bif v1 then ((impl_risingNames.f k v0.f1 10).bind fun v2 => (bif v2 then ((impl_fieldsOk.f k v0.f2).bind fun v3 => (some v3)) else (some false))) else (some false)))
set_option maxRecDepth 100000 in
set_option maxHeartbeats 4000000 in
theorem impl_nodeOk.con {K : Kn} [KOk K] {k : Nat} {v0 : S94} {r : Bool} (h : impl_nodeOk.f k v0 = some r) : Con K Tryz.prog 147 [.agg [.p (.int .i64 v0.f0), .p (.lst false (List.map srw v0.f1)), .p (.lst false (List.map en193 v0.f2))]] [] (.p (.bool r)) [] := by
 rw [impl_nodeOk.f] at h
 refine con_intro 16 [] Tryz.func147 (by kernel_rfl) rfl rfl (by kernel_rfl) fun ι0 w0 hk0 => ?_
 revert h
 refine go 3 ?_
 refine grs ?_
 refine gr_run ?_
 refine bind_e (fun v1 e1 => gr_call [] (impl_idOk.con e1) ?_)
 clear e1
 refine bif_e (fun c1 => ?_) (fun c1 => ?_)
 ·refine gr_run ?_
  refine bind_e (fun v2 e2 => gr_call [] (impl_risingNames.con e2) ?_)
  clear e2
  refine bif_e (fun c2 => ?_) (fun c2 => ?_)
  ·refine gr_run ?_
   refine bind_e (fun v3 e3 => gr_call [] (impl_fieldsOk.con e3) ?_)
   clear e3
   refine gr_run ?_
   refine gr_done ?_
   refine ret_e (fun hr_ => ?_)
   subst hr_
   exact ret_ Tryz.func147 []
  ·refine gr_run ?_
   refine gr_done ?_
   refine ret_e (fun hr_ => ?_)
   subst hr_
   exact ret_ Tryz.func147 []
 ·refine gr_run ?_
  refine gr_done ?_
  refine ret_e (fun hr_ => ?_)
  subst hr_
  exact ret_ Tryz.func147 []
def impl_edgeOk.f (k : Nat) (v0 : S110) : Option (Bool) := ((impl_idOk.f k v0.f0).bind fun v1 => (bif v1 then ((impl_isName.f k v0.f1).bind fun v2 => (bif v2 then ((impl_idOk.f k v0.f2).bind fun v3 => (bif v3 then ((impl_idOk.f k v0.f3).bind fun v4 => (bif v4 then ((impl_fieldsOk.f k v0.f4).bind fun v5 => (some v5)) else (some false))) else (some false))) else (some false))) else (some false)))
set_option maxRecDepth 100000 in
set_option maxHeartbeats 4000000 in
theorem impl_edgeOk.con {K : Kn} [KOk K] {k : Nat} {v0 : S110} {r : Bool} (h : impl_edgeOk.f k v0 = some r) : Con K Tryz.prog 148 [.agg [.p (.int .i64 v0.f0), .p (.str v0.f1), .p (.int .i64 v0.f2), .p (.int .i64 v0.f3), .p (.lst false (List.map en193 v0.f4))]] [] (.p (.bool r)) [] := by
 rw [impl_edgeOk.f] at h
 refine con_intro 26 [] Tryz.func148 (by kernel_rfl) rfl rfl (by kernel_rfl) fun ι0 w0 hk0 => ?_
 revert h
 refine go 3 ?_
 refine grs ?_
 refine gr_run ?_
 refine bind_e (fun v1 e1 => gr_call [] (impl_idOk.con e1) ?_)
 clear e1
 refine bif_e (fun c1 => ?_) (fun c1 => ?_)
 ·refine gr_run ?_
  refine bind_e (fun v2 e2 => gr_call [] (impl_isName.con e2) ?_)
  clear e2
  refine bif_e (fun c2 => ?_) (fun c2 => ?_)
  ·refine gr_run ?_
   refine bind_e (fun v3 e3 => gr_call [] (impl_idOk.con e3) ?_)
   clear e3
   refine bif_e (fun c3 => ?_) (fun c3 => ?_)
   ·refine gr_run ?_
    refine bind_e (fun v4 e4 => gr_call [] (impl_idOk.con e4) ?_)
    clear e4
    refine bif_e (fun c4 => ?_) (fun c4 => ?_)
    ·refine gr_run ?_
     refine bind_e (fun v5 e5 => gr_call [] (impl_fieldsOk.con e5) ?_)
     clear e5
     refine gr_run ?_
     refine gr_done ?_
     refine ret_e (fun hr_ => ?_)
     subst hr_
     exact ret_ Tryz.func148 []
    ·refine gr_run ?_
     refine gr_done ?_
     refine ret_e (fun hr_ => ?_)
     subst hr_
     exact ret_ Tryz.func148 []
   ·refine gr_run ?_
    refine gr_done ?_
    refine ret_e (fun hr_ => ?_)
    subst hr_
    exact ret_ Tryz.func148 []
  ·refine gr_run ?_
   refine gr_done ?_
   refine ret_e (fun hr_ => ?_)
   subst hr_
   exact ret_ Tryz.func148 []
 ·refine gr_run ?_
  refine gr_done ?_
  refine ret_e (fun hr_ => ?_)
  subst hr_
  exact ret_ Tryz.func148 []
mutual
def impl_graphOk.j0 : Nat → S31 → Int → (List (Int × Int)) → S94 → Option (Bool)
 | 0, _, _, _, _ => none
 | k + 1, v0, v1, v2, v4 => (impl_graphOk.l0 k v0 (IntKind.i64.wrap (v1 + 1)) (tput v2 v4.f0 1))
def impl_graphOk.l1 : Nat → S31 → Int → (List (Int × Int)) → Option (Bool)
 | 0, _, _, _ => none
 | k + 1, v0, v7, v2 => (bif decide (v7 < (v0.f1.length : Int)) then ((ix v0.f1 v7).bind fun v9 => ((impl_edgeOk.f k v9).bind fun v10 => (bif v10 then (bif decide (0 < v7) then ((ix v0.f1 (IntKind.i64.wrap (v7 - 1))).bind fun v11 => (bif decide (v9.f0 ≤ v11.f0) then (some false) else (bif ((tget v2 v9.f2 0) == 0) then (some false) else (bif ((tget v2 v9.f3 0) == 0) then (some false) else (impl_graphOk.l1 k v0 (IntKind.i64.wrap (v7 + 1)) v2))))) else (bif ((tget v2 v9.f2 0) == 0) then (some false) else (bif ((tget v2 v9.f3 0) == 0) then (some false) else (impl_graphOk.l1 k v0 (IntKind.i64.wrap (v7 + 1)) v2)))) else (some false)))) else (some true))
def impl_graphOk.l0 : Nat → S31 → Int → (List (Int × Int)) → Option (Bool)
 | 0, _, _, _ => none
 | k + 1, v0, v1, v2 => (bif decide (v1 < (v0.f0.length : Int)) then ((ix v0.f0 v1).bind fun v4 => ((impl_nodeOk.f k v4).bind fun v5 => (bif v5 then (bif decide (0 < v1) then ((ix v0.f0 (IntKind.i64.wrap (v1 - 1))).bind fun v6 => (bif decide (v4.f0 ≤ v6.f0) then (some false) else (impl_graphOk.j0 k v0 v1 v2 v4))) else (impl_graphOk.j0 k v0 v1 v2 v4)) else (some false)))) else (impl_graphOk.l1 k v0 0 v2))
def impl_graphOk.f : Nat → S31 → Option (Bool)
 | 0, _ => none
 | k + 1, v0 => (bif decide (200 < (v0.f0.length : Int)) then (some false) else (bif decide (400 < (v0.f1.length : Int)) then (some false) else (impl_graphOk.l0 k v0 0 ([] : List (Int × Int)))))
end
set_option maxRecDepth 100000 in
set_option maxHeartbeats 4000000 in
theorem impl_graphOk.con {K : Kn} [KOk K] {k : Nat} {v0 : S31} {r : Bool} (h : impl_graphOk.f k v0 = some r) : Con K Tryz.prog 91 [.agg [.p (.lst false (List.map en94 v0.f0)), .p (.lst false (List.map en110 v0.f1))]] [] (.p (.bool r)) [] := by
 cases k with
 | zero => exact absurd h (by simp [impl_graphOk.f])
 | succ k =>
 rw [impl_graphOk.f] at h
 refine con_intro 92 [] Tryz.func91 (by kernel_rfl) rfl rfl (by kernel_rfl) fun ι0 w0 hk0 => ?_
 revert h
 refine bif_e (fun c1 => ?_) (fun c1 => ?_)
 ·refine go 8 ?_
  refine ret_e (fun hr_ => ?_)
  subst hr_
  exact ret_ Tryz.func91 []
 ·refine bif_e (fun c2 => ?_) (fun c2 => ?_)
  ·refine go 8 ?_
   refine ret_e (fun hr_ => ?_)
   subst hr_
   exact ret_ Tryz.func91 []
  ·refine go 13 ?_
   refine fun h => good_loop (fun n st => n ≤ k ∧ ∃ (v1 : _) (v2 : _) (g3 : Nat), st = ⟨[(1, .ptr 1 1 0), (3, .mp 18 1), (20, .p (.lst false (List.map en94 v0.f0))), (21, .p (.int .i64 (v0.f0.length : Int))), (22, .p (.int .i64 v1))], [(1, (1, .cells [.p (.lst false (List.map en94 v0.f0)), .p (.lst false (List.map en110 v0.f1))])), (18, (1, .map (.int .i64) false (List.map (ei .i64 (irow .i64)) v2))), (5, (g3, .gone))]⟩ ∧ impl_graphOk.l0 n v0 v1 v2 = some r) k ⟨_, ⟨Nat.le_refl _, _, _, 0, rfl, h⟩, frle_, memle_⟩ ?_
   clear c1 c2
   clear h
   rintro n _ ⟨hkl0, v1, v2, g3, rfl, h⟩ hl0
   cases n with
   | zero => exact absurd h (by simp [impl_graphOk.l0])
   | succ kl0 =>
   rw [impl_graphOk.l0] at h
   revert h
   refine bif_e (fun c3 => ?_) (fun c3 => ?_)
   ·refine bind_e (fun v4 e4 => ?_)
    replace e4 := nf_ (ix_en en94 e4)
    refine go 11 ?_
    refine good_cut_f (fun st => ∃ (q_ : Nat), q_ ≤ kl0 ∧ st = ⟨[(1, .ptr 1 1 0), (3, .mp 18 1), (5, .ptr 5 (g3 + 1) 0), (20, .p (.lst false (List.map en94 v0.f0))), (21, .p (.int .i64 (v0.f0.length : Int))), (22, .p (.int .i64 v1))], [(1, (1, .cells [.p (.lst false (List.map en94 v0.f0)), .p (.lst false (List.map en110 v0.f1))])), (18, (1, .map (.int .i64) false (List.map (ei .i64 (irow .i64)) v2))), (5, (g3 + 1, .cells [.p (.int .i64 v4.f0), .p (.lst false (List.map srw v4.f1)), .p (.lst false (List.map en193 v4.f2))]))]⟩ ∧ impl_graphOk.j0 q_ v0 v1 v2 v4 = some r) ?_ (fun hj0 => ?_)
    ·clear c3 e4
     rintro _ ⟨q_, hqj0, rfl, h⟩
     cases q_ with
     | zero => exact absurd h (by simp [impl_graphOk.j0])
     | succ kj0 =>
     rw [impl_graphOk.j0] at h
     revert h
     refine go 4 ?_
     exact fun h => good_again hl0 (by omega) ⟨_, ⟨by omega, _, _, g3 + 1, rfl, h⟩, frle_, memle_⟩
    ·refine grs ?_
     refine gr_run ?_
     refine bind_e (fun v5 e5 => gr_call [] (impl_nodeOk.con e5) ?_)
     clear e5
     refine bif_e (fun c4 => ?_) (fun c4 => ?_)
     ·refine bif_e (fun c5 => ?_) (fun c5 => ?_)
      ·refine bind_e (fun v6 e6 => ?_)
       replace e6 := nf_ (ix_en en94 e6)
       refine gr_run ?_
       refine gr_done ?_
       refine bif_e (fun c6 => ?_) (fun c6 => ?_)
       ·refine go 3 ?_
        refine ret_e (fun hr_ => ?_)
        subst hr_
        exact ret_ Tryz.func91 []
       ·refine go 1 ?_
        exact fun h => good_jump hj0 ⟨_, ⟨_, by omega, rfl, h⟩, frle_, memle_⟩
      ·refine gr_run ?_
       refine gr_done ?_
       refine go 1 ?_
       exact fun h => good_jump hj0 ⟨_, ⟨_, by omega, rfl, h⟩, frle_, memle_⟩
     ·refine gr_run ?_
      refine gr_done ?_
      refine go 3 ?_
      refine ret_e (fun hr_ => ?_)
      subst hr_
      exact ret_ Tryz.func91 []
   ·refine go 9 ?_
    refine fun h => good_loop (fun n st => n ≤ kl0 ∧ ∃ (v7 : _) (g8 : Nat), st = ⟨[(1, .ptr 1 1 0), (3, .mp 18 1), (51, .p (.lst false (List.map en110 v0.f1))), (52, .p (.int .i64 (v0.f1.length : Int))), (53, .p (.int .i64 v7))], [(1, (1, .cells [.p (.lst false (List.map en94 v0.f0)), .p (.lst false (List.map en110 v0.f1))])), (18, (1, .map (.int .i64) false (List.map (ei .i64 (irow .i64)) v2))), (5, (g3, .gone)), (7, (g8, .gone))]⟩ ∧ impl_graphOk.l1 n v0 v7 v2 = some r) kl0 ⟨_, ⟨Nat.le_refl _, _, 0, rfl, h⟩, frle_, memle_⟩ ?_
    clear c3
    clear h
    rintro n _ ⟨hkl1, v7, g8, rfl, h⟩ hl1
    cases n with
    | zero => exact absurd h (by simp [impl_graphOk.l1])
    | succ kl1 =>
    rw [impl_graphOk.l1] at h
    revert h
    refine bif_e (fun c7 => ?_) (fun c7 => ?_)
    ·refine bind_e (fun v9 e9 => ?_)
     replace e9 := nf_ (ix_en en110 e9)
     refine go 10 ?_
     refine grs ?_
     refine gr_run ?_
     refine bind_e (fun v10 e10 => gr_call [] (impl_edgeOk.con e10) ?_)
     clear e10
     refine bif_e (fun c8 => ?_) (fun c8 => ?_)
     ·refine bif_e (fun c9 => ?_) (fun c9 => ?_)
      ·refine bind_e (fun v11 e11 => ?_)
       replace e11 := nf_ (ix_en en110 e11)
       refine bif_e (fun c10 => ?_) (fun c10 => ?_)
       ·refine gr_run ?_
        refine gr_done ?_
        refine go 3 ?_
        refine ret_e (fun hr_ => ?_)
        subst hr_
        exact ret_ Tryz.func91 []
       ·refine bif_e (fun c11 => ?_) (fun c11 => ?_)
        ·refine gr_run ?_
         refine gr_done ?_
         refine go 3 ?_
         refine ret_e (fun hr_ => ?_)
         subst hr_
         exact ret_ Tryz.func91 []
        ·refine gr_run ?_
         refine gr_done ?_
         refine bif_e (fun c12 => ?_) (fun c12 => ?_)
         ·refine go 3 ?_
          refine ret_e (fun hr_ => ?_)
          subst hr_
          exact ret_ Tryz.func91 []
         ·refine go 4 ?_
          exact fun h => good_again hl1 (by omega) ⟨_, ⟨by omega, _, g8 + 1, rfl, h⟩, frle_, memle_⟩
      ·refine bif_e (fun c13 => ?_) (fun c13 => ?_)
       ·refine gr_run ?_
        refine gr_done ?_
        refine go 3 ?_
        refine ret_e (fun hr_ => ?_)
        subst hr_
        exact ret_ Tryz.func91 []
       ·refine gr_run ?_
        refine gr_done ?_
        refine bif_e (fun c14 => ?_) (fun c14 => ?_)
        ·refine go 3 ?_
         refine ret_e (fun hr_ => ?_)
         subst hr_
         exact ret_ Tryz.func91 []
        ·refine go 4 ?_
         exact fun h => good_again hl1 (by omega) ⟨_, ⟨by omega, _, g8 + 1, rfl, h⟩, frle_, memle_⟩
     ·refine gr_run ?_
      refine gr_done ?_
      refine go 3 ?_
      refine ret_e (fun hr_ => ?_)
      subst hr_
      exact ret_ Tryz.func91 []
    ·refine go 7 ?_
     refine ret_e (fun hr_ => ?_)
     subst hr_
     exact ret_ Tryz.func91 []
mutual
def impl_rises.l0 : Nat → (List Int) → Int → Option (Bool)
 | 0, _, _ => none
 | k + 1, v0, v1 => (bif decide (v1 < (v0.length : Int)) then ((ix v0 (IntKind.i64.wrap (v1 - 1))).bind fun v2 => ((ix v0 v1).bind fun v3 => (bif decide (v3 ≤ v2) then (some false) else (impl_rises.l0 k v0 (IntKind.i64.wrap (v1 + 1)))))) else (some true))
def impl_rises.f : Nat → (List Int) → Option (Bool)
 | 0, _ => none
 | k + 1, v0 => (impl_rises.l0 k v0 1)
end
set_option maxRecDepth 100000 in
set_option maxHeartbeats 4000000 in
theorem impl_rises.con {K : Kn} [KOk K] {k : Nat} {v0 : (List Int)} {r : Bool} (h : impl_rises.f k v0 = some r) : Con K Tryz.prog 158 [.p (.lst false (List.map (irow .i64) v0))] [] (.p (.bool r)) [] := by
 cases k with
 | zero => exact absurd h (by simp [impl_rises.f])
 | succ k =>
 rw [impl_rises.f] at h
 refine con_intro 20 [] Tryz.func158 (by kernel_rfl) rfl rfl (by kernel_rfl) fun ι0 w0 hk0 => ?_
 revert h
 refine go 6 ?_
 refine fun h => good_loop (fun n st => n ≤ k ∧ ∃ (v1 : _), st = ⟨[(0, .p (.lst false (List.map (irow .i64) v0))), (3, .p (.int .i64 v1))], []⟩ ∧ impl_rises.l0 n v0 v1 = some r) k ⟨_, ⟨Nat.le_refl _, _, rfl, h⟩, frle_, memle_⟩ ?_
 clear h
 rintro n _ ⟨hkl0, v1, rfl, h⟩ hl0
 cases n with
 | zero => exact absurd h (by simp [impl_rises.l0])
 | succ kl0 =>
 rw [impl_rises.l0] at h
 revert h
 refine bif_e (fun c1 => ?_) (fun c1 => ?_)
 ·refine bind_e (fun v2 e2 => ?_)
  replace e2 := nf_ (ix_en (irow .i64) e2)
  refine bind_e (fun v3 e3 => ?_)
  replace e3 := nf_ (ix_en (irow .i64) e3)
  refine go 8 ?_
  refine grs ?_
  refine gr_run ?_
  refine gr_done ?_
  refine bif_e (fun c2 => ?_) (fun c2 => ?_)
  ·refine go 3 ?_
   refine ret_e (fun hr_ => ?_)
   subst hr_
   exact ret_ Tryz.func158 []
  ·refine go 4 ?_
   exact fun h => good_again hl0 (by omega) ⟨_, ⟨by omega, _, rfl, h⟩, frle_, memle_⟩
 ·refine go 7 ?_
  refine ret_e (fun hr_ => ?_)
  subst hr_
  exact ret_ Tryz.func158 []
mutual
def impl_nodeAt.l0 : Nat → Int → S31 → Int → Option (Int)
 | 0, _, _, _ => none
 | k + 1, v1, v0, v2 => (bif decide (v2 < (v0.f0.length : Int)) then ((ix v0.f0 v2).bind fun v4 => (bif (v4.f0 == v1) then (some v2) else (impl_nodeAt.l0 k v1 v0 (IntKind.i64.wrap (v2 + 1))))) else (some (-1)))
def impl_nodeAt.f : Nat → S31 → Int → Option (Int)
 | 0, _, _ => none
 | k + 1, v0, v1 => (impl_nodeAt.l0 k v1 v0 0)
end
set_option maxRecDepth 100000 in
set_option maxHeartbeats 4000000 in
theorem impl_nodeAt.con {K : Kn} [KOk K] {k : Nat} {v0 : S31} {v1 : Int} {r : Int} (h : impl_nodeAt.f k v0 v1 = some r) : Con K Tryz.prog 127 [.agg [.p (.lst false (List.map en94 v0.f0)), .p (.lst false (List.map en110 v0.f1))], .p (.int .i64 v1)] [] (.p (.int .i64 r)) [] := by
 cases k with
 | zero => exact absurd h (by simp [impl_nodeAt.f])
 | succ k =>
 rw [impl_nodeAt.f] at h
 refine con_intro 21 [] Tryz.func127 (by kernel_rfl) rfl rfl (by kernel_rfl) fun ι0 w0 hk0 => ?_
 revert h
 refine go 6 ?_
 refine fun h => good_loop (fun n st => n ≤ k ∧ ∃ (v2 : _) (g3 : Nat), st = ⟨[(1, .p (.int .i64 v1)), (8, .p (.lst false (List.map en94 v0.f0))), (9, .p (.int .i64 (v0.f0.length : Int))), (10, .p (.int .i64 v2))], [(2, (1, .gone)), (6, (g3, .gone))]⟩ ∧ impl_nodeAt.l0 n v1 v0 v2 = some r) k ⟨_, ⟨Nat.le_refl _, _, 0, rfl, h⟩, frle_, memle_⟩ ?_
 clear h
 rintro n _ ⟨hkl0, v2, g3, rfl, h⟩ hl0
 cases n with
 | zero => exact absurd h (by simp [impl_nodeAt.l0])
 | succ kl0 =>
 rw [impl_nodeAt.l0] at h
 revert h
 refine bif_e (fun c1 => ?_) (fun c1 => ?_)
 ·refine bind_e (fun v4 e4 => ?_)
  replace e4 := nf_ (ix_en en94 e4)
  refine bif_e (fun c2 => ?_) (fun c2 => ?_)
  ·refine go 14 ?_
   refine ret_e (fun hr_ => ?_)
   subst hr_
   exact ret_ Tryz.func127 []
  ·refine go 15 ?_
   exact fun h => good_again hl0 (by omega) ⟨_, ⟨by omega, _, g3 + 1, rfl, h⟩, frle_, memle_⟩
 ·refine go 7 ?_
  refine ret_e (fun hr_ => ?_)
  subst hr_
  exact ret_ Tryz.func127 []
mutual
def impl_nodesOk.l0 : Nat → (List Int) → Int → S31 → Option (Bool)
 | 0, _, _, _ => none
 | k + 1, v1, v2, v0 => (bif decide (v2 < (v1.length : Int)) then ((ix v1 v2).bind fun v4 => ((impl_nodeAt.f k v0 v4).bind fun v5 => (bif decide (v5 < 0) then (some false) else (impl_nodesOk.l0 k v1 (IntKind.i64.wrap (v2 + 1)) v0)))) else ((impl_rises.f k v1).bind fun v3 => (some v3)))
def impl_nodesOk.f : Nat → S31 → (List Int) → Option (Bool)
 | 0, _, _ => none
 | k + 1, v0, v1 => (impl_nodesOk.l0 k v1 0 v0)
end
set_option maxRecDepth 100000 in
set_option maxHeartbeats 4000000 in
theorem impl_nodesOk.con {K : Kn} [KOk K] {k : Nat} {v0 : S31} {v1 : (List Int)} {r : Bool} (h : impl_nodesOk.f k v0 v1 = some r) : Con K Tryz.prog 128 [.agg [.p (.lst false (List.map en94 v0.f0)), .p (.lst false (List.map en110 v0.f1))], .p (.lst false (List.map (irow .i64) v1))] [] (.p (.bool r)) [] := by
 cases k with
 | zero => exact absurd h (by simp [impl_nodesOk.f])
 | succ k =>
 rw [impl_nodesOk.f] at h
 refine con_intro 20 [] Tryz.func128 (by kernel_rfl) rfl rfl (by kernel_rfl) fun ι0 w0 hk0 => ?_
 revert h
 refine go 6 ?_
 refine fun h => good_loop (fun n st => n ≤ k ∧ ∃ (v2 : _), st = ⟨[(1, .p (.lst false (List.map (irow .i64) v1))), (2, .ptr 2 1 0), (7, .p (.lst false (List.map (irow .i64) v1))), (8, .p (.int .i64 (v1.length : Int))), (9, .p (.int .i64 v2))], [(2, (1, .cells [.p (.lst false (List.map en94 v0.f0)), .p (.lst false (List.map en110 v0.f1))]))]⟩ ∧ impl_nodesOk.l0 n v1 v2 v0 = some r) k ⟨_, ⟨Nat.le_refl _, _, rfl, h⟩, frle_, memle_⟩ ?_
 clear h
 rintro n _ ⟨hkl0, v2, rfl, h⟩ hl0
 cases n with
 | zero => exact absurd h (by simp [impl_nodesOk.l0])
 | succ kl0 =>
 rw [impl_nodesOk.l0] at h
 revert h
 refine bif_e (fun c1 => ?_) (fun c1 => ?_)
 ·refine bind_e (fun v4 e4 => ?_)
  replace e4 := nf_ (ix_en (irow .i64) e4)
  refine go 10 ?_
  refine grs ?_
  refine gr_run ?_
  refine bind_e (fun v5 e5 => gr_call [] (impl_nodeAt.con e5) ?_)
  clear e5
  refine gr_run ?_
  refine gr_done ?_
  refine bif_e (fun c2 => ?_) (fun c2 => ?_)
  ·refine go 3 ?_
   refine ret_e (fun hr_ => ?_)
   subst hr_
   exact ret_ Tryz.func128 []
  ·refine go 4 ?_
   exact fun h => good_again hl0 (by omega) ⟨_, ⟨by omega, _, rfl, h⟩, frle_, memle_⟩
 ·refine go 6 ?_
  refine grs ?_
  refine gr_run ?_
  refine bind_e (fun v3 e3 => gr_call [] (impl_rises.con e3) ?_)
  clear e3
  refine gr_run ?_
  refine gr_done ?_
  refine ret_e (fun hr_ => ?_)
  subst hr_
  exact ret_ Tryz.func128 []
mutual
def slices_Index.l0 : Nat → (List ByteArray) → ByteArray → Int → Option (Int)
 | 0, _, _, _ => none
 | k + 1, v0, v1, v2 => (bif decide (v2 < (v0.length : Int)) then ((ix v0 v2).bind fun v3 => (bif decide (v1 = v3) then (some v2) else (slices_Index.l0 k v0 v1 (IntKind.i64.wrap (v2 + 1))))) else (some (-1)))
def slices_Index.f : Nat → (List ByteArray) → ByteArray → Option (Int)
 | 0, _, _ => none
 | k + 1, v0, v1 => (slices_Index.l0 k v0 v1 0)
end
set_option maxRecDepth 100000 in
set_option maxHeartbeats 4000000 in
theorem slices_Index.con {K : Kn} [KOk K] {k : Nat} {v0 : (List ByteArray)} {v1 : ByteArray} {r : Int} (h : slices_Index.f k v0 v1 = some r) : Con K Tryz.prog 184 [.p (.lst false (List.map srw v0)), .p (.str v1)] [] (.p (.int .i64 r)) [] := by
 cases k with
 | zero => exact absurd h (by simp [slices_Index.f])
 | succ k =>
 rw [slices_Index.f] at h
 refine con_intro 19 [] Tryz.func184 (by kernel_rfl) rfl rfl (by kernel_rfl) fun ι0 w0 hk0 => ?_
 revert h
 refine go 6 ?_
 refine fun h => good_loop (fun n st => n ≤ k ∧ ∃ (v2 : _), st = ⟨[(0, .p (.lst false (List.map srw v0))), (1, .p (.str v1)), (7, .p (.int .i64 (v0.length : Int))), (8, .p (.int .i64 v2))], []⟩ ∧ slices_Index.l0 n v0 v1 v2 = some r) k ⟨_, ⟨Nat.le_refl _, _, rfl, h⟩, frle_, memle_⟩ ?_
 clear h
 rintro n _ ⟨hkl0, v2, rfl, h⟩ hl0
 cases n with
 | zero => exact absurd h (by simp [slices_Index.l0])
 | succ kl0 =>
 rw [slices_Index.l0] at h
 revert h
 refine bif_e (fun c1 => ?_) (fun c1 => ?_)
 ·refine bind_e (fun v3 e3 => ?_)
  replace e3 := nf_ (ix_en srw e3)
  refine bif_e (fun c2 => ?_) (fun c2 => ?_)
  ·refine go 14 ?_
   refine ret_e (fun hr_ => ?_)
   subst hr_
   exact ret_ Tryz.func184 []
  ·refine go 15 ?_
   exact fun h => good_again hl0 (by omega) ⟨_, ⟨by omega, _, rfl, h⟩, frle_, memle_⟩
 ·refine go 7 ?_
  refine ret_e (fun hr_ => ?_)
  subst hr_
  exact ret_ Tryz.func184 []
def slices_Contains.f (k : Nat) (v0 : (List ByteArray)) (v1 : ByteArray) : Option (Bool) := ((slices_Index.f k v0 v1).bind fun v2 => (some (decide (0 ≤ v2))))
set_option maxRecDepth 100000 in
set_option maxHeartbeats 4000000 in
theorem slices_Contains.con {K : Kn} [KOk K] {k : Nat} {v0 : (List ByteArray)} {v1 : ByteArray} {r : Bool} (h : slices_Contains.f k v0 v1 = some r) : Con K Tryz.prog 139 [.p (.lst false (List.map srw v0)), .p (.str v1)] [] (.p (.bool r)) [] := by
 rw [slices_Contains.f] at h
 refine con_intro 9 [] Tryz.func139 (by kernel_rfl) rfl rfl (by kernel_rfl) fun ι0 w0 hk0 => ?_
 revert h
 refine go 3 ?_
 refine grs ?_
 refine gr_run ?_
 refine bind_e (fun v2 e2 => gr_call [] (slices_Index.con e2) ?_)
 clear e2
 refine gr_run ?_
 refine gr_done ?_
 refine ret_e (fun hr_ => ?_)
 subst hr_
 exact ret_ Tryz.func139 []
def impl_hasLabel.f (k : Nat) (v0 : S94) (v1 : ByteArray) : Option (Bool) := ((slices_Contains.f k v0.f1 v1).bind fun v2 => (some v2))
set_option maxRecDepth 100000 in
set_option maxHeartbeats 4000000 in
theorem impl_hasLabel.con {K : Kn} [KOk K] {k : Nat} {v0 : S94} {v1 : ByteArray} {r : Bool} (h : impl_hasLabel.f k v0 v1 = some r) : Con K Tryz.prog 100 [.agg [.p (.int .i64 v0.f0), .p (.lst false (List.map srw v0.f1)), .p (.lst false (List.map en193 v0.f2))], .p (.str v1)] [] (.p (.bool r)) [] := by
 rw [impl_hasLabel.f] at h
 refine con_intro 9 [] Tryz.func100 (by kernel_rfl) rfl rfl (by kernel_rfl) fun ι0 w0 hk0 => ?_
 revert h
 refine go 3 ?_
 refine grs ?_
 refine gr_run ?_
 refine bind_e (fun v2 e2 => gr_call [] (slices_Contains.con e2) ?_)
 clear e2
 refine gr_run ?_
 refine gr_done ?_
 refine ret_e (fun hr_ => ?_)
 subst hr_
 exact ret_ Tryz.func100 []
mutual
def impl_newPairing.j0 : Nat → ByteArray → S31 → Int → (List (Int × Bool)) → Option (((List S110) × (List (Int × Bool)) × (List (Int × Bool)) × (List (Int × Int))))
 | 0, _, _, _, _ => none
 | k + 1, v1, v0, v2, v7 => (impl_newPairing.l0 k v1 v0 (IntKind.i64.wrap (v2 + 1)) v7)
def impl_newPairing.l1 : Nat → S31 → Int → (List (Int × Bool)) → (List S110) → Option (((List S110) × (List (Int × Bool)) × (List (Int × Bool)) × (List (Int × Int))))
 | 0, _, _, _, _ => none
 | k + 1, v0, v8, v3, v9 => (bif decide (v8 < (v0.f1.length : Int)) then ((ix v0.f1 v8).bind fun v12 => (bif ((tget v3 v12.f2 false) == (tget v3 v12.f3 false)) then (impl_newPairing.l1 k v0 (IntKind.i64.wrap (v8 + 1)) v3 v9) else ((app v9 ([v12] : List S110)).bind fun v13 => (impl_newPairing.l1 k v0 (IntKind.i64.wrap (v8 + 1)) v3 v13)))) else (some (v9, v3, ([] : List (Int × Bool)), ([] : List (Int × Int)))))
def impl_newPairing.l0 : Nat → ByteArray → S31 → Int → (List (Int × Bool)) → Option (((List S110) × (List (Int × Bool)) × (List (Int × Bool)) × (List (Int × Int))))
 | 0, _, _, _, _ => none
 | k + 1, v1, v0, v2, v3 => (bif decide (v2 < (v0.f0.length : Int)) then ((ix v0.f0 v2).bind fun v5 => ((impl_hasLabel.f k v5 v1).bind fun v6 => (bif v6 then (impl_newPairing.j0 k v1 v0 v2 (tput v3 v5.f0 true)) else (impl_newPairing.j0 k v1 v0 v2 v3)))) else (impl_newPairing.l1 k v0 0 v3 []))
def impl_newPairing.f : Nat → S31 → ByteArray → Option (((List S110) × (List (Int × Bool)) × (List (Int × Bool)) × (List (Int × Int))))
 | 0, _, _ => none
 | k + 1, v0, v1 => (impl_newPairing.l0 k v1 v0 0 ([] : List (Int × Bool)))
end
set_option maxRecDepth 100000 in
set_option maxHeartbeats 4000000 in
theorem impl_newPairing.con {K : Kn} [KOk K] {k : Nat} {v0 : S31} {v1 : ByteArray} {r : ((List S110) × (List (Int × Bool)) × (List (Int × Bool)) × (List (Int × Int)))} (h : impl_newPairing.f k v0 v1 = some r) : Con K Tryz.prog 159 [.agg [.p (.lst false (List.map en94 v0.f0)), .p (.lst false (List.map en110 v0.f1))], .p (.str v1)] [] (.ptr 2000 1 0) [(2000, (1, .cells [.p (.lst false (List.map en110 r.1)), .mp 2101 1, .mp 2102 1, .mp 2103 1])), (2101, (1, .map (.int .i64) false (List.map (ei .i64 brw) r.2.1))), (2102, (1, .map (.int .i64) false (List.map (ei .i64 brw) r.2.2.1))), (2103, (1, .map (.int .i64) false (List.map (ei .i64 (irow .i64)) r.2.2.2)))] := by
 cases k with
 | zero => exact absurd h (by simp [impl_newPairing.f])
 | succ k =>
 rw [impl_newPairing.f] at h
 refine con_intro 66 [] Tryz.func159 (by kernel_rfl) rfl rfl (by kernel_rfl) fun ι0 w0 hk0 => ?_
 revert h
 refine go 8 ?_
 refine fun h => good_loop (fun n st => n ≤ k ∧ ∃ (v2 : _) (v3 : _) (g4 : Nat), st = ⟨[(1, .p (.str v1)), (2, .ptr 2 1 0), (5, .ptr 14 1 0), (16, .p (.lst false (List.map en94 v0.f0))), (17, .p (.int .i64 (v0.f0.length : Int))), (18, .p (.int .i64 v2))], [(2, (1, .cells [.p (.lst false (List.map en94 v0.f0)), .p (.lst false (List.map en110 v0.f1))])), (10, (1, .map (.int .i64) false (List.map (ei .i64 brw) v3))), (11, (1, .map (.int .i64) false (List.map (ei .i64 brw) ([] : List (Int × Bool))))), (12, (1, .map (.int .i64) false (List.map (ei .i64 (irow .i64)) ([] : List (Int × Int))))), (14, (1, .cells [.p .nilS, .mp 10 1, .mp 11 1, .mp 12 1])), (7, (g4, .gone))]⟩ ∧ impl_newPairing.l0 n v1 v0 v2 v3 = some r) k ⟨_, ⟨Nat.le_refl _, _, _, 0, rfl, h⟩, frle_, memle_⟩ ?_
 clear h
 rintro n _ ⟨hkl0, v2, v3, g4, rfl, h⟩ hl0
 cases n with
 | zero => exact absurd h (by simp [impl_newPairing.l0])
 | succ kl0 =>
 rw [impl_newPairing.l0] at h
 revert h
 refine bif_e (fun c1 => ?_) (fun c1 => ?_)
 ·refine go 6 ?_
  refine good_cut (fun st => ∃ (v7 : _) (q_ : Nat), q_ ≤ kl0 ∧ st = ⟨[(1, .p (.str v1)), (2, .ptr 2 1 0), (5, .ptr 14 1 0), (16, .p (.lst false (List.map en94 v0.f0))), (17, .p (.int .i64 (v0.f0.length : Int))), (18, .p (.int .i64 v2))], [(2, (1, .cells [.p (.lst false (List.map en94 v0.f0)), .p (.lst false (List.map en110 v0.f1))])), (10, (1, .map (.int .i64) false (List.map (ei .i64 brw) v7))), (11, (1, .map (.int .i64) false (List.map (ei .i64 brw) ([] : List (Int × Bool))))), (12, (1, .map (.int .i64) false (List.map (ei .i64 (irow .i64)) ([] : List (Int × Int))))), (14, (1, .cells [.p .nilS, .mp 10 1, .mp 11 1, .mp 12 1])), (7, (g4 + 1, .gone))]⟩ ∧ impl_newPairing.j0 q_ v1 v0 v2 v7 = some r) ?_ (fun hj0 => ?_)
  ·clear c1
   rintro _ ⟨v7, q_, hqj0, rfl, h⟩
   cases q_ with
   | zero => exact absurd h (by simp [impl_newPairing.j0])
   | succ kj0 =>
   rw [impl_newPairing.j0] at h
   revert h
   refine go 1 ?_
   exact fun h => good_again hl0 (by omega) ⟨_, ⟨by omega, _, _, g4 + 1, rfl, h⟩, frle_, memle_⟩
  ·refine bind_e (fun v5 e5 => ?_)
   replace e5 := nf_ (ix_en en94 e5)
   refine go 4 ?_
   refine grs ?_
   refine gr_run ?_
   refine bind_e (fun v6 e6 => gr_call [] (impl_hasLabel.con e6) ?_)
   clear e6
   refine gr_done ?_
   refine bif_e (fun c2 => ?_) (fun c2 => ?_)
   ·refine go 1 ?_
    refine grs ?_
    refine gr_run ?_
    refine gr_done ?_
    refine go 1 ?_
    exact fun h => good_jump hj0 ⟨_, ⟨_, _, by omega, rfl, h⟩, frle_, memle_⟩
   ·refine go 3 ?_
    exact fun h => good_jump hj0 ⟨_, ⟨_, _, by omega, rfl, h⟩, frle_, memle_⟩
 ·refine go 9 ?_
  refine adoptc_ 14 0 61 5 ?_
  refine fun h => good_loop (fun n st => n ≤ kl0 ∧ ∃ (v8 : _) (v9 : _) (g10 : Nat) (g11 : Nat), st = ⟨[(5, .ptr 14 1 0), (33, .p (.lst false (List.map en110 v0.f1))), (34, .p (.int .i64 (v0.f1.length : Int))), (35, .p (.int .i64 v8))], [(2, (1, .gone)), (10, (1, .map (.int .i64) false (List.map (ei .i64 brw) v3))), (11, (1, .map (.int .i64) false (List.map (ei .i64 brw) ([] : List (Int × Bool))))), (12, (1, .map (.int .i64) false (List.map (ei .i64 (irow .i64)) ([] : List (Int × Int))))), (14, (1, .cells [.tip 61 g11 (List.map en110 v9), .mp 10 1, .mp 11 1, .mp 12 1])), (7, (g4, .gone)), (9, (g10, .gone)), (61, (g11, .tip 5 (v9).length))]⟩ ∧ impl_newPairing.l1 n v0 v8 v3 v9 = some r) kl0 ⟨_, ⟨Nat.le_refl _, _, _, 0, 1, rfl, h⟩, frle_, memle_⟩ ?_
  clear c1
  clear h
  rintro n _ ⟨hkl1, v8, v9, g10, g11, rfl, h⟩ hl1
  cases n with
  | zero => exact absurd h (by simp [impl_newPairing.l1])
  | succ kl1 =>
  rw [impl_newPairing.l1] at h
  revert h
  refine bif_e (fun c3 => ?_) (fun c3 => ?_)
  ·refine bind_e (fun v12 e12 => ?_)
   replace e12 := nf_ (ix_en en110 e12)
   refine go 10 ?_
   refine grs ?_
   refine gr_run ?_
   refine gr_done ?_
   refine bif_e (fun c4 => ?_) (fun c4 => ?_)
   ·refine go 4 ?_
    exact fun h => good_again hl1 (by omega) ⟨_, ⟨by omega, _, _, g10 + 1, g11, rfl, h⟩, frle_, memle_⟩
   ·refine bind_e (fun v13 e13 => ?_)
    replace e13 := nf_ (app_en en110 e13)
    refine go 1 ?_
    refine grs ?_
    refine gr_run ?_
    refine gr_done ?_
    refine go 2 ?_
    exact fun h => good_again hl1 (by omega) ⟨_, ⟨by omega, _, _, g10 + 1, g11, rfl, h⟩, frle_, memle_⟩
  ·refine go 7 ?_
   refine ret_e (fun hr_ => ?_)
   subst hr_
   exact ret_ Tryz.func159 [(2000, (1, 14, 1)), (2101, (1, 10, 1)), (2102, (1, 11, 1)), (2103, (1, 12, 1))]
def impl_matchingOk_1.f (k : Nat) (v0 : S110) (v1 : Int) : Option (Bool × Int) := (some ((v0.f0 == v1), v1))
set_option maxRecDepth 100000 in
set_option maxHeartbeats 4000000 in
theorem impl_matchingOk_1.con {K : Kn} [KOk K] {k : Nat} {v0 : S110} {v1 : Int} {r : Bool × Int} (h : impl_matchingOk_1.f k v0 v1 = some r) : Con K Tryz.prog 161 [.agg [.p (.int .i64 v0.f0), .p (.str v0.f1), .p (.int .i64 v0.f2), .p (.int .i64 v0.f3), .p (.lst false (List.map en193 v0.f4))], .ptr 1000 0 0] [(1000, (0, .cells [.p (.int .i64 v1)]))] (.p (.bool r.1)) [(1000, (0, .cells [.p (.int .i64 r.2)]))] := by
 rw [impl_matchingOk_1.f] at h
 refine con_intro 8 [] Tryz.func161 (by kernel_rfl) rfl rfl (by kernel_rfl) fun ι0 w0 hk0 => ?_
 revert h
 refine go 4 ?_
 refine ret_e (fun hr_ => ?_)
 subst hr_
 exact ret_ Tryz.func161 [(1000, (0, 1000, 0))]
mutual
def slices_IndexFunc.l0 : Nat → (List S110) → Int → Int → Option (Int × Int)
 | 0, _, _, _ => none
 | k + 1, v0, v2, v3 => (bif decide (v2 < (v0.length : Int)) then ((ix v0 v2).bind fun v4 => ((impl_matchingOk_1.f k v4 v3).bind fun v5 => (bif v5.1 then (some (v2, v5.2)) else (slices_IndexFunc.l0 k v0 (IntKind.i64.wrap (v2 + 1)) v5.2)))) else (some ((-1), v3)))
def slices_IndexFunc.f : Nat → (List S110) → Int → Option (Int × Int)
 | 0, _, _ => none
 | k + 1, v0, v1 => (slices_IndexFunc.l0 k v0 0 v1)
end
set_option maxRecDepth 100000 in
set_option maxHeartbeats 4000000 in
theorem slices_IndexFunc.con {K : Kn} [KOk K] {k : Nat} {v0 : (List S110)} {v1 : Int} {r : Int × Int} (h : slices_IndexFunc.f k v0 v1 = some r) : Con K Tryz.prog 160 [.p (.lst false (List.map en110 v0)), .clo 161 [] [.ptr 1000 0 0]] [(1000, (0, .cells [.p (.int .i64 v1)]))] (.p (.int .i64 r.1)) [(1000, (0, .cells [.p (.int .i64 r.2)]))] := by
 cases k with
 | zero => exact absurd h (by simp [slices_IndexFunc.f])
 | succ k =>
 rw [slices_IndexFunc.f] at h
 refine con_intro 19 [] Tryz.func160 (by kernel_rfl) rfl rfl (by kernel_rfl) fun ι0 w0 hk0 => ?_
 revert h
 refine go 6 ?_
 refine fun h => good_loop (fun n st => n ≤ k ∧ ∃ (v2 : _) (v3 : _), st = ⟨[(0, .p (.lst false (List.map en110 v0))), (1, .clo 161 [] [.ptr 1000 0 0]), (7, .p (.int .i64 (v0.length : Int))), (8, .p (.int .i64 v2))], [(1000, (0, .cells [.p (.int .i64 v3)]))]⟩ ∧ slices_IndexFunc.l0 n v0 v2 v3 = some r) k ⟨_, ⟨Nat.le_refl _, _, _, rfl, h⟩, frle_, memle_⟩ ?_
 clear h
 rintro n _ ⟨hkl0, v2, v3, rfl, h⟩ hl0
 cases n with
 | zero => exact absurd h (by simp [slices_IndexFunc.l0])
 | succ kl0 =>
 rw [slices_IndexFunc.l0] at h
 revert h
 refine bif_e (fun c1 => ?_) (fun c1 => ?_)
 ·refine bind_e (fun v4 e4 => ?_)
  replace e4 := nf_ (ix_en en110 e4)
  refine go 10 ?_
  refine grs ?_
  refine gr_run ?_
  refine bind_e (fun v5 e5 => gr_call [(1000, (0, 1000, 0))] (impl_matchingOk_1.con e5) ?_)
  clear e5
  refine gr_done ?_
  refine bif_e (fun c2 => ?_) (fun c2 => ?_)
  ·refine go 3 ?_
   refine ret_e (fun hr_ => ?_)
   subst hr_
   exact ret_ Tryz.func160 [(1000, (0, 1000, 0))]
  ·refine go 4 ?_
   exact fun h => good_again hl0 (by omega) ⟨_, ⟨by omega, _, _, rfl, h⟩, frle_, memle_⟩
 ·refine go 7 ?_
  refine ret_e (fun hr_ => ?_)
  subst hr_
  exact ret_ Tryz.func160 [(1000, (0, 1000, 0))]
mutual
def slices_Index_1.l0 : Nat → (List Int) → Int → Int → Option (Int)
 | 0, _, _, _ => none
 | k + 1, v0, v1, v2 => (bif decide (v2 < (v0.length : Int)) then ((ix v0 v2).bind fun v3 => (bif (v1 == v3) then (some v2) else (slices_Index_1.l0 k v0 v1 (IntKind.i64.wrap (v2 + 1))))) else (some (-1)))
def slices_Index_1.f : Nat → (List Int) → Int → Option (Int)
 | 0, _, _ => none
 | k + 1, v0, v1 => (slices_Index_1.l0 k v0 v1 0)
end
set_option maxRecDepth 100000 in
set_option maxHeartbeats 4000000 in
theorem slices_Index_1.con {K : Kn} [KOk K] {k : Nat} {v0 : (List Int)} {v1 : Int} {r : Int} (h : slices_Index_1.f k v0 v1 = some r) : Con K Tryz.prog 176 [.p (.lst false (List.map (irow .i64) v0)), .p (.int .i64 v1)] [] (.p (.int .i64 r)) [] := by
 cases k with
 | zero => exact absurd h (by simp [slices_Index_1.f])
 | succ k =>
 rw [slices_Index_1.f] at h
 refine con_intro 19 [] Tryz.func176 (by kernel_rfl) rfl rfl (by kernel_rfl) fun ι0 w0 hk0 => ?_
 revert h
 refine go 6 ?_
 refine fun h => good_loop (fun n st => n ≤ k ∧ ∃ (v2 : _), st = ⟨[(0, .p (.lst false (List.map (irow .i64) v0))), (1, .p (.int .i64 v1)), (7, .p (.int .i64 (v0.length : Int))), (8, .p (.int .i64 v2))], []⟩ ∧ slices_Index_1.l0 n v0 v1 v2 = some r) k ⟨_, ⟨Nat.le_refl _, _, rfl, h⟩, frle_, memle_⟩ ?_
 clear h
 rintro n _ ⟨hkl0, v2, rfl, h⟩ hl0
 cases n with
 | zero => exact absurd h (by simp [slices_Index_1.l0])
 | succ kl0 =>
 rw [slices_Index_1.l0] at h
 revert h
 refine bif_e (fun c1 => ?_) (fun c1 => ?_)
 ·refine bind_e (fun v3 e3 => ?_)
  replace e3 := nf_ (ix_en (irow .i64) e3)
  refine bif_e (fun c2 => ?_) (fun c2 => ?_)
  ·refine go 14 ?_
   refine ret_e (fun hr_ => ?_)
   subst hr_
   exact ret_ Tryz.func176 []
  ·refine go 15 ?_
   exact fun h => good_again hl0 (by omega) ⟨_, ⟨by omega, _, rfl, h⟩, frle_, memle_⟩
 ·refine go 7 ?_
  refine ret_e (fun hr_ => ?_)
  subst hr_
  exact ret_ Tryz.func176 []
def slices_Contains_1.f (k : Nat) (v0 : (List Int)) (v1 : Int) : Option (Bool) := ((slices_Index_1.f k v0 v1).bind fun v2 => (some (decide (0 ≤ v2))))
set_option maxRecDepth 100000 in
set_option maxHeartbeats 4000000 in
theorem slices_Contains_1.con {K : Kn} [KOk K] {k : Nat} {v0 : (List Int)} {v1 : Int} {r : Bool} (h : slices_Contains_1.f k v0 v1 = some r) : Con K Tryz.prog 129 [.p (.lst false (List.map (irow .i64) v0)), .p (.int .i64 v1)] [] (.p (.bool r)) [] := by
 rw [slices_Contains_1.f] at h
 refine con_intro 9 [] Tryz.func129 (by kernel_rfl) rfl rfl (by kernel_rfl) fun ι0 w0 hk0 => ?_
 revert h
 refine go 3 ?_
 refine grs ?_
 refine gr_run ?_
 refine bind_e (fun v2 e2 => gr_call [] (slices_Index_1.con e2) ?_)
 clear e2
 refine gr_run ?_
 refine gr_done ?_
 refine ret_e (fun hr_ => ?_)
 subst hr_
 exact ret_ Tryz.func129 []
mutual
def impl_matchingOk.l1 : Nat → ((List S110) × (List (Int × Bool)) × (List (Int × Bool)) × (List (Int × Int))) → Int → S80 → Option (Bool)
 | 0, _, _, _ => none
 | k + 1, v6, v14, v2 => (bif decide (v14 < (v6.1.length : Int)) then ((ix v6.1 v14).bind fun v16 => ((slices_Contains_1.f k v2.f2 v16.f2).bind fun v17 => (bif v17 then (impl_matchingOk.l1 k v6 (IntKind.i64.wrap (v14 + 1)) v2) else ((slices_Contains_1.f k v2.f2 v16.f3).bind fun v18 => (bif v18 then (impl_matchingOk.l1 k v6 (IntKind.i64.wrap (v14 + 1)) v2) else (some false)))))) else (some true))
def impl_matchingOk.l0 : Nat → S80 → Int → ((List S110) × (List (Int × Bool)) × (List (Int × Bool)) × (List (Int × Int))) → (List (Int × Int)) → Option (Bool)
 | 0, _, _, _, _ => none
 | k + 1, v2, v7, v6, v8 => (bif decide (v7 < (v2.f1.length : Int)) then ((ix v2.f1 v7).bind fun v11 => ((slices_IndexFunc.f k v6.1 v11).bind fun v12 => (bif decide (v12.1 < 0) then (some false) else ((ix v6.1 v12.1).bind fun v13 => (bif decide (1 < (tget (tput (tput v8 v13.f2 (IntKind.i64.wrap ((tget v8 v13.f2 0) + 1))) v13.f3 (IntKind.i64.wrap ((tget (tput v8 v13.f2 (IntKind.i64.wrap ((tget v8 v13.f2 0) + 1))) v13.f3 0) + 1))) v13.f2 0)) then (some false) else (bif decide (1 < (tget (tput (tput v8 v13.f2 (IntKind.i64.wrap ((tget v8 v13.f2 0) + 1))) v13.f3 (IntKind.i64.wrap ((tget (tput v8 v13.f2 (IntKind.i64.wrap ((tget v8 v13.f2 0) + 1))) v13.f3 0) + 1))) v13.f3 0)) then (some false) else (impl_matchingOk.l0 k v2 (IntKind.i64.wrap (v7 + 1)) v6 (tput (tput v8 v13.f2 (IntKind.i64.wrap ((tget v8 v13.f2 0) + 1))) v13.f3 (IntKind.i64.wrap ((tget (tput v8 v13.f2 (IntKind.i64.wrap ((tget v8 v13.f2 0) + 1))) v13.f3 0) + 1)))))))))) else (impl_matchingOk.l1 k v6 0 v2))
def impl_matchingOk.f : Nat → S31 → ByteArray → S80 → Option (Bool)
 | 0, _, _, _ => none
 | k + 1, v0, v1, v2 => (bif decide (65536 < (v1.size : Int)) then (some false) else ((impl_graphOk.f k v0).bind fun v3 => (bif v3 then (bif (v2.f0 == 0) then ((impl_rises.f k v2.f1).bind fun v4 => (bif v4 then ((impl_nodesOk.f k v0 v2.f2).bind fun v5 => (bif v5 then (bif ((v2.f1.length : Int) == (v2.f2.length : Int)) then ((impl_newPairing.f k v0 v1).bind fun v6 => (impl_matchingOk.l0 k v2 0 v6 ([] : List (Int × Int)))) else (some false)) else (some false))) else (some false))) else (some false)) else (some false))))
end
set_option maxRecDepth 100000 in
set_option maxHeartbeats 4000000 in
theorem impl_matchingOk.con {K : Kn} [KOk K] {k : Nat} {v0 : S31} {v1 : ByteArray} {v2 : S80} {r : Bool} (h : impl_matchingOk.f k v0 v1 v2 = some r) : Con K Tryz.prog 107 [.agg [.p (.lst false (List.map en94 v0.f0)), .p (.lst false (List.map en110 v0.f1))], .p (.str v1), .agg [.p (.int .i64 v2.f0), .p (.lst false (List.map (irow .i64) v2.f1)), .p (.lst false (List.map (irow .i64) v2.f2))]] [] (.p (.bool r)) [] := by
 cases k with
 | zero => exact absurd h (by simp [impl_matchingOk.f])
 | succ k =>
 rw [impl_matchingOk.f] at h
 refine con_intro 123 [] Tryz.func107 (by kernel_rfl) rfl rfl (by kernel_rfl) fun ι0 w0 hk0 => ?_
 revert h
 refine bif_e (fun c1 => ?_) (fun c1 => ?_)
 ·refine go 8 ?_
  refine ret_e (fun hr_ => ?_)
  subst hr_
  exact ret_ Tryz.func107 []
 ·refine go 4 ?_
  refine grs ?_
  refine gr_run ?_
  refine bind_e (fun v3 e3 => gr_call [] (impl_graphOk.con e3) ?_)
  clear e3
  refine bif_e (fun c2 => ?_) (fun c2 => ?_)
  ·refine bif_e (fun c3 => ?_) (fun c3 => ?_)
   ·refine gr_run ?_
    refine bind_e (fun v4 e4 => gr_call [] (impl_rises.con e4) ?_)
    clear e4
    refine bif_e (fun c4 => ?_) (fun c4 => ?_)
    ·refine gr_run ?_
     refine bind_e (fun v5 e5 => gr_call [] (impl_nodesOk.con e5) ?_)
     clear e5
     refine bif_e (fun c5 => ?_) (fun c5 => ?_)
     ·refine gr_run ?_
      refine gr_done ?_
      refine bif_e (fun c6 => ?_) (fun c6 => ?_)
      ·refine go 3 ?_
       refine grs ?_
       refine gr_run ?_
       refine bind_e (fun v6 e6 => gr_call [(2000, (1, 52, 1)), (2101, (1, 152001, 1)), (2102, (1, 152002, 1)), (2103, (1, 152003, 1))] (impl_newPairing.con e6) ?_)
       clear e6
       refine gr_run ?_
       refine gr_done ?_
       refine go 6 ?_
       refine fun h => good_loop (fun n st => n ≤ k ∧ ∃ (v7 : _) (v8 : _) (g9 : Nat) (g10 : Nat), st = ⟨[(5, .ptr 5 1 0), (7, .ptr 52 1 0), (8, .mp 53 1), (55, .p (.lst false (List.map (irow .i64) v2.f1))), (56, .p (.int .i64 (v2.f1.length : Int))), (57, .p (.int .i64 v7))], [(3, (1, .gone)), (5, (1, .cells [.p (.int .i64 v2.f0), .p (.lst false (List.map (irow .i64) v2.f1)), .p (.lst false (List.map (irow .i64) v2.f2))])), (152001, (1, .map (.int .i64) false (List.map (ei .i64 brw) v6.2.1))), (152002, (1, .map (.int .i64) false (List.map (ei .i64 brw) v6.2.2.1))), (152003, (1, .map (.int .i64) false (List.map (ei .i64 (irow .i64)) v6.2.2.2))), (52, (1, .cells [.p (.lst false (List.map en110 v6.1)), .mp 152001 1, .mp 152002 1, .mp 152003 1])), (53, (1, .map (.int .i64) false (List.map (ei .i64 (irow .i64)) v8))), (10, (g9, .gone)), (12, (g10, .gone))]⟩ ∧ impl_matchingOk.l0 n v2 v7 v6 v8 = some r) k ⟨_, ⟨Nat.le_refl _, _, _, 0, 0, rfl, h⟩, frle_, memle_⟩ ?_
       clear c1 c2 c3 c4 c5 c6
       clear h
       rintro n _ ⟨hkl0, v7, v8, g9, g10, rfl, h⟩ hl0
       cases n with
       | zero => exact absurd h (by simp [impl_matchingOk.l0])
       | succ kl0 =>
       rw [impl_matchingOk.l0] at h
       revert h
       refine bif_e (fun c7 => ?_) (fun c7 => ?_)
       ·refine bind_e (fun v11 e11 => ?_)
        replace e11 := nf_ (ix_en (irow .i64) e11)
        refine go 10 ?_
        refine grs ?_
        refine gr_run ?_
        refine bind_e (fun v12 e12 => gr_call [(1000, (0, 10, g9 + 1))] (slices_IndexFunc.con e12) ?_)
        clear e12
        refine gr_run ?_
        refine gr_done ?_
        refine bif_e (fun c8 => ?_) (fun c8 => ?_)
        ·refine go 6 ?_
         refine ret_e (fun hr_ => ?_)
         subst hr_
         exact ret_ Tryz.func107 []
        ·refine bind_e (fun v13 e13 => ?_)
         replace e13 := nf_ (ix_en en110 e13)
         refine bif_e (fun c9 => ?_) (fun c9 => ?_)
         ·refine go 16 ?_
          refine ret_e (fun hr_ => ?_)
          subst hr_
          exact ret_ Tryz.func107 []
         ·refine bif_e (fun c10 => ?_) (fun c10 => ?_)
          ·refine go 16 ?_
           refine ret_e (fun hr_ => ?_)
           subst hr_
           exact ret_ Tryz.func107 []
          ·refine go 17 ?_
           exact fun h => good_again hl0 (by omega) ⟨_, ⟨by omega, _, _, g9 + 1, g10 + 1, rfl, h⟩, frle_, memle_⟩
       ·refine go 9 ?_
        refine fun h => good_loop (fun n st => n ≤ kl0 ∧ ∃ (v14 : _) (g15 : Nat), st = ⟨[(5, .ptr 5 1 0), (102, .p (.lst false (List.map en110 v6.1))), (103, .p (.int .i64 (v6.1.length : Int))), (104, .p (.int .i64 v14))], [(3, (1, .gone)), (5, (1, .cells [.p (.int .i64 v2.f0), .p (.lst false (List.map (irow .i64) v2.f1)), .p (.lst false (List.map (irow .i64) v2.f2))])), (152001, (1, .gone)), (152002, (1, .gone)), (152003, (1, .gone)), (52, (1, .gone)), (53, (1, .gone)), (10, (g9, .gone)), (12, (g10, .gone)), (14, (g15, .gone))]⟩ ∧ impl_matchingOk.l1 n v6 v14 v2 = some r) kl0 ⟨_, ⟨Nat.le_refl _, _, 0, rfl, h⟩, frle_, memle_⟩ ?_
        clear c7
        clear h
        rintro n _ ⟨hkl1, v14, g15, rfl, h⟩ hl1
        cases n with
        | zero => exact absurd h (by simp [impl_matchingOk.l1])
        | succ kl1 =>
        rw [impl_matchingOk.l1] at h
        revert h
        refine bif_e (fun c11 => ?_) (fun c11 => ?_)
        ·refine bind_e (fun v16 e16 => ?_)
         replace e16 := nf_ (ix_en en110 e16)
         refine go 10 ?_
         refine grs ?_
         refine gr_run ?_
         refine bind_e (fun v17 e17 => gr_call [] (slices_Contains_1.con e17) ?_)
         clear e17
         refine bif_e (fun c12 => ?_) (fun c12 => ?_)
         ·refine gr_run ?_
          refine gr_done ?_
          refine go 4 ?_
          exact fun h => good_again hl1 (by omega) ⟨_, ⟨by omega, _, g15 + 1, rfl, h⟩, frle_, memle_⟩
         ·refine gr_run ?_
          refine bind_e (fun v18 e18 => gr_call [] (slices_Contains_1.con e18) ?_)
          clear e18
          refine gr_run ?_
          refine gr_done ?_
          refine bif_e (fun c13 => ?_) (fun c13 => ?_)
          ·refine go 4 ?_
           exact fun h => good_again hl1 (by omega) ⟨_, ⟨by omega, _, g15 + 1, rfl, h⟩, frle_, memle_⟩
          ·refine go 3 ?_
           refine ret_e (fun hr_ => ?_)
           subst hr_
           exact ret_ Tryz.func107 []
        ·refine go 7 ?_
         refine ret_e (fun hr_ => ?_)
         subst hr_
         exact ret_ Tryz.func107 []
      ·refine go 3 ?_
       refine ret_e (fun hr_ => ?_)
       subst hr_
       exact ret_ Tryz.func107 []
     ·refine gr_run ?_
      refine gr_done ?_
      refine go 3 ?_
      refine ret_e (fun hr_ => ?_)
      subst hr_
      exact ret_ Tryz.func107 []
    ·refine gr_run ?_
     refine gr_done ?_
     refine go 3 ?_
     refine ret_e (fun hr_ => ?_)
     subst hr_
     exact ret_ Tryz.func107 []
   ·refine gr_run ?_
    refine gr_done ?_
    refine go 3 ?_
    refine ret_e (fun hr_ => ?_)
    subst hr_
    exact ret_ Tryz.func107 []
  ·refine gr_run ?_
   refine gr_done ?_
   refine go 3 ?_
   refine ret_e (fun hr_ => ?_)
   subst hr_
   exact ret_ Tryz.func107 []
def impl_MatchingFault.f (k : Nat) (v0 : S31) (v1 : ByteArray) (v2 : S80) : Option (Int) := ((impl_matchingOk.f k v0 v1 v2).bind fun v3 => (bif v3 then (some 0) else (some 1)))
set_option maxRecDepth 100000 in
set_option maxHeartbeats 4000000 in
theorem impl_MatchingFault.con {K : Kn} [KOk K] {k : Nat} {v0 : S31} {v1 : ByteArray} {v2 : S80} {r : Int} (h : impl_MatchingFault.f k v0 v1 v2 = some r) : Con K Tryz.prog 51 [.agg [.p (.lst false (List.map en94 v0.f0)), .p (.lst false (List.map en110 v0.f1))], .p (.str v1), .agg [.p (.int .i64 v2.f0), .p (.lst false (List.map (irow .i64) v2.f1)), .p (.lst false (List.map (irow .i64) v2.f2))]] [] (.p (.int .i64 r)) [] := by
 rw [impl_MatchingFault.f] at h
 refine con_intro 12 [] Tryz.func51 (by kernel_rfl) rfl rfl (by kernel_rfl) fun ι0 w0 hk0 => ?_
 revert h
 refine go 4 ?_
 refine grs ?_
 refine gr_run ?_
 refine bind_e (fun v3 e3 => gr_call [] (impl_matchingOk.con e3) ?_)
 clear e3
 refine gr_run ?_
 refine gr_done ?_
 refine bif_e (fun c1 => ?_) (fun c1 => ?_)
 ·refine go 4 ?_
  refine ret_e (fun hr_ => ?_)
  subst hr_
  exact ret_ Tryz.func51 []
 ·refine go 3 ?_
  refine ret_e (fun hr_ => ?_)
  subst hr_
  exact ret_ Tryz.func51 []
end Go.Ab
