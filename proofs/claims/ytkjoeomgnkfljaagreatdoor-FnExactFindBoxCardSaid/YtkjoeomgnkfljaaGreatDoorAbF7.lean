/- What the functions compute, and their contracts, part 7. No condition beyond KOk. -/
import Derived.Test.YtkjoeomgnkfljaaGreatDoorAbX
import Derived.Test.YtkjoeomgnkfljaaGreatDoorAbF5
import Derived.Test.YtkjoeomgnkfljaaGreatDoorAbF6
namespace Go.Ab
open Go.Proofs
set_option linter.unusedVariables false
set_option linter.unusedSimpArgs false
def impl_fieldValue.f (k : Nat) (v0 : ByteArray) : Option (Bool) := ((impl_read.f k v0).bind fun v1 => (bif v1.2 then (bif (v1.1.f0 == 0) then (some false) else ((impl_val_wild.f k v1.1).bind fun v2 => (some (!v2)))) else (some false)))
set_option maxRecDepth 100000 in
set_option maxHeartbeats 4000000 in
theorem impl_fieldValue.con {K : Kn} [KOk K] {k : Nat} {v0 : ByteArray} {r : Bool} (h : impl_fieldValue.f k v0 = some r) : Con K Tryz.prog 190 [.p (.str v0)] [] (.p (.bool r)) [] := by
 rw [impl_fieldValue.f] at h
 refine con_intro 21 [] Tryz.func190 (by kernel_rfl) rfl rfl (by kernel_rfl) fun ι0 w0 hk0 => ?_
 revert h
 refine go 3 ?_
 refine grs ?_
 refine gr_run ?_
 refine bind_e (fun v1 e1 => gr_call [] (impl_read.con e1) ?_)
 clear e1
 refine gr_run ?_
 refine gr_done ?_
 refine bif_e (fun c1 => ?_) (fun c1 => ?_)
 ·refine bif_e (fun c2 => ?_) (fun c2 => ?_)
  ·refine go 2 ?_
   refine ret_e (fun hr_ => ?_)
   subst hr_
   exact ret_ Tryz.func190 []
  ·refine go 1 ?_
   refine grs ?_
   refine gr_run ?_
   refine bind_e (fun v2 e2 => gr_call [] (impl_val_wild.con e2) ?_)
   clear e2
   refine gr_run ?_
   refine gr_done ?_
   refine ret_e (fun hr_ => ?_)
   subst hr_
   exact ret_ Tryz.func190 []
 ·refine go 2 ?_
  refine ret_e (fun hr_ => ?_)
  subst hr_
  exact ret_ Tryz.func190 []
mutual
def impl_fieldsOk.l0 : Nat → (List S193) → Int → Option (Bool)
 | 0, _, _ => none
 | k + 1, v0, v1 => (bif decide (v1 < (v0.length : Int)) then ((ix v0 v1).bind fun v3 => ((impl_isName.f k v3.f0).bind fun v4 => (bif v4 then (bif decide (0 < v1) then ((ix v0 (IntKind.i64.wrap (v1 - 1))).bind fun v5 => (bif slt v5.f0 v3.f0 then ((impl_fieldValue.f k v3.f1).bind fun v6 => (bif v6 then (impl_fieldsOk.l0 k v0 (IntKind.i64.wrap (v1 + 1))) else (some false))) else (some false))) else ((impl_fieldValue.f k v3.f1).bind fun v7 => (bif v7 then (impl_fieldsOk.l0 k v0 (IntKind.i64.wrap (v1 + 1))) else (some false)))) else (some false)))) else (some true))
def impl_fieldsOk.f : Nat → (List S193) → Option (Bool)
 | 0, _ => none
 | k + 1, v0 => (bif decide (20 < (v0.length : Int)) then (some false) else (impl_fieldsOk.l0 k v0 0))
end
set_option maxRecDepth 100000 in
set_option maxHeartbeats 4000000 in
theorem impl_fieldsOk.con {K : Kn} [KOk K] {k : Nat} {v0 : (List S193)} {r : Bool} (h : impl_fieldsOk.f k v0 = some r) : Con K Tryz.prog 195 [.p (.lst false (List.map en193 v0))] [] (.p (.bool r)) [] := by
 cases k with
 | zero => exact absurd h (by simp [impl_fieldsOk.f])
 | succ k =>
 rw [impl_fieldsOk.f] at h
 refine con_intro 41 [] Tryz.func195 (by kernel_rfl) rfl rfl (by kernel_rfl) fun ι0 w0 hk0 => ?_
 revert h
 refine bif_e (fun c1 => ?_) (fun c1 => ?_)
 ·refine go 8 ?_
  refine ret_e (fun hr_ => ?_)
  subst hr_
  exact ret_ Tryz.func195 []
 ·refine go 11 ?_
  refine fun h => good_loop (fun n st => n ≤ k ∧ ∃ (v1 : _) (g2 : Nat), st = ⟨[(0, .p (.lst false (List.map en193 v0))), (8, .p (.lst false (List.map en193 v0))), (9, .p (.int .i64 (v0.length : Int))), (10, .p (.int .i64 v1))], [(4, (g2, .gone))]⟩ ∧ impl_fieldsOk.l0 n v0 v1 = some r) k ⟨_, ⟨Nat.le_refl _, _, 0, rfl, h⟩, frle_, memle_⟩ ?_
  clear c1
  clear h
  rintro n _ ⟨hkl0, v1, g2, rfl, h⟩ hl0
  cases n with
  | zero => exact absurd h (by simp [impl_fieldsOk.l0])
  | succ kl0 =>
  rw [impl_fieldsOk.l0] at h
  revert h
  refine bif_e (fun c2 => ?_) (fun c2 => ?_)
  ·refine bind_e (fun v3 e3 => ?_)
   replace e3 := nf_ (ix_en en193 e3)
   refine go 10 ?_
   refine grs ?_
   refine gr_run ?_
   refine bind_e (fun v4 e4 => gr_call [] (impl_isName.con e4) ?_)
   clear e4
   refine bif_e (fun c3 => ?_) (fun c3 => ?_)
   ·refine bif_e (fun c4 => ?_) (fun c4 => ?_)
    ·refine bind_e (fun v5 e5 => ?_)
     replace e5 := nf_ (ix_en en193 e5)
     refine bif_e (fun c5 => ?_) (fun c5 => ?_)
     ·refine gr_run ?_
      refine bind_e (fun v6 e6 => gr_call [] (impl_fieldValue.con e6) ?_)
      clear e6
      refine gr_run ?_
      refine gr_done ?_
      refine bif_e (fun c6 => ?_) (fun c6 => ?_)
      ·refine go 4 ?_
       exact fun h => good_again hl0 (by omega) ⟨_, ⟨by omega, _, g2 + 1, rfl, h⟩, frle_, memle_⟩
      ·refine go 3 ?_
       refine ret_e (fun hr_ => ?_)
       subst hr_
       exact ret_ Tryz.func195 []
     ·refine gr_run ?_
      refine gr_done ?_
      refine go 3 ?_
      refine ret_e (fun hr_ => ?_)
      subst hr_
      exact ret_ Tryz.func195 []
    ·refine gr_run ?_
     refine bind_e (fun v7 e7 => gr_call [] (impl_fieldValue.con e7) ?_)
     clear e7
     refine gr_run ?_
     refine gr_done ?_
     refine bif_e (fun c7 => ?_) (fun c7 => ?_)
     ·refine go 4 ?_
      exact fun h => good_again hl0 (by omega) ⟨_, ⟨by omega, _, g2 + 1, rfl, h⟩, frle_, memle_⟩
     ·refine go 3 ?_
      refine ret_e (fun hr_ => ?_)
      subst hr_
      exact ret_ Tryz.func195 []
   ·refine gr_run ?_
    refine gr_done ?_
    refine go 3 ?_
    refine ret_e (fun hr_ => ?_)
    subst hr_
    exact ret_ Tryz.func195 []
  ·refine go 7 ?_
   refine ret_e (fun hr_ => ?_)
   subst hr_
   exact ret_ Tryz.func195 []
def impl_nodeOk.f (k : Nat) (v0 : S94) : Option (Bool) := ((impl_idOk.f k v0.f0).bind fun v1 => (bif v1 then ((impl_risingNames.f k v0.f1 10).bind fun v2 => (bif v2 then ((impl_fieldsOk.f k v0.f2).bind fun v3 => (some v3)) else (some false))) else (some false)))
set_option maxRecDepth 100000 in
set_option maxHeartbeats 4000000 in
theorem impl_nodeOk.con {K : Kn} [KOk K] {k : Nat} {v0 : S94} {r : Bool} (h : impl_nodeOk.f k v0 = some r) : Con K Tryz.prog 147 [.agg [.p (.int .i64 v0.f0), .p (.lst false (List.map srw v0.f1)), .p (.lst false (List.map en193 v0.f2))]] [] (.p (.bool r)) [] := by
 rw [impl_nodeOk.f] at h
 refine con_intro 16 [] Tryz.func147 (by kernel_rfl) rfl rfl (by kernel_rfl) fun ι0 w0 hk0 => ?_
 revert h
 refine go 3 ?_
 refine grs ?_
 refine gr_run ?_
 refine bind_e (fun v1 e1 => gr_call [] (impl_idOk.con e1) ?_)
 clear e1
 refine bif_e (fun c1 => ?_) (fun c1 => ?_)
 ·refine gr_run ?_
  refine bind_e (fun v2 e2 => gr_call [] (impl_risingNames.con e2) ?_)
  clear e2
  refine bif_e (fun c2 => ?_) (fun c2 => ?_)
  ·refine gr_run ?_
   refine bind_e (fun v3 e3 => gr_call [] (impl_fieldsOk.con e3) ?_)
   clear e3
   refine gr_run ?_
   refine gr_done ?_
   refine ret_e (fun hr_ => ?_)
   subst hr_
   exact ret_ Tryz.func147 []
  ·refine gr_run ?_
   refine gr_done ?_
   refine ret_e (fun hr_ => ?_)
   subst hr_
   exact ret_ Tryz.func147 []
 ·refine gr_run ?_
  refine gr_done ?_
  refine ret_e (fun hr_ => ?_)
  subst hr_
  exact ret_ Tryz.func147 []
def impl_edgeOk.f (k : Nat) (v0 : S110) : Option (Bool) := ((impl_idOk.f k v0.f0).bind fun v1 => (bif v1 then ((impl_isName.f k v0.f1).bind fun v2 => (bif v2 then ((impl_idOk.f k v0.f2).bind fun v3 => (bif v3 then ((impl_idOk.f k v0.f3).bind fun v4 => (bif v4 then ((impl_fieldsOk.f k v0.f4).bind fun v5 => (some v5)) else (some false))) else (some false))) else (some false))) else (some false)))
set_option maxRecDepth 100000 in
set_option maxHeartbeats 4000000 in
theorem impl_edgeOk.con {K : Kn} [KOk K] {k : Nat} {v0 : S110} {r : Bool} (h : impl_edgeOk.f k v0 = some r) : Con K Tryz.prog 148 [.agg [.p (.int .i64 v0.f0), .p (.str v0.f1), .p (.int .i64 v0.f2), .p (.int .i64 v0.f3), .p (.lst false (List.map en193 v0.f4))]] [] (.p (.bool r)) [] := by
 rw [impl_edgeOk.f] at h
 refine con_intro 26 [] Tryz.func148 (by kernel_rfl) rfl rfl (by kernel_rfl) fun ι0 w0 hk0 => ?_
 revert h
 refine go 3 ?_
 refine grs ?_
 refine gr_run ?_
 refine bind_e (fun v1 e1 => gr_call [] (impl_idOk.con e1) ?_)
 clear e1
 refine bif_e (fun c1 => ?_) (fun c1 => ?_)
 ·refine gr_run ?_
  refine bind_e (fun v2 e2 => gr_call [] (impl_isName.con e2) ?_)
  clear e2
  refine bif_e (fun c2 => ?_) (fun c2 => ?_)
  ·refine gr_run ?_
   refine bind_e (fun v3 e3 => gr_call [] (impl_idOk.con e3) ?_)
   clear e3
   refine bif_e (fun c3 => ?_) (fun c3 => ?_)
   ·refine gr_run ?_
    refine bind_e (fun v4 e4 => gr_call [] (impl_idOk.con e4) ?_)
    clear e4
    refine bif_e (fun c4 => ?_) (fun c4 => ?_)
    ·refine gr_run ?_
     refine bind_e (fun v5 e5 => gr_call [] (impl_fieldsOk.con e5) ?_)
     clear e5
     refine gr_run ?_
     refine gr_done ?_
     refine ret_e (fun hr_ => ?_)
     subst hr_
     exact ret_ Tryz.func148 []
    ·refine gr_run ?_
     refine gr_done ?_
     refine ret_e (fun hr_ => ?_)
     subst hr_
     exact ret_ Tryz.func148 []
   ·refine gr_run ?_
    refine gr_done ?_
    refine ret_e (fun hr_ => ?_)
    subst hr_
    exact ret_ Tryz.func148 []
  ·refine gr_run ?_
   refine gr_done ?_
   refine ret_e (fun hr_ => ?_)
   subst hr_
   exact ret_ Tryz.func148 []
 ·refine gr_run ?_
  refine gr_done ?_
  refine ret_e (fun hr_ => ?_)
  subst hr_
  exact ret_ Tryz.func148 []
mutual
def impl_graphOk.j0 : Nat → S31 → Int → (List (Int × Int)) → S94 → Option (Bool)
 | 0, _, _, _, _ => none
 | k + 1, v0, v1, v2, v4 => (impl_graphOk.l0 k v0 (IntKind.i64.wrap (v1 + 1)) (tput v2 v4.f0 1))
def impl_graphOk.l1 : Nat → S31 → Int → (List (Int × Int)) → Option (Bool)
 | 0, _, _, _ => none
 | k + 1, v0, v7, v2 => (bif decide (v7 < (v0.f1.length : Int)) then ((ix v0.f1 v7).bind fun v9 => ((impl_edgeOk.f k v9).bind fun v10 => (bif v10 then (bif decide (0 < v7) then ((ix v0.f1 (IntKind.i64.wrap (v7 - 1))).bind fun v11 => (bif decide (v9.f0 ≤ v11.f0) then (some false) else (bif ((tget v2 v9.f2 0) == 0) then (some false) else (bif ((tget v2 v9.f3 0) == 0) then (some false) else (impl_graphOk.l1 k v0 (IntKind.i64.wrap (v7 + 1)) v2))))) else (bif ((tget v2 v9.f2 0) == 0) then (some false) else (bif ((tget v2 v9.f3 0) == 0) then (some false) else (impl_graphOk.l1 k v0 (IntKind.i64.wrap (v7 + 1)) v2)))) else (some false)))) else (some true))
def impl_graphOk.l0 : Nat → S31 → Int → (List (Int × Int)) → Option (Bool)
 | 0, _, _, _ => none
 | k + 1, v0, v1, v2 => (bif decide (v1 < (v0.f0.length : Int)) then ((ix v0.f0 v1).bind fun v4 => ((impl_nodeOk.f k v4).bind fun v5 => (bif v5 then (bif decide (0 < v1) then ((ix v0.f0 (IntKind.i64.wrap (v1 - 1))).bind fun v6 => (bif decide (v4.f0 ≤ v6.f0) then (some false) else (impl_graphOk.j0 k v0 v1 v2 v4))) else (impl_graphOk.j0 k v0 v1 v2 v4)) else (some false)))) else (impl_graphOk.l1 k v0 0 v2))
def impl_graphOk.f : Nat → S31 → Option (Bool)
 | 0, _ => none
 | k + 1, v0 => (bif decide (200 < (v0.f0.length : Int)) then (some false) else (bif decide (400 < (v0.f1.length : Int)) then (some false) else (impl_graphOk.l0 k v0 0 ([] : List (Int × Int)))))
end
set_option maxRecDepth 100000 in
set_option maxHeartbeats 4000000 in
theorem impl_graphOk.con {K : Kn} [KOk K] {k : Nat} {v0 : S31} {r : Bool} (h : impl_graphOk.f k v0 = some r) : Con K Tryz.prog 91 [.agg [.p (.lst false (List.map en94 v0.f0)), .p (.lst false (List.map en110 v0.f1))]] [] (.p (.bool r)) [] := by
 cases k with
 | zero => exact absurd h (by simp [impl_graphOk.f])
 | succ k =>
 rw [impl_graphOk.f] at h
 refine con_intro 92 [] Tryz.func91 (by kernel_rfl) rfl rfl (by kernel_rfl) fun ι0 w0 hk0 => ?_
 revert h
 refine bif_e (fun c1 => ?_) (fun c1 => ?_)
 ·refine go 8 ?_
  refine ret_e (fun hr_ => ?_)
  subst hr_
  exact ret_ Tryz.func91 []
 ·refine bif_e (fun c2 => ?_) (fun c2 => ?_)
  ·refine go 8 ?_
   refine ret_e (fun hr_ => ?_)
   subst hr_
   exact ret_ Tryz.func91 []
  ·refine go 13 ?_
   refine fun h => good_loop (fun n st => n ≤ k ∧ ∃ (v1 : _) (v2 : _) (g3 : Nat), st = ⟨[(1, .ptr 1 1 0), (3, .mp 18 1), (20, .p (.lst false (List.map en94 v0.f0))), (21, .p (.int .i64 (v0.f0.length : Int))), (22, .p (.int .i64 v1))], [(1, (1, .cells [.p (.lst false (List.map en94 v0.f0)), .p (.lst false (List.map en110 v0.f1))])), (18, (1, .map (.int .i64) false (List.map (ei .i64 (irow .i64)) v2))), (5, (g3, .gone))]⟩ ∧ impl_graphOk.l0 n v0 v1 v2 = some r) k ⟨_, ⟨Nat.le_refl _, _, _, 0, rfl, h⟩, frle_, memle_⟩ ?_
   clear c1 c2
   clear h
   rintro n _ ⟨hkl0, v1, v2, g3, rfl, h⟩ hl0
   cases n with
   | zero => exact absurd h (by simp [impl_graphOk.l0])
   | succ kl0 =>
   rw [impl_graphOk.l0] at h
   revert h
   refine bif_e (fun c3 => ?_) (fun c3 => ?_)
   ·refine bind_e (fun v4 e4 => ?_)
    replace e4 := nf_ (ix_en en94 e4)
    refine go 11 ?_
    refine good_cut_f (fun st => ∃ (q_ : Nat), q_ ≤ kl0 ∧ st = ⟨[(1, .ptr 1 1 0), (3, .mp 18 1), (5, .ptr 5 (g3 + 1) 0), (20, .p (.lst false (List.map en94 v0.f0))), (21, .p (.int .i64 (v0.f0.length : Int))), (22, .p (.int .i64 v1))], [(1, (1, .cells [.p (.lst false (List.map en94 v0.f0)), .p (.lst false (List.map en110 v0.f1))])), (18, (1, .map (.int .i64) false (List.map (ei .i64 (irow .i64)) v2))), (5, (g3 + 1, .cells [.p (.int .i64 v4.f0), .p (.lst false (List.map srw v4.f1)), .p (.lst false (List.map en193 v4.f2))]))]⟩ ∧ impl_graphOk.j0 q_ v0 v1 v2 v4 = some r) ?_ (fun hj0 => ?_)
    ·clear c3 e4
     rintro _ ⟨q_, hqj0, rfl, h⟩
     cases q_ with
     | zero => exact absurd h (by simp [impl_graphOk.j0])
     | succ kj0 =>
     rw [impl_graphOk.j0] at h
     revert h
     refine go 4 ?_
     exact fun h => good_again hl0 (by omega) ⟨_, ⟨by omega, _, _, g3 + 1, rfl, h⟩, frle_, memle_⟩
    ·refine grs ?_
     refine gr_run ?_
     refine bind_e (fun v5 e5 => gr_call [] (impl_nodeOk.con e5) ?_)
     clear e5
     refine bif_e (fun c4 => ?_) (fun c4 => ?_)
     ·refine bif_e (fun c5 => ?_) (fun c5 => ?_)
      ·refine bind_e (fun v6 e6 => ?_)
       replace e6 := nf_ (ix_en en94 e6)
       refine gr_run ?_
       refine gr_done ?_
       refine bif_e (fun c6 => ?_) (fun c6 => ?_)
       ·refine go 3 ?_
        refine ret_e (fun hr_ => ?_)
        subst hr_
        exact ret_ Tryz.func91 []
       ·refine go 1 ?_
        exact fun h => good_jump hj0 ⟨_, ⟨_, by omega, rfl, h⟩, frle_, memle_⟩
      ·refine gr_run ?_
       refine gr_done ?_
       refine go 1 ?_
       exact fun h => good_jump hj0 ⟨_, ⟨_, by omega, rfl, h⟩, frle_, memle_⟩
     ·refine gr_run ?_
      refine gr_done ?_
      refine go 3 ?_
      refine ret_e (fun hr_ => ?_)
      subst hr_
      exact ret_ Tryz.func91 []
   ·refine go 9 ?_
    refine fun h => good_loop (fun n st => n ≤ kl0 ∧ ∃ (v7 : _) (g8 : Nat), st = ⟨[(1, .ptr 1 1 0), (3, .mp 18 1), (51, .p (.lst false (List.map en110 v0.f1))), (52, .p (.int .i64 (v0.f1.length : Int))), (53, .p (.int .i64 v7))], [(1, (1, .cells [.p (.lst false (List.map en94 v0.f0)), .p (.lst false (List.map en110 v0.f1))])), (18, (1, .map (.int .i64) false (List.map (ei .i64 (irow .i64)) v2))), (5, (g3, .gone)), (7, (g8, .gone))]⟩ ∧ impl_graphOk.l1 n v0 v7 v2 = some r) kl0 ⟨_, ⟨Nat.le_refl _, _, 0, rfl, h⟩, frle_, memle_⟩ ?_
    clear c3
    clear h
    rintro n _ ⟨hkl1, v7, g8, rfl, h⟩ hl1
    cases n with
    | zero => exact absurd h (by simp [impl_graphOk.l1])
    | succ kl1 =>
    rw [impl_graphOk.l1] at h
    revert h
    refine bif_e (fun c7 => ?_) (fun c7 => ?_)
    ·refine bind_e (fun v9 e9 => ?_)
     replace e9 := nf_ (ix_en en110 e9)
     refine go 10 ?_
     refine grs ?_
     refine gr_run ?_
     refine bind_e (fun v10 e10 => gr_call [] (impl_edgeOk.con e10) ?_)
     clear e10
     refine bif_e (fun c8 => ?_) (fun c8 => ?_)
     ·refine bif_e (fun c9 => ?_) (fun c9 => ?_)
      ·refine bind_e (fun v11 e11 => ?_)
       replace e11 := nf_ (ix_en en110 e11)
       refine bif_e (fun c10 => ?_) (fun c10 => ?_)
       ·refine gr_run ?_
        refine gr_done ?_
        refine go 3 ?_
        refine ret_e (fun hr_ => ?_)
        subst hr_
        exact ret_ Tryz.func91 []
       ·refine bif_e (fun c11 => ?_) (fun c11 => ?_)
        ·refine gr_run ?_
         refine gr_done ?_
         refine go 3 ?_
         refine ret_e (fun hr_ => ?_)
         subst hr_
         exact ret_ Tryz.func91 []
        ·refine gr_run ?_
         refine gr_done ?_
         refine bif_e (fun c12 => ?_) (fun c12 => ?_)
         ·refine go 3 ?_
          refine ret_e (fun hr_ => ?_)
          subst hr_
          exact ret_ Tryz.func91 []
         ·refine go 4 ?_
          exact fun h => good_again hl1 (by omega) ⟨_, ⟨by omega, _, g8 + 1, rfl, h⟩, frle_, memle_⟩
      ·refine bif_e (fun c13 => ?_) (fun c13 => ?_)
       ·refine gr_run ?_
        refine gr_done ?_
        refine go 3 ?_
        refine ret_e (fun hr_ => ?_)
        subst hr_
        exact ret_ Tryz.func91 []
       ·refine gr_run ?_
        refine gr_done ?_
        refine bif_e (fun c14 => ?_) (fun c14 => ?_)
        ·refine go 3 ?_
         refine ret_e (fun hr_ => ?_)
         subst hr_
         exact ret_ Tryz.func91 []
        ·refine go 4 ?_
         exact fun h => good_again hl1 (by omega) ⟨_, ⟨by omega, _, g8 + 1, rfl, h⟩, frle_, memle_⟩
     ·refine gr_run ?_
      refine gr_done ?_
      refine go 3 ?_
      refine ret_e (fun hr_ => ?_)
      subst hr_
      exact ret_ Tryz.func91 []
    ·refine go 7 ?_
     refine ret_e (fun hr_ => ?_)
     subst hr_
     exact ret_ Tryz.func91 []
mutual
def impl_fieldOf.l0 : Nat → ByteArray → (List S193) → Int → Option (ByteArray)
 | 0, _, _, _ => none
 | k + 1, v1, v0, v2 => (bif decide (v2 < (v0.length : Int)) then ((ix v0 v2).bind fun v4 => (bif decide (v4.f0 = v1) then (some v4.f1) else (impl_fieldOf.l0 k v1 v0 (IntKind.i64.wrap (v2 + 1))))) else (some (⟨#[110, 117, 108, 108]⟩ : ByteArray)))
def impl_fieldOf.f : Nat → (List S193) → ByteArray → Option (ByteArray)
 | 0, _, _ => none
 | k + 1, v0, v1 => (impl_fieldOf.l0 k v1 v0 0)
end
set_option maxRecDepth 100000 in
set_option maxHeartbeats 4000000 in
theorem impl_fieldOf.con {K : Kn} [KOk K] {k : Nat} {v0 : (List S193)} {v1 : ByteArray} {r : ByteArray} (h : impl_fieldOf.f k v0 v1 = some r) : Con K Tryz.prog 99 [.p (.lst false (List.map en193 v0)), .p (.str v1)] [] (.p (.str r)) [] := by
 cases k with
 | zero => exact absurd h (by simp [impl_fieldOf.f])
 | succ k =>
 rw [impl_fieldOf.f] at h
 refine con_intro 20 [] Tryz.func99 (by kernel_rfl) rfl rfl (by kernel_rfl) fun ι0 w0 hk0 => ?_
 revert h
 refine go 6 ?_
 refine fun h => good_loop (fun n st => n ≤ k ∧ ∃ (v2 : _) (g3 : Nat), st = ⟨[(1, .p (.str v1)), (7, .p (.lst false (List.map en193 v0))), (8, .p (.int .i64 (v0.length : Int))), (9, .p (.int .i64 v2))], [(6, (g3, .gone))]⟩ ∧ impl_fieldOf.l0 n v1 v0 v2 = some r) k ⟨_, ⟨Nat.le_refl _, _, 0, rfl, h⟩, frle_, memle_⟩ ?_
 clear h
 rintro n _ ⟨hkl0, v2, g3, rfl, h⟩ hl0
 cases n with
 | zero => exact absurd h (by simp [impl_fieldOf.l0])
 | succ kl0 =>
 rw [impl_fieldOf.l0] at h
 revert h
 refine bif_e (fun c1 => ?_) (fun c1 => ?_)
 ·refine bind_e (fun v4 e4 => ?_)
  replace e4 := nf_ (ix_en en193 e4)
  refine bif_e (fun c2 => ?_) (fun c2 => ?_)
  ·refine go 14 ?_
   refine ret_e (fun hr_ => ?_)
   subst hr_
   exact ret_ Tryz.func99 []
  ·refine go 15 ?_
   exact fun h => good_again hl0 (by omega) ⟨_, ⟨by omega, _, g3 + 1, rfl, h⟩, frle_, memle_⟩
 ·refine go 7 ?_
  refine ret_e (fun hr_ => ?_)
  subst hr_
  exact ret_ Tryz.func99 []
mutual
def slices_Index.l0 : Nat → (List ByteArray) → ByteArray → Int → Option (Int)
 | 0, _, _, _ => none
 | k + 1, v0, v1, v2 => (bif decide (v2 < (v0.length : Int)) then ((ix v0 v2).bind fun v3 => (bif decide (v1 = v3) then (some v2) else (slices_Index.l0 k v0 v1 (IntKind.i64.wrap (v2 + 1))))) else (some (-1)))
def slices_Index.f : Nat → (List ByteArray) → ByteArray → Option (Int)
 | 0, _, _ => none
 | k + 1, v0, v1 => (slices_Index.l0 k v0 v1 0)
end
set_option maxRecDepth 100000 in
set_option maxHeartbeats 4000000 in
theorem slices_Index.con {K : Kn} [KOk K] {k : Nat} {v0 : (List ByteArray)} {v1 : ByteArray} {r : Int} (h : slices_Index.f k v0 v1 = some r) : Con K Tryz.prog 184 [.p (.lst false (List.map srw v0)), .p (.str v1)] [] (.p (.int .i64 r)) [] := by
 cases k with
 | zero => exact absurd h (by simp [slices_Index.f])
 | succ k =>
 rw [slices_Index.f] at h
 refine con_intro 19 [] Tryz.func184 (by kernel_rfl) rfl rfl (by kernel_rfl) fun ι0 w0 hk0 => ?_
 revert h
 refine go 6 ?_
 refine fun h => good_loop (fun n st => n ≤ k ∧ ∃ (v2 : _), st = ⟨[(0, .p (.lst false (List.map srw v0))), (1, .p (.str v1)), (7, .p (.int .i64 (v0.length : Int))), (8, .p (.int .i64 v2))], []⟩ ∧ slices_Index.l0 n v0 v1 v2 = some r) k ⟨_, ⟨Nat.le_refl _, _, rfl, h⟩, frle_, memle_⟩ ?_
 clear h
 rintro n _ ⟨hkl0, v2, rfl, h⟩ hl0
 cases n with
 | zero => exact absurd h (by simp [slices_Index.l0])
 | succ kl0 =>
 rw [slices_Index.l0] at h
 revert h
 refine bif_e (fun c1 => ?_) (fun c1 => ?_)
 ·refine bind_e (fun v3 e3 => ?_)
  replace e3 := nf_ (ix_en srw e3)
  refine bif_e (fun c2 => ?_) (fun c2 => ?_)
  ·refine go 14 ?_
   refine ret_e (fun hr_ => ?_)
   subst hr_
   exact ret_ Tryz.func184 []
  ·refine go 15 ?_
   exact fun h => good_again hl0 (by omega) ⟨_, ⟨by omega, _, rfl, h⟩, frle_, memle_⟩
 ·refine go 7 ?_
  refine ret_e (fun hr_ => ?_)
  subst hr_
  exact ret_ Tryz.func184 []
def slices_Contains.f (k : Nat) (v0 : (List ByteArray)) (v1 : ByteArray) : Option (Bool) := ((slices_Index.f k v0 v1).bind fun v2 => (some (decide (0 ≤ v2))))
set_option maxRecDepth 100000 in
set_option maxHeartbeats 4000000 in
theorem slices_Contains.con {K : Kn} [KOk K] {k : Nat} {v0 : (List ByteArray)} {v1 : ByteArray} {r : Bool} (h : slices_Contains.f k v0 v1 = some r) : Con K Tryz.prog 139 [.p (.lst false (List.map srw v0)), .p (.str v1)] [] (.p (.bool r)) [] := by
 rw [slices_Contains.f] at h
 refine con_intro 9 [] Tryz.func139 (by kernel_rfl) rfl rfl (by kernel_rfl) fun ι0 w0 hk0 => ?_
 revert h
 refine go 3 ?_
 refine grs ?_
 refine gr_run ?_
 refine bind_e (fun v2 e2 => gr_call [] (slices_Index.con e2) ?_)
 clear e2
 refine gr_run ?_
 refine gr_done ?_
 refine ret_e (fun hr_ => ?_)
 subst hr_
 exact ret_ Tryz.func139 []
def impl_hasLabel.f (k : Nat) (v0 : S94) (v1 : ByteArray) : Option (Bool) := ((slices_Contains.f k v0.f1 v1).bind fun v2 => (some v2))
set_option maxRecDepth 100000 in
set_option maxHeartbeats 4000000 in
theorem impl_hasLabel.con {K : Kn} [KOk K] {k : Nat} {v0 : S94} {v1 : ByteArray} {r : Bool} (h : impl_hasLabel.f k v0 v1 = some r) : Con K Tryz.prog 100 [.agg [.p (.int .i64 v0.f0), .p (.lst false (List.map srw v0.f1)), .p (.lst false (List.map en193 v0.f2))], .p (.str v1)] [] (.p (.bool r)) [] := by
 rw [impl_hasLabel.f] at h
 refine con_intro 9 [] Tryz.func100 (by kernel_rfl) rfl rfl (by kernel_rfl) fun ι0 w0 hk0 => ?_
 revert h
 refine go 3 ?_
 refine grs ?_
 refine gr_run ?_
 refine bind_e (fun v2 e2 => gr_call [] (slices_Contains.con e2) ?_)
 clear e2
 refine gr_run ?_
 refine gr_done ?_
 refine ret_e (fun hr_ => ?_)
 subst hr_
 exact ret_ Tryz.func100 []
mutual
def impl_FindBox_O.l0 : Nat → ByteArray → ByteArray → (List Int) → S31 → Int → (S164 × Bool) → (S164 × Bool) → Option ((List Int))
 | 0, _, _, _, _, _, _, _ => none
 | k + 1, v1, v2, v14, v0, v10, v5, v6 => (bif decide (v10 < (v0.f0.length : Int)) then ((ix v0.f0 v10).bind fun v15 => ((impl_fieldOf.f k v15.f2 v2).bind fun v16 => ((impl_point.f k v16).bind fun v17 => ((impl_hasLabel.f k v15 v1).bind fun v18 => (bif v18 then (bif v17.2 then (bif decide ((min v5.1.f1 v6.1.f1) ≤ v17.1.f1) then (bif decide (v17.1.f1 ≤ (max v5.1.f1 v6.1.f1)) then (bif decide ((min v5.1.f2 v6.1.f2) ≤ v17.1.f2) then (bif decide (v17.1.f2 ≤ (max v5.1.f2 v6.1.f2)) then ((app v14 ([v15.f0] : List Int)).bind fun v19 => (impl_FindBox_O.l0 k v1 v2 v19 v0 (IntKind.i64.wrap (v10 + 1)) v5 v6)) else (impl_FindBox_O.l0 k v1 v2 v14 v0 (IntKind.i64.wrap (v10 + 1)) v5 v6)) else (impl_FindBox_O.l0 k v1 v2 v14 v0 (IntKind.i64.wrap (v10 + 1)) v5 v6)) else (impl_FindBox_O.l0 k v1 v2 v14 v0 (IntKind.i64.wrap (v10 + 1)) v5 v6)) else (impl_FindBox_O.l0 k v1 v2 v14 v0 (IntKind.i64.wrap (v10 + 1)) v5 v6)) else (impl_FindBox_O.l0 k v1 v2 v14 v0 (IntKind.i64.wrap (v10 + 1)) v5 v6)) else (impl_FindBox_O.l0 k v1 v2 v14 v0 (IntKind.i64.wrap (v10 + 1)) v5 v6)))))) else (some v14))
def impl_FindBox_O.f : Nat → S31 → ByteArray → ByteArray → ByteArray → ByteArray → Option ((List Int))
 | 0, _, _, _, _, _ => none
 | k + 1, v0, v1, v2, v3, v4 => ((impl_point.f k v3).bind fun v5 => ((impl_point.f k v4).bind fun v6 => (bif v5.2 then (bif v6.2 then ((impl_isName.f k v1).bind fun v7 => (bif v7 then ((impl_isName.f k v2).bind fun v8 => (bif v8 then ((impl_graphOk.f k v0).bind fun v9 => (bif v9 then (impl_FindBox_O.l0 k v1 v2 [] v0 0 v5 v6) else (some ([] : List Int)))) else (some ([] : List Int)))) else (some ([] : List Int)))) else (some ([] : List Int))) else (some ([] : List Int)))))
end
set_option maxRecDepth 100000 in
set_option maxHeartbeats 4000000 in
theorem impl_FindBox_O.con {K : Kn} [KOk K] {k : Nat} {v0 : S31} {v1 : ByteArray} {v2 : ByteArray} {v3 : ByteArray} {v4 : ByteArray} {r : (List Int)} (h : impl_FindBox_O.f k v0 v1 v2 v3 v4 = some r) : Con K Tryz.prog 42 [.agg [.p (.lst false (List.map en94 v0.f0)), .p (.lst false (List.map en110 v0.f1))], .p (.str v1), .p (.str v2), .p (.str v3), .p (.str v4)] [] (.buf 2000 1 0 r.length) [(2000, (1, .buf 1 (List.map (irow .i64) r)))] := by
 cases k with
 | zero => exact absurd h (by simp [impl_FindBox_O.f])
 | succ k =>
 rw [impl_FindBox_O.f] at h
 refine con_intro 119 [116] Tryz.func42 (by kernel_rfl) rfl rfl (by kernel_rfl) fun ι0 w0 hk0 => ?_
 revert h
 refine go 3 ?_
 refine grs ?_
 refine gr_run ?_
 refine bind_e (fun v5 e5 => gr_call [] (impl_point.con e5) ?_)
 clear e5
 refine gr_run ?_
 refine gr_done ?_
 refine go 1 ?_
 refine grs ?_
 refine gr_run ?_
 refine bind_e (fun v6 e6 => gr_call [] (impl_point.con e6) ?_)
 clear e6
 refine gr_run ?_
 refine gr_done ?_
 refine bif_e (fun c1 => ?_) (fun c1 => ?_)
 ·refine bif_e (fun c2 => ?_) (fun c2 => ?_)
  ·refine go 2 ?_
   refine grs ?_
   refine gr_run ?_
   refine bind_e (fun v7 e7 => gr_call [] (impl_isName.con e7) ?_)
   clear e7
   refine bif_e (fun c3 => ?_) (fun c3 => ?_)
   ·refine gr_run ?_
    refine bind_e (fun v8 e8 => gr_call [] (impl_isName.con e8) ?_)
    clear e8
    refine bif_e (fun c4 => ?_) (fun c4 => ?_)
    ·refine gr_run ?_
     refine bind_e (fun v9 e9 => gr_call [] (impl_graphOk.con e9) ?_)
     clear e9
     refine gr_run ?_
     refine gr_done ?_
     refine bif_e (fun c5 => ?_) (fun c5 => ?_)
     ·refine go 8 ?_
      refine adoptB_ 15 116 1 ?_
      refine fun h => good_loop (fun n st => n ≤ k ∧ ∃ (v10 : _) (v14 : _) (g11 : Nat) (g12 : Nat) (g13 : Nat), st = ⟨[(1, .p (.str v1)), (2, .p (.str v2)), (11, .ptr 11 1 0), (13, .ptr 13 1 0), (15, .buf 116 g13 0 v14.length), (52, .p (.lst false (List.map en94 v0.f0))), (53, .p (.int .i64 (v0.f0.length : Int))), (54, .p (.int .i64 v10))], [(5, (1, .gone)), (11, (1, .cells [.p (.int .i64 v5.1.f0), .p (.int .i64 v5.1.f1), .p (.int .i64 v5.1.f2), .p (.str v5.1.f3), .p (.lst false (List.map srw v5.1.f4)), .p (.lst false (List.map en164 v5.1.f5))])), (13, (1, .cells [.p (.int .i64 v6.1.f0), .p (.int .i64 v6.1.f1), .p (.int .i64 v6.1.f2), .p (.str v6.1.f3), .p (.lst false (List.map srw v6.1.f4)), .p (.lst false (List.map en164 v6.1.f5))])), (17, (g11, .gone)), (18, (g12, .gone)), (116, (g13, .buf 1 (List.map (irow .i64) v14)))]⟩ ∧ impl_FindBox_O.l0 n v1 v2 v14 v0 v10 v5 v6 = some r) k ⟨_, ⟨Nat.le_refl _, _, _, 0, 0, 1, rfl, h⟩, frle_, memle_⟩ ?_
      clear c1 c2 c3 c4 c5
      clear h
      rintro n _ ⟨hkl0, v10, v14, g11, g12, g13, rfl, h⟩ hl0
      cases n with
      | zero => exact absurd h (by simp [impl_FindBox_O.l0])
      | succ kl0 =>
      rw [impl_FindBox_O.l0] at h
      revert h
      refine bif_e (fun c6 => ?_) (fun c6 => ?_)
      ·refine bind_e (fun v15 e15 => ?_)
       replace e15 := nf_ (ix_en en94 e15)
       refine go 10 ?_
       refine grs ?_
       refine gr_run ?_
       refine bind_e (fun v16 e16 => gr_call [] (impl_fieldOf.con e16) ?_)
       clear e16
       refine bind_e (fun v17 e17 => gr_call [] (impl_point.con e17) ?_)
       clear e17
       refine gr_run ?_
       refine gr_done ?_
       refine go 1 ?_
       refine grs ?_
       refine gr_run ?_
       refine bind_e (fun v18 e18 => gr_call [] (impl_hasLabel.con e18) ?_)
       clear e18
       refine bif_e (fun c7 => ?_) (fun c7 => ?_)
       ·refine bif_e (fun c8 => ?_) (fun c8 => ?_)
        ·refine bif_e (fun c9 => ?_) (fun c9 => ?_)
         ·refine bif_e (fun c10 => ?_) (fun c10 => ?_)
          ·refine bif_e (fun c11 => ?_) (fun c11 => ?_)
           ·refine gr_run ?_
            refine gr_done ?_
            refine bif_e (fun c12 => ?_) (fun c12 => ?_)
            ·refine bind_e (fun v19 e19 => ?_)
             replace e19 := nf_ (app_en (irow .i64) e19)
             refine go 4 ?_
             exact fun h => good_again hl0 (by omega) ⟨_, ⟨by omega, _, _, g11 + 1, g12 + 1, g13 + 1, rfl, h⟩, frle_, memle_⟩
            ·refine go 4 ?_
             exact fun h => good_again hl0 (by omega) ⟨_, ⟨by omega, _, _, g11 + 1, g12 + 1, g13, rfl, h⟩, frle_, memle_⟩
           ·refine gr_run ?_
            refine gr_done ?_
            refine go 4 ?_
            exact fun h => good_again hl0 (by omega) ⟨_, ⟨by omega, _, _, g11 + 1, g12 + 1, g13, rfl, h⟩, frle_, memle_⟩
          ·refine gr_run ?_
           refine gr_done ?_
           refine go 4 ?_
           exact fun h => good_again hl0 (by omega) ⟨_, ⟨by omega, _, _, g11 + 1, g12 + 1, g13, rfl, h⟩, frle_, memle_⟩
         ·refine gr_run ?_
          refine gr_done ?_
          refine go 4 ?_
          exact fun h => good_again hl0 (by omega) ⟨_, ⟨by omega, _, _, g11 + 1, g12 + 1, g13, rfl, h⟩, frle_, memle_⟩
        ·refine gr_run ?_
         refine gr_done ?_
         refine go 4 ?_
         exact fun h => good_again hl0 (by omega) ⟨_, ⟨by omega, _, _, g11 + 1, g12 + 1, g13, rfl, h⟩, frle_, memle_⟩
       ·refine gr_run ?_
        refine gr_done ?_
        refine go 4 ?_
        exact fun h => good_again hl0 (by omega) ⟨_, ⟨by omega, _, _, g11 + 1, g12 + 1, g13, rfl, h⟩, frle_, memle_⟩
      ·refine go 7 ?_
       refine ret_e (fun hr_ => ?_)
       subst hr_
       exact ret_ Tryz.func42 [(2000, (1, 116, g13))]
     ·refine go 3 ?_
      refine adoptB_ 10 2510 1 ?_
      refine ret_e (fun hr_ => ?_)
      subst hr_
      exact ret_ Tryz.func42 [(2000, (1, 2510, 1))]
    ·refine gr_run ?_
     refine gr_done ?_
     refine go 3 ?_
     refine adoptB_ 10 2510 1 ?_
     refine ret_e (fun hr_ => ?_)
     subst hr_
     exact ret_ Tryz.func42 [(2000, (1, 2510, 1))]
   ·refine gr_run ?_
    refine gr_done ?_
    refine go 3 ?_
    refine adoptB_ 10 2510 1 ?_
    refine ret_e (fun hr_ => ?_)
    subst hr_
    exact ret_ Tryz.func42 [(2000, (1, 2510, 1))]
  ·refine go 6 ?_
   refine adoptB_ 10 2510 1 ?_
   refine ret_e (fun hr_ => ?_)
   subst hr_
   exact ret_ Tryz.func42 [(2000, (1, 2510, 1))]
 ·refine go 6 ?_
  refine adoptB_ 10 2510 1 ?_
  refine ret_e (fun hr_ => ?_)
  subst hr_
  exact ret_ Tryz.func42 [(2000, (1, 2510, 1))]
end Go.Ab
