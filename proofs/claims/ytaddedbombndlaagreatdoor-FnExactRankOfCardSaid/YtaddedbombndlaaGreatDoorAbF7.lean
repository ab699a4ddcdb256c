/- What the functions compute, and their contracts, part 7. No condition beyond KOk. -/
import Derived.Test.YtaddedbombndlaaGreatDoorAbX
import Derived.Test.YtaddedbombndlaaGreatDoorAbF5
import Derived.Test.YtaddedbombndlaaGreatDoorAbF6
namespace Go.Ab
open Go.Proofs
set_option linter.unusedVariables false
set_option linter.unusedSimpArgs false
def impl_nodeOk.f (k : Nat) (v0 : S46) : Option (Bool) := ((impl_idOk.f k v0.f0).bind fun v1 => (bif v1 then ((impl_risingNames.f k v0.f1 10).bind fun v2 => (bif v2 then ((impl_fieldsOk.f k v0.f2).bind fun v3 => (some v3)) else (some false))) else (some false)))
set_option maxRecDepth 100000 in
set_option maxHeartbeats 4000000 in
theorem impl_nodeOk.con {K : Kn} [KOk K] {k : Nat} {v0 : S46} {r : Bool} (h : impl_nodeOk.f k v0 = some r) : Con K Tryz.prog 35 [.agg [.p (.int .i64 v0.f0), .p (.lst false (List.map srw v0.f1)), .p (.lst false (List.map en92 v0.f2))]] [] (.p (.bool r)) [] := by
 rw [impl_nodeOk.f] at h
 refine con_intro 16 [] Tryz.func35 (by kernel_rfl) rfl rfl (by kernel_rfl) fun ι0 w0 hk0 => ?_
 revert h
 refine go 3 ?_
 refine grs ?_
 refine gr_run ?_
 refine bind_e (fun v1 e1 => gr_call [] (impl_idOk.con e1) ?_)
 clear e1
 refine bif_e (fun c1 => ?_) (fun c1 => ?_)
 ·refine gr_run ?_
  refine bind_e (fun v2 e2 => gr_call [] (impl_risingNames.con e2) ?_)
  clear e2
  refine bif_e (fun c2 => ?_) (fun c2 => ?_)
  ·refine gr_run ?_
   refine bind_e (fun v3 e3 => gr_call [] (impl_fieldsOk.con e3) ?_)
   clear e3
   refine gr_run ?_
   refine gr_done ?_
   refine ret_e (fun hr_ => ?_)
   subst hr_
   exact ret_ Tryz.func35 []
  ·refine gr_run ?_
   refine gr_done ?_
   refine ret_e (fun hr_ => ?_)
   subst hr_
   exact ret_ Tryz.func35 []
 ·refine gr_run ?_
  refine gr_done ?_
  refine ret_e (fun hr_ => ?_)
  subst hr_
  exact ret_ Tryz.func35 []
def impl_edgeOk.f (k : Nat) (v0 : S49) : Option (Bool) := ((impl_idOk.f k v0.f0).bind fun v1 => (bif v1 then ((impl_isName.f k v0.f1).bind fun v2 => (bif v2 then ((impl_idOk.f k v0.f2).bind fun v3 => (bif v3 then ((impl_idOk.f k v0.f3).bind fun v4 => (bif v4 then ((impl_fieldsOk.f k v0.f4).bind fun v5 => (some v5)) else (some false))) else (some false))) else (some false))) else (some false)))
set_option maxRecDepth 100000 in
set_option maxHeartbeats 4000000 in
theorem impl_edgeOk.con {K : Kn} [KOk K] {k : Nat} {v0 : S49} {r : Bool} (h : impl_edgeOk.f k v0 = some r) : Con K Tryz.prog 36 [.agg [.p (.int .i64 v0.f0), .p (.str v0.f1), .p (.int .i64 v0.f2), .p (.int .i64 v0.f3), .p (.lst false (List.map en92 v0.f4))]] [] (.p (.bool r)) [] := by
 rw [impl_edgeOk.f] at h
 refine con_intro 26 [] Tryz.func36 (by kernel_rfl) rfl rfl (by kernel_rfl) fun ι0 w0 hk0 => ?_
 revert h
 refine go 3 ?_
 refine grs ?_
 refine gr_run ?_
 refine bind_e (fun v1 e1 => gr_call [] (impl_idOk.con e1) ?_)
 clear e1
 refine bif_e (fun c1 => ?_) (fun c1 => ?_)
 ·refine gr_run ?_
  refine bind_e (fun v2 e2 => gr_call [] (impl_isName.con e2) ?_)
  clear e2
  refine bif_e (fun c2 => ?_) (fun c2 => ?_)
  ·refine gr_run ?_
   refine bind_e (fun v3 e3 => gr_call [] (impl_idOk.con e3) ?_)
   clear e3
   refine bif_e (fun c3 => ?_) (fun c3 => ?_)
   ·refine gr_run ?_
    refine bind_e (fun v4 e4 => gr_call [] (impl_idOk.con e4) ?_)
    clear e4
    refine bif_e (fun c4 => ?_) (fun c4 => ?_)
    ·refine gr_run ?_
     refine bind_e (fun v5 e5 => gr_call [] (impl_fieldsOk.con e5) ?_)
     clear e5
     refine gr_run ?_
     refine gr_done ?_
     refine ret_e (fun hr_ => ?_)
     subst hr_
     exact ret_ Tryz.func36 []
    ·refine gr_run ?_
     refine gr_done ?_
     refine ret_e (fun hr_ => ?_)
     subst hr_
     exact ret_ Tryz.func36 []
   ·refine gr_run ?_
    refine gr_done ?_
    refine ret_e (fun hr_ => ?_)
    subst hr_
    exact ret_ Tryz.func36 []
  ·refine gr_run ?_
   refine gr_done ?_
   refine ret_e (fun hr_ => ?_)
   subst hr_
   exact ret_ Tryz.func36 []
 ·refine gr_run ?_
  refine gr_done ?_
  refine ret_e (fun hr_ => ?_)
  subst hr_
  exact ret_ Tryz.func36 []
mutual
def impl_graphOk.j0 : Nat → S31 → Int → (List (Int × Int)) → S46 → Option (Bool)
 | 0, _, _, _, _ => none
 | k + 1, v0, v1, v2, v4 => (impl_graphOk.l0 k v0 (IntKind.i64.wrap (v1 + 1)) (tput v2 v4.f0 1))
def impl_graphOk.l1 : Nat → S31 → Int → (List (Int × Int)) → Option (Bool)
 | 0, _, _, _ => none
 | k + 1, v0, v7, v2 => (bif decide (v7 < (v0.f1.length : Int)) then ((ix v0.f1 v7).bind fun v9 => ((impl_edgeOk.f k v9).bind fun v10 => (bif v10 then (bif decide (0 < v7) then ((ix v0.f1 (IntKind.i64.wrap (v7 - 1))).bind fun v11 => (bif decide (v9.f0 ≤ v11.f0) then (some false) else (bif ((tget v2 v9.f2 0) == 0) then (some false) else (bif ((tget v2 v9.f3 0) == 0) then (some false) else (impl_graphOk.l1 k v0 (IntKind.i64.wrap (v7 + 1)) v2))))) else (bif ((tget v2 v9.f2 0) == 0) then (some false) else (bif ((tget v2 v9.f3 0) == 0) then (some false) else (impl_graphOk.l1 k v0 (IntKind.i64.wrap (v7 + 1)) v2)))) else (some false)))) else (some true))
def impl_graphOk.l0 : Nat → S31 → Int → (List (Int × Int)) → Option (Bool)
 | 0, _, _, _ => none
 | k + 1, v0, v1, v2 => (bif decide (v1 < (v0.f0.length : Int)) then ((ix v0.f0 v1).bind fun v4 => ((impl_nodeOk.f k v4).bind fun v5 => (bif v5 then (bif decide (0 < v1) then ((ix v0.f0 (IntKind.i64.wrap (v1 - 1))).bind fun v6 => (bif decide (v4.f0 ≤ v6.f0) then (some false) else (impl_graphOk.j0 k v0 v1 v2 v4))) else (impl_graphOk.j0 k v0 v1 v2 v4)) else (some false)))) else (impl_graphOk.l1 k v0 0 v2))
def impl_graphOk.f : Nat → S31 → Option (Bool)
 | 0, _ => none
 | k + 1, v0 => (bif decide (200 < (v0.f0.length : Int)) then (some false) else (bif decide (400 < (v0.f1.length : Int)) then (some false) else (impl_graphOk.l0 k v0 0 ([] : List (Int × Int)))))
end
set_option maxRecDepth 100000 in
set_option maxHeartbeats 4000000 in
theorem impl_graphOk.con {K : Kn} [KOk K] {k : Nat} {v0 : S31} {r : Bool} (h : impl_graphOk.f k v0 = some r) : Con K Tryz.prog 21 [.agg [.p (.lst false (List.map en46 v0.f0)), .p (.lst false (List.map en49 v0.f1))]] [] (.p (.bool r)) [] := by
 cases k with
 | zero => exact absurd h (by simp [impl_graphOk.f])
 | succ k =>
 rw [impl_graphOk.f] at h
 refine con_intro 92 [] Tryz.func21 (by kernel_rfl) rfl rfl (by kernel_rfl) fun ι0 w0 hk0 => ?_
 revert h
 refine bif_e (fun c1 => ?_) (fun c1 => ?_)
 ·refine go 8 ?_
  refine ret_e (fun hr_ => ?_)
  subst hr_
  exact ret_ Tryz.func21 []
 ·refine bif_e (fun c2 => ?_) (fun c2 => ?_)
  ·refine go 8 ?_
   refine ret_e (fun hr_ => ?_)
   subst hr_
   exact ret_ Tryz.func21 []
  ·refine go 13 ?_
   refine fun h => good_loop (fun n st => n ≤ k ∧ ∃ (v1 : _) (v2 : _) (g3 : Nat), st = ⟨[(1, .ptr 1 1 0), (3, .mp 18 1), (20, .p (.lst false (List.map en46 v0.f0))), (21, .p (.int .i64 (v0.f0.length : Int))), (22, .p (.int .i64 v1))], [(1, (1, .cells [.p (.lst false (List.map en46 v0.f0)), .p (.lst false (List.map en49 v0.f1))])), (18, (1, .map (.int .i64) false (List.map (ei .i64 (irow .i64)) v2))), (5, (g3, .gone))]⟩ ∧ impl_graphOk.l0 n v0 v1 v2 = some r) k ⟨_, ⟨Nat.le_refl _, _, _, 0, rfl, h⟩, frle_, memle_⟩ ?_
   clear c1 c2
   clear h
   rintro n _ ⟨hkl0, v1, v2, g3, rfl, h⟩ hl0
   cases n with
   | zero => exact absurd h (by simp [impl_graphOk.l0])
   | succ kl0 =>
   rw [impl_graphOk.l0] at h
   revert h
   refine bif_e (fun c3 => ?_) (fun c3 => ?_)
   ·refine bind_e (fun v4 e4 => ?_)
    replace e4 := nf_ (ix_en en46 e4)
    refine go 11 ?_
    refine good_cut_f (fun st => ∃ (q_ : Nat), q_ ≤ kl0 ∧ st = ⟨[(1, .ptr 1 1 0), (3, .mp 18 1), (5, .ptr 5 (g3 + 1) 0), (20, .p (.lst false (List.map en46 v0.f0))), (21, .p (.int .i64 (v0.f0.length : Int))), (22, .p (.int .i64 v1))], [(1, (1, .cells [.p (.lst false (List.map en46 v0.f0)), .p (.lst false (List.map en49 v0.f1))])), (18, (1, .map (.int .i64) false (List.map (ei .i64 (irow .i64)) v2))), (5, (g3 + 1, .cells [.p (.int .i64 v4.f0), .p (.lst false (List.map srw v4.f1)), .p (.lst false (List.map en92 v4.f2))]))]⟩ ∧ impl_graphOk.j0 q_ v0 v1 v2 v4 = some r) ?_ (fun hj0 => ?_)
    ·clear c3 e4
     rintro _ ⟨q_, hqj0, rfl, h⟩
     cases q_ with
     | zero => exact absurd h (by simp [impl_graphOk.j0])
     | succ kj0 =>
     rw [impl_graphOk.j0] at h
     revert h
     refine go 4 ?_
     exact fun h => good_again hl0 (by omega) ⟨_, ⟨by omega, _, _, g3 + 1, rfl, h⟩, frle_, memle_⟩
    ·refine grs ?_
     refine gr_run ?_
     refine bind_e (fun v5 e5 => gr_call [] (impl_nodeOk.con e5) ?_)
     clear e5
     refine bif_e (fun c4 => ?_) (fun c4 => ?_)
     ·refine bif_e (fun c5 => ?_) (fun c5 => ?_)
      ·refine bind_e (fun v6 e6 => ?_)
       replace e6 := nf_ (ix_en en46 e6)
       refine gr_run ?_
       refine gr_done ?_
       refine bif_e (fun c6 => ?_) (fun c6 => ?_)
       ·refine go 3 ?_
        refine ret_e (fun hr_ => ?_)
        subst hr_
        exact ret_ Tryz.func21 []
       ·refine go 1 ?_
        exact fun h => good_jump hj0 ⟨_, ⟨_, by omega, rfl, h⟩, frle_, memle_⟩
      ·refine gr_run ?_
       refine gr_done ?_
       refine go 1 ?_
       exact fun h => good_jump hj0 ⟨_, ⟨_, by omega, rfl, h⟩, frle_, memle_⟩
     ·refine gr_run ?_
      refine gr_done ?_
      refine go 3 ?_
      refine ret_e (fun hr_ => ?_)
      subst hr_
      exact ret_ Tryz.func21 []
   ·refine go 9 ?_
    refine fun h => good_loop (fun n st => n ≤ kl0 ∧ ∃ (v7 : _) (g8 : Nat), st = ⟨[(1, .ptr 1 1 0), (3, .mp 18 1), (51, .p (.lst false (List.map en49 v0.f1))), (52, .p (.int .i64 (v0.f1.length : Int))), (53, .p (.int .i64 v7))], [(1, (1, .cells [.p (.lst false (List.map en46 v0.f0)), .p (.lst false (List.map en49 v0.f1))])), (18, (1, .map (.int .i64) false (List.map (ei .i64 (irow .i64)) v2))), (5, (g3, .gone)), (7, (g8, .gone))]⟩ ∧ impl_graphOk.l1 n v0 v7 v2 = some r) kl0 ⟨_, ⟨Nat.le_refl _, _, 0, rfl, h⟩, frle_, memle_⟩ ?_
    clear c3
    clear h
    rintro n _ ⟨hkl1, v7, g8, rfl, h⟩ hl1
    cases n with
    | zero => exact absurd h (by simp [impl_graphOk.l1])
    | succ kl1 =>
    rw [impl_graphOk.l1] at h
    revert h
    refine bif_e (fun c7 => ?_) (fun c7 => ?_)
    ·refine bind_e (fun v9 e9 => ?_)
     replace e9 := nf_ (ix_en en49 e9)
     refine go 10 ?_
     refine grs ?_
     refine gr_run ?_
     refine bind_e (fun v10 e10 => gr_call [] (impl_edgeOk.con e10) ?_)
     clear e10
     refine bif_e (fun c8 => ?_) (fun c8 => ?_)
     ·refine bif_e (fun c9 => ?_) (fun c9 => ?_)
      ·refine bind_e (fun v11 e11 => ?_)
       replace e11 := nf_ (ix_en en49 e11)
       refine bif_e (fun c10 => ?_) (fun c10 => ?_)
       ·refine gr_run ?_
        refine gr_done ?_
        refine go 3 ?_
        refine ret_e (fun hr_ => ?_)
        subst hr_
        exact ret_ Tryz.func21 []
       ·refine bif_e (fun c11 => ?_) (fun c11 => ?_)
        ·refine gr_run ?_
         refine gr_done ?_
         refine go 3 ?_
         refine ret_e (fun hr_ => ?_)
         subst hr_
         exact ret_ Tryz.func21 []
        ·refine gr_run ?_
         refine gr_done ?_
         refine bif_e (fun c12 => ?_) (fun c12 => ?_)
         ·refine go 3 ?_
          refine ret_e (fun hr_ => ?_)
          subst hr_
          exact ret_ Tryz.func21 []
         ·refine go 4 ?_
          exact fun h => good_again hl1 (by omega) ⟨_, ⟨by omega, _, g8 + 1, rfl, h⟩, frle_, memle_⟩
      ·refine bif_e (fun c13 => ?_) (fun c13 => ?_)
       ·refine gr_run ?_
        refine gr_done ?_
        refine go 3 ?_
        refine ret_e (fun hr_ => ?_)
        subst hr_
        exact ret_ Tryz.func21 []
       ·refine gr_run ?_
        refine gr_done ?_
        refine bif_e (fun c14 => ?_) (fun c14 => ?_)
        ·refine go 3 ?_
         refine ret_e (fun hr_ => ?_)
         subst hr_
         exact ret_ Tryz.func21 []
        ·refine go 4 ?_
         exact fun h => good_again hl1 (by omega) ⟨_, ⟨by omega, _, g8 + 1, rfl, h⟩, frle_, memle_⟩
     ·refine gr_run ?_
      refine gr_done ?_
      refine go 3 ?_
      refine ret_e (fun hr_ => ?_)
      subst hr_
      exact ret_ Tryz.func21 []
    ·refine go 7 ?_
     refine ret_e (fun hr_ => ?_)
     subst hr_
     exact ret_ Tryz.func21 []
def impl_RankOf_1.f (k : Nat) (v0 : Int) (v1 : (List (Int × Int))) : Option (Int × (List (Int × Int))) := (some ((tget v1 v0 0), v1))
set_option maxRecDepth 100000 in
set_option maxHeartbeats 4000000 in
theorem impl_RankOf_1.con {K : Kn} [KOk K] {k : Nat} {v0 : Int} {v1 : (List (Int × Int))} {r : Int × (List (Int × Int))} (h : impl_RankOf_1.f k v0 v1 = some r) : Con K Tryz.prog 23 [.p (.int .i64 v0), .ptr 1000 0 0] [(1000, (0, .cells [.mp 1500 0])), (1500, (0, .map (.int .i64) false (List.map (ei .i64 (irow .i64)) v1)))] (.p (.int .i64 r.1)) [(1000, (0, .cells [.mp 1500 0])), (1500, (0, .map (.int .i64) false (List.map (ei .i64 (irow .i64)) r.2)))] := by
 rw [impl_RankOf_1.f] at h
 refine con_intro 7 [] Tryz.func23 (by kernel_rfl) rfl rfl (by kernel_rfl) fun ι0 w0 hk0 => ?_
 revert h
 refine go 4 ?_
 refine ret_e (fun hr_ => ?_)
 subst hr_
 exact ret_ Tryz.func23 [(1000, (0, 1000, 0)), (1500, (0, 1500, 0))]
mutual
def impl_perNode_O.l0 : Nat → (List S59) → S31 → Int → (List (Int × Int)) → Option ((List S59) × (List (Int × Int)))
 | 0, _, _, _, _ => none
 | k + 1, v6, v0, v2, v3 => (bif decide (v2 < (v0.f0.length : Int)) then ((ix v0.f0 v2).bind fun v7 => ((impl_RankOf_1.f k v7.f0 v3).bind fun v8 => ((app v6 ([(⟨v7.f0, v8.1⟩ : S59)] : List S59)).bind fun v9 => (impl_perNode_O.l0 k v9 v0 (IntKind.i64.wrap (v2 + 1)) v8.2)))) else (some (v6, v3)))
def impl_perNode_O.f : Nat → S31 → (List (Int × Int)) → Option ((List S59) × (List (Int × Int)))
 | 0, _, _ => none
 | k + 1, v0, v1 => (impl_perNode_O.l0 k [] v0 0 v1)
end
set_option maxRecDepth 100000 in
set_option maxHeartbeats 4000000 in
theorem impl_perNode_O.con {K : Kn} [KOk K] {k : Nat} {v0 : S31} {v1 : (List (Int × Int))} {r : (List S59) × (List (Int × Int))} (h : impl_perNode_O.f k v0 v1 = some r) : Con K Tryz.prog 22 [.agg [.p (.lst false (List.map en46 v0.f0)), .p (.lst false (List.map en49 v0.f1))], .clo 23 [] [.ptr 1000 0 0]] [(1000, (0, .cells [.mp 1500 0])), (1500, (0, .map (.int .i64) false (List.map (ei .i64 (irow .i64)) v1)))] (.buf 2000 1 0 r.1.length) [(2000, (1, .buf 2 (List.map en59 r.1))), (1000, (0, .cells [.mp 1500 0])), (1500, (0, .map (.int .i64) false (List.map (ei .i64 (irow .i64)) r.2)))] := by
 cases k with
 | zero => exact absurd h (by simp [impl_perNode_O.f])
 | succ k =>
 rw [impl_perNode_O.f] at h
 refine con_intro 27 [24] Tryz.func22 (by kernel_rfl) rfl rfl (by kernel_rfl) fun ι0 w0 hk0 => ?_
 revert h
 refine go 8 ?_
 refine adoptB_ 5 24 2 ?_
 refine fun h => good_loop (fun n st => n ≤ k ∧ ∃ (v2 : _) (v3 : _) (v6 : _) (g4 : Nat) (g5 : Nat), st = ⟨[(1, .clo 23 [] [.ptr 1000 0 0]), (5, .buf 24 g5 0 v6.length), (9, .p (.lst false (List.map en46 v0.f0))), (10, .p (.int .i64 (v0.f0.length : Int))), (11, .p (.int .i64 v2))], [(1000, (0, .cells [.mp 1500 0])), (1500, (0, .map (.int .i64) false (List.map (ei .i64 (irow .i64)) v3))), (2, (1, .gone)), (7, (g4, .gone)), (24, (g5, .buf 2 (List.map en59 v6)))]⟩ ∧ impl_perNode_O.l0 n v6 v0 v2 v3 = some r) k ⟨_, ⟨Nat.le_refl _, _, _, _, 0, 1, rfl, h⟩, frle_, memle_⟩ ?_
 clear h
 rintro n _ ⟨hkl0, v2, v3, v6, g4, g5, rfl, h⟩ hl0
 cases n with
 | zero => exact absurd h (by simp [impl_perNode_O.l0])
 | succ kl0 =>
 rw [impl_perNode_O.l0] at h
 revert h
 refine bif_e (fun c1 => ?_) (fun c1 => ?_)
 ·refine bind_e (fun v7 e7 => ?_)
  replace e7 := nf_ (ix_en en46 e7)
  refine go 9 ?_
  refine grs ?_
  refine gr_run ?_
  refine bind_e (fun v8 e8 => gr_call [(1000, (0, 1000, 0)), (1500, (0, 1500, 0))] (impl_RankOf_1.con e8) ?_)
  clear e8
  refine bind_e (fun v9 e9 => ?_)
  replace e9 := nf_ (app_en en59 e9)
  refine gr_run ?_
  refine gr_done ?_
  refine go 2 ?_
  exact fun h => good_again hl0 (by omega) ⟨_, ⟨by omega, _, _, _, g4 + 1, g5 + 1, rfl, h⟩, frle_, memle_⟩
 ·refine go 7 ?_
  refine ret_e (fun hr_ => ?_)
  subst hr_
  exact ret_ Tryz.func22 [(2000, (1, 24, g5)), (1000, (0, 1000, 0)), (1500, (0, 1500, 0))]
mutual
def impl_RankOf_O.j0 : Nat → S31 → Int → Int → Int → Int → (List (Int × Int)) → (List (Int × Int)) → Option ((List S59))
 | 0, _, _, _, _, _, _, _ => none
 | k + 1, v0, v25, v1, v12, v21, v4, v14 => (impl_RankOf_O.l3 k v0 v25 v1 v12 (IntKind.i64.wrap (v21 + 1)) v4 v14)
def impl_RankOf_O.l5 : Nat → S31 → Int → Int → Int → (List (Int × Int)) → (List (Int × Int)) → (List (Int × Int)) → Option ((List S59))
 | 0, _, _, _, _, _, _, _ => none
 | k + 1, v0, v1, v12, v31, v4, v14, v32 => (bif decide (v31 < (v0.f1.length : Int)) then ((ix v0.f1 v31).bind fun v34 => ((quo .i64 (IntKind.i64.wrap (850 * (tget v14 v34.f2 0))) (IntKind.i64.wrap (1000 * (tget v4 v34.f2 0)))).bind fun v35 => (impl_RankOf_O.l5 k v0 v1 v12 (IntKind.i64.wrap (v31 + 1)) v4 v14 (tput v32 v34.f3 (IntKind.i64.wrap ((tget v32 v34.f3 0) + v35)))))) else (impl_RankOf_O.l2 k v0 v1 (IntKind.i64.wrap (v12 + 1)) v4 v32))
def impl_RankOf_O.l4 : Nat → S31 → Int → Int → Int → Int → (List (Int × Int)) → (List (Int × Int)) → (List (Int × Int)) → Option ((List S59))
 | 0, _, _, _, _, _, _, _, _ => none
 | k + 1, v0, v20, v1, v12, v26, v4, v14, v27 => (bif decide (v26 < (v0.f0.length : Int)) then ((ix v0.f0 v26).bind fun v29 => ((quo .i64 150000 (v0.f0.length : Int)).bind fun v30 => (impl_RankOf_O.l4 k v0 v20 v1 v12 (IntKind.i64.wrap (v26 + 1)) v4 v14 (tput v27 v29.f0 (IntKind.i64.wrap (v30 + v20)))))) else (impl_RankOf_O.l5 k v0 v1 v12 0 v4 v14 v27))
def impl_RankOf_O.l3 : Nat → S31 → Int → Int → Int → Int → (List (Int × Int)) → (List (Int × Int)) → Option ((List S59))
 | 0, _, _, _, _, _, _, _ => none
 | k + 1, v0, v20, v1, v12, v21, v4, v14 => (bif decide (v21 < (v0.f0.length : Int)) then ((ix v0.f0 v21).bind fun v23 => (bif ((tget v4 v23.f0 0) == 0) then ((quo .i64 (IntKind.i64.wrap (850 * (tget v14 v23.f0 0))) (IntKind.i64.wrap (1000 * (v0.f0.length : Int)))).bind fun v24 => (impl_RankOf_O.j0 k v0 (IntKind.i64.wrap (v20 + v24)) v1 v12 v21 v4 v14)) else (impl_RankOf_O.j0 k v0 v20 v1 v12 v21 v4 v14))) else (impl_RankOf_O.l4 k v0 v20 v1 v12 0 v4 v14 ([] : List (Int × Int))))
def impl_RankOf_O.l2 : Nat → S31 → Int → Int → (List (Int × Int)) → (List (Int × Int)) → Option ((List S59))
 | 0, _, _, _, _, _ => none
 | k + 1, v0, v1, v12, v4, v14 => (bif decide (v12 < v1) then (impl_RankOf_O.l3 k v0 0 v1 v12 0 v4 v14) else ((impl_perNode_O.f k v0 v14).bind fun v19 => (some v19.1)))
def impl_RankOf_O.l1 : Nat → Int → S31 → Int → (List (Int × Int)) → (List (Int × Int)) → Option ((List S59))
 | 0, _, _, _, _, _ => none
 | k + 1, v1, v0, v7, v4, v8 => (bif decide (v7 < (v0.f0.length : Int)) then ((ix v0.f0 v7).bind fun v10 => ((quo .i64 1000000 (v0.f0.length : Int)).bind fun v11 => (impl_RankOf_O.l1 k v1 v0 (IntKind.i64.wrap (v7 + 1)) v4 (tput v8 v10.f0 v11)))) else (impl_RankOf_O.l2 k v0 v1 0 v4 v8))
def impl_RankOf_O.l0 : Nat → Int → S31 → Int → (List (Int × Int)) → Option ((List S59))
 | 0, _, _, _, _ => none
 | k + 1, v1, v0, v3, v4 => (bif decide (v3 < (v0.f1.length : Int)) then ((ix v0.f1 v3).bind fun v6 => (impl_RankOf_O.l0 k v1 v0 (IntKind.i64.wrap (v3 + 1)) (tput v4 v6.f2 (IntKind.i64.wrap ((tget v4 v6.f2 0) + 1))))) else (impl_RankOf_O.l1 k v1 v0 0 v4 ([] : List (Int × Int))))
def impl_RankOf_O.f : Nat → S31 → Int → Option ((List S59))
 | 0, _, _ => none
 | k + 1, v0, v1 => ((impl_graphOk.f k v0).bind fun v2 => (bif v2 then (bif decide (v1 < 0) then (some ([] : List S59)) else (bif decide (50 < v1) then (some ([] : List S59)) else (bif ((v0.f0.length : Int) == 0) then (some ([] : List S59)) else (impl_RankOf_O.l0 k v1 v0 0 ([] : List (Int × Int)))))) else (some ([] : List S59))))
end
set_option maxRecDepth 100000 in
set_option maxHeartbeats 4000000 in
theorem impl_RankOf_O.con {K : Kn} [KOk K] {k : Nat} {v0 : S31} {v1 : Int} {r : (List S59)} (h : impl_RankOf_O.f k v0 v1 = some r) : Con K Tryz.prog 7 [.agg [.p (.lst false (List.map en46 v0.f0)), .p (.lst false (List.map en49 v0.f1))], .p (.int .i64 v1)] [] (.buf 2000 1 0 r.length) [(2000, (1, .buf 2 (List.map en59 r)))] := by
 cases k with
 | zero => exact absurd h (by simp [impl_RankOf_O.f])
 | succ k =>
 rw [impl_RankOf_O.f] at h
 refine con_intro 137 [] Tryz.func7 (by kernel_rfl) rfl rfl (by kernel_rfl) fun ι0 w0 hk0 => ?_
 revert h
 refine go 6 ?_
 refine grs ?_
 refine gr_run ?_
 refine bind_e (fun v2 e2 => gr_call [] (impl_graphOk.con e2) ?_)
 clear e2
 refine bif_e (fun c1 => ?_) (fun c1 => ?_)
 ·refine bif_e (fun c2 => ?_) (fun c2 => ?_)
  ·refine gr_run ?_
   refine gr_done ?_
   refine go 3 ?_
   refine adoptB_ 4 2504 2 ?_
   refine ret_e (fun hr_ => ?_)
   subst hr_
   exact ret_ Tryz.func7 [(2000, (1, 2504, 1))]
  ·refine bif_e (fun c3 => ?_) (fun c3 => ?_)
   ·refine gr_run ?_
    refine gr_done ?_
    refine go 3 ?_
    refine adoptB_ 4 2504 2 ?_
    refine ret_e (fun hr_ => ?_)
    subst hr_
    exact ret_ Tryz.func7 [(2000, (1, 2504, 1))]
   ·refine gr_run ?_
    refine gr_done ?_
    refine bif_e (fun c4 => ?_) (fun c4 => ?_)
    ·refine go 3 ?_
     refine adoptB_ 4 2504 2 ?_
     refine ret_e (fun hr_ => ?_)
     subst hr_
     exact ret_ Tryz.func7 [(2000, (1, 2504, 1))]
    ·refine go 8 ?_
     refine fun h => good_loop (fun n st => n ≤ k ∧ ∃ (v3 : _) (v4 : _) (g5 : Nat), st = ⟨[(1, .p (.int .i64 v1)), (2, .ptr 2 1 0), (5, .p (.int .i64 (v0.f0.length : Int))), (6, .mp 38 1), (40, .p (.lst false (List.map en49 v0.f1))), (41, .p (.int .i64 (v0.f1.length : Int))), (42, .p (.int .i64 v3))], [(2, (1, .cells [.p (.lst false (List.map en46 v0.f0)), .p (.lst false (List.map en49 v0.f1))])), (38, (1, .map (.int .i64) false (List.map (ei .i64 (irow .i64)) v4))), (8, (g5, .gone))]⟩ ∧ impl_RankOf_O.l0 n v1 v0 v3 v4 = some r) k ⟨_, ⟨Nat.le_refl _, _, _, 0, rfl, h⟩, frle_, memle_⟩ ?_
     clear c1 c2 c3 c4
     clear h
     rintro n _ ⟨hkl0, v3, v4, g5, rfl, h⟩ hl0
     cases n with
     | zero => exact absurd h (by simp [impl_RankOf_O.l0])
     | succ kl0 =>
     rw [impl_RankOf_O.l0] at h
     revert h
     refine bif_e (fun c5 => ?_) (fun c5 => ?_)
     ·refine bind_e (fun v6 e6 => ?_)
      replace e6 := nf_ (ix_en en49 e6)
      refine go 12 ?_
      exact fun h => good_again hl0 (by omega) ⟨_, ⟨by omega, _, _, g5 + 1, rfl, h⟩, frle_, memle_⟩
     ·refine go 11 ?_
      refine fun h => good_loop (fun n st => n ≤ kl0 ∧ ∃ (v7 : _) (v8 : _) (g9 : Nat), st = ⟨[(1, .p (.int .i64 v1)), (2, .ptr 2 1 0), (5, .p (.int .i64 (v0.f0.length : Int))), (6, .mp 38 1), (9, .ptr 9 1 0), (54, .p (.lst false (List.map en46 v0.f0))), (55, .p (.int .i64 (v0.f0.length : Int))), (56, .p (.int .i64 v7))], [(2, (1, .cells [.p (.lst false (List.map en46 v0.f0)), .p (.lst false (List.map en49 v0.f1))])), (38, (1, .map (.int .i64) false (List.map (ei .i64 (irow .i64)) v4))), (8, (g5, .gone)), (52, (1, .map (.int .i64) false (List.map (ei .i64 (irow .i64)) v8))), (9, (1, .cells [.mp 52 1])), (11, (g9, .gone))]⟩ ∧ impl_RankOf_O.l1 n v1 v0 v7 v4 v8 = some r) kl0 ⟨_, ⟨Nat.le_refl _, _, _, 0, rfl, h⟩, frle_, memle_⟩ ?_
      clear c5
      clear h
      rintro n _ ⟨hkl1, v7, v8, g9, rfl, h⟩ hl1
      cases n with
      | zero => exact absurd h (by simp [impl_RankOf_O.l1])
      | succ kl1 =>
      rw [impl_RankOf_O.l1] at h
      revert h
      refine bif_e (fun c6 => ?_) (fun c6 => ?_)
      ·refine bind_e (fun v10 e10 => ?_)
       replace e10 := nf_ (ix_en en46 e10)
       refine bind_e (fun v11 e11 => ?_)
       refine go 9 ?_
       refine grs ?_
       refine gr_run ?_
       refine gr_done ?_
       refine go 2 ?_
       exact fun h => good_again hl1 (by omega) ⟨_, ⟨by omega, _, _, g9 + 1, rfl, h⟩, frle_, memle_⟩
      ·refine go 9 ?_
       refine fun h => good_loop (fun n st => n ≤ kl1 ∧ ∃ (v12 : _) (v14 : _) (g13 : Nat) (g15 : Nat) (g16 : Nat) (g17 : Nat) (g18 : Nat), st = ⟨[(2, .ptr 2 1 0), (5, .p (.int .i64 (v0.f0.length : Int))), (6, .mp 38 1), (9, .ptr 9 1 0), (66, .p (.int .i64 v1)), (67, .p (.int .i64 v12))], [(2, (1, .cells [.p (.lst false (List.map en46 v0.f0)), .p (.lst false (List.map en49 v0.f1))])), (38, (1, .map (.int .i64) false (List.map (ei .i64 (irow .i64)) v4))), (8, (g5, .gone)), (52, (g13, .map (.int .i64) false (List.map (ei .i64 (irow .i64)) v14))), (9, (1, .cells [.mp 52 g13])), (11, (g9, .gone)), (69, (g15, .gone)), (15, (g16, .gone)), (17, (g17, .gone)), (19, (g18, .gone))]⟩ ∧ impl_RankOf_O.l2 n v0 v1 v12 v4 v14 = some r) kl1 ⟨_, ⟨Nat.le_refl _, _, _, 1, 0, 0, 0, 0, rfl, h⟩, frle_, memle_⟩ ?_
       clear c6
       clear h
       rintro n _ ⟨hkl2, v12, v14, g13, g15, g16, g17, g18, rfl, h⟩ hl2
       cases n with
       | zero => exact absurd h (by simp [impl_RankOf_O.l2])
       | succ kl2 =>
       rw [impl_RankOf_O.l2] at h
       revert h
       refine bif_e (fun c7 => ?_) (fun c7 => ?_)
       ·refine go 15 ?_
        refine fun h => good_loop (fun n st => n ≤ kl2 ∧ ∃ (v20 : _) (v21 : _) (g22 : Nat), st = ⟨[(2, .ptr 2 1 0), (5, .p (.int .i64 (v0.f0.length : Int))), (6, .mp 38 1), (9, .ptr 9 1 0), (12, .mp 69 (g15 + 1)), (13, .p (.int .i64 v20)), (66, .p (.int .i64 v1)), (67, .p (.int .i64 v12)), (71, .p (.lst false (List.map en46 v0.f0))), (72, .p (.int .i64 (v0.f0.length : Int))), (73, .p (.int .i64 v21))], [(2, (1, .cells [.p (.lst false (List.map en46 v0.f0)), .p (.lst false (List.map en49 v0.f1))])), (38, (1, .map (.int .i64) false (List.map (ei .i64 (irow .i64)) v4))), (8, (g5, .gone)), (52, (g13, .map (.int .i64) false (List.map (ei .i64 (irow .i64)) v14))), (9, (1, .cells [.mp 52 g13])), (11, (g9, .gone)), (69, (g15 + 1, .map (.int .i64) false (List.map (ei .i64 (irow .i64)) ([] : List (Int × Int))))), (15, (g22, .gone)), (17, (g17, .gone)), (19, (g18, .gone))]⟩ ∧ impl_RankOf_O.l3 n v0 v20 v1 v12 v21 v4 v14 = some r) kl2 ⟨_, ⟨Nat.le_refl _, _, _, g16, rfl, h⟩, frle_, memle_⟩ ?_
        clear c7
        clear h
        rintro n _ ⟨hkl3, v20, v21, g22, rfl, h⟩ hl3
        cases n with
        | zero => exact absurd h (by simp [impl_RankOf_O.l3])
        | succ kl3 =>
        rw [impl_RankOf_O.l3] at h
        revert h
        refine bif_e (fun c8 => ?_) (fun c8 => ?_)
        ·refine go 6 ?_
         refine good_cut (fun st => ∃ (v25 : _) (q_ : Nat), q_ ≤ kl3 ∧ st = ⟨[(2, .ptr 2 1 0), (5, .p (.int .i64 (v0.f0.length : Int))), (6, .mp 38 1), (9, .ptr 9 1 0), (12, .mp 69 (g15 + 1)), (13, .p (.int .i64 v25)), (66, .p (.int .i64 v1)), (67, .p (.int .i64 v12)), (71, .p (.lst false (List.map en46 v0.f0))), (72, .p (.int .i64 (v0.f0.length : Int))), (73, .p (.int .i64 v21))], [(2, (1, .cells [.p (.lst false (List.map en46 v0.f0)), .p (.lst false (List.map en49 v0.f1))])), (38, (1, .map (.int .i64) false (List.map (ei .i64 (irow .i64)) v4))), (8, (g5, .gone)), (52, (g13, .map (.int .i64) false (List.map (ei .i64 (irow .i64)) v14))), (9, (1, .cells [.mp 52 g13])), (11, (g9, .gone)), (69, (g15 + 1, .map (.int .i64) false (List.map (ei .i64 (irow .i64)) ([] : List (Int × Int))))), (15, (g22 + 1, .gone)), (17, (g17, .gone)), (19, (g18, .gone))]⟩ ∧ impl_RankOf_O.j0 q_ v0 v25 v1 v12 v21 v4 v14 = some r) ?_ (fun hj0 => ?_)
         ·clear c8
          rintro _ ⟨v25, q_, hqj0, rfl, h⟩
          cases q_ with
          | zero => exact absurd h (by simp [impl_RankOf_O.j0])
          | succ kj0 =>
          rw [impl_RankOf_O.j0] at h
          revert h
          refine go 1 ?_
          exact fun h => good_again hl3 (by omega) ⟨_, ⟨by omega, _, _, g22 + 1, rfl, h⟩, frle_, memle_⟩
         ·refine bind_e (fun v23 e23 => ?_)
          replace e23 := nf_ (ix_en en46 e23)
          refine bif_e (fun c9 => ?_) (fun c9 => ?_)
          ·refine bind_e (fun v24 e24 => ?_)
           refine go 8 ?_
           exact fun h => good_jump hj0 ⟨_, ⟨_, _, by omega, rfl, h⟩, frle_, memle_⟩
          ·refine go 8 ?_
           exact fun h => good_jump hj0 ⟨_, ⟨_, _, by omega, rfl, h⟩, frle_, memle_⟩
        ·refine go 9 ?_
         refine fun h => good_loop (fun n st => n ≤ kl3 ∧ ∃ (v26 : _) (v27 : _) (g28 : Nat), st = ⟨[(2, .ptr 2 1 0), (5, .p (.int .i64 (v0.f0.length : Int))), (6, .mp 38 1), (9, .ptr 9 1 0), (12, .mp 69 (g15 + 1)), (13, .p (.int .i64 v20)), (66, .p (.int .i64 v1)), (67, .p (.int .i64 v12)), (94, .p (.lst false (List.map en46 v0.f0))), (95, .p (.int .i64 (v0.f0.length : Int))), (96, .p (.int .i64 v26))], [(2, (1, .cells [.p (.lst false (List.map en46 v0.f0)), .p (.lst false (List.map en49 v0.f1))])), (38, (1, .map (.int .i64) false (List.map (ei .i64 (irow .i64)) v4))), (8, (g5, .gone)), (52, (g13, .map (.int .i64) false (List.map (ei .i64 (irow .i64)) v14))), (9, (1, .cells [.mp 52 g13])), (11, (g9, .gone)), (69, (g15 + 1, .map (.int .i64) false (List.map (ei .i64 (irow .i64)) v27))), (15, (g22, .gone)), (17, (g28, .gone)), (19, (g18, .gone))]⟩ ∧ impl_RankOf_O.l4 n v0 v20 v1 v12 v26 v4 v14 v27 = some r) kl3 ⟨_, ⟨Nat.le_refl _, _, _, g17, rfl, h⟩, frle_, memle_⟩ ?_
         clear c8
         clear h
         rintro n _ ⟨hkl4, v26, v27, g28, rfl, h⟩ hl4
         cases n with
         | zero => exact absurd h (by simp [impl_RankOf_O.l4])
         | succ kl4 =>
         rw [impl_RankOf_O.l4] at h
         revert h
         refine bif_e (fun c10 => ?_) (fun c10 => ?_)
         ·refine bind_e (fun v29 e29 => ?_)
          replace e29 := nf_ (ix_en en46 e29)
          refine bind_e (fun v30 e30 => ?_)
          refine go 9 ?_
          refine grs ?_
          refine gr_run ?_
          refine gr_done ?_
          refine go 2 ?_
          exact fun h => good_again hl4 (by omega) ⟨_, ⟨by omega, _, _, g28 + 1, rfl, h⟩, frle_, memle_⟩
         ·refine go 9 ?_
          refine fun h => good_loop (fun n st => n ≤ kl4 ∧ ∃ (v31 : _) (v32 : _) (g33 : Nat), st = ⟨[(2, .ptr 2 1 0), (5, .p (.int .i64 (v0.f0.length : Int))), (6, .mp 38 1), (9, .ptr 9 1 0), (12, .mp 69 (g15 + 1)), (66, .p (.int .i64 v1)), (67, .p (.int .i64 v12)), (109, .p (.lst false (List.map en49 v0.f1))), (110, .p (.int .i64 (v0.f1.length : Int))), (111, .p (.int .i64 v31))], [(2, (1, .cells [.p (.lst false (List.map en46 v0.f0)), .p (.lst false (List.map en49 v0.f1))])), (38, (1, .map (.int .i64) false (List.map (ei .i64 (irow .i64)) v4))), (8, (g5, .gone)), (52, (g13, .map (.int .i64) false (List.map (ei .i64 (irow .i64)) v14))), (9, (1, .cells [.mp 52 g13])), (11, (g9, .gone)), (69, (g15 + 1, .map (.int .i64) false (List.map (ei .i64 (irow .i64)) v32))), (15, (g22, .gone)), (17, (g28, .gone)), (19, (g33, .gone))]⟩ ∧ impl_RankOf_O.l5 n v0 v1 v12 v31 v4 v14 v32 = some r) kl4 ⟨_, ⟨Nat.le_refl _, _, _, g18, rfl, h⟩, frle_, memle_⟩ ?_
          clear c10
          clear h
          rintro n _ ⟨hkl5, v31, v32, g33, rfl, h⟩ hl5
          cases n with
          | zero => exact absurd h (by simp [impl_RankOf_O.l5])
          | succ kl5 =>
          rw [impl_RankOf_O.l5] at h
          revert h
          refine bif_e (fun c11 => ?_) (fun c11 => ?_)
          ·refine bind_e (fun v34 e34 => ?_)
           replace e34 := nf_ (ix_en en49 e34)
           refine bind_e (fun v35 e35 => ?_)
           refine go 9 ?_
           refine grs ?_
           refine gr_run ?_
           refine gr_done ?_
           refine go 2 ?_
           exact fun h => good_again hl5 (by omega) ⟨_, ⟨by omega, _, _, g33 + 1, rfl, h⟩, frle_, memle_⟩
          ·refine go 8 ?_
           refine movec_ 9 0 52 69 ?_
           exact fun h => good_again hl2 (by omega) ⟨_, ⟨by omega, _, _, (g13 + 1), g15 + 1, g22, g28, g33, rfl, h⟩, frle_, memle_⟩
       ·refine go 6 ?_
        refine grs ?_
        refine gr_run ?_
        refine bind_e (fun v19 e19 => gr_call [(2000, (1, 136, 1)), (1000, (0, 9, 1)), (1500, (0, 52, g13))] (impl_perNode_O.con e19) ?_)
        clear e19
        refine gr_run ?_
        refine gr_done ?_
        refine ret_e (fun hr_ => ?_)
        subst hr_
        exact ret_ Tryz.func7 [(2000, (1, 136, 1))]
 ·refine gr_run ?_
  refine gr_done ?_
  refine go 3 ?_
  refine adoptB_ 4 2504 2 ?_
  refine ret_e (fun hr_ => ?_)
  subst hr_
  exact ret_ Tryz.func7 [(2000, (1, 2504, 1))]
end Go.Ab
