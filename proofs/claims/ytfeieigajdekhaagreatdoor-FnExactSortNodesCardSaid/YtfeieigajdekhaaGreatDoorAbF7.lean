/- What the functions compute, and their contracts, part 7. No condition beyond KOk. -/
import Derived.Test.YtfeieigajdekhaaGreatDoorAbX
import Derived.Test.YtfeieigajdekhaaGreatDoorAbF5
import Derived.Test.YtfeieigajdekhaaGreatDoorAbF6
namespace Go.Ab
open Go.Proofs
set_option linter.unusedVariables false
set_option linter.unusedSimpArgs false
def impl_nodeOk.f (k : Nat) (v0 : S49) : Option (Bool) := ((impl_idOk.f k v0.f0).bind fun v1 => (bif v1 then ((impl_risingNames.f k v0.f1 10).bind fun v2 => (bif v2 then ((impl_fieldsOk.f k v0.f2).bind fun v3 => (some v3)) else (some false))) else (some false)))
set_option maxRecDepth 100000 in
set_option maxHeartbeats 4000000 in
theorem impl_nodeOk.con {K : Kn} [KOk K] {k : Nat} {v0 : S49} {r : Bool} (h : impl_nodeOk.f k v0 = some r) : Con K Tryz.prog 32 [.agg [.p (.int .i64 v0.f0), .p (.lst false (List.map srw v0.f1)), .p (.lst false (List.map en91 v0.f2))]] [] (.p (.bool r)) [] := by
 rw [impl_nodeOk.f] at h
 refine con_intro 16 [] Tryz.func32 (by kernel_rfl) rfl rfl (by kernel_rfl) fun ι0 w0 hk0 => ?_
 revert h
 refine go 3 ?_
 refine grs ?_
 refine gr_run ?_
 refine bind_e (fun v1 e1 => gr_call [] (impl_idOk.con e1) ?_)
 clear e1
 refine bif_e (fun c1 => ?_) (fun c1 => ?_)
 ·refine gr_run ?_
  refine bind_e (fun v2 e2 => gr_call [] (impl_risingNames.con e2) ?_)
  clear e2
  refine bif_e (fun c2 => ?_) (fun c2 => ?_)
  ·refine gr_run ?_
   refine bind_e (fun v3 e3 => gr_call [] (impl_fieldsOk.con e3) ?_)
   clear e3
   refine gr_run ?_
   refine gr_done ?_
   refine ret_e (fun hr_ => ?_)
   subst hr_
   exact ret_ Tryz.func32 []
  ·refine gr_run ?_
   refine gr_done ?_
   refine ret_e (fun hr_ => ?_)
   subst hr_
   exact ret_ Tryz.func32 []
 ·refine gr_run ?_
  refine gr_done ?_
  refine ret_e (fun hr_ => ?_)
  subst hr_
  exact ret_ Tryz.func32 []
def impl_edgeOk.f (k : Nat) (v0 : S68) : Option (Bool) := ((impl_idOk.f k v0.f0).bind fun v1 => (bif v1 then ((impl_isName.f k v0.f1).bind fun v2 => (bif v2 then ((impl_idOk.f k v0.f2).bind fun v3 => (bif v3 then ((impl_idOk.f k v0.f3).bind fun v4 => (bif v4 then ((impl_fieldsOk.f k v0.f4).bind fun v5 => (some v5)) else (some false))) else (some false))) else (some false))) else (some false)))
set_option maxRecDepth 100000 in
set_option maxHeartbeats 4000000 in
theorem impl_edgeOk.con {K : Kn} [KOk K] {k : Nat} {v0 : S68} {r : Bool} (h : impl_edgeOk.f k v0 = some r) : Con K Tryz.prog 33 [.agg [.p (.int .i64 v0.f0), .p (.str v0.f1), .p (.int .i64 v0.f2), .p (.int .i64 v0.f3), .p (.lst false (List.map en91 v0.f4))]] [] (.p (.bool r)) [] := by
 rw [impl_edgeOk.f] at h
 refine con_intro 26 [] Tryz.func33 (by kernel_rfl) rfl rfl (by kernel_rfl) fun ι0 w0 hk0 => ?_
 revert h
 refine go 3 ?_
 refine grs ?_
 refine gr_run ?_
 refine bind_e (fun v1 e1 => gr_call [] (impl_idOk.con e1) ?_)
 clear e1
 refine bif_e (fun c1 => ?_) (fun c1 => ?_)
 ·refine gr_run ?_
  refine bind_e (fun v2 e2 => gr_call [] (impl_isName.con e2) ?_)
  clear e2
  refine bif_e (fun c2 => ?_) (fun c2 => ?_)
  ·refine gr_run ?_
   refine bind_e (fun v3 e3 => gr_call [] (impl_idOk.con e3) ?_)
   clear e3
   refine bif_e (fun c3 => ?_) (fun c3 => ?_)
   ·refine gr_run ?_
    refine bind_e (fun v4 e4 => gr_call [] (impl_idOk.con e4) ?_)
    clear e4
    refine bif_e (fun c4 => ?_) (fun c4 => ?_)
    ·refine gr_run ?_
     refine bind_e (fun v5 e5 => gr_call [] (impl_fieldsOk.con e5) ?_)
     clear e5
     refine gr_run ?_
     refine gr_done ?_
     refine ret_e (fun hr_ => ?_)
     subst hr_
     exact ret_ Tryz.func33 []
    ·refine gr_run ?_
     refine gr_done ?_
     refine ret_e (fun hr_ => ?_)
     subst hr_
     exact ret_ Tryz.func33 []
   ·refine gr_run ?_
    refine gr_done ?_
    refine ret_e (fun hr_ => ?_)
    subst hr_
    exact ret_ Tryz.func33 []
  ·refine gr_run ?_
   refine gr_done ?_
   refine ret_e (fun hr_ => ?_)
   subst hr_
   exact ret_ Tryz.func33 []
 ·refine gr_run ?_
  refine gr_done ?_
  refine ret_e (fun hr_ => ?_)
  subst hr_
  exact ret_ Tryz.func33 []
mutual
def impl_graphOk.j0 : Nat → S31 → Int → (List (Int × Int)) → S49 → Option (Bool)
 | 0, _, _, _, _ => none
 | k + 1, v0, v1, v2, v4 => (impl_graphOk.l0 k v0 (IntKind.i64.wrap (v1 + 1)) (tput v2 v4.f0 1))
def impl_graphOk.l1 : Nat → S31 → Int → (List (Int × Int)) → Option (Bool)
 | 0, _, _, _ => none
 | k + 1, v0, v7, v2 => (bif decide (v7 < (v0.f1.length : Int)) then ((ix v0.f1 v7).bind fun v9 => ((impl_edgeOk.f k v9).bind fun v10 => (bif v10 then (bif decide (0 < v7) then ((ix v0.f1 (IntKind.i64.wrap (v7 - 1))).bind fun v11 => (bif decide (v9.f0 ≤ v11.f0) then (some false) else (bif ((tget v2 v9.f2 0) == 0) then (some false) else (bif ((tget v2 v9.f3 0) == 0) then (some false) else (impl_graphOk.l1 k v0 (IntKind.i64.wrap (v7 + 1)) v2))))) else (bif ((tget v2 v9.f2 0) == 0) then (some false) else (bif ((tget v2 v9.f3 0) == 0) then (some false) else (impl_graphOk.l1 k v0 (IntKind.i64.wrap (v7 + 1)) v2)))) else (some false)))) else (some true))
def impl_graphOk.l0 : Nat → S31 → Int → (List (Int × Int)) → Option (Bool)
 | 0, _, _, _ => none
 | k + 1, v0, v1, v2 => (bif decide (v1 < (v0.f0.length : Int)) then ((ix v0.f0 v1).bind fun v4 => ((impl_nodeOk.f k v4).bind fun v5 => (bif v5 then (bif decide (0 < v1) then ((ix v0.f0 (IntKind.i64.wrap (v1 - 1))).bind fun v6 => (bif decide (v4.f0 ≤ v6.f0) then (some false) else (impl_graphOk.j0 k v0 v1 v2 v4))) else (impl_graphOk.j0 k v0 v1 v2 v4)) else (some false)))) else (impl_graphOk.l1 k v0 0 v2))
def impl_graphOk.f : Nat → S31 → Option (Bool)
 | 0, _ => none
 | k + 1, v0 => (bif decide (200 < (v0.f0.length : Int)) then (some false) else (bif decide (400 < (v0.f1.length : Int)) then (some false) else (impl_graphOk.l0 k v0 0 ([] : List (Int × Int)))))
end
set_option maxRecDepth 100000 in
set_option maxHeartbeats 4000000 in
theorem impl_graphOk.con {K : Kn} [KOk K] {k : Nat} {v0 : S31} {r : Bool} (h : impl_graphOk.f k v0 = some r) : Con K Tryz.prog 19 [.agg [.p (.lst false (List.map en49 v0.f0)), .p (.lst false (List.map en68 v0.f1))]] [] (.p (.bool r)) [] := by
 cases k with
 | zero => exact absurd h (by simp [impl_graphOk.f])
 | succ k =>
 rw [impl_graphOk.f] at h
 refine con_intro 92 [] Tryz.func19 (by kernel_rfl) rfl rfl (by kernel_rfl) fun ι0 w0 hk0 => ?_
 revert h
 refine bif_e (fun c1 => ?_) (fun c1 => ?_)
 ·refine go 8 ?_
  refine ret_e (fun hr_ => ?_)
  subst hr_
  exact ret_ Tryz.func19 []
 ·refine bif_e (fun c2 => ?_) (fun c2 => ?_)
  ·refine go 8 ?_
   refine ret_e (fun hr_ => ?_)
   subst hr_
   exact ret_ Tryz.func19 []
  ·refine go 13 ?_
   refine fun h => good_loop (fun n st => n ≤ k ∧ ∃ (v1 : _) (v2 : _) (g3 : Nat), st = ⟨[(1, .ptr 1 1 0), (3, .mp 18 1), (20, .p (.lst false (List.map en49 v0.f0))), (21, .p (.int .i64 (v0.f0.length : Int))), (22, .p (.int .i64 v1))], [(1, (1, .cells [.p (.lst false (List.map en49 v0.f0)), .p (.lst false (List.map en68 v0.f1))])), (18, (1, .map (.int .i64) false (List.map (ei .i64 (irow .i64)) v2))), (5, (g3, .gone))]⟩ ∧ impl_graphOk.l0 n v0 v1 v2 = some r) k ⟨_, ⟨Nat.le_refl _, _, _, 0, rfl, h⟩, frle_, memle_⟩ ?_
   clear c1 c2
   clear h
   rintro n _ ⟨hkl0, v1, v2, g3, rfl, h⟩ hl0
   cases n with
   | zero => exact absurd h (by simp [impl_graphOk.l0])
   | succ kl0 =>
   rw [impl_graphOk.l0] at h
   revert h
   refine bif_e (fun c3 => ?_) (fun c3 => ?_)
   ·refine bind_e (fun v4 e4 => ?_)
    replace e4 := nf_ (ix_en en49 e4)
    refine go 11 ?_
    refine good_cut_f (fun st => ∃ (q_ : Nat), q_ ≤ kl0 ∧ st = ⟨[(1, .ptr 1 1 0), (3, .mp 18 1), (5, .ptr 5 (g3 + 1) 0), (20, .p (.lst false (List.map en49 v0.f0))), (21, .p (.int .i64 (v0.f0.length : Int))), (22, .p (.int .i64 v1))], [(1, (1, .cells [.p (.lst false (List.map en49 v0.f0)), .p (.lst false (List.map en68 v0.f1))])), (18, (1, .map (.int .i64) false (List.map (ei .i64 (irow .i64)) v2))), (5, (g3 + 1, .cells [.p (.int .i64 v4.f0), .p (.lst false (List.map srw v4.f1)), .p (.lst false (List.map en91 v4.f2))]))]⟩ ∧ impl_graphOk.j0 q_ v0 v1 v2 v4 = some r) ?_ (fun hj0 => ?_)
    ·clear c3 e4
     rintro _ ⟨q_, hqj0, rfl, h⟩
     cases q_ with
     | zero => exact absurd h (by simp [impl_graphOk.j0])
     | succ kj0 =>
     rw [impl_graphOk.j0] at h
     revert h
     refine go 4 ?_
     exact fun h => good_again hl0 (by omega) ⟨_, ⟨by omega, _, _, g3 + 1, rfl, h⟩, frle_, memle_⟩
    ·refine grs ?_
     refine gr_run ?_
     refine bind_e (fun v5 e5 => gr_call [] (impl_nodeOk.con e5) ?_)
     clear e5
     refine bif_e (fun c4 => ?_) (fun c4 => ?_)
     ·refine bif_e (fun c5 => ?_) (fun c5 => ?_)
      ·refine bind_e (fun v6 e6 => ?_)
       replace e6 := nf_ (ix_en en49 e6)
       refine gr_run ?_
       refine gr_done ?_
       refine bif_e (fun c6 => ?_) (fun c6 => ?_)
       ·refine go 3 ?_
        refine ret_e (fun hr_ => ?_)
        subst hr_
        exact ret_ Tryz.func19 []
       ·refine go 1 ?_
        exact fun h => good_jump hj0 ⟨_, ⟨_, by omega, rfl, h⟩, frle_, memle_⟩
      ·refine gr_run ?_
       refine gr_done ?_
       refine go 1 ?_
       exact fun h => good_jump hj0 ⟨_, ⟨_, by omega, rfl, h⟩, frle_, memle_⟩
     ·refine gr_run ?_
      refine gr_done ?_
      refine go 3 ?_
      refine ret_e (fun hr_ => ?_)
      subst hr_
      exact ret_ Tryz.func19 []
   ·refine go 9 ?_
    refine fun h => good_loop (fun n st => n ≤ kl0 ∧ ∃ (v7 : _) (g8 : Nat), st = ⟨[(1, .ptr 1 1 0), (3, .mp 18 1), (51, .p (.lst false (List.map en68 v0.f1))), (52, .p (.int .i64 (v0.f1.length : Int))), (53, .p (.int .i64 v7))], [(1, (1, .cells [.p (.lst false (List.map en49 v0.f0)), .p (.lst false (List.map en68 v0.f1))])), (18, (1, .map (.int .i64) false (List.map (ei .i64 (irow .i64)) v2))), (5, (g3, .gone)), (7, (g8, .gone))]⟩ ∧ impl_graphOk.l1 n v0 v7 v2 = some r) kl0 ⟨_, ⟨Nat.le_refl _, _, 0, rfl, h⟩, frle_, memle_⟩ ?_
    clear c3
    clear h
    rintro n _ ⟨hkl1, v7, g8, rfl, h⟩ hl1
    cases n with
    | zero => exact absurd h (by simp [impl_graphOk.l1])
    | succ kl1 =>
    rw [impl_graphOk.l1] at h
    revert h
    refine bif_e (fun c7 => ?_) (fun c7 => ?_)
    ·refine bind_e (fun v9 e9 => ?_)
     replace e9 := nf_ (ix_en en68 e9)
     refine go 10 ?_
     refine grs ?_
     refine gr_run ?_
     refine bind_e (fun v10 e10 => gr_call [] (impl_edgeOk.con e10) ?_)
     clear e10
     refine bif_e (fun c8 => ?_) (fun c8 => ?_)
     ·refine bif_e (fun c9 => ?_) (fun c9 => ?_)
      ·refine bind_e (fun v11 e11 => ?_)
       replace e11 := nf_ (ix_en en68 e11)
       refine bif_e (fun c10 => ?_) (fun c10 => ?_)
       ·refine gr_run ?_
        refine gr_done ?_
        refine go 3 ?_
        refine ret_e (fun hr_ => ?_)
        subst hr_
        exact ret_ Tryz.func19 []
       ·refine bif_e (fun c11 => ?_) (fun c11 => ?_)
        ·refine gr_run ?_
         refine gr_done ?_
         refine go 3 ?_
         refine ret_e (fun hr_ => ?_)
         subst hr_
         exact ret_ Tryz.func19 []
        ·refine gr_run ?_
         refine gr_done ?_
         refine bif_e (fun c12 => ?_) (fun c12 => ?_)
         ·refine go 3 ?_
          refine ret_e (fun hr_ => ?_)
          subst hr_
          exact ret_ Tryz.func19 []
         ·refine go 4 ?_
          exact fun h => good_again hl1 (by omega) ⟨_, ⟨by omega, _, g8 + 1, rfl, h⟩, frle_, memle_⟩
      ·refine bif_e (fun c13 => ?_) (fun c13 => ?_)
       ·refine gr_run ?_
        refine gr_done ?_
        refine go 3 ?_
        refine ret_e (fun hr_ => ?_)
        subst hr_
        exact ret_ Tryz.func19 []
       ·refine gr_run ?_
        refine gr_done ?_
        refine bif_e (fun c14 => ?_) (fun c14 => ?_)
        ·refine go 3 ?_
         refine ret_e (fun hr_ => ?_)
         subst hr_
         exact ret_ Tryz.func19 []
        ·refine go 4 ?_
         exact fun h => good_again hl1 (by omega) ⟨_, ⟨by omega, _, g8 + 1, rfl, h⟩, frle_, memle_⟩
     ·refine gr_run ?_
      refine gr_done ?_
      refine go 3 ?_
      refine ret_e (fun hr_ => ?_)
      subst hr_
      exact ret_ Tryz.func19 []
    ·refine go 7 ?_
     refine ret_e (fun hr_ => ?_)
     subst hr_
     exact ret_ Tryz.func19 []
mutual
def impl_around.j1 : Nat → Int → Bool → (List Int) → S31 → Int → S68 → Option ((List Int))
 | 0, _, _, _, _, _, _ => none
 | k + 1, v1, v11, v12, v0, v5, v8 => (bif v11 then (bif (v8.f3 == v1) then ((app v12 ([v8.f2] : List Int)).bind fun v13 => (impl_around.l0 k v1 true v13 v0 (IntKind.i64.wrap (v5 + 1)))) else (impl_around.l0 k v1 true v12 v0 (IntKind.i64.wrap (v5 + 1)))) else (impl_around.l0 k v1 false v12 v0 (IntKind.i64.wrap (v5 + 1))))
def impl_around.j0 : Nat → Int → Bool → (List Int) → S31 → Int → S68 → Option ((List Int))
 | 0, _, _, _, _, _, _ => none
 | k + 1, v1, v9, v4, v0, v5, v8 => (impl_around.j1 k v1 v9 v4 v0 v5 v8)
def impl_around.l0 : Nat → Int → Bool → (List Int) → S31 → Int → Option ((List Int))
 | 0, _, _, _, _, _ => none
 | k + 1, v1, v3, v4, v0, v5 => (bif decide (v5 < (v0.f1.length : Int)) then ((ix v0.f1 v5).bind fun v8 => (bif v3 then (impl_around.j0 k v1 true v4 v0 v5 v8) else (bif (v8.f2 == v1) then ((app v4 ([v8.f3] : List Int)).bind fun v10 => (impl_around.j1 k v1 false v10 v0 v5 v8)) else (impl_around.j0 k v1 false v4 v0 v5 v8)))) else (some v4))
def impl_around.f : Nat → S31 → Int → Bool → Option ((List Int))
 | 0, _, _, _ => none
 | k + 1, v0, v1, v2 => (impl_around.l0 k v1 v2 [] v0 0)
end
set_option maxRecDepth 100000 in
set_option maxHeartbeats 4000000 in
theorem impl_around.con {K : Kn} [KOk K] {k : Nat} {v0 : S31} {v1 : Int} {v2 : Bool} {r : (List Int)} (h : impl_around.f k v0 v1 v2 = some r) : Con K Tryz.prog 34 [.agg [.p (.lst false (List.map en49 v0.f0)), .p (.lst false (List.map en68 v0.f1))], .p (.int .i64 v1), .p (.bool v2)] [] (.p (.lst false (List.map (irow .i64) r))) [] := by
 cases k with
 | zero => exact absurd h (by simp [impl_around.f])
 | succ k =>
 rw [impl_around.f] at h
 refine con_intro 44 [] Tryz.func34 (by kernel_rfl) rfl rfl (by kernel_rfl) fun ι0 w0 hk0 => ?_
 revert h
 refine go 8 ?_
 refine adopt_ 7 29 1 ?_
 refine fun h => good_loop (fun n st => n ≤ k ∧ ∃ (v3 : _) (v4 : _) (v5 : _) (g6 : Nat) (g7 : Nat), st = ⟨[(1, .p (.int .i64 v1)), (2, .p (.bool v3)), (7, .tip 29 g7 (List.map (irow .i64) v4)), (11, .p (.lst false (List.map en68 v0.f1))), (12, .p (.int .i64 (v0.f1.length : Int))), (13, .p (.int .i64 v5))], [(3, (1, .gone)), (9, (g6, .gone)), (29, (g7, .tip 1 (v4).length))]⟩ ∧ impl_around.l0 n v1 v3 v4 v0 v5 = some r) k ⟨_, ⟨Nat.le_refl _, _, _, _, 0, 1, rfl, h⟩, frle_, memle_⟩ ?_
 clear h
 rintro n _ ⟨hkl0, v3, v4, v5, g6, g7, rfl, h⟩ hl0
 cases n with
 | zero => exact absurd h (by simp [impl_around.l0])
 | succ kl0 =>
 rw [impl_around.l0] at h
 revert h
 refine bif_e (fun c1 => ?_) (fun c1 => ?_)
 ·refine bind_e (fun v8 e8 => ?_)
  replace e8 := nf_ (ix_en en68 e8)
  refine go 10 ?_
  refine good_cut (fun st => ∃ (v11 : _) (v12 : _) (q_ : Nat), q_ ≤ kl0 ∧ st = ⟨[(1, .p (.int .i64 v1)), (2, .p (.bool v11)), (7, .tip 29 g7 (List.map (irow .i64) v12)), (9, .ptr 9 (g6 + 1) 0), (11, .p (.lst false (List.map en68 v0.f1))), (12, .p (.int .i64 (v0.f1.length : Int))), (13, .p (.int .i64 v5))], [(3, (1, .gone)), (9, (g6 + 1, .cells [.p (.int .i64 v8.f0), .p (.str v8.f1), .p (.int .i64 v8.f2), .p (.int .i64 v8.f3), .p (.lst false (List.map en91 v8.f4))])), (29, (g7, .tip 1 (v12).length))]⟩ ∧ impl_around.j1 q_ v1 v11 v12 v0 v5 v8 = some r) ?_ (fun hj1 => ?_)
  ·clear c1 e8
   rintro _ ⟨v11, v12, q_, hqj1, rfl, h⟩
   cases q_ with
   | zero => exact absurd h (by simp [impl_around.j1])
   | succ kj1 =>
   rw [impl_around.j1] at h
   revert h
   refine bif_e (fun c2 => ?_) (fun c2 => ?_)
   ·refine bif_e (fun c3 => ?_) (fun c3 => ?_)
    ·refine bind_e (fun v13 e13 => ?_)
     replace e13 := nf_ (app_en (irow .i64) e13)
     refine go 6 ?_
     exact fun h => good_again hl0 (by omega) ⟨_, ⟨by omega, _, _, _, g6 + 1, g7, rfl, h⟩, frle_, memle_⟩
    ·refine go 6 ?_
     exact fun h => good_again hl0 (by omega) ⟨_, ⟨by omega, _, _, _, g6 + 1, g7, rfl, h⟩, frle_, memle_⟩
   ·refine go 6 ?_
    exact fun h => good_again hl0 (by omega) ⟨_, ⟨by omega, _, _, _, g6 + 1, g7, rfl, h⟩, frle_, memle_⟩
  ·refine go 1 ?_
   refine good_cut_f (fun st => ∃ (v9 : _) (q_ : Nat), q_ ≤ kl0 ∧ st = ⟨[(1, .p (.int .i64 v1)), (2, .p (.bool v9)), (7, .tip 29 g7 (List.map (irow .i64) v4)), (9, .ptr 9 (g6 + 1) 0), (11, .p (.lst false (List.map en68 v0.f1))), (12, .p (.int .i64 (v0.f1.length : Int))), (13, .p (.int .i64 v5))], [(3, (1, .gone)), (9, (g6 + 1, .cells [.p (.int .i64 v8.f0), .p (.str v8.f1), .p (.int .i64 v8.f2), .p (.int .i64 v8.f3), .p (.lst false (List.map en91 v8.f4))])), (29, (g7, .tip 1 (v4).length))]⟩ ∧ impl_around.j0 q_ v1 v9 v4 v0 v5 v8 = some r) ?_ (fun hj0 => ?_)
   ·clear c1 e8
    rintro _ ⟨v9, q_, hqj0, rfl, h⟩
    cases q_ with
    | zero => exact absurd h (by simp [impl_around.j0])
    | succ kj0 =>
    rw [impl_around.j0] at h
    revert h
    refine go 1 ?_
    exact fun h => good_jump hj1 ⟨_, ⟨_, _, _, by omega, rfl, h⟩, frle_, memle_⟩
   ·refine bif_e (fun c4 => ?_) (fun c4 => ?_)
    ·refine go 2 ?_
     exact fun h => good_jump hj0 ⟨_, ⟨_, _, by omega, rfl, h⟩, frle_, memle_⟩
    ·refine bif_e (fun c5 => ?_) (fun c5 => ?_)
     ·refine bind_e (fun v10 e10 => ?_)
      replace e10 := nf_ (app_en (irow .i64) e10)
      refine go 3 ?_
      exact fun h => good_jump hj1 ⟨_, ⟨_, _, _, by omega, rfl, h⟩, frle_, memle_⟩
     ·refine go 2 ?_
      exact fun h => good_jump hj0 ⟨_, ⟨_, _, by omega, rfl, h⟩, frle_, memle_⟩
 ·refine go 7 ?_
  refine ret_e (fun hr_ => ?_)
  subst hr_
  exact ret_ Tryz.func34 []
mutual
def impl_sortNodes_O.l3 : Nat → (List Int) → S31 → Int → (List Int) → Int → (List (Int × Int)) → (List (Int × Int)) → Int → Option ((List Int) × Bool)
 | 0, _, _, _, _, _, _, _, _ => none
 | k + 1, v16, v0, v5, v17, v18, v19, v7, v14 => (bif decide (v18 < (v17.length : Int)) then ((ix v17 v18).bind fun v20 => (impl_sortNodes_O.l3 k v16 v0 v5 v17 (IntKind.i64.wrap (v18 + 1)) (tput v19 v20 (IntKind.i64.wrap ((tget v19 v20 0) - 1))) v7 v14)) else (impl_sortNodes_O.l1 k v16 v0 (IntKind.i64.wrap (v5 + 1)) v19 (tput v7 v14 1)))
def impl_sortNodes_O.j1 : Nat → (List Int) → Int → S31 → Int → (List (Int × Int)) → (List (Int × Int)) → Option ((List Int) × Bool)
 | 0, _, _, _, _, _, _ => none
 | k + 1, v10, v14, v0, v5, v6, v7 => (bif (v14 == 0) then (some (([] : List Int), false)) else ((app v10 ([v14] : List Int)).bind fun v16 => ((impl_around.f k v0 v14 false).bind fun v17 => (impl_sortNodes_O.l3 k v16 v0 v5 v17 0 v6 v7 v14))))
def impl_sortNodes_O.j0 : Nat → (List Int) → S31 → Int → Int → (List (Int × Int)) → (List (Int × Int)) → Option ((List Int) × Bool)
 | 0, _, _, _, _, _, _ => none
 | k + 1, v10, v0, v5, v11, v6, v7 => (impl_sortNodes_O.l2 k v10 v0 v5 (IntKind.i64.wrap (v11 + 1)) v6 v7)
def impl_sortNodes_O.l2 : Nat → (List Int) → S31 → Int → Int → (List (Int × Int)) → (List (Int × Int)) → Option ((List Int) × Bool)
 | 0, _, _, _, _, _, _ => none
 | k + 1, v10, v0, v5, v11, v6, v7 => (bif decide (v11 < (v0.f0.length : Int)) then ((ix v0.f0 v11).bind fun v13 => (bif ((tget v7 v13.f0 0) == 0) then (bif ((tget v6 v13.f0 0) == 0) then (impl_sortNodes_O.j1 k v10 v13.f0 v0 v5 v6 v7) else (impl_sortNodes_O.j0 k v10 v0 v5 v11 v6 v7)) else (impl_sortNodes_O.j0 k v10 v0 v5 v11 v6 v7))) else (impl_sortNodes_O.j1 k v10 0 v0 v5 v6 v7))
def impl_sortNodes_O.l1 : Nat → (List Int) → S31 → Int → (List (Int × Int)) → (List (Int × Int)) → Option ((List Int) × Bool)
 | 0, _, _, _, _, _ => none
 | k + 1, v10, v0, v5, v6, v7 => (bif decide (v5 < (v0.f0.length : Int)) then (impl_sortNodes_O.l2 k v10 v0 v5 0 v6 v7) else (some (v10, true)))
def impl_sortNodes_O.l0 : Nat → S31 → Int → (List (Int × Int)) → Option ((List Int) × Bool)
 | 0, _, _, _ => none
 | k + 1, v0, v1, v2 => (bif decide (v1 < (v0.f1.length : Int)) then ((ix v0.f1 v1).bind fun v4 => (impl_sortNodes_O.l0 k v0 (IntKind.i64.wrap (v1 + 1)) (tput v2 v4.f3 (IntKind.i64.wrap ((tget v2 v4.f3 0) + 1))))) else (impl_sortNodes_O.l1 k [] v0 0 v2 ([] : List (Int × Int))))
def impl_sortNodes_O.f : Nat → S31 → Option ((List Int) × Bool)
 | 0, _ => none
 | k + 1, v0 => (impl_sortNodes_O.l0 k v0 0 ([] : List (Int × Int)))
end
set_option maxRecDepth 100000 in
set_option maxHeartbeats 4000000 in
theorem impl_sortNodes_O.con {K : Kn} [KOk K] {k : Nat} {v0 : S31} {r : (List Int) × Bool} (h : impl_sortNodes_O.f k v0 = some r) : Con K Tryz.prog 20 [.agg [.p (.lst false (List.map en49 v0.f0)), .p (.lst false (List.map en68 v0.f1))]] [] (.tup [.buf 2000 1 0 r.1.length, .p (.bool r.2)]) [(2000, (1, .buf 1 (List.map (irow .i64) r.1)))] := by
 cases k with
 | zero => exact absurd h (by simp [impl_sortNodes_O.f])
 | succ k =>
 rw [impl_sortNodes_O.f] at h
 refine con_intro 79 [63] Tryz.func20 (by kernel_rfl) rfl rfl (by kernel_rfl) fun ι0 w0 hk0 => ?_
 revert h
 refine go 10 ?_
 refine fun h => good_loop (fun n st => n ≤ k ∧ ∃ (v1 : _) (v2 : _) (g3 : Nat), st = ⟨[(1, .ptr 1 1 0), (4, .p .nilS), (5, .mp 14 1), (16, .p (.lst false (List.map en68 v0.f1))), (17, .p (.int .i64 (v0.f1.length : Int))), (18, .p (.int .i64 v1))], [(1, (1, .cells [.p (.lst false (List.map en49 v0.f0)), .p (.lst false (List.map en68 v0.f1))])), (14, (1, .map (.int .i64) false (List.map (ei .i64 (irow .i64)) v2))), (7, (g3, .gone))]⟩ ∧ impl_sortNodes_O.l0 n v0 v1 v2 = some r) k ⟨_, ⟨Nat.le_refl _, _, _, 0, rfl, h⟩, frle_, memle_⟩ ?_
 clear h
 rintro n _ ⟨hkl0, v1, v2, g3, rfl, h⟩ hl0
 cases n with
 | zero => exact absurd h (by simp [impl_sortNodes_O.l0])
 | succ kl0 =>
 rw [impl_sortNodes_O.l0] at h
 revert h
 refine bif_e (fun c1 => ?_) (fun c1 => ?_)
 ·refine bind_e (fun v4 e4 => ?_)
  replace e4 := nf_ (ix_en en68 e4)
  refine go 12 ?_
  exact fun h => good_again hl0 (by omega) ⟨_, ⟨by omega, _, _, g3 + 1, rfl, h⟩, frle_, memle_⟩
 ·refine go 11 ?_
  refine adoptB_ 4 63 1 ?_
  refine fun h => good_loop (fun n st => n ≤ kl0 ∧ ∃ (v5 : _) (v6 : _) (v7 : _) (v10 : _) (g8 : Nat) (g9 : Nat), st = ⟨[(1, .ptr 1 1 0), (4, .buf 63 g9 0 v10.length), (5, .mp 14 1), (8, .mp 28 1), (31, .p (.int .i64 (v0.f0.length : Int))), (32, .p (.int .i64 v5))], [(1, (1, .cells [.p (.lst false (List.map en49 v0.f0)), .p (.lst false (List.map en68 v0.f1))])), (14, (1, .map (.int .i64) false (List.map (ei .i64 (irow .i64)) v6))), (7, (g3, .gone)), (28, (1, .map (.int .i64) false (List.map (ei .i64 (irow .i64)) v7))), (11, (g8, .gone)), (63, (g9, .buf 1 (List.map (irow .i64) v10)))]⟩ ∧ impl_sortNodes_O.l1 n v10 v0 v5 v6 v7 = some r) kl0 ⟨_, ⟨Nat.le_refl _, _, _, _, _, 0, 1, rfl, h⟩, frle_, memle_⟩ ?_
  clear c1
  clear h
  rintro n _ ⟨hkl1, v5, v6, v7, v10, g8, g9, rfl, h⟩ hl1
  cases n with
  | zero => exact absurd h (by simp [impl_sortNodes_O.l1])
  | succ kl1 =>
  rw [impl_sortNodes_O.l1] at h
  revert h
  refine bif_e (fun c2 => ?_) (fun c2 => ?_)
  ·refine go 10 ?_
   refine good_cut (fun st => ∃ (v14 : _) (g15 : Nat) (q_ : Nat), q_ ≤ kl1 ∧ st = ⟨[(1, .ptr 1 1 0), (4, .buf 63 g9 0 v10.length), (5, .mp 14 1), (8, .mp 28 1), (9, .p (.int .i64 v14)), (31, .p (.int .i64 (v0.f0.length : Int))), (32, .p (.int .i64 v5))], [(1, (1, .cells [.p (.lst false (List.map en49 v0.f0)), .p (.lst false (List.map en68 v0.f1))])), (14, (1, .map (.int .i64) false (List.map (ei .i64 (irow .i64)) v6))), (7, (g3, .gone)), (28, (1, .map (.int .i64) false (List.map (ei .i64 (irow .i64)) v7))), (11, (g15, .gone)), (63, (g9, .buf 1 (List.map (irow .i64) v10)))]⟩ ∧ impl_sortNodes_O.j1 q_ v10 v14 v0 v5 v6 v7 = some r) ?_ (fun hj1 => ?_)
   ·clear c2
    rintro _ ⟨v14, g15, q_, hqj1, rfl, h⟩
    cases q_ with
    | zero => exact absurd h (by simp [impl_sortNodes_O.j1])
    | succ kj1 =>
    rw [impl_sortNodes_O.j1] at h
    revert h
    refine bif_e (fun c3 => ?_) (fun c3 => ?_)
    ·refine go 6 ?_
     refine adoptB_ 2 2502 1 ?_
     refine ret_e (fun hr_ => ?_)
     subst hr_
     exact ret_ Tryz.func20 [(2000, (1, 2502, 1))]
    ·refine bind_e (fun v16 e16 => ?_)
     replace e16 := nf_ (app_en (irow .i64) e16)
     refine go 10 ?_
     refine grs ?_
     refine gr_run ?_
     refine bind_e (fun v17 e17 => gr_call [] (impl_around.con e17) ?_)
     clear e17
     refine gr_run ?_
     refine gr_done ?_
     refine go 1 ?_
     refine fun h => good_loop (fun n st => n ≤ kj1 ∧ ∃ (v18 : _) (v19 : _), st = ⟨[(1, .ptr 1 1 0), (4, .buf 63 (g9 + 1) 0 v16.length), (5, .mp 14 1), (8, .mp 28 1), (31, .p (.int .i64 (v0.f0.length : Int))), (32, .p (.int .i64 v5)), (66, .p (.lst false (List.map (irow .i64) v17))), (67, .p (.int .i64 (v17.length : Int))), (68, .p (.int .i64 v18))], [(1, (1, .cells [.p (.lst false (List.map en49 v0.f0)), .p (.lst false (List.map en68 v0.f1))])), (14, (1, .map (.int .i64) false (List.map (ei .i64 (irow .i64)) v19))), (7, (g3, .gone)), (28, (1, .map (.int .i64) false (List.map (ei .i64 (irow .i64)) (tput v7 v14 1)))), (11, (g15, .gone)), (63, (g9 + 1, .buf 1 (List.map (irow .i64) v16)))]⟩ ∧ impl_sortNodes_O.l3 n v16 v0 v5 v17 v18 v19 v7 v14 = some r) kj1 ⟨_, ⟨Nat.le_refl _, _, _, rfl, h⟩, frle_, memle_⟩ ?_
     clear c3 e16
     clear h
     rintro n _ ⟨hkl3, v18, v19, rfl, h⟩ hl3
     cases n with
     | zero => exact absurd h (by simp [impl_sortNodes_O.l3])
     | succ kl3 =>
     rw [impl_sortNodes_O.l3] at h
     revert h
     refine bif_e (fun c4 => ?_) (fun c4 => ?_)
     ·refine bind_e (fun v20 e20 => ?_)
      replace e20 := nf_ (ix_en (irow .i64) e20)
      refine go 12 ?_
      exact fun h => good_again hl3 (by omega) ⟨_, ⟨by omega, _, _, rfl, h⟩, frle_, memle_⟩
     ·refine go 7 ?_
      exact fun h => good_again hl1 (by omega) ⟨_, ⟨by omega, _, _, _, _, g15, g9 + 1, rfl, h⟩, frle_, memle_⟩
   ·refine go 3 ?_
    refine fun h => good_loop (fun n st => n ≤ kl1 ∧ ∃ (v11 : _) (g12 : Nat), st = ⟨[(1, .ptr 1 1 0), (4, .buf 63 g9 0 v10.length), (5, .mp 14 1), (8, .mp 28 1), (9, .p (.int .i64 0)), (31, .p (.int .i64 (v0.f0.length : Int))), (32, .p (.int .i64 v5)), (35, .p (.lst false (List.map en49 v0.f0))), (36, .p (.int .i64 (v0.f0.length : Int))), (37, .p (.int .i64 v11))], [(1, (1, .cells [.p (.lst false (List.map en49 v0.f0)), .p (.lst false (List.map en68 v0.f1))])), (14, (1, .map (.int .i64) false (List.map (ei .i64 (irow .i64)) v6))), (7, (g3, .gone)), (28, (1, .map (.int .i64) false (List.map (ei .i64 (irow .i64)) v7))), (11, (g12, .gone)), (63, (g9, .buf 1 (List.map (irow .i64) v10)))]⟩ ∧ impl_sortNodes_O.l2 n v10 v0 v5 v11 v6 v7 = some r) kl1 ⟨_, ⟨Nat.le_refl _, _, g8, rfl, h⟩, frle_, memle_⟩ ?_
    clear c2
    clear h
    rintro n _ ⟨hkl2, v11, g12, rfl, h⟩ hl2
    cases n with
    | zero => exact absurd h (by simp [impl_sortNodes_O.l2])
    | succ kl2 =>
    rw [impl_sortNodes_O.l2] at h
    revert h
    refine bif_e (fun c5 => ?_) (fun c5 => ?_)
    ·refine bind_e (fun v13 e13 => ?_)
     replace e13 := nf_ (ix_en en49 e13)
     refine go 10 ?_
     refine good_cut_f (fun st => ∃ (q_ : Nat), q_ ≤ kl2 ∧ st = ⟨[(1, .ptr 1 1 0), (4, .buf 63 g9 0 v10.length), (5, .mp 14 1), (8, .mp 28 1), (9, .p (.int .i64 0)), (31, .p (.int .i64 (v0.f0.length : Int))), (32, .p (.int .i64 v5)), (35, .p (.lst false (List.map en49 v0.f0))), (36, .p (.int .i64 (v0.f0.length : Int))), (37, .p (.int .i64 v11))], [(1, (1, .cells [.p (.lst false (List.map en49 v0.f0)), .p (.lst false (List.map en68 v0.f1))])), (14, (1, .map (.int .i64) false (List.map (ei .i64 (irow .i64)) v6))), (7, (g3, .gone)), (28, (1, .map (.int .i64) false (List.map (ei .i64 (irow .i64)) v7))), (11, (g12 + 1, .gone)), (63, (g9, .buf 1 (List.map (irow .i64) v10)))]⟩ ∧ impl_sortNodes_O.j0 q_ v10 v0 v5 v11 v6 v7 = some r) ?_ (fun hj0 => ?_)
     ·clear c5 e13
      rintro _ ⟨q_, hqj0, rfl, h⟩
      cases q_ with
      | zero => exact absurd h (by simp [impl_sortNodes_O.j0])
      | succ kj0 =>
      rw [impl_sortNodes_O.j0] at h
      revert h
      refine go 3 ?_
      exact fun h => good_again hl2 (by omega) ⟨_, ⟨by omega, _, g12 + 1, rfl, h⟩, frle_, memle_⟩
     ·refine bif_e (fun c6 => ?_) (fun c6 => ?_)
      ·refine bif_e (fun c7 => ?_) (fun c7 => ?_)
       ·refine go 5 ?_
        exact fun h => good_jump hj1 ⟨_, ⟨_, g12 + 1, _, by omega, rfl, h⟩, frle_, memle_⟩
       ·refine go 2 ?_
        exact fun h => good_jump hj0 ⟨_, ⟨_, by omega, rfl, h⟩, frle_, memle_⟩
      ·refine go 2 ?_
       exact fun h => good_jump hj0 ⟨_, ⟨_, by omega, rfl, h⟩, frle_, memle_⟩
    ·refine go 5 ?_
     exact fun h => good_jump hj1 ⟨_, ⟨_, g12, _, by omega, rfl, h⟩, frle_, memle_⟩
  ·refine go 7 ?_
   refine ret_e (fun hr_ => ?_)
   subst hr_
   exact ret_ Tryz.func20 [(2000, (1, 63, g9))]
def impl_SortNodes_O.f (k : Nat) (v0 : S31) : Option ((List Int)) := ((impl_graphOk.f k v0).bind fun v1 => (bif v1 then ((impl_sortNodes_O.f k v0).bind fun v2 => (some v2.1)) else (some ([] : List Int))))
set_option maxRecDepth 100000 in
set_option maxHeartbeats 4000000 in
theorem impl_SortNodes_O.con {K : Kn} [KOk K] {k : Nat} {v0 : S31} {r : (List Int)} (h : impl_SortNodes_O.f k v0 = some r) : Con K Tryz.prog 7 [.agg [.p (.lst false (List.map en49 v0.f0)), .p (.lst false (List.map en68 v0.f1))]] [] (.buf 2000 1 0 r.length) [(2000, (1, .buf 1 (List.map (irow .i64) r)))] := by
 rw [impl_SortNodes_O.f] at h
 refine con_intro 14 [] Tryz.func7 (by kernel_rfl) rfl rfl (by kernel_rfl) fun ι0 w0 hk0 => ?_
 revert h
 refine go 4 ?_
 refine grs ?_
 refine gr_run ?_
 refine bind_e (fun v1 e1 => gr_call [] (impl_graphOk.con e1) ?_)
 clear e1
 refine gr_run ?_
 refine gr_done ?_
 refine bif_e (fun c1 => ?_) (fun c1 => ?_)
 ·refine go 3 ?_
  refine grs ?_
  refine gr_run ?_
  refine bind_e (fun v2 e2 => gr_call [(2000, (1, 10, 1))] (impl_sortNodes_O.con e2) ?_)
  clear e2
  refine gr_run ?_
  refine gr_done ?_
  refine go 2 ?_
  refine ret_e (fun hr_ => ?_)
  subst hr_
  exact ret_ Tryz.func7 [(2000, (1, 10, 1))]
 ·refine go 3 ?_
  refine adoptB_ 2 2502 1 ?_
  refine ret_e (fun hr_ => ?_)
  subst hr_
  exact ret_ Tryz.func7 [(2000, (1, 2502, 1))]
end Go.Ab
