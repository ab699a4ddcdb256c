/- What the functions compute, and their contracts, part 10. No condition beyond KOk. -/
import Derived.Test.YtfjckgcbgepndaaGreatDoorAbX
import Derived.Test.YtfjckgcbgepndaaGreatDoorAbF7
namespace Go.Ab
open Go.Proofs
set_option linter.unusedVariables false
set_option linter.unusedSimpArgs false
def impl_GraphFault.f (k : Nat) (v0 : S49) : Option (Int) := ((impl_graphOk.f k v0).bind fun v1 => (bif v1 then (some 0) else (some 1)))
set_option maxRecDepth 100000 in
set_option maxHeartbeats 4000000 in
theorem impl_GraphFault.con {K : Kn} [KOk K] {k : Nat} {v0 : S49} {r : Int} (h : impl_GraphFault.f k v0 = some r) : Con K Tryz.prog 34 [.agg [.p (.lst false (List.map en88 v0.f0)), .p (.lst false (List.map en90 v0.f1))]] [] (.p (.int .i64 r)) [] := by
 rw [impl_GraphFault.f] at h
 refine con_intro 6 [] Tryz.func34 (by kernel_rfl) rfl rfl (by kernel_rfl) fun ι0 w0 hk0 => ?_
 revert h
 refine go 4 ?_
 refine grs ?_
 refine gr_run ?_
 refine bind_e (fun v1 e1 => gr_call [] (impl_graphOk.con e1) ?_)
 clear e1
 refine gr_run ?_
 refine gr_done ?_
 refine bif_e (fun c1 => ?_) (fun c1 => ?_)
 ·refine go 4 ?_
  refine ret_e (fun hr_ => ?_)
  subst hr_
  exact ret_ Tryz.func34 []
 ·refine go 3 ?_
  refine ret_e (fun hr_ => ?_)
  subst hr_
  exact ret_ Tryz.func34 []
mutual
def impl_InOf_O.l0 : Nat → Int → (List Int) → S49 → Int → Option ((List Int))
 | 0, _, _, _, _ => none
 | k + 1, v1, v6, v0, v3 => (bif decide (v3 < (v0.f1.length : Int)) then ((ix v0.f1 v3).bind fun v7 => (bif (v7.f3 == v1) then ((app v6 ([v7.f0] : List Int)).bind fun v8 => (impl_InOf_O.l0 k v1 v8 v0 (IntKind.i64.wrap (v3 + 1)))) else (impl_InOf_O.l0 k v1 v6 v0 (IntKind.i64.wrap (v3 + 1))))) else (some v6))
def impl_InOf_O.f : Nat → S49 → Int → Option ((List Int))
 | 0, _, _ => none
 | k + 1, v0, v1 => ((impl_graphOk.f k v0).bind fun v2 => (bif v2 then (impl_InOf_O.l0 k v1 [] v0 0) else (some ([] : List Int))))
end
set_option maxRecDepth 100000 in
set_option maxHeartbeats 4000000 in
theorem impl_InOf_O.con {K : Kn} [KOk K] {k : Nat} {v0 : S49} {v1 : Int} {r : (List Int)} (h : impl_InOf_O.f k v0 v1 = some r) : Con K Tryz.prog 39 [.agg [.p (.lst false (List.map en88 v0.f0)), .p (.lst false (List.map en90 v0.f1))], .p (.int .i64 v1)] [] (.buf 2000 1 0 r.length) [(2000, (1, .buf 1 (List.map (irow .i64) r)))] := by
 cases k with
 | zero => exact absurd h (by simp [impl_InOf_O.f])
 | succ k =>
 rw [impl_InOf_O.f] at h
 refine con_intro 29 [26] Tryz.func39 (by kernel_rfl) rfl rfl (by kernel_rfl) fun ι0 w0 hk0 => ?_
 revert h
 refine go 6 ?_
 refine grs ?_
 refine gr_run ?_
 refine bind_e (fun v2 e2 => gr_call [] (impl_graphOk.con e2) ?_)
 clear e2
 refine gr_run ?_
 refine gr_done ?_
 refine bif_e (fun c1 => ?_) (fun c1 => ?_)
 ·refine go 6 ?_
  refine adoptB_ 5 26 1 ?_
  refine fun h => good_loop (fun n st => n ≤ k ∧ ∃ (v3 : _) (v6 : _) (g4 : Nat) (g5 : Nat), st = ⟨[(1, .p (.int .i64 v1)), (5, .buf 26 g5 0 v6.length), (12, .p (.lst false (List.map en90 v0.f1))), (13, .p (.int .i64 (v0.f1.length : Int))), (14, .p (.int .i64 v3))], [(2, (1, .gone)), (7, (g4, .gone)), (26, (g5, .buf 1 (List.map (irow .i64) v6)))]⟩ ∧ impl_InOf_O.l0 n v1 v6 v0 v3 = some r) k ⟨_, ⟨Nat.le_refl _, _, _, 0, 1, rfl, h⟩, frle_, memle_⟩ ?_
  clear c1
  clear h
  rintro n _ ⟨hkl0, v3, v6, g4, g5, rfl, h⟩ hl0
  cases n with
  | zero => exact absurd h (by simp [impl_InOf_O.l0])
  | succ kl0 =>
  rw [impl_InOf_O.l0] at h
  revert h
  refine bif_e (fun c2 => ?_) (fun c2 => ?_)
  ·refine bind_e (fun v7 e7 => ?_)
   replace e7 := nf_ (ix_en en90 e7)
   refine bif_e (fun c3 => ?_) (fun c3 => ?_)
   ·refine bind_e (fun v8 e8 => ?_)
    replace e8 := nf_ (app_en (irow .i64) e8)
    refine go 15 ?_
    exact fun h => good_again hl0 (by omega) ⟨_, ⟨by omega, _, _, g4 + 1, g5 + 1, rfl, h⟩, frle_, memle_⟩
   ·refine go 15 ?_
    exact fun h => good_again hl0 (by omega) ⟨_, ⟨by omega, _, _, g4 + 1, g5, rfl, h⟩, frle_, memle_⟩
  ·refine go 7 ?_
   refine ret_e (fun hr_ => ?_)
   subst hr_
   exact ret_ Tryz.func39 [(2000, (1, 26, g5))]
 ·refine go 3 ?_
  refine adoptB_ 4 2504 1 ?_
  refine ret_e (fun hr_ => ?_)
  subst hr_
  exact ret_ Tryz.func39 [(2000, (1, 2504, 1))]
mutual
def impl_OutOf_O.l0 : Nat → Int → (List Int) → S49 → Int → Option ((List Int))
 | 0, _, _, _, _ => none
 | k + 1, v1, v6, v0, v3 => (bif decide (v3 < (v0.f1.length : Int)) then ((ix v0.f1 v3).bind fun v7 => (bif (v7.f2 == v1) then ((app v6 ([v7.f0] : List Int)).bind fun v8 => (impl_OutOf_O.l0 k v1 v8 v0 (IntKind.i64.wrap (v3 + 1)))) else (impl_OutOf_O.l0 k v1 v6 v0 (IntKind.i64.wrap (v3 + 1))))) else (some v6))
def impl_OutOf_O.f : Nat → S49 → Int → Option ((List Int))
 | 0, _, _ => none
 | k + 1, v0, v1 => ((impl_graphOk.f k v0).bind fun v2 => (bif v2 then (impl_OutOf_O.l0 k v1 [] v0 0) else (some ([] : List Int))))
end
set_option maxRecDepth 100000 in
set_option maxHeartbeats 4000000 in
theorem impl_OutOf_O.con {K : Kn} [KOk K] {k : Nat} {v0 : S49} {v1 : Int} {r : (List Int)} (h : impl_OutOf_O.f k v0 v1 = some r) : Con K Tryz.prog 42 [.agg [.p (.lst false (List.map en88 v0.f0)), .p (.lst false (List.map en90 v0.f1))], .p (.int .i64 v1)] [] (.buf 2000 1 0 r.length) [(2000, (1, .buf 1 (List.map (irow .i64) r)))] := by
 cases k with
 | zero => exact absurd h (by simp [impl_OutOf_O.f])
 | succ k =>
 rw [impl_OutOf_O.f] at h
 refine con_intro 29 [26] Tryz.func42 (by kernel_rfl) rfl rfl (by kernel_rfl) fun ι0 w0 hk0 => ?_
 revert h
 refine go 6 ?_
 refine grs ?_
 refine gr_run ?_
 refine bind_e (fun v2 e2 => gr_call [] (impl_graphOk.con e2) ?_)
 clear e2
 refine gr_run ?_
 refine gr_done ?_
 refine bif_e (fun c1 => ?_) (fun c1 => ?_)
 ·refine go 6 ?_
  refine adoptB_ 5 26 1 ?_
  refine fun h => good_loop (fun n st => n ≤ k ∧ ∃ (v3 : _) (v6 : _) (g4 : Nat) (g5 : Nat), st = ⟨[(1, .p (.int .i64 v1)), (5, .buf 26 g5 0 v6.length), (12, .p (.lst false (List.map en90 v0.f1))), (13, .p (.int .i64 (v0.f1.length : Int))), (14, .p (.int .i64 v3))], [(2, (1, .gone)), (7, (g4, .gone)), (26, (g5, .buf 1 (List.map (irow .i64) v6)))]⟩ ∧ impl_OutOf_O.l0 n v1 v6 v0 v3 = some r) k ⟨_, ⟨Nat.le_refl _, _, _, 0, 1, rfl, h⟩, frle_, memle_⟩ ?_
  clear c1
  clear h
  rintro n _ ⟨hkl0, v3, v6, g4, g5, rfl, h⟩ hl0
  cases n with
  | zero => exact absurd h (by simp [impl_OutOf_O.l0])
  | succ kl0 =>
  rw [impl_OutOf_O.l0] at h
  revert h
  refine bif_e (fun c2 => ?_) (fun c2 => ?_)
  ·refine bind_e (fun v7 e7 => ?_)
   replace e7 := nf_ (ix_en en90 e7)
   refine bif_e (fun c3 => ?_) (fun c3 => ?_)
   ·refine bind_e (fun v8 e8 => ?_)
    replace e8 := nf_ (app_en (irow .i64) e8)
    refine go 15 ?_
    exact fun h => good_again hl0 (by omega) ⟨_, ⟨by omega, _, _, g4 + 1, g5 + 1, rfl, h⟩, frle_, memle_⟩
   ·refine go 15 ?_
    exact fun h => good_again hl0 (by omega) ⟨_, ⟨by omega, _, _, g4 + 1, g5, rfl, h⟩, frle_, memle_⟩
  ·refine go 7 ?_
   refine ret_e (fun hr_ => ?_)
   subst hr_
   exact ret_ Tryz.func42 [(2000, (1, 26, g5))]
 ·refine go 3 ?_
  refine adoptB_ 4 2504 1 ?_
  refine ret_e (fun hr_ => ?_)
  subst hr_
  exact ret_ Tryz.func42 [(2000, (1, 2504, 1))]
end Go.Ab
