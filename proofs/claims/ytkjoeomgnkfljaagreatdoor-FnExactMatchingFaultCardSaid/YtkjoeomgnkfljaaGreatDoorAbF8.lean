/- What the functions compute, and their contracts, part 8. No condition beyond KOk. -/
import Derived.Test.YtkjoeomgnkfljaaGreatDoorAbX
import Derived.Test.YtkjoeomgnkfljaaGreatDoorAbF1
import Derived.Test.YtkjoeomgnkfljaaGreatDoorAbF4
import Derived.Test.YtkjoeomgnkfljaaGreatDoorAbF7
namespace Go.Ab
open Go.Proofs
set_option linter.unusedVariables false
set_option linter.unusedSimpArgs false
mutual
def laws_eqEdgeS.l0 : Nat → (List S110) → (List S110) → Int → Option (Bool)
 | 0, _, _, _ => none
 | k + 1, v0, v1, v2 => (bif decide (v2 < (v0.length : Int)) then ((ix v0 v2).bind fun v3 => ((ix v1 v2).bind fun v4 => ((laws_eqEdge.f k v3 v4).bind fun v5 => (bif v5 then (laws_eqEdgeS.l0 k v0 v1 (IntKind.i64.wrap (v2 + 1))) else (some false))))) else (some true))
def laws_eqEdgeS.f : Nat → (List S110) → (List S110) → Option (Bool)
 | 0, _, _ => none
 | k + 1, v0, v1 => (bif ((v0.length : Int) == (v1.length : Int)) then (laws_eqEdgeS.l0 k v0 v1 0) else (some false))
end
set_option maxRecDepth 100000 in
set_option maxHeartbeats 4000000 in
theorem laws_eqEdgeS.con {K : Kn} [KOk K] {k : Nat} {v0 : (List S110)} {v1 : (List S110)} {r : Bool} (h : laws_eqEdgeS.f k v0 v1 = some r) : Con K Tryz.prog 60 [.p (.lst false (List.map en110 v0)), .p (.lst false (List.map en110 v1))] [] (.p (.bool r)) [] := by
 cases k with
 | zero => exact absurd h (by simp [laws_eqEdgeS.f])
 | succ k =>
 rw [laws_eqEdgeS.f] at h
 refine con_intro 27 [] Tryz.func60 (by kernel_rfl) rfl rfl (by kernel_rfl) fun ι0 w0 hk0 => ?_
 revert h
 refine bif_e (fun c1 => ?_) (fun c1 => ?_)
 ·refine go 11 ?_
  refine fun h => good_loop (fun n st => n ≤ k ∧ ∃ (v2 : _), st = ⟨[(0, .p (.lst false (List.map en110 v0))), (1, .p (.lst false (List.map en110 v1))), (5, .p (.int .i64 v2))], []⟩ ∧ laws_eqEdgeS.l0 n v0 v1 v2 = some r) k ⟨_, ⟨Nat.le_refl _, _, rfl, h⟩, frle_, memle_⟩ ?_
  clear c1
  clear h
  rintro n _ ⟨hkl0, v2, rfl, h⟩ hl0
  cases n with
  | zero => exact absurd h (by simp [laws_eqEdgeS.l0])
  | succ kl0 =>
  rw [laws_eqEdgeS.l0] at h
  revert h
  refine bif_e (fun c2 => ?_) (fun c2 => ?_)
  ·refine bind_e (fun v3 e3 => ?_)
   replace e3 := nf_ (ix_en en110 e3)
   refine bind_e (fun v4 e4 => ?_)
   replace e4 := nf_ (ix_en en110 e4)
   refine go 8 ?_
   refine grs ?_
   refine gr_run ?_
   refine bind_e (fun v5 e5 => gr_call [] (laws_eqEdge.con e5) ?_)
   clear e5
   refine gr_run ?_
   refine gr_done ?_
   refine bif_e (fun c3 => ?_) (fun c3 => ?_)
   ·refine go 4 ?_
    exact fun h => good_again hl0 (by omega) ⟨_, ⟨by omega, _, rfl, h⟩, frle_, memle_⟩
   ·refine go 3 ?_
    refine ret_e (fun hr_ => ?_)
    subst hr_
    exact ret_ Tryz.func60 []
  ·refine go 7 ?_
   refine ret_e (fun hr_ => ?_)
   subst hr_
   exact ret_ Tryz.func60 []
 ·refine go 8 ?_
  refine ret_e (fun hr_ => ?_)
  subst hr_
  exact ret_ Tryz.func60 []
def laws_eqGraph.f (k : Nat) (v0 : S31) (v1 : S31) : Option (Bool) := ((laws_eqNodeS.f k v0.f0 v1.f0).bind fun v2 => (bif v2 then ((laws_eqEdgeS.f k v0.f1 v1.f1).bind fun v3 => (bif v3 then (some true) else (some false))) else (some false)))
set_option maxRecDepth 100000 in
set_option maxHeartbeats 4000000 in
theorem laws_eqGraph.con {K : Kn} [KOk K] {k : Nat} {v0 : S31} {v1 : S31} {r : Bool} (h : laws_eqGraph.f k v0 v1 = some r) : Con K Tryz.prog 16 [.agg [.p (.lst false (List.map en94 v0.f0)), .p (.lst false (List.map en110 v0.f1))], .agg [.p (.lst false (List.map en94 v1.f0)), .p (.lst false (List.map en110 v1.f1))]] [] (.p (.bool r)) [] := by
 rw [laws_eqGraph.f] at h
 refine con_intro 17 [] Tryz.func16 (by kernel_rfl) rfl rfl (by kernel_rfl) fun ι0 w0 hk0 => ?_
 revert h
 refine go 4 ?_
 refine grs ?_
 refine gr_run ?_
 refine bind_e (fun v2 e2 => gr_call [] (laws_eqNodeS.con e2) ?_)
 clear e2
 refine gr_run ?_
 refine gr_done ?_
 refine bif_e (fun c1 => ?_) (fun c1 => ?_)
 ·refine go 4 ?_
  refine grs ?_
  refine gr_run ?_
  refine bind_e (fun v3 e3 => gr_call [] (laws_eqEdgeS.con e3) ?_)
  clear e3
  refine gr_run ?_
  refine gr_done ?_
  refine bif_e (fun c2 => ?_) (fun c2 => ?_)
  ·refine go 4 ?_
   refine ret_e (fun hr_ => ?_)
   subst hr_
   exact ret_ Tryz.func16 []
  ·refine go 3 ?_
   refine ret_e (fun hr_ => ?_)
   subst hr_
   exact ret_ Tryz.func16 []
 ·refine go 3 ?_
  refine ret_e (fun hr_ => ?_)
  subst hr_
  exact ret_ Tryz.func16 []
mutual
def laws_eqInt64S.l0 : Nat → (List Int) → (List Int) → Int → Option (Bool)
 | 0, _, _, _ => none
 | k + 1, v0, v1, v2 => (bif decide (v2 < (v0.length : Int)) then ((ix v0 v2).bind fun v3 => ((ix v1 v2).bind fun v4 => (bif (v3 == v4) then (laws_eqInt64S.l0 k v0 v1 (IntKind.i64.wrap (v2 + 1))) else (some false)))) else (some true))
def laws_eqInt64S.f : Nat → (List Int) → (List Int) → Option (Bool)
 | 0, _, _ => none
 | k + 1, v0, v1 => (bif ((v0.length : Int) == (v1.length : Int)) then (laws_eqInt64S.l0 k v0 v1 0) else (some false))
end
set_option maxRecDepth 100000 in
set_option maxHeartbeats 4000000 in
theorem laws_eqInt64S.con {K : Kn} [KOk K] {k : Nat} {v0 : (List Int)} {v1 : (List Int)} {r : Bool} (h : laws_eqInt64S.f k v0 v1 = some r) : Con K Tryz.prog 15 [.p (.lst false (List.map (irow .i64) v0)), .p (.lst false (List.map (irow .i64) v1))] [] (.p (.bool r)) [] := by
 cases k with
 | zero => exact absurd h (by simp [laws_eqInt64S.f])
 | succ k =>
 rw [laws_eqInt64S.f] at h
 refine con_intro 26 [] Tryz.func15 (by kernel_rfl) rfl rfl (by kernel_rfl) fun ι0 w0 hk0 => ?_
 revert h
 refine bif_e (fun c1 => ?_) (fun c1 => ?_)
 ·refine go 11 ?_
  refine fun h => good_loop (fun n st => n ≤ k ∧ ∃ (v2 : _), st = ⟨[(0, .p (.lst false (List.map (irow .i64) v0))), (1, .p (.lst false (List.map (irow .i64) v1))), (5, .p (.int .i64 v2))], []⟩ ∧ laws_eqInt64S.l0 n v0 v1 v2 = some r) k ⟨_, ⟨Nat.le_refl _, _, rfl, h⟩, frle_, memle_⟩ ?_
  clear c1
  clear h
  rintro n _ ⟨hkl0, v2, rfl, h⟩ hl0
  cases n with
  | zero => exact absurd h (by simp [laws_eqInt64S.l0])
  | succ kl0 =>
  rw [laws_eqInt64S.l0] at h
  revert h
  refine bif_e (fun c2 => ?_) (fun c2 => ?_)
  ·refine bind_e (fun v3 e3 => ?_)
   replace e3 := nf_ (ix_en (irow .i64) e3)
   refine bind_e (fun v4 e4 => ?_)
   replace e4 := nf_ (ix_en (irow .i64) e4)
   refine go 8 ?_
   refine grs ?_
   refine gr_run ?_
   refine gr_done ?_
   refine bif_e (fun c3 => ?_) (fun c3 => ?_)
   ·refine go 4 ?_
    exact fun h => good_again hl0 (by omega) ⟨_, ⟨by omega, _, rfl, h⟩, frle_, memle_⟩
   ·refine go 3 ?_
    refine ret_e (fun hr_ => ?_)
    subst hr_
    exact ret_ Tryz.func15 []
  ·refine go 7 ?_
   refine ret_e (fun hr_ => ?_)
   subst hr_
   exact ret_ Tryz.func15 []
 ·refine go 8 ?_
  refine ret_e (fun hr_ => ?_)
  subst hr_
  exact ret_ Tryz.func15 []
def laws_eqMatching.f (k : Nat) (v0 : S80) (v1 : S80) : Option (Bool) := (bif (v0.f0 == v1.f0) then ((laws_eqInt64S.f k v0.f1 v1.f1).bind fun v2 => (bif v2 then ((laws_eqInt64S.f k v0.f2 v1.f2).bind fun v3 => (bif v3 then (some true) else (some false))) else (some false))) else (some false))
set_option maxRecDepth 100000 in
set_option maxHeartbeats 4000000 in
theorem laws_eqMatching.con {K : Kn} [KOk K] {k : Nat} {v0 : S80} {v1 : S80} {r : Bool} (h : laws_eqMatching.f k v0 v1 = some r) : Con K Tryz.prog 52 [.agg [.p (.int .i64 v0.f0), .p (.lst false (List.map (irow .i64) v0.f1)), .p (.lst false (List.map (irow .i64) v0.f2))], .agg [.p (.int .i64 v1.f0), .p (.lst false (List.map (irow .i64) v1.f1)), .p (.lst false (List.map (irow .i64) v1.f2))]] [] (.p (.bool r)) [] := by
 rw [laws_eqMatching.f] at h
 refine con_intro 22 [] Tryz.func52 (by kernel_rfl) rfl rfl (by kernel_rfl) fun ι0 w0 hk0 => ?_
 revert h
 refine bif_e (fun c1 => ?_) (fun c1 => ?_)
 ·refine go 9 ?_
  refine grs ?_
  refine gr_run ?_
  refine bind_e (fun v2 e2 => gr_call [] (laws_eqInt64S.con e2) ?_)
  clear e2
  refine gr_run ?_
  refine gr_done ?_
  refine bif_e (fun c2 => ?_) (fun c2 => ?_)
  ·refine go 4 ?_
   refine grs ?_
   refine gr_run ?_
   refine bind_e (fun v3 e3 => gr_call [] (laws_eqInt64S.con e3) ?_)
   clear e3
   refine gr_run ?_
   refine gr_done ?_
   refine bif_e (fun c3 => ?_) (fun c3 => ?_)
   ·refine go 4 ?_
    refine ret_e (fun hr_ => ?_)
    subst hr_
    exact ret_ Tryz.func52 []
   ·refine go 3 ?_
    refine ret_e (fun hr_ => ?_)
    subst hr_
    exact ret_ Tryz.func52 []
  ·refine go 3 ?_
   refine ret_e (fun hr_ => ?_)
   subst hr_
   exact ret_ Tryz.func52 []
 ·refine go 8 ?_
  refine ret_e (fun hr_ => ?_)
  subst hr_
  exact ret_ Tryz.func52 []
def laws_FnExactMatchingFault.f (k : Nat) (v0 : S24) (v1 : ByteArray) (v2 : S80) : Option (Bool) := (bif decide (1048576 < (v1.size : Int)) then (some true) else ((laws_szGraph.f k v0 1048576).bind fun v3 => (bif decide (v3 < 0) then (some true) else ((laws_szMatching.f k v2 v3).bind fun v4 => (bif decide (v4 < 0) then (some true) else ((laws_toGraph.f k v0).bind fun v5 => ((laws_toMatching.f k v2).bind fun v6 => ((spec_MatchingFault.f k v5 v1 v6).bind fun v7 => ((laws_toGraph.f k v0).bind fun v8 => ((laws_toMatching.f k v2).bind fun v9 => ((impl_MatchingFault.f k v8 v1 v9).bind fun v10 => (bif (v10 == v7) then ((laws_toGraph.f k v0).bind fun v11 => ((laws_eqGraph.f k v8 v11).bind fun v12 => (bif v12 then ((laws_toMatching.f k v2).bind fun v13 => ((laws_eqMatching.f k v9 v13).bind fun v14 => (bif v14 then (some true) else (some false)))) else (some false)))) else (some false)))))))))))))
set_option maxRecDepth 100000 in
set_option maxHeartbeats 4000000 in
theorem laws_FnExactMatchingFault.con {K : Kn} [KOk K] {k : Nat} {v0 : S24} {v1 : ByteArray} {v2 : S80} {r : Bool} (h : laws_FnExactMatchingFault.f k v0 v1 v2 = some r) : Con K Tryz.prog 10 [.agg [.p (.lst false (List.map en137 v0.f0)), .p (.lst false (List.map en139 v0.f1))], .p (.str v1), .agg [.p (.int .i64 v2.f0), .p (.lst false (List.map (irow .i64) v2.f1)), .p (.lst false (List.map (irow .i64) v2.f2))]] [] (.p (.bool r)) [] := by
 rw [laws_FnExactMatchingFault.f] at h
 refine con_intro 52 [] Tryz.func10 (by kernel_rfl) rfl rfl (by kernel_rfl) fun ι0 w0 hk0 => ?_
 revert h
 refine bif_e (fun c1 => ?_) (fun c1 => ?_)
 ·refine go 8 ?_
  refine ret_e (fun hr_ => ?_)
  subst hr_
  exact ret_ Tryz.func10 []
 ·refine go 10 ?_
  refine grs ?_
  refine gr_run ?_
  refine bind_e (fun v3 e3 => gr_call [] (laws_szGraph.con e3) ?_)
  clear e3
  refine gr_run ?_
  refine gr_done ?_
  refine bif_e (fun c2 => ?_) (fun c2 => ?_)
  ·refine go 6 ?_
   refine ret_e (fun hr_ => ?_)
   subst hr_
   exact ret_ Tryz.func10 []
  ·refine go 6 ?_
   refine grs ?_
   refine gr_run ?_
   refine bind_e (fun v4 e4 => gr_call [] (laws_szMatching.con e4) ?_)
   clear e4
   refine gr_run ?_
   refine gr_done ?_
   refine bif_e (fun c3 => ?_) (fun c3 => ?_)
   ·refine go 6 ?_
    refine ret_e (fun hr_ => ?_)
    subst hr_
    exact ret_ Tryz.func10 []
   ·refine go 6 ?_
    refine grs ?_
    refine gr_run ?_
    refine bind_e (fun v5 e5 => gr_call [] (laws_toGraph.con e5) ?_)
    clear e5
    refine gr_run ?_
    refine bind_e (fun v6 e6 => gr_call [] (laws_toMatching.con e6) ?_)
    clear e6
    refine bind_e (fun v7 e7 => gr_call [] (spec_MatchingFault.con e7) ?_)
    clear e7
    refine gr_run ?_
    refine gr_done ?_
    refine go 1 ?_
    refine grs ?_
    refine gr_run ?_
    refine bind_e (fun v8 e8 => gr_call [] (laws_toGraph.con e8) ?_)
    clear e8
    refine gr_run ?_
    refine gr_done ?_
    refine go 1 ?_
    refine grs ?_
    refine gr_run ?_
    refine bind_e (fun v9 e9 => gr_call [] (laws_toMatching.con e9) ?_)
    clear e9
    refine gr_run ?_
    refine gr_done ?_
    refine go 1 ?_
    refine grs ?_
    refine gr_run ?_
    refine bind_e (fun v10 e10 => gr_call [] (impl_MatchingFault.con e10) ?_)
    clear e10
    refine gr_run ?_
    refine gr_done ?_
    refine bif_e (fun c4 => ?_) (fun c4 => ?_)
    ·refine go 7 ?_
     refine grs ?_
     refine gr_run ?_
     refine bind_e (fun v11 e11 => gr_call [] (laws_toGraph.con e11) ?_)
     clear e11
     refine bind_e (fun v12 e12 => gr_call [] (laws_eqGraph.con e12) ?_)
     clear e12
     refine gr_run ?_
     refine gr_done ?_
     refine bif_e (fun c5 => ?_) (fun c5 => ?_)
     ·refine go 4 ?_
      refine grs ?_
      refine gr_run ?_
      refine bind_e (fun v13 e13 => gr_call [] (laws_toMatching.con e13) ?_)
      clear e13
      refine bind_e (fun v14 e14 => gr_call [] (laws_eqMatching.con e14) ?_)
      clear e14
      refine gr_run ?_
      refine gr_done ?_
      refine bif_e (fun c6 => ?_) (fun c6 => ?_)
      ·refine go 4 ?_
       refine ret_e (fun hr_ => ?_)
       subst hr_
       exact ret_ Tryz.func10 []
      ·refine go 3 ?_
       refine ret_e (fun hr_ => ?_)
       subst hr_
       exact ret_ Tryz.func10 []
     ·refine go 3 ?_
      refine ret_e (fun hr_ => ?_)
      subst hr_
      exact ret_ Tryz.func10 []
    ·refine go 6 ?_
     refine ret_e (fun hr_ => ?_)
     subst hr_
     exact ret_ Tryz.func10 []
end Go.Ab
