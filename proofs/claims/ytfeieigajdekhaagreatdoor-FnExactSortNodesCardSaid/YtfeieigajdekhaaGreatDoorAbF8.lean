/- What the functions compute, and their contracts, part 8. No condition beyond KOk. -/
import Derived.Test.YtfeieigajdekhaaGreatDoorAbX
import Derived.Test.YtfeieigajdekhaaGreatDoorAbF1
import Derived.Test.YtfeieigajdekhaaGreatDoorAbF4
import Derived.Test.YtfeieigajdekhaaGreatDoorAbF9
import Derived.Test.YtfeieigajdekhaaGreatDoorAbF7
namespace Go.Ab
open Go.Proofs
set_option linter.unusedVariables false
set_option linter.unusedSimpArgs false
def laws_eqGraph.f (k : Nat) (v0 : S31) (v1 : S31) : Option (Bool) := ((laws_eqNodeS.f k v0.f0 v1.f0).bind fun v2 => (bif v2 then ((laws_eqEdgeS.f k v0.f1 v1.f1).bind fun v3 => (bif v3 then (some true) else (some false))) else (some false)))
set_option maxRecDepth 100000 in
set_option maxHeartbeats 4000000 in
theorem laws_eqGraph.con {K : Kn} [KOk K] {k : Nat} {v0 : S31} {v1 : S31} {r : Bool} (h : laws_eqGraph.f k v0 v1 = some r) : Con K Tryz.prog 9 [.agg [.p (.lst false (List.map en49 v0.f0)), .p (.lst false (List.map en68 v0.f1))], .agg [.p (.lst false (List.map en49 v1.f0)), .p (.lst false (List.map en68 v1.f1))]] [] (.p (.bool r)) [] := by
 rw [laws_eqGraph.f] at h
 refine con_intro 17 [] Tryz.func9 (by kernel_rfl) rfl rfl (by kernel_rfl) fun ι0 w0 hk0 => ?_
 revert h
 refine go 4 ?_
 refine grs ?_
 refine gr_run ?_
 refine bind_e (fun v2 e2 => gr_call [] (laws_eqNodeS.con e2) ?_)
 clear e2
 refine gr_run ?_
 refine gr_done ?_
 refine bif_e (fun c1 => ?_) (fun c1 => ?_)
 ·refine go 4 ?_
  refine grs ?_
  refine gr_run ?_
  refine bind_e (fun v3 e3 => gr_call [] (laws_eqEdgeS.con e3) ?_)
  clear e3
  refine gr_run ?_
  refine gr_done ?_
  refine bif_e (fun c2 => ?_) (fun c2 => ?_)
  ·refine go 4 ?_
   refine ret_e (fun hr_ => ?_)
   subst hr_
   exact ret_ Tryz.func9 []
  ·refine go 3 ?_
   refine ret_e (fun hr_ => ?_)
   subst hr_
   exact ret_ Tryz.func9 []
 ·refine go 3 ?_
  refine ret_e (fun hr_ => ?_)
  subst hr_
  exact ret_ Tryz.func9 []
mutual
def laws_markText.l0 : Nat → Int → ByteArray → Option (ByteArray)
 | 0, _, _ => none
 | k + 1, v1, v2 => (bif decide (0 < v1) then ((rem v1 10).bind fun v4 => ((cat (bstr ([(IntKind.u8.wrap (IntKind.i64.wrap (48 + v4)))] : List Int)) v2).bind fun v5 => ((quo .i64 v1 10).bind fun v6 => (laws_markText.l0 k v6 v5)))) else ((cat (⟨#[109]⟩ : ByteArray) v2).bind fun v3 => (some v3)))
def laws_markText.f : Nat → Int → Option (ByteArray)
 | 0, _ => none
 | k + 1, v0 => (bif decide (v0 ≤ 0) then (some (⟨#[109, 48]⟩ : ByteArray)) else (laws_markText.l0 k v0 (⟨#[]⟩ : ByteArray)))
end
set_option maxRecDepth 100000 in
set_option maxHeartbeats 4000000 in
theorem laws_markText.con {K : Kn} [KOk K] {k : Nat} {v0 : Int} {r : ByteArray} (h : laws_markText.f k v0 = some r) : Con K Tryz.prog 39 [.p (.int .i64 v0)] [] (.p (.str r)) [] := by
 cases k with
 | zero => exact absurd h (by simp [laws_markText.f])
 | succ k =>
 rw [laws_markText.f] at h
 refine con_intro 20 [] Tryz.func39 (by kernel_rfl) rfl rfl (by kernel_rfl) fun ι0 w0 hk0 => ?_
 revert h
 refine bif_e (fun c1 => ?_) (fun c1 => ?_)
 ·refine go 8 ?_
  refine ret_e (fun hr_ => ?_)
  subst hr_
  exact ret_ Tryz.func39 []
 ·refine go 11 ?_
  refine fun h => good_loop (fun n st => n ≤ k ∧ ∃ (v1 : _) (v2 : _), st = ⟨[(0, .p (.int .i64 v1)), (3, .p (.str v2))], []⟩ ∧ laws_markText.l0 n v1 v2 = some r) k ⟨_, ⟨Nat.le_refl _, _, _, rfl, h⟩, frle_, memle_⟩ ?_
  clear c1
  clear h
  rintro n _ ⟨hkl0, v1, v2, rfl, h⟩ hl0
  cases n with
  | zero => exact absurd h (by simp [laws_markText.l0])
  | succ kl0 =>
  rw [laws_markText.l0] at h
  revert h
  refine bif_e (fun c2 => ?_) (fun c2 => ?_)
  ·refine bind_e (fun v4 e4 => ?_)
   refine bind_e (fun v5 e5 => ?_)
   refine bind_e (fun v6 e6 => ?_)
   refine go 10 ?_
   exact fun h => good_again hl0 (by omega) ⟨_, ⟨by omega, _, _, rfl, h⟩, frle_, memle_⟩
  ·refine bind_e (fun v3 e3 => ?_)
   refine go 7 ?_
   refine ret_e (fun hr_ => ?_)
   subst hr_
   exact ret_ Tryz.func39 []
mutual
def laws_markStringS_sv.l0 : Nat → (List ByteArray) → Int → Int → Option (Int)
 | 0, _, _, _ => none
 | k + 1, v0, v2, v3 => (bif decide (v3 < (v0.length : Int)) then ((laws_markText.f k v2).bind fun v4 => ((ix v0 v3).bind fun v5 => (laws_markStringS_sv.l0 k v0 (IntKind.i64.wrap (v2 + 1)) (IntKind.i64.wrap (v3 + 1))))) else (some v2))
def laws_markStringS_sv.f : Nat → (List ByteArray) → Int → Option (Int)
 | 0, _, _ => none
 | k + 1, v0, v1 => (laws_markStringS_sv.l0 k v0 v1 0)
end
set_option maxRecDepth 100000 in
set_option maxHeartbeats 4000000 in
theorem laws_markStringS_sv.con {K : Kn} [KOk K] {k : Nat} {v0 : (List ByteArray)} {v1 : Int} {r : Int} (h : laws_markStringS_sv.f k v0 v1 = some r) : Con K Tryz.prog 37 [.sh 1000 0 (List.map srw v0), .p (.int .i64 v1)] [(1000, (0, .pool))] (.p (.int .i64 r)) [(1000, (0, .pool))] := by
 cases k with
 | zero => exact absurd h (by simp [laws_markStringS_sv.f])
 | succ k =>
 rw [laws_markStringS_sv.f] at h
 refine con_intro 20 [] Tryz.func37 (by kernel_rfl) rfl rfl (by kernel_rfl) fun ι0 w0 hk0 => ?_
 revert h
 refine go 6 ?_
 refine fun h => good_loop (fun n st => n ≤ k ∧ ∃ (v2 : _) (v3 : _), st = ⟨[(0, .sh 1000 0 (List.map srw v0)), (1, .p (.int .i64 v2)), (5, .p (.int .i64 v3))], [(1000, (0, .pool))]⟩ ∧ laws_markStringS_sv.l0 n v0 v2 v3 = some r) k ⟨_, ⟨Nat.le_refl _, _, _, rfl, h⟩, frle_, memle_⟩ ?_
 clear h
 rintro n _ ⟨hkl0, v2, v3, rfl, h⟩ hl0
 cases n with
 | zero => exact absurd h (by simp [laws_markStringS_sv.l0])
 | succ kl0 =>
 rw [laws_markStringS_sv.l0] at h
 revert h
 refine bif_e (fun c1 => ?_) (fun c1 => ?_)
 ·refine go 8 ?_
  refine grs ?_
  refine gr_run ?_
  refine bind_e (fun v4 e4 => gr_call [] (laws_markText.con e4) ?_)
  clear e4
  refine bind_e (fun v5 e5 => ?_)
  replace e5 := nf_ (ix_en srw e5)
  refine gr_run ?_
  refine gr_done ?_
  refine go 3 ?_
  exact fun h => good_again hl0 (by omega) ⟨_, ⟨by omega, _, _, rfl, h⟩, frle_, memle_⟩
 ·refine go 7 ?_
  refine ret_e (fun hr_ => ?_)
  subst hr_
  exact ret_ Tryz.func37 [(1000, (0, 1000, 0))]
mutual
def laws_markFieldS_sv.l0 : Nat → (List S91) → Int → Int → Option (Int)
 | 0, _, _, _ => none
 | k + 1, v0, v2, v3 => (bif decide (v3 < (v0.length : Int)) then ((laws_markText.f k v2).bind fun v4 => ((ix v0 v3).bind fun v5 => ((laws_markText.f k (IntKind.i64.wrap (v2 + 1))).bind fun v6 => (laws_markFieldS_sv.l0 k v0 (IntKind.i64.wrap ((IntKind.i64.wrap (v2 + 1)) + 1)) (IntKind.i64.wrap (v3 + 1)))))) else (some v2))
def laws_markFieldS_sv.f : Nat → (List S91) → Int → Option (Int)
 | 0, _, _ => none
 | k + 1, v0, v1 => (laws_markFieldS_sv.l0 k v0 v1 0)
end
set_option maxRecDepth 100000 in
set_option maxHeartbeats 4000000 in
theorem laws_markFieldS_sv.con {K : Kn} [KOk K] {k : Nat} {v0 : (List S91)} {v1 : Int} {r : Int} (h : laws_markFieldS_sv.f k v0 v1 = some r) : Con K Tryz.prog 38 [.sh 1000 0 (List.map en91 v0), .p (.int .i64 v1)] [(1000, (0, .pool))] (.p (.int .i64 r)) [(1000, (0, .pool))] := by
 cases k with
 | zero => exact absurd h (by simp [laws_markFieldS_sv.f])
 | succ k =>
 rw [laws_markFieldS_sv.f] at h
 refine con_intro 29 [] Tryz.func38 (by kernel_rfl) rfl rfl (by kernel_rfl) fun ι0 w0 hk0 => ?_
 revert h
 refine go 6 ?_
 refine fun h => good_loop (fun n st => n ≤ k ∧ ∃ (v2 : _) (v3 : _), st = ⟨[(0, .sh 1000 0 (List.map en91 v0)), (1, .p (.int .i64 v2)), (5, .p (.int .i64 v3))], [(1000, (0, .pool))]⟩ ∧ laws_markFieldS_sv.l0 n v0 v2 v3 = some r) k ⟨_, ⟨Nat.le_refl _, _, _, rfl, h⟩, frle_, memle_⟩ ?_
 clear h
 rintro n _ ⟨hkl0, v2, v3, rfl, h⟩ hl0
 cases n with
 | zero => exact absurd h (by simp [laws_markFieldS_sv.l0])
 | succ kl0 =>
 rw [laws_markFieldS_sv.l0] at h
 revert h
 refine bif_e (fun c1 => ?_) (fun c1 => ?_)
 ·refine go 8 ?_
  refine grs ?_
  refine gr_run ?_
  refine bind_e (fun v4 e4 => gr_call [] (laws_markText.con e4) ?_)
  clear e4
  refine bind_e (fun v5 e5 => ?_)
  replace e5 := nf_ (ix_en en91 e5)
  refine gr_run ?_
  refine gr_done ?_
  refine go 3 ?_
  refine grs ?_
  refine gr_run ?_
  refine bind_e (fun v6 e6 => gr_call [] (laws_markText.con e6) ?_)
  clear e6
  refine gr_run ?_
  refine gr_done ?_
  refine go 3 ?_
  exact fun h => good_again hl0 (by omega) ⟨_, ⟨by omega, _, _, rfl, h⟩, frle_, memle_⟩
 ·refine go 7 ?_
  refine ret_e (fun hr_ => ?_)
  subst hr_
  exact ret_ Tryz.func38 [(1000, (0, 1000, 0))]
mutual
def laws_markNodeS_sv.l0 : Nat → (List S49) → Int → Int → Option (Int)
 | 0, _, _, _ => none
 | k + 1, v0, v2, v3 => (bif decide (v3 < (v0.length : Int)) then ((ix v0 v3).bind fun v4 => ((laws_markStringS_sv.f k v4.f1 (IntKind.i64.wrap (v2 + 1))).bind fun v6 => ((laws_markFieldS_sv.f k v4.f2 v6).bind fun v8 => (laws_markNodeS_sv.l0 k v0 v8 (IntKind.i64.wrap (v3 + 1)))))) else (some v2))
def laws_markNodeS_sv.f : Nat → (List S49) → Int → Option (Int)
 | 0, _, _ => none
 | k + 1, v0, v1 => (laws_markNodeS_sv.l0 k v0 v1 0)
end
set_option maxRecDepth 100000 in
set_option maxHeartbeats 4000000 in
theorem laws_markNodeS_sv.con {K : Kn} [KOk K] {k : Nat} {v0 : (List S49)} {v1 : Int} {r : Int} (h : laws_markNodeS_sv.f k v0 v1 = some r) : Con K Tryz.prog 23 [.sh 1000 0 (List.map en49 v0), .p (.int .i64 v1)] [(1000, (0, .pool))] (.p (.int .i64 r)) [(1000, (0, .pool))] := by
 cases k with
 | zero => exact absurd h (by simp [laws_markNodeS_sv.f])
 | succ k =>
 rw [laws_markNodeS_sv.f] at h
 refine con_intro 34 [] Tryz.func23 (by kernel_rfl) rfl rfl (by kernel_rfl) fun ι0 w0 hk0 => ?_
 revert h
 refine go 6 ?_
 refine fun h => good_loop (fun n st => n ≤ k ∧ ∃ (v2 : _) (v3 : _), st = ⟨[(0, .sh 1000 0 (List.map en49 v0)), (1, .p (.int .i64 v2)), (5, .p (.int .i64 v3))], [(1000, (0, .pool))]⟩ ∧ laws_markNodeS_sv.l0 n v0 v2 v3 = some r) k ⟨_, ⟨Nat.le_refl _, _, _, rfl, h⟩, frle_, memle_⟩ ?_
 clear h
 rintro n _ ⟨hkl0, v2, v3, rfl, h⟩ hl0
 cases n with
 | zero => exact absurd h (by simp [laws_markNodeS_sv.l0])
 | succ kl0 =>
 rw [laws_markNodeS_sv.l0] at h
 revert h
 refine bif_e (fun c1 => ?_) (fun c1 => ?_)
 ·refine bind_e (fun v4 e4 => ?_)
  replace e4 := nf_ (ix_en en49 e4)
  refine go 12 ?_
  refine grs ?_
  refine gr_run ?_
  refine bind_e (fun v6 e6 => gr_call [(1000, (0, 1000, 0))] (laws_markStringS_sv.con e6) ?_)
  clear e6
  refine gr_run ?_
  refine gr_done ?_
  refine grs ?_
  refine gr_run ?_
  refine bind_e (fun v8 e8 => gr_call [(1000, (0, 1000, 0))] (laws_markFieldS_sv.con e8) ?_)
  clear e8
  refine gr_run ?_
  refine gr_done ?_
  refine go 2 ?_
  exact fun h => good_again hl0 (by omega) ⟨_, ⟨by omega, _, _, rfl, h⟩, frle_, memle_⟩
 ·refine go 7 ?_
  refine ret_e (fun hr_ => ?_)
  subst hr_
  exact ret_ Tryz.func23 [(1000, (0, 1000, 0))]
mutual
def laws_markEdgeS_sv.l0 : Nat → (List S68) → Int → Int → Option (Int)
 | 0, _, _, _ => none
 | k + 1, v0, v2, v3 => (bif decide (v3 < (v0.length : Int)) then ((ix v0 v3).bind fun v4 => ((laws_markText.f k (IntKind.i64.wrap (v2 + 1))).bind fun v5 => ((laws_markFieldS_sv.f k v4.f4 (IntKind.i64.wrap ((IntKind.i64.wrap ((IntKind.i64.wrap ((IntKind.i64.wrap (v2 + 1)) + 1)) + 1)) + 1))).bind fun v10 => (laws_markEdgeS_sv.l0 k v0 v10 (IntKind.i64.wrap (v3 + 1)))))) else (some v2))
def laws_markEdgeS_sv.f : Nat → (List S68) → Int → Option (Int)
 | 0, _, _ => none
 | k + 1, v0, v1 => (laws_markEdgeS_sv.l0 k v0 v1 0)
end
set_option maxRecDepth 100000 in
set_option maxHeartbeats 4000000 in
theorem laws_markEdgeS_sv.con {K : Kn} [KOk K] {k : Nat} {v0 : (List S68)} {v1 : Int} {r : Int} (h : laws_markEdgeS_sv.f k v0 v1 = some r) : Con K Tryz.prog 24 [.sh 1000 0 (List.map en68 v0), .p (.int .i64 v1)] [(1000, (0, .pool))] (.p (.int .i64 r)) [(1000, (0, .pool))] := by
 cases k with
 | zero => exact absurd h (by simp [laws_markEdgeS_sv.f])
 | succ k =>
 rw [laws_markEdgeS_sv.f] at h
 refine con_intro 49 [] Tryz.func24 (by kernel_rfl) rfl rfl (by kernel_rfl) fun ι0 w0 hk0 => ?_
 revert h
 refine go 6 ?_
 refine fun h => good_loop (fun n st => n ≤ k ∧ ∃ (v2 : _) (v3 : _), st = ⟨[(0, .sh 1000 0 (List.map en68 v0)), (1, .p (.int .i64 v2)), (5, .p (.int .i64 v3))], [(1000, (0, .pool))]⟩ ∧ laws_markEdgeS_sv.l0 n v0 v2 v3 = some r) k ⟨_, ⟨Nat.le_refl _, _, _, rfl, h⟩, frle_, memle_⟩ ?_
 clear h
 rintro n _ ⟨hkl0, v2, v3, rfl, h⟩ hl0
 cases n with
 | zero => exact absurd h (by simp [laws_markEdgeS_sv.l0])
 | succ kl0 =>
 rw [laws_markEdgeS_sv.l0] at h
 revert h
 refine bif_e (fun c1 => ?_) (fun c1 => ?_)
 ·refine bind_e (fun v4 e4 => ?_)
  replace e4 := nf_ (ix_en en68 e4)
  refine go 12 ?_
  refine grs ?_
  refine gr_run ?_
  refine bind_e (fun v5 e5 => gr_call [] (laws_markText.con e5) ?_)
  clear e5
  refine gr_run ?_
  refine gr_done ?_
  refine go 10 ?_
  refine grs ?_
  refine gr_run ?_
  refine bind_e (fun v10 e10 => gr_call [(1000, (0, 1000, 0))] (laws_markFieldS_sv.con e10) ?_)
  clear e10
  refine gr_run ?_
  refine gr_done ?_
  refine go 2 ?_
  exact fun h => good_again hl0 (by omega) ⟨_, ⟨by omega, _, _, rfl, h⟩, frle_, memle_⟩
 ·refine go 7 ?_
  refine ret_e (fun hr_ => ?_)
  subst hr_
  exact ret_ Tryz.func24 [(1000, (0, 1000, 0))]
def laws_markGraph_sv.f (k : Nat) (v0 : (List S49)) (v1 : (List S68)) (v2 : Int) : Option (Int) := ((laws_markNodeS_sv.f k v0 v2).bind fun v3 => ((laws_markEdgeS_sv.f k v1 v3).bind fun v4 => (some v4)))
set_option maxRecDepth 100000 in
set_option maxHeartbeats 4000000 in
theorem laws_markGraph_sv.con {K : Kn} [KOk K] {k : Nat} {v0 : (List S49)} {v1 : (List S68)} {v2 : Int} {r : Int} (h : laws_markGraph_sv.f k v0 v1 v2 = some r) : Con K Tryz.prog 10 [.agg [.sh 1000 0 (List.map en49 v0), .sh 1000 0 (List.map en68 v1)], .p (.int .i64 v2)] [(1000, (0, .pool))] (.p (.int .i64 r)) [(1000, (0, .pool))] := by
 rw [laws_markGraph_sv.f] at h
 refine con_intro 14 [] Tryz.func10 (by kernel_rfl) rfl rfl (by kernel_rfl) fun ι0 w0 hk0 => ?_
 revert h
 refine go 3 ?_
 refine grs ?_
 refine gr_run ?_
 refine bind_e (fun v3 e3 => gr_call [(1000, (0, 1000, 0))] (laws_markNodeS_sv.con e3) ?_)
 clear e3
 refine gr_run ?_
 refine gr_done ?_
 refine go 1 ?_
 refine grs ?_
 refine gr_run ?_
 refine bind_e (fun v4 e4 => gr_call [(1000, (0, 1000, 0))] (laws_markEdgeS_sv.con e4) ?_)
 clear e4
 refine gr_run ?_
 refine gr_done ?_
 refine go 2 ?_
 refine ret_e (fun hr_ => ?_)
 subst hr_
 exact ret_ Tryz.func10 [(1000, (0, 1000, 0))]
mutual
def laws_markInt64S_bv.l0 : Nat → Nat → Int → Int → (List Int) → Option (Int × (List Int))
 | 0, _, _, _, _ => none
 | k + 1, v0, v3, v4, v5 => (bif decide (v4 < (v0 : Int)) then ((inr v4 v0).bind fun v6 => ((v5[(Int.toNat v4)]?).bind fun v7 => (laws_markInt64S_bv.l0 k v0 (IntKind.i64.wrap (v3 + 1)) (IntKind.i64.wrap (v4 + 1)) (setr v5 (Int.toNat v4) v3)))) else (some (v3, v5)))
def laws_markInt64S_bv.f : Nat → Nat → Int → (List Int) → Option (Int × (List Int))
 | 0, _, _, _ => none
 | k + 1, v0, v1, v2 => (laws_markInt64S_bv.l0 k v0 v1 0 v2)
end
set_option maxRecDepth 100000 in
set_option maxHeartbeats 4000000 in
theorem laws_markInt64S_bv.con {K : Kn} [KOk K] {k : Nat} {v0 : Nat} {v1 : Int} {v2 : (List Int)} {r : Int × (List Int)} (h : laws_markInt64S_bv.f k v0 v1 v2 = some r) : Con K Tryz.prog 11 [.buf 1000 0 0 v0, .p (.int .i64 v1)] [(1000, (0, .buf 1 (List.map (irow .i64) v2)))] (.p (.int .i64 r.1)) [(1000, (0, .buf 1 (List.map (irow .i64) r.2)))] := by
 cases k with
 | zero => exact absurd h (by simp [laws_markInt64S_bv.f])
 | succ k =>
 rw [laws_markInt64S_bv.f] at h
 refine con_intro 19 [] Tryz.func11 (by kernel_rfl) rfl rfl (by kernel_rfl) fun ι0 w0 hk0 => ?_
 revert h
 refine go 6 ?_
 refine fun h => good_loop (fun n st => n ≤ k ∧ ∃ (v3 : _) (v4 : _) (v5 : _), st = ⟨[(0, .buf 1000 0 0 v0), (1, .p (.int .i64 v3)), (5, .p (.int .i64 v4))], [(1000, (0, .buf 1 (List.map (irow .i64) v5)))]⟩ ∧ laws_markInt64S_bv.l0 n v0 v3 v4 v5 = some r) k ⟨_, ⟨Nat.le_refl _, _, _, _, rfl, h⟩, frle_, memle_⟩ ?_
 clear h
 rintro n _ ⟨hkl0, v3, v4, v5, rfl, h⟩ hl0
 cases n with
 | zero => exact absurd h (by simp [laws_markInt64S_bv.l0])
 | succ kl0 =>
 rw [laws_markInt64S_bv.l0] at h
 revert h
 refine bif_e (fun c1 => ?_) (fun c1 => ?_)
 ·refine bind_e (fun v6 e6 => ?_)
  refine bind_e (fun v7 e7 => ?_)
  replace e7 := nf_ (gx_en (irow .i64) e7)
  refine go 12 ?_
  exact fun h => good_again hl0 (by omega) ⟨_, ⟨by omega, _, _, _, rfl, h⟩, frle_, memle_⟩
 ·refine go 7 ?_
  refine ret_e (fun hr_ => ?_)
  subst hr_
  exact ret_ Tryz.func11 [(1000, (0, 1000, 0))]
mutual
def laws_heldInt64S_bv.l0 : Nat → Nat → Int → Int → (List Int) → Option (Int)
 | 0, _, _, _, _ => none
 | k + 1, v0, v3, v4, v2 => (bif decide (v4 < (v0 : Int)) then ((inr v4 v0).bind fun v5 => ((v2[(Int.toNat v4)]?).bind fun v6 => (bif (v6 == v3) then (laws_heldInt64S_bv.l0 k v0 (IntKind.i64.wrap (v3 + 1)) (IntKind.i64.wrap (v4 + 1)) v2) else (some (-1))))) else (some v3))
def laws_heldInt64S_bv.f : Nat → Nat → Int → (List Int) → Option (Int)
 | 0, _, _, _ => none
 | k + 1, v0, v1, v2 => (laws_heldInt64S_bv.l0 k v0 v1 0 v2)
end
set_option maxRecDepth 100000 in
set_option maxHeartbeats 4000000 in
theorem laws_heldInt64S_bv.con {K : Kn} [KOk K] {k : Nat} {v0 : Nat} {v1 : Int} {v2 : (List Int)} {r : Int} (h : laws_heldInt64S_bv.f k v0 v1 v2 = some r) : Con K Tryz.prog 12 [.buf 1000 0 0 v0, .p (.int .i64 v1)] [(1000, (0, .buf 1 (List.map (irow .i64) v2)))] (.p (.int .i64 r)) [(1000, (0, .buf 1 (List.map (irow .i64) v2)))] := by
 cases k with
 | zero => exact absurd h (by simp [laws_heldInt64S_bv.f])
 | succ k =>
 rw [laws_heldInt64S_bv.f] at h
 refine con_intro 21 [] Tryz.func12 (by kernel_rfl) rfl rfl (by kernel_rfl) fun ι0 w0 hk0 => ?_
 revert h
 refine go 6 ?_
 refine fun h => good_loop (fun n st => n ≤ k ∧ ∃ (v3 : _) (v4 : _), st = ⟨[(0, .buf 1000 0 0 v0), (1, .p (.int .i64 v3)), (5, .p (.int .i64 v4))], [(1000, (0, .buf 1 (List.map (irow .i64) v2)))]⟩ ∧ laws_heldInt64S_bv.l0 n v0 v3 v4 v2 = some r) k ⟨_, ⟨Nat.le_refl _, _, _, rfl, h⟩, frle_, memle_⟩ ?_
 clear h
 rintro n _ ⟨hkl0, v3, v4, rfl, h⟩ hl0
 cases n with
 | zero => exact absurd h (by simp [laws_heldInt64S_bv.l0])
 | succ kl0 =>
 rw [laws_heldInt64S_bv.l0] at h
 revert h
 refine bif_e (fun c1 => ?_) (fun c1 => ?_)
 ·refine bind_e (fun v5 e5 => ?_)
  refine bind_e (fun v6 e6 => ?_)
  replace e6 := nf_ (gx_en (irow .i64) e6)
  refine bif_e (fun c2 => ?_) (fun c2 => ?_)
  ·refine go 15 ?_
   exact fun h => good_again hl0 (by omega) ⟨_, ⟨by omega, _, _, rfl, h⟩, frle_, memle_⟩
  ·refine go 13 ?_
   refine ret_e (fun hr_ => ?_)
   subst hr_
   exact ret_ Tryz.func12 [(1000, (0, 1000, 0))]
 ·refine go 7 ?_
  refine ret_e (fun hr_ => ?_)
  subst hr_
  exact ret_ Tryz.func12 [(1000, (0, 1000, 0))]
def laws_FnExactSortNodes.f (k : Nat) (v0 : S24) : Option (Bool) := ((laws_szGraph.f k v0 1048576).bind fun v1 => (bif decide (v1 < 0) then (some true) else ((laws_toGraph.f k v0).bind fun v2 => ((spec_SortNodes_O.f k v2).bind fun v3 => ((laws_toGraph.f k v0).bind fun v4 => ((impl_SortNodes_O.f k v4).bind fun v5 => ((laws_eqInt64S_bb.f k v5.length v3.length v5 v3).bind fun v6 => (bif v6 then ((laws_toGraph.f k v0).bind fun v7 => ((laws_eqGraph.f k v4 v7).bind fun v8 => (bif v8 then ((laws_markGraph_sv.f k v4.f0 v4.f1 1).bind fun v9 => (bif decide (v9 < 0) then (some false) else ((laws_eqInt64S_bb.f k v5.length v3.length v5 v3).bind fun v10 => (bif v10 then ((laws_markInt64S_bv.f k v5.length 1 v5).bind fun v11 => ((laws_heldInt64S_bv.f k v5.length 1 v11.2).bind fun v12 => (bif decide (v12 < 0) then (some false) else (bif (v12 == v11.1) then ((laws_toGraph.f k v0).bind fun v13 => ((impl_SortNodes_O.f k v13).bind fun v14 => ((laws_eqInt64S_bb.f k v14.length v3.length v14 v3).bind fun v15 => (bif v15 then ((laws_heldInt64S_bv.f k v5.length 1 v11.2).bind fun v16 => (bif decide (v16 < 0) then (some false) else (bif (v16 == v11.1) then (some true) else (some false)))) else (some false))))) else (some false))))) else (some false))))) else (some false)))) else (some false)))))))))
set_option maxRecDepth 100000 in
set_option maxHeartbeats 4000000 in
theorem laws_FnExactSortNodes.con {K : Kn} [KOk K] {k : Nat} {v0 : S24} {r : Bool} (h : laws_FnExactSortNodes.f k v0 = some r) : ConT K Tryz.prog 3 [.agg [.od (.lst false (List.map en62 v0.f0)), .od (.lst false (List.map en65 v0.f1))]] [] (.p (.bool r)) [] := by
 rw [laws_FnExactSortNodes.f] at h
 refine conT_intro 69 [] Tryz.func3 (by kernel_rfl) rfl rfl (by kernel_rfl) fun ι0 w0 hN0 hk0 => ?_
 revert h
 refine go 5 ?_
 refine grs ?_
 refine gr_run ?_
 refine bind_e (fun v1 e1 => gr_call [] (laws_szGraph.con e1) ?_)
 clear e1
 refine gr_run ?_
 refine gr_done ?_
 refine bif_e (fun c1 => ?_) (fun c1 => ?_)
 ·refine go 6 ?_
  refine ret_e (fun hr_ => ?_)
  subst hr_
  exact ret_ Tryz.func3 []
 ·refine go 6 ?_
  refine grs ?_
  refine gr_run ?_
  refine bind_e (fun v2 e2 => gr_call [] (laws_toGraph.con e2) ?_)
  clear e2
  refine bind_e (fun v3 e3 => gr_call [(2000, (1, 18, 1))] (spec_SortNodes_O.con e3) ?_)
  clear e3
  refine gr_run ?_
  refine gr_done ?_
  refine go 1 ?_
  refine grs ?_
  refine gr_run ?_
  refine bind_e (fun v4 e4 => gr_call [] (laws_toGraph.con e4) ?_)
  clear e4
  refine gr_run ?_
  refine gr_done ?_
  refine go 1 ?_
  refine grs ?_
  refine gr_run ?_
  refine bind_e (fun v5 e5 => gr_call [(2000, (1, 22, 1))] (impl_SortNodes_O.con e5) ?_)
  clear e5
  refine gr_run ?_
  refine gr_done ?_
  refine go 2 ?_
  refine grs ?_
  refine gr_run ?_
  refine bind_e (fun v6 e6 => gr_call [(1000, (0, 22, 1)), (1001, (0, 18, 1))] (laws_eqInt64S_bb.con e6) ?_)
  clear e6
  refine gr_run ?_
  refine gr_done ?_
  refine bif_e (fun c2 => ?_) (fun c2 => ?_)
  ·refine go 4 ?_
   refine grs ?_
   refine gr_run ?_
   refine bind_e (fun v7 e7 => gr_call [] (laws_toGraph.con e7) ?_)
   clear e7
   refine bind_e (fun v8 e8 => gr_call [] (laws_eqGraph.con e8) ?_)
   clear e8
   refine gr_run ?_
   refine gr_done ?_
   refine bif_e (fun c3 => ?_) (fun c3 => ?_)
   ·refine go 5 ?_
    refine pool_ 900 (⟨[(1, .ptr 1 1 0), (4, .buf 18 1 0 v3.length), (5, .ptr 5 1 0), (6, .buf 22 1 0 v5.length), (7, .p (.int .i64 1))], [(1, (1, .cells [.od (.lst false (List.map en62 v0.f0)), .od (.lst false (List.map en65 v0.f1))])), (18, (1, .buf 1 (List.map (irow .i64) v3))), (5, (1, .cells [.nw (.lst false (List.map en49 v4.f0)), .nw (.lst false (List.map en68 v4.f1))])), (22, (1, .buf 1 (List.map (irow .i64) v5)))]⟩) (⟨[(1, .ptr 1 1 0), (4, .buf 18 1 0 v3.length), (5, .ptr 5 1 0), (6, .buf 22 1 0 v5.length), (7, .p (.int .i64 1))], [(900, (1, .pool)), (1, (1, .cells [.od (.lst false (List.map en62 v0.f0)), .od (.lst false (List.map en65 v0.f1))])), (18, (1, .buf 1 (List.map (irow .i64) v3))), (5, (1, .cells [.sh 900 1 (List.map en49 v4.f0), .sh 900 1 (List.map en68 v4.f1)])), (22, (1, .buf 1 (List.map (irow .i64) v5)))]⟩) ?_
    refine grs ?_
    refine gr_run ?_
    refine bind_e (fun v9 e9 => gr_call [(1000, (0, 900, 1))] (laws_markGraph_sv.con e9) ?_)
    clear e9
    refine gr_run ?_
    refine gr_done ?_
    refine bif_e (fun c4 => ?_) (fun c4 => ?_)
    ·refine go 6 ?_
     refine ret_e (fun hr_ => ?_)
     subst hr_
     exact ret_ Tryz.func3 []
    ·refine go 2 ?_
     refine grs ?_
     refine gr_run ?_
     refine bind_e (fun v10 e10 => gr_call [(1000, (0, 22, 1)), (1001, (0, 18, 1))] (laws_eqInt64S_bb.con e10) ?_)
     clear e10
     refine gr_run ?_
     refine gr_done ?_
     refine bif_e (fun c5 => ?_) (fun c5 => ?_)
     ·refine go 5 ?_
      refine grs ?_
      refine gr_run ?_
      refine bind_e (fun v11 e11 => gr_call [(1000, (0, 22, 1))] (laws_markInt64S_bv.con e11) ?_)
      clear e11
      refine gr_run ?_
      refine gr_done ?_
      refine go 3 ?_
      refine grs ?_
      refine gr_run ?_
      refine bind_e (fun v12 e12 => gr_call [(1000, (0, 22, 1))] (laws_heldInt64S_bv.con e12) ?_)
      clear e12
      refine gr_run ?_
      refine gr_done ?_
      refine bif_e (fun c6 => ?_) (fun c6 => ?_)
      ·refine go 6 ?_
       refine ret_e (fun hr_ => ?_)
       subst hr_
       exact ret_ Tryz.func3 []
      ·refine bif_e (fun c7 => ?_) (fun c7 => ?_)
       ·refine go 11 ?_
        refine grs ?_
        refine gr_run ?_
        refine bind_e (fun v13 e13 => gr_call [] (laws_toGraph.con e13) ?_)
        clear e13
        refine bind_e (fun v14 e14 => gr_call [(2000, (1, 56, 1))] (impl_SortNodes_O.con e14) ?_)
        clear e14
        refine gr_run ?_
        refine gr_done ?_
        refine go 2 ?_
        refine grs ?_
        refine gr_run ?_
        refine bind_e (fun v15 e15 => gr_call [(1000, (0, 56, 1)), (1001, (0, 18, 1))] (laws_eqInt64S_bb.con e15) ?_)
        clear e15
        refine gr_run ?_
        refine gr_done ?_
        refine bif_e (fun c8 => ?_) (fun c8 => ?_)
        ·refine go 5 ?_
         refine grs ?_
         refine gr_run ?_
         refine bind_e (fun v16 e16 => gr_call [(1000, (0, 22, 1))] (laws_heldInt64S_bv.con e16) ?_)
         clear e16
         refine gr_run ?_
         refine gr_done ?_
         refine bif_e (fun c9 => ?_) (fun c9 => ?_)
         ·refine go 6 ?_
          refine ret_e (fun hr_ => ?_)
          subst hr_
          exact ret_ Tryz.func3 []
         ·refine bif_e (fun c10 => ?_) (fun c10 => ?_)
          ·refine go 12 ?_
           refine ret_e (fun hr_ => ?_)
           subst hr_
           exact ret_ Tryz.func3 []
          ·refine go 11 ?_
           refine ret_e (fun hr_ => ?_)
           subst hr_
           exact ret_ Tryz.func3 []
        ·refine go 3 ?_
         refine ret_e (fun hr_ => ?_)
         subst hr_
         exact ret_ Tryz.func3 []
       ·refine go 11 ?_
        refine ret_e (fun hr_ => ?_)
        subst hr_
        exact ret_ Tryz.func3 []
     ·refine go 3 ?_
      refine ret_e (fun hr_ => ?_)
      subst hr_
      exact ret_ Tryz.func3 []
   ·refine go 3 ?_
    refine ret_e (fun hr_ => ?_)
    subst hr_
    exact ret_ Tryz.func3 []
  ·refine go 3 ?_
   refine ret_e (fun hr_ => ?_)
   subst hr_
   exact ret_ Tryz.func3 []
end Go.Ab
