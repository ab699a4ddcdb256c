/- What the functions compute, and their contracts, part 1. No condition beyond KOk. -/
import Derived.Test.YtldiipekkdaffaaGreatDoorAbX
import Derived.Test.YtldiipekkdaffaaGreatDoorAbF4
import Derived.Test.YtldiipekkdaffaaGreatDoorAbF7
namespace Go.Ab
open Go.Proofs
set_option linter.unusedVariables false
set_option linter.unusedSimpArgs false
def laws_szField.f (k : Nat) (v0 : S52) (v1 : Int) : Option (Int) := (bif decide ((IntKind.i64.wrap (v1 - (v0.f0.size : Int))) < 0) then (some (-1)) else (bif decide ((IntKind.i64.wrap ((IntKind.i64.wrap (v1 - (v0.f0.size : Int))) - (v0.f1.size : Int))) < 0) then (some (-1)) else (some (IntKind.i64.wrap ((IntKind.i64.wrap (v1 - (v0.f0.size : Int))) - (v0.f1.size : Int))))))
set_option maxRecDepth 100000 in
set_option maxHeartbeats 4000000 in
theorem laws_szField.con {K : Kn} [KOk K] {k : Nat} {v0 : S52} {v1 : Int} {r : Int} (h : laws_szField.f k v0 v1 = some r) : Con K Tryz.prog 30 [.agg [.p (.str v0.f0), .p (.str v0.f1)], .p (.int .i64 v1)] [] (.p (.int .i64 r)) [] := by
 rw [laws_szField.f] at h
 refine con_intro 20 [] Tryz.func30 (by kernel_rfl) rfl rfl (by kernel_rfl) fun ι0 w0 hk0 => ?_
 revert h
 refine bif_e (fun c1 => ?_) (fun c1 => ?_)
 ·refine go 10 ?_
  refine ret_e (fun hr_ => ?_)
  subst hr_
  exact ret_ Tryz.func30 []
 ·refine bif_e (fun c2 => ?_) (fun c2 => ?_)
  ·refine go 17 ?_
   refine ret_e (fun hr_ => ?_)
   subst hr_
   exact ret_ Tryz.func30 []
  ·refine go 18 ?_
   refine ret_e (fun hr_ => ?_)
   subst hr_
   exact ret_ Tryz.func30 []
mutual
def laws_szFieldS.l0 : Nat → (List S52) → Int → Int → Option (Int)
 | 0, _, _, _ => none
 | k + 1, v0, v2, v3 => (bif decide (v3 < (v0.length : Int)) then ((ix v0 v3).bind fun v4 => ((laws_szField.f k v4 v2).bind fun v5 => (bif decide (v5 < 0) then (some (-1)) else (laws_szFieldS.l0 k v0 v5 (IntKind.i64.wrap (v3 + 1)))))) else (some v2))
def laws_szFieldS.f : Nat → (List S52) → Int → Option (Int)
 | 0, _, _ => none
 | k + 1, v0, v1 => (bif decide ((IntKind.i64.wrap (v1 - (v0.length : Int))) < 0) then (some (-1)) else (laws_szFieldS.l0 k v0 (IntKind.i64.wrap (v1 - (v0.length : Int))) 0))
end
set_option maxRecDepth 100000 in
set_option maxHeartbeats 4000000 in
theorem laws_szFieldS.con {K : Kn} [KOk K] {k : Nat} {v0 : (List S52)} {v1 : Int} {r : Int} (h : laws_szFieldS.f k v0 v1 = some r) : Con K Tryz.prog 12 [.p (.lst false (List.map en52 v0)), .p (.int .i64 v1)] [] (.p (.int .i64 r)) [] := by
 cases k with
 | zero => exact absurd h (by simp [laws_szFieldS.f])
 | succ k =>
 rw [laws_szFieldS.f] at h
 refine con_intro 27 [] Tryz.func12 (by kernel_rfl) rfl rfl (by kernel_rfl) fun ι0 w0 hk0 => ?_
 revert h
 refine bif_e (fun c1 => ?_) (fun c1 => ?_)
 ·refine go 10 ?_
  refine ret_e (fun hr_ => ?_)
  subst hr_
  exact ret_ Tryz.func12 []
 ·refine go 13 ?_
  refine fun h => good_loop (fun n st => n ≤ k ∧ ∃ (v2 : _) (v3 : _), st = ⟨[(0, .p (.lst false (List.map en52 v0))), (1, .p (.int .i64 v2)), (5, .p (.int .i64 v3))], []⟩ ∧ laws_szFieldS.l0 n v0 v2 v3 = some r) k ⟨_, ⟨Nat.le_refl _, _, _, rfl, h⟩, frle_, memle_⟩ ?_
  clear c1
  clear h
  rintro n _ ⟨hkl0, v2, v3, rfl, h⟩ hl0
  cases n with
  | zero => exact absurd h (by simp [laws_szFieldS.l0])
  | succ kl0 =>
  rw [laws_szFieldS.l0] at h
  revert h
  refine bif_e (fun c2 => ?_) (fun c2 => ?_)
  ·refine bind_e (fun v4 e4 => ?_)
   replace e4 := nf_ (ix_en en52 e4)
   refine go 8 ?_
   refine grs ?_
   refine gr_run ?_
   refine bind_e (fun v5 e5 => gr_call [] (laws_szField.con e5) ?_)
   clear e5
   refine gr_run ?_
   refine gr_done ?_
   refine bif_e (fun c3 => ?_) (fun c3 => ?_)
   ·refine go 5 ?_
    refine ret_e (fun hr_ => ?_)
    subst hr_
    exact ret_ Tryz.func12 []
   ·refine go 6 ?_
    exact fun h => good_again hl0 (by omega) ⟨_, ⟨by omega, _, _, rfl, h⟩, frle_, memle_⟩
  ·refine go 7 ?_
   refine ret_e (fun hr_ => ?_)
   subst hr_
   exact ret_ Tryz.func12 []
def laws_toField.f (k : Nat) (v0 : S52) : Option (S52) := (some v0)
set_option maxRecDepth 100000 in
set_option maxHeartbeats 4000000 in
theorem laws_toField.con {K : Kn} [KOk K] {k : Nat} {v0 : S52} {r : S52} (h : laws_toField.f k v0 = some r) : Con K Tryz.prog 33 [.agg [.p (.str v0.f0), .p (.str v0.f1)]] [] (.agg [.p (.str r.f0), .p (.str r.f1)]) [] := by
 rw [laws_toField.f] at h
 refine con_intro 11 [] Tryz.func33 (by kernel_rfl) rfl rfl (by kernel_rfl) fun ι0 w0 hk0 => ?_
 revert h
 refine go 10 ?_
 refine ret_e (fun hr_ => ?_)
 subst hr_
 exact ret_ Tryz.func33 []
mutual
def laws_toFieldS.l0 : Nat → (List S52) → (List S52) → Int → (List S52) → Option ((List S52))
 | 0, _, _, _, _ => none
 | k + 1, v0, v1, v2, v3 => (bif decide (v2 < (v0.length : Int)) then ((ix v0 v2).bind fun v4 => ((laws_toField.f k v4).bind fun v5 => ((inr v2 v1.length).bind fun v6 => ((v3[(Int.toNat v2)]?).bind fun v7 => (laws_toFieldS.l0 k v0 v1 (IntKind.i64.wrap (v2 + 1)) (setr v3 (Int.toNat v2) v5)))))) else (some (List.take v1.length v3)))
def laws_toFieldS.f : Nat → (List S52) → Option ((List S52))
 | 0, _ => none
 | k + 1, v0 => ((mks (⟨(⟨#[]⟩ : ByteArray), (⟨#[]⟩ : ByteArray)⟩ : S52) (v0.length : Int) (v0.length : Int)).bind fun v1 => (laws_toFieldS.l0 k v0 v1 0 v1))
end
set_option maxRecDepth 100000 in
set_option maxHeartbeats 4000000 in
theorem laws_toFieldS.con {K : Kn} [KOk K] {k : Nat} {v0 : (List S52)} {r : (List S52)} (h : laws_toFieldS.f k v0 = some r) : Con K Tryz.prog 14 [.p (.lst false (List.map en52 v0))] [] (.nw (.lst false (List.map en52 r))) [] := by
 cases k with
 | zero => exact absurd h (by simp [laws_toFieldS.f])
 | succ k =>
 rw [laws_toFieldS.f] at h
 refine con_intro 23 [7] Tryz.func14 (by kernel_rfl) rfl rfl (by kernel_rfl) fun ι0 w0 hk0 => ?_
 revert h
 refine bind_e (fun v1 e1 => ?_)
 replace e1 := nf_ (mks_en en52 e1)
 refine go 8 ?_
 refine fun h => good_loop (fun n st => n ≤ k ∧ ∃ (v2 : _) (v3 : _), st = ⟨[(0, .p (.lst false (List.map en52 v0))), (3, .buf 7 1 0 v1.length), (4, .p (.int .i64 v2))], [(7, (1, .bufn 2 (List.map en52 v3)))]⟩ ∧ laws_toFieldS.l0 n v0 v1 v2 v3 = some r) k ⟨_, ⟨Nat.le_refl _, _, _, rfl, h⟩, frle_, memle_⟩ ?_
 clear e1
 clear h
 rintro n _ ⟨hkl0, v2, v3, rfl, h⟩ hl0
 cases n with
 | zero => exact absurd h (by simp [laws_toFieldS.l0])
 | succ kl0 =>
 rw [laws_toFieldS.l0] at h
 revert h
 refine bif_e (fun c1 => ?_) (fun c1 => ?_)
 ·refine bind_e (fun v4 e4 => ?_)
  replace e4 := nf_ (ix_en en52 e4)
  refine go 7 ?_
  refine grs ?_
  refine gr_run ?_
  refine bind_e (fun v5 e5 => gr_call [] (laws_toField.con e5) ?_)
  clear e5
  refine bind_e (fun v6 e6 => ?_)
  refine bind_e (fun v7 e7 => ?_)
  replace e7 := nf_ (gx_en en52 e7)
  refine gr_run ?_
  refine gr_done ?_
  refine go 2 ?_
  exact fun h => good_again hl0 (by omega) ⟨_, ⟨by omega, _, _, rfl, h⟩, frle_, memle_⟩
 ·refine go 7 ?_
  refine freezeN_ 2 ?_
  refine ret_e (fun hr_ => ?_)
  subst hr_
  exact ret_ Tryz.func14 []
def laws_eqField.f (k : Nat) (v0 : S52) (v1 : S52) : Option (Bool) := (bif decide (v0.f0 = v1.f0) then (bif decide (v0.f1 = v1.f1) then (some true) else (some false)) else (some false))
set_option maxRecDepth 100000 in
set_option maxHeartbeats 4000000 in
theorem laws_eqField.con {K : Kn} [KOk K] {k : Nat} {v0 : S52} {v1 : S52} {r : Bool} (h : laws_eqField.f k v0 v1 = some r) : Con K Tryz.prog 36 [.agg [.p (.str v0.f0), .p (.str v0.f1)], .agg [.p (.str v1.f0), .p (.str v1.f1)]] [] (.p (.bool r)) [] := by
 rw [laws_eqField.f] at h
 refine con_intro 15 [] Tryz.func36 (by kernel_rfl) rfl rfl (by kernel_rfl) fun ι0 w0 hk0 => ?_
 revert h
 refine bif_e (fun c1 => ?_) (fun c1 => ?_)
 ·refine bif_e (fun c2 => ?_) (fun c2 => ?_)
  ·refine go 14 ?_
   refine ret_e (fun hr_ => ?_)
   subst hr_
   exact ret_ Tryz.func36 []
  ·refine go 13 ?_
   refine ret_e (fun hr_ => ?_)
   subst hr_
   exact ret_ Tryz.func36 []
 ·refine go 8 ?_
  refine ret_e (fun hr_ => ?_)
  subst hr_
  exact ret_ Tryz.func36 []
mutual
def laws_eqFieldS.l0 : Nat → (List S52) → (List S52) → Int → Option (Bool)
 | 0, _, _, _ => none
 | k + 1, v0, v1, v2 => (bif decide (v2 < (v0.length : Int)) then ((ix v0 v2).bind fun v3 => ((ix v1 v2).bind fun v4 => ((laws_eqField.f k v3 v4).bind fun v5 => (bif v5 then (laws_eqFieldS.l0 k v0 v1 (IntKind.i64.wrap (v2 + 1))) else (some false))))) else (some true))
def laws_eqFieldS.f : Nat → (List S52) → (List S52) → Option (Bool)
 | 0, _, _ => none
 | k + 1, v0, v1 => (bif ((v0.length : Int) == (v1.length : Int)) then (laws_eqFieldS.l0 k v0 v1 0) else (some false))
end
set_option maxRecDepth 100000 in
set_option maxHeartbeats 4000000 in
theorem laws_eqFieldS.con {K : Kn} [KOk K] {k : Nat} {v0 : (List S52)} {v1 : (List S52)} {r : Bool} (h : laws_eqFieldS.f k v0 v1 = some r) : Con K Tryz.prog 16 [.p (.lst false (List.map en52 v0)), .p (.lst false (List.map en52 v1))] [] (.p (.bool r)) [] := by
 cases k with
 | zero => exact absurd h (by simp [laws_eqFieldS.f])
 | succ k =>
 rw [laws_eqFieldS.f] at h
 refine con_intro 27 [] Tryz.func16 (by kernel_rfl) rfl rfl (by kernel_rfl) fun ι0 w0 hk0 => ?_
 revert h
 refine bif_e (fun c1 => ?_) (fun c1 => ?_)
 ·refine go 11 ?_
  refine fun h => good_loop (fun n st => n ≤ k ∧ ∃ (v2 : _), st = ⟨[(0, .p (.lst false (List.map en52 v0))), (1, .p (.lst false (List.map en52 v1))), (5, .p (.int .i64 v2))], []⟩ ∧ laws_eqFieldS.l0 n v0 v1 v2 = some r) k ⟨_, ⟨Nat.le_refl _, _, rfl, h⟩, frle_, memle_⟩ ?_
  clear c1
  clear h
  rintro n _ ⟨hkl0, v2, rfl, h⟩ hl0
  cases n with
  | zero => exact absurd h (by simp [laws_eqFieldS.l0])
  | succ kl0 =>
  rw [laws_eqFieldS.l0] at h
  revert h
  refine bif_e (fun c2 => ?_) (fun c2 => ?_)
  ·refine bind_e (fun v3 e3 => ?_)
   replace e3 := nf_ (ix_en en52 e3)
   refine bind_e (fun v4 e4 => ?_)
   replace e4 := nf_ (ix_en en52 e4)
   refine go 8 ?_
   refine grs ?_
   refine gr_run ?_
   refine bind_e (fun v5 e5 => gr_call [] (laws_eqField.con e5) ?_)
   clear e5
   refine gr_run ?_
   refine gr_done ?_
   refine bif_e (fun c3 => ?_) (fun c3 => ?_)
   ·refine go 4 ?_
    exact fun h => good_again hl0 (by omega) ⟨_, ⟨by omega, _, rfl, h⟩, frle_, memle_⟩
   ·refine go 3 ?_
    refine ret_e (fun hr_ => ?_)
    subst hr_
    exact ret_ Tryz.func16 []
  ·refine go 7 ?_
   refine ret_e (fun hr_ => ?_)
   subst hr_
   exact ret_ Tryz.func16 []
 ·refine go 8 ?_
  refine ret_e (fun hr_ => ?_)
  subst hr_
  exact ret_ Tryz.func16 []
def laws_FnExactMapOf.f (k : Nat) (v0 : (List S52)) : Option (Bool) := ((laws_szFieldS.f k v0 1048576).bind fun v1 => (bif decide (v1 < 0) then (some true) else ((laws_toFieldS.f k v0).bind fun v2 => ((spec_MapOf.f k v2).bind fun v3 => ((laws_toFieldS.f k v0).bind fun v4 => ((impl_MapOf.f k v4).bind fun v5 => (bif decide (v5 = v3) then ((laws_toFieldS.f k v0).bind fun v6 => ((laws_eqFieldS.f k v4 v6).bind fun v7 => (bif v7 then (some true) else (some false)))) else (some false))))))))
set_option maxRecDepth 100000 in
set_option maxHeartbeats 4000000 in
theorem laws_FnExactMapOf.con {K : Kn} [KOk K] {k : Nat} {v0 : (List S52)} {r : Bool} (h : laws_FnExactMapOf.f k v0 = some r) : Con K Tryz.prog 4 [.p (.lst false (List.map en52 v0))] [] (.p (.bool r)) [] := by
 rw [laws_FnExactMapOf.f] at h
 refine con_intro 27 [] Tryz.func4 (by kernel_rfl) rfl rfl (by kernel_rfl) fun ι0 w0 hk0 => ?_
 revert h
 refine go 5 ?_
 refine grs ?_
 refine gr_run ?_
 refine bind_e (fun v1 e1 => gr_call [] (laws_szFieldS.con e1) ?_)
 clear e1
 refine gr_run ?_
 refine gr_done ?_
 refine bif_e (fun c1 => ?_) (fun c1 => ?_)
 ·refine go 6 ?_
  refine ret_e (fun hr_ => ?_)
  subst hr_
  exact ret_ Tryz.func4 []
 ·refine go 6 ?_
  refine grs ?_
  refine gr_run ?_
  refine bind_e (fun v2 e2 => gr_call [] (laws_toFieldS.con e2) ?_)
  clear e2
  refine bind_e (fun v3 e3 => gr_call [] (spec_MapOf.con e3) ?_)
  clear e3
  refine gr_run ?_
  refine gr_done ?_
  refine go 1 ?_
  refine grs ?_
  refine gr_run ?_
  refine bind_e (fun v4 e4 => gr_call [] (laws_toFieldS.con e4) ?_)
  clear e4
  refine gr_run ?_
  refine gr_done ?_
  refine go 1 ?_
  refine grs ?_
  refine gr_run ?_
  refine bind_e (fun v5 e5 => gr_call [] (impl_MapOf.con e5) ?_)
  clear e5
  refine gr_run ?_
  refine gr_done ?_
  refine bif_e (fun c2 => ?_) (fun c2 => ?_)
  ·refine go 7 ?_
   refine grs ?_
   refine gr_run ?_
   refine bind_e (fun v6 e6 => gr_call [] (laws_toFieldS.con e6) ?_)
   clear e6
   refine bind_e (fun v7 e7 => gr_call [] (laws_eqFieldS.con e7) ?_)
   clear e7
   refine gr_run ?_
   refine gr_done ?_
   refine bif_e (fun c3 => ?_) (fun c3 => ?_)
   ·refine go 4 ?_
    refine ret_e (fun hr_ => ?_)
    subst hr_
    exact ret_ Tryz.func4 []
   ·refine go 3 ?_
    refine ret_e (fun hr_ => ?_)
    subst hr_
    exact ret_ Tryz.func4 []
  ·refine go 6 ?_
   refine ret_e (fun hr_ => ?_)
   subst hr_
   exact ret_ Tryz.func4 []
end Go.Ab
