/- What the functions compute, and their contracts, part 1. No condition beyond KOk. -/
import Derived.Test.YtoodlgdbpfaolaaAbX
import Derived.Test.YtoodlgdbpfaolaaAbF3
import Derived.Test.YtoodlgdbpfaolaaAbF5
namespace Go.Ab
open Go.Proofs
set_option linter.unusedVariables false
set_option linter.unusedSimpArgs false
def laws_szPathStep.f (k : Nat) (v0 : S31) (v1 : Int) : Option (Int) := (bif decide ((IntKind.i64.wrap (v1 - (v0.f1.size : Int))) < 0) then (some (-1)) else (some (IntKind.i64.wrap (v1 - (v0.f1.size : Int)))))
set_option maxRecDepth 100000 in
set_option maxHeartbeats 4000000 in
theorem laws_szPathStep.con {K : Kn} [KOk K] {k : Nat} {v0 : S31} {v1 : Int} {r : Int} (h : laws_szPathStep.f k v0 v1 = some r) : Con K Try.prog 11 [.agg [.p (.int .i64 v0.f0), .p (.str v0.f1), .p (.int .i64 v0.f2)], .p (.int .i64 v1)] [] (.p (.int .i64 r)) [] := by
 rw [laws_szPathStep.f] at h
 refine con_intro 13 [] Try.func11 (by kernel_rfl) rfl rfl (by kernel_rfl) fun ι0 w0 hk0 => ?_
 revert h
 refine bif_e (fun c1 => ?_) (fun c1 => ?_)
 ·refine go 10 ?_
  refine ret_e (fun hr_ => ?_)
  subst hr_
  exact ret_ Try.func11 []
 ·refine go 11 ?_
  refine ret_e (fun hr_ => ?_)
  subst hr_
  exact ret_ Try.func11 []
mutual
def laws_szPathStepS.l0 : Nat → (List S31) → Int → Int → Option (Int)
 | 0, _, _, _ => none
 | k + 1, v0, v2, v3 => (bif decide (v3 < (v0.length : Int)) then ((ix v0 v3).bind fun v4 => ((laws_szPathStep.f k v4 v2).bind fun v5 => (bif decide (v5 < 0) then (some (-1)) else (laws_szPathStepS.l0 k v0 v5 (IntKind.i64.wrap (v3 + 1)))))) else (some v2))
def laws_szPathStepS.f : Nat → (List S31) → Int → Option (Int)
 | 0, _, _ => none
 | k + 1, v0, v1 => (bif decide ((IntKind.i64.wrap (v1 - (v0.length : Int))) < 0) then (some (-1)) else (laws_szPathStepS.l0 k v0 (IntKind.i64.wrap (v1 - (v0.length : Int))) 0))
end
set_option maxRecDepth 100000 in
set_option maxHeartbeats 4000000 in
theorem laws_szPathStepS.con {K : Kn} [KOk K] {k : Nat} {v0 : (List S31)} {v1 : Int} {r : Int} (h : laws_szPathStepS.f k v0 v1 = some r) : Con K Try.prog 4 [.p (.lst false (List.map en31 v0)), .p (.int .i64 v1)] [] (.p (.int .i64 r)) [] := by
 cases k with
 | zero => exact absurd h (by simp [laws_szPathStepS.f])
 | succ k =>
 rw [laws_szPathStepS.f] at h
 refine con_intro 27 [] Try.func4 (by kernel_rfl) rfl rfl (by kernel_rfl) fun ι0 w0 hk0 => ?_
 revert h
 refine bif_e (fun c1 => ?_) (fun c1 => ?_)
 ·refine go 10 ?_
  refine ret_e (fun hr_ => ?_)
  subst hr_
  exact ret_ Try.func4 []
 ·refine go 13 ?_
  refine fun h => good_loop (fun n st => n ≤ k ∧ ∃ (v2 : _) (v3 : _), st = ⟨[(0, .p (.lst false (List.map en31 v0))), (1, .p (.int .i64 v2)), (5, .p (.int .i64 v3))], []⟩ ∧ laws_szPathStepS.l0 n v0 v2 v3 = some r) k ⟨_, ⟨Nat.le_refl _, _, _, rfl, h⟩, frle_, memle_⟩ ?_
  clear c1
  clear h
  rintro n _ ⟨hkl0, v2, v3, rfl, h⟩ hl0
  cases n with
  | zero => exact absurd h (by simp [laws_szPathStepS.l0])
  | succ kl0 =>
  rw [laws_szPathStepS.l0] at h
  revert h
  refine bif_e (fun c2 => ?_) (fun c2 => ?_)
  ·refine bind_e (fun v4 e4 => ?_)
   replace e4 := nf_ (ix_en en31 e4)
   refine go 8 ?_
   refine grs ?_
   refine gr_run ?_
   refine bind_e (fun v5 e5 => gr_call [] (laws_szPathStep.con e5) ?_)
   clear e5
   refine gr_run ?_
   refine gr_done ?_
   refine bif_e (fun c3 => ?_) (fun c3 => ?_)
   ·refine go 5 ?_
    refine ret_e (fun hr_ => ?_)
    subst hr_
    exact ret_ Try.func4 []
   ·refine go 6 ?_
    exact fun h => good_again hl0 (by omega) ⟨_, ⟨by omega, _, _, rfl, h⟩, frle_, memle_⟩
  ·refine go 7 ?_
   refine ret_e (fun hr_ => ?_)
   subst hr_
   exact ret_ Try.func4 []
def laws_toPathStep.f (k : Nat) (v0 : S31) : Option (S31) := (some v0)
set_option maxRecDepth 100000 in
set_option maxHeartbeats 4000000 in
theorem laws_toPathStep.con {K : Kn} [KOk K] {k : Nat} {v0 : S31} {r : S31} (h : laws_toPathStep.f k v0 = some r) : Con K Try.prog 14 [.agg [.p (.int .i64 v0.f0), .p (.str v0.f1), .p (.int .i64 v0.f2)]] [] (.agg [.p (.int .i64 r.f0), .p (.str r.f1), .p (.int .i64 r.f2)]) [] := by
 rw [laws_toPathStep.f] at h
 refine con_intro 14 [] Try.func14 (by kernel_rfl) rfl rfl (by kernel_rfl) fun ι0 w0 hk0 => ?_
 revert h
 refine go 12 ?_
 refine ret_e (fun hr_ => ?_)
 subst hr_
 exact ret_ Try.func14 []
mutual
def laws_toPathStepS.l0 : Nat → (List S31) → (List S31) → Int → (List S31) → Option ((List S31))
 | 0, _, _, _, _ => none
 | k + 1, v0, v1, v2, v3 => (bif decide (v2 < (v0.length : Int)) then ((ix v0 v2).bind fun v4 => ((laws_toPathStep.f k v4).bind fun v5 => ((inr v2 v1.length).bind fun v6 => ((v3[(Int.toNat v2)]?).bind fun v7 => (laws_toPathStepS.l0 k v0 v1 (IntKind.i64.wrap (v2 + 1)) (setr v3 (Int.toNat v2) v5)))))) else (some (List.take v1.length v3)))
def laws_toPathStepS.f : Nat → (List S31) → Option ((List S31))
 | 0, _ => none
 | k + 1, v0 => ((mks (⟨0, (⟨#[]⟩ : ByteArray), 0⟩ : S31) (v0.length : Int) (v0.length : Int)).bind fun v1 => (laws_toPathStepS.l0 k v0 v1 0 v1))
end
set_option maxRecDepth 100000 in
set_option maxHeartbeats 4000000 in
theorem laws_toPathStepS.con {K : Kn} [KOk K] {k : Nat} {v0 : (List S31)} {r : (List S31)} (h : laws_toPathStepS.f k v0 = some r) : Con K Try.prog 6 [.p (.lst false (List.map en31 v0))] [] (.nw (.lst false (List.map en31 r))) [] := by
 cases k with
 | zero => exact absurd h (by simp [laws_toPathStepS.f])
 | succ k =>
 rw [laws_toPathStepS.f] at h
 refine con_intro 23 [7] Try.func6 (by kernel_rfl) rfl rfl (by kernel_rfl) fun ι0 w0 hk0 => ?_
 revert h
 refine bind_e (fun v1 e1 => ?_)
 replace e1 := nf_ (mks_en en31 e1)
 refine go 8 ?_
 refine fun h => good_loop (fun n st => n ≤ k ∧ ∃ (v2 : _) (v3 : _), st = ⟨[(0, .p (.lst false (List.map en31 v0))), (3, .buf 7 1 0 v1.length), (4, .p (.int .i64 v2))], [(7, (1, .bufn 3 (List.map en31 v3)))]⟩ ∧ laws_toPathStepS.l0 n v0 v1 v2 v3 = some r) k ⟨_, ⟨Nat.le_refl _, _, _, rfl, h⟩, frle_, memle_⟩ ?_
 clear e1
 clear h
 rintro n _ ⟨hkl0, v2, v3, rfl, h⟩ hl0
 cases n with
 | zero => exact absurd h (by simp [laws_toPathStepS.l0])
 | succ kl0 =>
 rw [laws_toPathStepS.l0] at h
 revert h
 refine bif_e (fun c1 => ?_) (fun c1 => ?_)
 ·refine bind_e (fun v4 e4 => ?_)
  replace e4 := nf_ (ix_en en31 e4)
  refine go 7 ?_
  refine grs ?_
  refine gr_run ?_
  refine bind_e (fun v5 e5 => gr_call [] (laws_toPathStep.con e5) ?_)
  clear e5
  refine bind_e (fun v6 e6 => ?_)
  refine bind_e (fun v7 e7 => ?_)
  replace e7 := nf_ (gx_en en31 e7)
  refine gr_run ?_
  refine gr_done ?_
  refine go 2 ?_
  exact fun h => good_again hl0 (by omega) ⟨_, ⟨by omega, _, _, rfl, h⟩, frle_, memle_⟩
 ·refine go 7 ?_
  refine freezeN_ 2 ?_
  refine ret_e (fun hr_ => ?_)
  subst hr_
  exact ret_ Try.func6 []
def laws_eqPathStep.f (k : Nat) (v0 : S31) (v1 : S31) : Option (Bool) := (bif (v0.f0 == v1.f0) then (bif decide (v0.f1 = v1.f1) then (bif (v0.f2 == v1.f2) then (some true) else (some false)) else (some false)) else (some false))
set_option maxRecDepth 100000 in
set_option maxHeartbeats 4000000 in
theorem laws_eqPathStep.con {K : Kn} [KOk K] {k : Nat} {v0 : S31} {v1 : S31} {r : Bool} (h : laws_eqPathStep.f k v0 v1 = some r) : Con K Try.prog 17 [.agg [.p (.int .i64 v0.f0), .p (.str v0.f1), .p (.int .i64 v0.f2)], .agg [.p (.int .i64 v1.f0), .p (.str v1.f1), .p (.int .i64 v1.f2)]] [] (.p (.bool r)) [] := by
 rw [laws_eqPathStep.f] at h
 refine con_intro 20 [] Try.func17 (by kernel_rfl) rfl rfl (by kernel_rfl) fun ι0 w0 hk0 => ?_
 revert h
 refine bif_e (fun c1 => ?_) (fun c1 => ?_)
 ·refine bif_e (fun c2 => ?_) (fun c2 => ?_)
  ·refine bif_e (fun c3 => ?_) (fun c3 => ?_)
   ·refine go 19 ?_
    refine ret_e (fun hr_ => ?_)
    subst hr_
    exact ret_ Try.func17 []
   ·refine go 18 ?_
    refine ret_e (fun hr_ => ?_)
    subst hr_
    exact ret_ Try.func17 []
  ·refine go 13 ?_
   refine ret_e (fun hr_ => ?_)
   subst hr_
   exact ret_ Try.func17 []
 ·refine go 8 ?_
  refine ret_e (fun hr_ => ?_)
  subst hr_
  exact ret_ Try.func17 []
mutual
def laws_eqPathStepS_bb.l0 : Nat → Nat → Nat → Int → (List S31) → (List S31) → Option (Bool)
 | 0, _, _, _, _, _ => none
 | k + 1, v0, v1, v4, v2, v3 => (bif decide (v4 < (v0 : Int)) then ((inr v4 v0).bind fun v5 => ((v2[(Int.toNat v4)]?).bind fun v6 => ((inr v4 v1).bind fun v7 => ((v3[(Int.toNat v4)]?).bind fun v8 => ((laws_eqPathStep.f k v6 v8).bind fun v9 => (bif v9 then (laws_eqPathStepS_bb.l0 k v0 v1 (IntKind.i64.wrap (v4 + 1)) v2 v3) else (some false))))))) else (some true))
def laws_eqPathStepS_bb.f : Nat → Nat → Nat → (List S31) → (List S31) → Option (Bool)
 | 0, _, _, _, _ => none
 | k + 1, v0, v1, v2, v3 => (bif ((v0 : Int) == (v1 : Int)) then (laws_eqPathStepS_bb.l0 k v0 v1 0 v2 v3) else (some false))
end
set_option maxRecDepth 100000 in
set_option maxHeartbeats 4000000 in
theorem laws_eqPathStepS_bb.con {K : Kn} [KOk K] {k : Nat} {v0 : Nat} {v1 : Nat} {v2 : (List S31)} {v3 : (List S31)} {r : Bool} (h : laws_eqPathStepS_bb.f k v0 v1 v2 v3 = some r) : Con K Try.prog 8 [.buf 1000 0 0 v0, .buf 1001 0 0 v1] [(1000, (0, .buf 3 (List.map en31 v2))), (1001, (0, .buf 3 (List.map en31 v3)))] (.p (.bool r)) [(1000, (0, .buf 3 (List.map en31 v2))), (1001, (0, .buf 3 (List.map en31 v3)))] := by
 cases k with
 | zero => exact absurd h (by simp [laws_eqPathStepS_bb.f])
 | succ k =>
 rw [laws_eqPathStepS_bb.f] at h
 refine con_intro 27 [] Try.func8 (by kernel_rfl) rfl rfl (by kernel_rfl) fun ι0 w0 hk0 => ?_
 revert h
 refine bif_e (fun c1 => ?_) (fun c1 => ?_)
 ·refine go 11 ?_
  refine fun h => good_loop (fun n st => n ≤ k ∧ ∃ (v4 : _), st = ⟨[(0, .buf 1000 0 0 v0), (1, .buf 1001 0 0 v1), (5, .p (.int .i64 v4))], [(1000, (0, .buf 3 (List.map en31 v2))), (1001, (0, .buf 3 (List.map en31 v3)))]⟩ ∧ laws_eqPathStepS_bb.l0 n v0 v1 v4 v2 v3 = some r) k ⟨_, ⟨Nat.le_refl _, _, rfl, h⟩, frle_, memle_⟩ ?_
  clear c1
  clear h
  rintro n _ ⟨hkl0, v4, rfl, h⟩ hl0
  cases n with
  | zero => exact absurd h (by simp [laws_eqPathStepS_bb.l0])
  | succ kl0 =>
  rw [laws_eqPathStepS_bb.l0] at h
  revert h
  refine bif_e (fun c2 => ?_) (fun c2 => ?_)
  ·refine bind_e (fun v5 e5 => ?_)
   refine bind_e (fun v6 e6 => ?_)
   replace e6 := nf_ (gx_en en31 e6)
   refine bind_e (fun v7 e7 => ?_)
   refine bind_e (fun v8 e8 => ?_)
   replace e8 := nf_ (gx_en en31 e8)
   refine go 8 ?_
   refine grs ?_
   refine gr_run ?_
   refine bind_e (fun v9 e9 => gr_call [] (laws_eqPathStep.con e9) ?_)
   clear e9
   refine gr_run ?_
   refine gr_done ?_
   refine bif_e (fun c3 => ?_) (fun c3 => ?_)
   ·refine go 4 ?_
    exact fun h => good_again hl0 (by omega) ⟨_, ⟨by omega, _, rfl, h⟩, frle_, memle_⟩
   ·refine go 3 ?_
    refine ret_e (fun hr_ => ?_)
    subst hr_
    exact ret_ Try.func8 [(1000, (0, 1000, 0)), (1001, (0, 1001, 0))]
  ·refine go 7 ?_
   refine ret_e (fun hr_ => ?_)
   subst hr_
   exact ret_ Try.func8 [(1000, (0, 1000, 0)), (1001, (0, 1001, 0))]
 ·refine go 8 ?_
  refine ret_e (fun hr_ => ?_)
  subst hr_
  exact ret_ Try.func8 [(1000, (0, 1000, 0)), (1001, (0, 1001, 0))]
mutual
def laws_eqPathStepS.l0 : Nat → (List S31) → (List S31) → Int → Option (Bool)
 | 0, _, _, _ => none
 | k + 1, v0, v1, v2 => (bif decide (v2 < (v0.length : Int)) then ((ix v0 v2).bind fun v3 => ((ix v1 v2).bind fun v4 => ((laws_eqPathStep.f k v3 v4).bind fun v5 => (bif v5 then (laws_eqPathStepS.l0 k v0 v1 (IntKind.i64.wrap (v2 + 1))) else (some false))))) else (some true))
def laws_eqPathStepS.f : Nat → (List S31) → (List S31) → Option (Bool)
 | 0, _, _ => none
 | k + 1, v0, v1 => (bif ((v0.length : Int) == (v1.length : Int)) then (laws_eqPathStepS.l0 k v0 v1 0) else (some false))
end
set_option maxRecDepth 100000 in
set_option maxHeartbeats 4000000 in
theorem laws_eqPathStepS.con {K : Kn} [KOk K] {k : Nat} {v0 : (List S31)} {v1 : (List S31)} {r : Bool} (h : laws_eqPathStepS.f k v0 v1 = some r) : Con K Try.prog 8 [.p (.lst false (List.map en31 v0)), .p (.lst false (List.map en31 v1))] [] (.p (.bool r)) [] := by
 cases k with
 | zero => exact absurd h (by simp [laws_eqPathStepS.f])
 | succ k =>
 rw [laws_eqPathStepS.f] at h
 refine con_intro 27 [] Try.func8 (by kernel_rfl) rfl rfl (by kernel_rfl) fun ι0 w0 hk0 => ?_
 revert h
 refine bif_e (fun c1 => ?_) (fun c1 => ?_)
 ·refine go 11 ?_
  refine fun h => good_loop (fun n st => n ≤ k ∧ ∃ (v2 : _), st = ⟨[(0, .p (.lst false (List.map en31 v0))), (1, .p (.lst false (List.map en31 v1))), (5, .p (.int .i64 v2))], []⟩ ∧ laws_eqPathStepS.l0 n v0 v1 v2 = some r) k ⟨_, ⟨Nat.le_refl _, _, rfl, h⟩, frle_, memle_⟩ ?_
  clear c1
  clear h
  rintro n _ ⟨hkl0, v2, rfl, h⟩ hl0
  cases n with
  | zero => exact absurd h (by simp [laws_eqPathStepS.l0])
  | succ kl0 =>
  rw [laws_eqPathStepS.l0] at h
  revert h
  refine bif_e (fun c2 => ?_) (fun c2 => ?_)
  ·refine bind_e (fun v3 e3 => ?_)
   replace e3 := nf_ (ix_en en31 e3)
   refine bind_e (fun v4 e4 => ?_)
   replace e4 := nf_ (ix_en en31 e4)
   refine go 8 ?_
   refine grs ?_
   refine gr_run ?_
   refine bind_e (fun v5 e5 => gr_call [] (laws_eqPathStep.con e5) ?_)
   clear e5
   refine gr_run ?_
   refine gr_done ?_
   refine bif_e (fun c3 => ?_) (fun c3 => ?_)
   ·refine go 4 ?_
    exact fun h => good_again hl0 (by omega) ⟨_, ⟨by omega, _, rfl, h⟩, frle_, memle_⟩
   ·refine go 3 ?_
    refine ret_e (fun hr_ => ?_)
    subst hr_
    exact ret_ Try.func8 []
  ·refine go 7 ?_
   refine ret_e (fun hr_ => ?_)
   subst hr_
   exact ret_ Try.func8 []
 ·refine go 8 ?_
  refine ret_e (fun hr_ => ?_)
  subst hr_
  exact ret_ Try.func8 []
mutual
def laws_markText.l0 : Nat → Int → ByteArray → Option (ByteArray)
 | 0, _, _ => none
 | k + 1, v1, v2 => (bif decide (0 < v1) then ((rem v1 10).bind fun v4 => ((cat (bstr ([(IntKind.u8.wrap (IntKind.i64.wrap (48 + v4)))] : List Int)) v2).bind fun v5 => ((quo .i64 v1 10).bind fun v6 => (laws_markText.l0 k v6 v5)))) else ((cat (⟨#[109]⟩ : ByteArray) v2).bind fun v3 => (some v3)))
def laws_markText.f : Nat → Int → Option (ByteArray)
 | 0, _ => none
 | k + 1, v0 => (bif decide (v0 ≤ 0) then (some (⟨#[109, 48]⟩ : ByteArray)) else (laws_markText.l0 k v0 (⟨#[]⟩ : ByteArray)))
end
set_option maxRecDepth 100000 in
set_option maxHeartbeats 4000000 in
theorem laws_markText.con {K : Kn} [KOk K] {k : Nat} {v0 : Int} {r : ByteArray} (h : laws_markText.f k v0 = some r) : Con K Try.prog 18 [.p (.int .i64 v0)] [] (.p (.str r)) [] := by
 cases k with
 | zero => exact absurd h (by simp [laws_markText.f])
 | succ k =>
 rw [laws_markText.f] at h
 refine con_intro 20 [] Try.func18 (by kernel_rfl) rfl rfl (by kernel_rfl) fun ι0 w0 hk0 => ?_
 revert h
 refine bif_e (fun c1 => ?_) (fun c1 => ?_)
 ·refine go 8 ?_
  refine ret_e (fun hr_ => ?_)
  subst hr_
  exact ret_ Try.func18 []
 ·refine go 11 ?_
  refine fun h => good_loop (fun n st => n ≤ k ∧ ∃ (v1 : _) (v2 : _), st = ⟨[(0, .p (.int .i64 v1)), (3, .p (.str v2))], []⟩ ∧ laws_markText.l0 n v1 v2 = some r) k ⟨_, ⟨Nat.le_refl _, _, _, rfl, h⟩, frle_, memle_⟩ ?_
  clear c1
  clear h
  rintro n _ ⟨hkl0, v1, v2, rfl, h⟩ hl0
  cases n with
  | zero => exact absurd h (by simp [laws_markText.l0])
  | succ kl0 =>
  rw [laws_markText.l0] at h
  revert h
  refine bif_e (fun c2 => ?_) (fun c2 => ?_)
  ·refine bind_e (fun v4 e4 => ?_)
   refine bind_e (fun v5 e5 => ?_)
   refine bind_e (fun v6 e6 => ?_)
   refine go 10 ?_
   exact fun h => good_again hl0 (by omega) ⟨_, ⟨by omega, _, _, rfl, h⟩, frle_, memle_⟩
  ·refine bind_e (fun v3 e3 => ?_)
   refine go 7 ?_
   refine ret_e (fun hr_ => ?_)
   subst hr_
   exact ret_ Try.func18 []
mutual
def laws_markPathStepS_sv.l0 : Nat → (List S31) → Int → Int → Option (Int)
 | 0, _, _, _ => none
 | k + 1, v0, v2, v3 => (bif decide (v3 < (v0.length : Int)) then ((ix v0 v3).bind fun v4 => ((laws_markText.f k (IntKind.i64.wrap (v2 + 1))).bind fun v5 => (laws_markPathStepS_sv.l0 k v0 (IntKind.i64.wrap ((IntKind.i64.wrap ((IntKind.i64.wrap (v2 + 1)) + 1)) + 1)) (IntKind.i64.wrap (v3 + 1))))) else (some v2))
def laws_markPathStepS_sv.f : Nat → (List S31) → Int → Option (Int)
 | 0, _, _ => none
 | k + 1, v0, v1 => (laws_markPathStepS_sv.l0 k v0 v1 0)
end
set_option maxRecDepth 100000 in
set_option maxHeartbeats 4000000 in
theorem laws_markPathStepS_sv.con {K : Kn} [KOk K] {k : Nat} {v0 : (List S31)} {v1 : Int} {r : Int} (h : laws_markPathStepS_sv.f k v0 v1 = some r) : Con K Try.prog 9 [.sh 1000 0 (List.map en31 v0), .p (.int .i64 v1)] [(1000, (0, .pool))] (.p (.int .i64 r)) [(1000, (0, .pool))] := by
 cases k with
 | zero => exact absurd h (by simp [laws_markPathStepS_sv.f])
 | succ k =>
 rw [laws_markPathStepS_sv.f] at h
 refine con_intro 35 [] Try.func9 (by kernel_rfl) rfl rfl (by kernel_rfl) fun ι0 w0 hk0 => ?_
 revert h
 refine go 6 ?_
 refine fun h => good_loop (fun n st => n ≤ k ∧ ∃ (v2 : _) (v3 : _), st = ⟨[(0, .sh 1000 0 (List.map en31 v0)), (1, .p (.int .i64 v2)), (5, .p (.int .i64 v3))], [(1000, (0, .pool))]⟩ ∧ laws_markPathStepS_sv.l0 n v0 v2 v3 = some r) k ⟨_, ⟨Nat.le_refl _, _, _, rfl, h⟩, frle_, memle_⟩ ?_
 clear h
 rintro n _ ⟨hkl0, v2, v3, rfl, h⟩ hl0
 cases n with
 | zero => exact absurd h (by simp [laws_markPathStepS_sv.l0])
 | succ kl0 =>
 rw [laws_markPathStepS_sv.l0] at h
 revert h
 refine bif_e (fun c1 => ?_) (fun c1 => ?_)
 ·refine bind_e (fun v4 e4 => ?_)
  replace e4 := nf_ (ix_en en31 e4)
  refine go 12 ?_
  refine grs ?_
  refine gr_run ?_
  refine bind_e (fun v5 e5 => gr_call [] (laws_markText.con e5) ?_)
  clear e5
  refine gr_run ?_
  refine gr_done ?_
  refine go 7 ?_
  exact fun h => good_again hl0 (by omega) ⟨_, ⟨by omega, _, _, rfl, h⟩, frle_, memle_⟩
 ·refine go 7 ?_
  refine ret_e (fun hr_ => ?_)
  subst hr_
  exact ret_ Try.func9 [(1000, (0, 1000, 0))]
mutual
def laws_markPathStepS_bv.l0 : Nat → Nat → Int → Int → (List S31) → Option (Int × (List S31))
 | 0, _, _, _, _ => none
 | k + 1, v0, v3, v4, v5 => (bif decide (v4 < (v0 : Int)) then ((inr v4 v0).bind fun v6 => ((v5[(Int.toNat v4)]?).bind fun v7 => ((laws_markText.f k (IntKind.i64.wrap (v3 + 1))).bind fun v8 => (((setr v5 (Int.toNat v4) (⟨v3, v7.f1, v7.f2⟩ : S31))[(Int.toNat v4)]?).bind fun v10 => (((setr (setr v5 (Int.toNat v4) (⟨v3, v7.f1, v7.f2⟩ : S31)) (Int.toNat v4) (⟨v10.f0, v8, v10.f2⟩ : S31))[(Int.toNat v4)]?).bind fun v12 => (laws_markPathStepS_bv.l0 k v0 (IntKind.i64.wrap ((IntKind.i64.wrap ((IntKind.i64.wrap (v3 + 1)) + 1)) + 1)) (IntKind.i64.wrap (v4 + 1)) (setr (setr (setr v5 (Int.toNat v4) (⟨v3, v7.f1, v7.f2⟩ : S31)) (Int.toNat v4) (⟨v10.f0, v8, v10.f2⟩ : S31)) (Int.toNat v4) (⟨v12.f0, v12.f1, (IntKind.i64.wrap ((IntKind.i64.wrap (v3 + 1)) + 1))⟩ : S31)))))))) else (some (v3, v5)))
def laws_markPathStepS_bv.f : Nat → Nat → Int → (List S31) → Option (Int × (List S31))
 | 0, _, _, _ => none
 | k + 1, v0, v1, v2 => (laws_markPathStepS_bv.l0 k v0 v1 0 v2)
end
set_option maxRecDepth 100000 in
set_option maxHeartbeats 4000000 in
theorem laws_markPathStepS_bv.con {K : Kn} [KOk K] {k : Nat} {v0 : Nat} {v1 : Int} {v2 : (List S31)} {r : Int × (List S31)} (h : laws_markPathStepS_bv.f k v0 v1 v2 = some r) : Con K Try.prog 9 [.buf 1000 0 0 v0, .p (.int .i64 v1)] [(1000, (0, .buf 3 (List.map en31 v2)))] (.p (.int .i64 r.1)) [(1000, (0, .buf 3 (List.map en31 r.2)))] := by
 cases k with
 | zero => exact absurd h (by simp [laws_markPathStepS_bv.f])
 | succ k =>
 rw [laws_markPathStepS_bv.f] at h
 refine con_intro 35 [] Try.func9 (by kernel_rfl) rfl rfl (by kernel_rfl) fun ι0 w0 hk0 => ?_
 revert h
 refine go 6 ?_
 refine fun h => good_loop (fun n st => n ≤ k ∧ ∃ (v3 : _) (v4 : _) (v5 : _), st = ⟨[(0, .buf 1000 0 0 v0), (1, .p (.int .i64 v3)), (5, .p (.int .i64 v4))], [(1000, (0, .buf 3 (List.map en31 v5)))]⟩ ∧ laws_markPathStepS_bv.l0 n v0 v3 v4 v5 = some r) k ⟨_, ⟨Nat.le_refl _, _, _, _, rfl, h⟩, frle_, memle_⟩ ?_
 clear h
 rintro n _ ⟨hkl0, v3, v4, v5, rfl, h⟩ hl0
 cases n with
 | zero => exact absurd h (by simp [laws_markPathStepS_bv.l0])
 | succ kl0 =>
 rw [laws_markPathStepS_bv.l0] at h
 revert h
 refine bif_e (fun c1 => ?_) (fun c1 => ?_)
 ·refine bind_e (fun v6 e6 => ?_)
  refine bind_e (fun v7 e7 => ?_)
  replace e7 := nf_ (gx_en en31 e7)
  refine go 12 ?_
  refine grs ?_
  refine gr_run ?_
  refine bind_e (fun v8 e8 => gr_call [] (laws_markText.con e8) ?_)
  clear e8
  refine bind_e (fun v10 e10 => ?_)
  replace e10 := nf_ (gx_en en31 e10)
  refine gr_run ?_
  refine gr_done ?_
  refine bind_e (fun v12 e12 => ?_)
  replace e12 := nf_ (gx_en en31 e12)
  refine go 7 ?_
  exact fun h => good_again hl0 (by omega) ⟨_, ⟨by omega, _, _, _, rfl, h⟩, frle_, memle_⟩
 ·refine go 7 ?_
  refine ret_e (fun hr_ => ?_)
  subst hr_
  exact ret_ Try.func9 [(1000, (0, 1000, 0))]
mutual
def laws_heldPathStepS_bv.l0 : Nat → Nat → Int → Int → (List S31) → Option (Int)
 | 0, _, _, _, _ => none
 | k + 1, v0, v3, v4, v2 => (bif decide (v4 < (v0 : Int)) then ((inr v4 v0).bind fun v5 => ((v2[(Int.toNat v4)]?).bind fun v6 => (bif (v6.f0 == v3) then ((laws_markText.f k (IntKind.i64.wrap (v3 + 1))).bind fun v9 => (bif decide (v6.f1 = v9) then (bif (v6.f2 == (IntKind.i64.wrap ((IntKind.i64.wrap (v3 + 1)) + 1))) then (laws_heldPathStepS_bv.l0 k v0 (IntKind.i64.wrap ((IntKind.i64.wrap ((IntKind.i64.wrap (v3 + 1)) + 1)) + 1)) (IntKind.i64.wrap (v4 + 1)) v2) else (some (-1))) else (some (-1)))) else (some (-1))))) else (some v3))
def laws_heldPathStepS_bv.f : Nat → Nat → Int → (List S31) → Option (Int)
 | 0, _, _, _ => none
 | k + 1, v0, v1, v2 => (laws_heldPathStepS_bv.l0 k v0 v1 0 v2)
end
set_option maxRecDepth 100000 in
set_option maxHeartbeats 4000000 in
theorem laws_heldPathStepS_bv.con {K : Kn} [KOk K] {k : Nat} {v0 : Nat} {v1 : Int} {v2 : (List S31)} {r : Int} (h : laws_heldPathStepS_bv.f k v0 v1 v2 = some r) : Con K Try.prog 10 [.buf 1000 0 0 v0, .p (.int .i64 v1)] [(1000, (0, .buf 3 (List.map en31 v2)))] (.p (.int .i64 r)) [(1000, (0, .buf 3 (List.map en31 v2)))] := by
 cases k with
 | zero => exact absurd h (by simp [laws_heldPathStepS_bv.f])
 | succ k =>
 rw [laws_heldPathStepS_bv.f] at h
 refine con_intro 41 [] Try.func10 (by kernel_rfl) rfl rfl (by kernel_rfl) fun ι0 w0 hk0 => ?_
 revert h
 refine go 6 ?_
 refine fun h => good_loop (fun n st => n ≤ k ∧ ∃ (v3 : _) (v4 : _), st = ⟨[(0, .buf 1000 0 0 v0), (1, .p (.int .i64 v3)), (5, .p (.int .i64 v4))], [(1000, (0, .buf 3 (List.map en31 v2)))]⟩ ∧ laws_heldPathStepS_bv.l0 n v0 v3 v4 v2 = some r) k ⟨_, ⟨Nat.le_refl _, _, _, rfl, h⟩, frle_, memle_⟩ ?_
 clear h
 rintro n _ ⟨hkl0, v3, v4, rfl, h⟩ hl0
 cases n with
 | zero => exact absurd h (by simp [laws_heldPathStepS_bv.l0])
 | succ kl0 =>
 rw [laws_heldPathStepS_bv.l0] at h
 revert h
 refine bif_e (fun c1 => ?_) (fun c1 => ?_)
 ·refine bind_e (fun v5 e5 => ?_)
  refine bind_e (fun v6 e6 => ?_)
  replace e6 := nf_ (gx_en en31 e6)
  refine bif_e (fun c2 => ?_) (fun c2 => ?_)
  ·refine go 16 ?_
   refine grs ?_
   refine gr_run ?_
   refine bind_e (fun v9 e9 => gr_call [] (laws_markText.con e9) ?_)
   clear e9
   refine gr_run ?_
   refine gr_done ?_
   refine bif_e (fun c3 => ?_) (fun c3 => ?_)
   ·refine bif_e (fun c4 => ?_) (fun c4 => ?_)
    ·refine go 12 ?_
     exact fun h => good_again hl0 (by omega) ⟨_, ⟨by omega, _, _, rfl, h⟩, frle_, memle_⟩
    ·refine go 10 ?_
     refine ret_e (fun hr_ => ?_)
     subst hr_
     exact ret_ Try.func10 [(1000, (0, 1000, 0))]
   ·refine go 3 ?_
    refine ret_e (fun hr_ => ?_)
    subst hr_
    exact ret_ Try.func10 [(1000, (0, 1000, 0))]
  ·refine go 13 ?_
   refine ret_e (fun hr_ => ?_)
   subst hr_
   exact ret_ Try.func10 [(1000, (0, 1000, 0))]
 ·refine go 7 ?_
  refine ret_e (fun hr_ => ?_)
  subst hr_
  exact ret_ Try.func10 [(1000, (0, 1000, 0))]
def laws_FnExactTurnSteps.f (k : Nat) (v0 : (List S31)) : Option (Bool) := ((laws_szPathStepS.f k v0 1048576).bind fun v1 => (bif decide (v1 < 0) then (some true) else ((laws_toPathStepS.f k v0).bind fun v2 => ((spec_TurnSteps_O.f k v2).bind fun v3 => ((laws_toPathStepS.f k v0).bind fun v4 => ((impl_TurnSteps_O.f k v4).bind fun v5 => ((laws_eqPathStepS_bb.f k v5.length v3.length v5 v3).bind fun v6 => (bif v6 then ((laws_toPathStepS.f k v0).bind fun v7 => ((laws_eqPathStepS.f k v4 v7).bind fun v8 => (bif v8 then ((laws_markPathStepS_sv.f k v4 1).bind fun v9 => (bif decide (v9 < 0) then (some false) else ((laws_eqPathStepS_bb.f k v5.length v3.length v5 v3).bind fun v10 => (bif v10 then ((laws_markPathStepS_bv.f k v5.length 1 v5).bind fun v11 => ((laws_heldPathStepS_bv.f k v5.length 1 v11.2).bind fun v12 => (bif decide (v12 < 0) then (some false) else (bif (v12 == v11.1) then ((laws_toPathStepS.f k v0).bind fun v13 => ((impl_TurnSteps_O.f k v13).bind fun v14 => ((laws_eqPathStepS_bb.f k v14.length v3.length v14 v3).bind fun v15 => (bif v15 then ((laws_heldPathStepS_bv.f k v5.length 1 v11.2).bind fun v16 => (bif decide (v16 < 0) then (some false) else (bif (v16 == v11.1) then (some true) else (some false)))) else (some false))))) else (some false))))) else (some false))))) else (some false)))) else (some false)))))))))
set_option maxRecDepth 100000 in
set_option maxHeartbeats 4000000 in
theorem laws_FnExactTurnSteps.con {K : Kn} [KOk K] {k : Nat} {v0 : (List S31)} {r : Bool} (h : laws_FnExactTurnSteps.f k v0 = some r) : ConT K Try.prog 3 [.od (.lst false (List.map en31 v0))] [] (.p (.bool r)) [] := by
 rw [laws_FnExactTurnSteps.f] at h
 refine conT_intro 69 [] Try.func3 (by kernel_rfl) rfl rfl (by kernel_rfl) fun ι0 w0 hN0 hk0 => ?_
 revert h
 refine go 5 ?_
 refine grs ?_
 refine gr_run ?_
 refine bind_e (fun v1 e1 => gr_call [] (laws_szPathStepS.con e1) ?_)
 clear e1
 refine gr_run ?_
 refine gr_done ?_
 refine bif_e (fun c1 => ?_) (fun c1 => ?_)
 ·refine go 6 ?_
  refine ret_e (fun hr_ => ?_)
  subst hr_
  exact ret_ Try.func3 []
 ·refine go 6 ?_
  refine grs ?_
  refine gr_run ?_
  refine bind_e (fun v2 e2 => gr_call [] (laws_toPathStepS.con e2) ?_)
  clear e2
  refine bind_e (fun v3 e3 => gr_call [(2000, (1, 18, 1))] (spec_TurnSteps_O.con e3) ?_)
  clear e3
  refine gr_run ?_
  refine gr_done ?_
  refine go 1 ?_
  refine grs ?_
  refine gr_run ?_
  refine bind_e (fun v4 e4 => gr_call [] (laws_toPathStepS.con e4) ?_)
  clear e4
  refine gr_run ?_
  refine gr_done ?_
  refine go 1 ?_
  refine grs ?_
  refine gr_run ?_
  refine bind_e (fun v5 e5 => gr_call [(2000, (1, 22, 1))] (impl_TurnSteps_O.con e5) ?_)
  clear e5
  refine gr_run ?_
  refine gr_done ?_
  refine go 2 ?_
  refine grs ?_
  refine gr_run ?_
  refine bind_e (fun v6 e6 => gr_call [(1000, (0, 22, 1)), (1001, (0, 18, 1))] (laws_eqPathStepS_bb.con e6) ?_)
  clear e6
  refine gr_run ?_
  refine gr_done ?_
  refine bif_e (fun c2 => ?_) (fun c2 => ?_)
  ·refine go 4 ?_
   refine grs ?_
   refine gr_run ?_
   refine bind_e (fun v7 e7 => gr_call [] (laws_toPathStepS.con e7) ?_)
   clear e7
   refine bind_e (fun v8 e8 => gr_call [] (laws_eqPathStepS.con e8) ?_)
   clear e8
   refine gr_run ?_
   refine gr_done ?_
   refine bif_e (fun c3 => ?_) (fun c3 => ?_)
   ·refine go 5 ?_
    refine pool_ 900 (⟨[(0, .od (.lst false (List.map en31 v0))), (4, .buf 18 1 0 v3.length), (5, .nw (.lst false (List.map en31 v4))), (6, .buf 22 1 0 v5.length), (7, .p (.int .i64 1))], [(18, (1, .buf 3 (List.map en31 v3))), (22, (1, .buf 3 (List.map en31 v5)))]⟩) (⟨[(0, .od (.lst false (List.map en31 v0))), (4, .buf 18 1 0 v3.length), (5, .sh 900 1 (List.map en31 v4)), (6, .buf 22 1 0 v5.length), (7, .p (.int .i64 1))], [(900, (1, .pool)), (18, (1, .buf 3 (List.map en31 v3))), (22, (1, .buf 3 (List.map en31 v5)))]⟩) ?_
    refine grs ?_
    refine gr_run ?_
    refine bind_e (fun v9 e9 => gr_call [(1000, (0, 900, 1))] (laws_markPathStepS_sv.con e9) ?_)
    clear e9
    refine gr_run ?_
    refine gr_done ?_
    refine bif_e (fun c4 => ?_) (fun c4 => ?_)
    ·refine go 6 ?_
     refine ret_e (fun hr_ => ?_)
     subst hr_
     exact ret_ Try.func3 []
    ·refine go 2 ?_
     refine grs ?_
     refine gr_run ?_
     refine bind_e (fun v10 e10 => gr_call [(1000, (0, 22, 1)), (1001, (0, 18, 1))] (laws_eqPathStepS_bb.con e10) ?_)
     clear e10
     refine gr_run ?_
     refine gr_done ?_
     refine bif_e (fun c5 => ?_) (fun c5 => ?_)
     ·refine go 5 ?_
      refine grs ?_
      refine gr_run ?_
      refine bind_e (fun v11 e11 => gr_call [(1000, (0, 22, 1))] (laws_markPathStepS_bv.con e11) ?_)
      clear e11
      refine gr_run ?_
      refine gr_done ?_
      refine go 3 ?_
      refine grs ?_
      refine gr_run ?_
      refine bind_e (fun v12 e12 => gr_call [(1000, (0, 22, 1))] (laws_heldPathStepS_bv.con e12) ?_)
      clear e12
      refine gr_run ?_
      refine gr_done ?_
      refine bif_e (fun c6 => ?_) (fun c6 => ?_)
      ·refine go 6 ?_
       refine ret_e (fun hr_ => ?_)
       subst hr_
       exact ret_ Try.func3 []
      ·refine bif_e (fun c7 => ?_) (fun c7 => ?_)
       ·refine go 11 ?_
        refine grs ?_
        refine gr_run ?_
        refine bind_e (fun v13 e13 => gr_call [] (laws_toPathStepS.con e13) ?_)
        clear e13
        refine bind_e (fun v14 e14 => gr_call [(2000, (1, 56, 1))] (impl_TurnSteps_O.con e14) ?_)
        clear e14
        refine gr_run ?_
        refine gr_done ?_
        refine go 2 ?_
        refine grs ?_
        refine gr_run ?_
        refine bind_e (fun v15 e15 => gr_call [(1000, (0, 56, 1)), (1001, (0, 18, 1))] (laws_eqPathStepS_bb.con e15) ?_)
        clear e15
        refine gr_run ?_
        refine gr_done ?_
        refine bif_e (fun c8 => ?_) (fun c8 => ?_)
        ·refine go 5 ?_
         refine grs ?_
         refine gr_run ?_
         refine bind_e (fun v16 e16 => gr_call [(1000, (0, 22, 1))] (laws_heldPathStepS_bv.con e16) ?_)
         clear e16
         refine gr_run ?_
         refine gr_done ?_
         refine bif_e (fun c9 => ?_) (fun c9 => ?_)
         ·refine go 6 ?_
          refine ret_e (fun hr_ => ?_)
          subst hr_
          exact ret_ Try.func3 []
         ·refine bif_e (fun c10 => ?_) (fun c10 => ?_)
          ·refine go 12 ?_
           refine ret_e (fun hr_ => ?_)
           subst hr_
           exact ret_ Try.func3 []
          ·refine go 11 ?_
           refine ret_e (fun hr_ => ?_)
           subst hr_
           exact ret_ Try.func3 []
        ·refine go 3 ?_
         refine ret_e (fun hr_ => ?_)
         subst hr_
         exact ret_ Try.func3 []
       ·refine go 11 ?_
        refine ret_e (fun hr_ => ?_)
        subst hr_
        exact ret_ Try.func3 []
     ·refine go 3 ?_
      refine ret_e (fun hr_ => ?_)
      subst hr_
      exact ret_ Try.func3 []
   ·refine go 3 ?_
    refine ret_e (fun hr_ => ?_)
    subst hr_
    exact ret_ Try.func3 []
  ·refine go 3 ?_
   refine ret_e (fun hr_ => ?_)
   subst hr_
   exact ret_ Try.func3 []
end Go.Ab
