/- What the functions compute, and their contracts, part 1. No condition beyond KOk. -/
import Derived.Test.YtfeieigajdekhaaAbX
import Derived.Test.YtfeieigajdekhaaAbF2
import Derived.Test.YtfeieigajdekhaaAbF3
namespace Go.Ab
open Go.Proofs
set_option linter.unusedVariables false
set_option linter.unusedSimpArgs false
def laws_szAtom.f (k : Nat) (v0 : S64) (v1 : Int) : Option (Int) := (bif decide ((IntKind.i64.wrap (v1 - (v0.f0.size : Int))) < 0) then (some (-1)) else (bif decide ((IntKind.i64.wrap ((IntKind.i64.wrap (v1 - (v0.f0.size : Int))) - (v0.f1.size : Int))) < 0) then (some (-1)) else (bif decide ((IntKind.i64.wrap ((IntKind.i64.wrap ((IntKind.i64.wrap (v1 - (v0.f0.size : Int))) - (v0.f1.size : Int))) - (v0.f2.size : Int))) < 0) then (some (-1)) else (some (IntKind.i64.wrap ((IntKind.i64.wrap ((IntKind.i64.wrap (v1 - (v0.f0.size : Int))) - (v0.f1.size : Int))) - (v0.f2.size : Int)))))))
set_option maxRecDepth 100000 in
set_option maxHeartbeats 4000000 in
theorem laws_szAtom.con {K : Kn} [KOk K] {k : Nat} {v0 : S64} {v1 : Int} {r : Int} (h : laws_szAtom.f k v0 v1 = some r) : Con K Try.prog 38 [.agg [.p (.str v0.f0), .p (.str v0.f1), .p (.str v0.f2)], .p (.int .i64 v1)] [] (.p (.int .i64 r)) [] := by
 rw [laws_szAtom.f] at h
 refine con_intro 27 [] Try.func38 (by kernel_rfl) rfl rfl (by kernel_rfl) fun ι0 w0 hk0 => ?_
 revert h
 refine bif_e (fun c1 => ?_) (fun c1 => ?_)
 ·refine go 10 ?_
  refine ret_e (fun hr_ => ?_)
  subst hr_
  exact ret_ Try.func38 []
 ·refine bif_e (fun c2 => ?_) (fun c2 => ?_)
  ·refine go 17 ?_
   refine ret_e (fun hr_ => ?_)
   subst hr_
   exact ret_ Try.func38 []
  ·refine bif_e (fun c3 => ?_) (fun c3 => ?_)
   ·refine go 24 ?_
    refine ret_e (fun hr_ => ?_)
    subst hr_
    exact ret_ Try.func38 []
   ·refine go 25 ?_
    refine ret_e (fun hr_ => ?_)
    subst hr_
    exact ret_ Try.func38 []
mutual
def laws_szAtomS.l0 : Nat → (List S64) → Int → Int → Option (Int)
 | 0, _, _, _ => none
 | k + 1, v0, v2, v3 => (bif decide (v3 < (v0.length : Int)) then ((ix v0 v3).bind fun v4 => ((laws_szAtom.f k v4 v2).bind fun v5 => (bif decide (v5 < 0) then (some (-1)) else (laws_szAtomS.l0 k v0 v5 (IntKind.i64.wrap (v3 + 1)))))) else (some v2))
def laws_szAtomS.f : Nat → (List S64) → Int → Option (Int)
 | 0, _, _ => none
 | k + 1, v0, v1 => (bif decide ((IntKind.i64.wrap (v1 - (v0.length : Int))) < 0) then (some (-1)) else (laws_szAtomS.l0 k v0 (IntKind.i64.wrap (v1 - (v0.length : Int))) 0))
end
set_option maxRecDepth 100000 in
set_option maxHeartbeats 4000000 in
theorem laws_szAtomS.con {K : Kn} [KOk K] {k : Nat} {v0 : (List S64)} {v1 : Int} {r : Int} (h : laws_szAtomS.f k v0 v1 = some r) : Con K Try.prog 16 [.p (.lst false (List.map en64 v0)), .p (.int .i64 v1)] [] (.p (.int .i64 r)) [] := by
 cases k with
 | zero => exact absurd h (by simp [laws_szAtomS.f])
 | succ k =>
 rw [laws_szAtomS.f] at h
 refine con_intro 27 [] Try.func16 (by kernel_rfl) rfl rfl (by kernel_rfl) fun ι0 w0 hk0 => ?_
 revert h
 refine bif_e (fun c1 => ?_) (fun c1 => ?_)
 ·refine go 10 ?_
  refine ret_e (fun hr_ => ?_)
  subst hr_
  exact ret_ Try.func16 []
 ·refine go 13 ?_
  refine fun h => good_loop (fun n st => n ≤ k ∧ ∃ (v2 : _) (v3 : _), st = ⟨[(0, .p (.lst false (List.map en64 v0))), (1, .p (.int .i64 v2)), (5, .p (.int .i64 v3))], []⟩ ∧ laws_szAtomS.l0 n v0 v2 v3 = some r) k ⟨_, ⟨Nat.le_refl _, _, _, rfl, h⟩, frle_, memle_⟩ ?_
  clear c1
  clear h
  rintro n _ ⟨hkl0, v2, v3, rfl, h⟩ hl0
  cases n with
  | zero => exact absurd h (by simp [laws_szAtomS.l0])
  | succ kl0 =>
  rw [laws_szAtomS.l0] at h
  revert h
  refine bif_e (fun c2 => ?_) (fun c2 => ?_)
  ·refine bind_e (fun v4 e4 => ?_)
   replace e4 := nf_ (ix_en en64 e4)
   refine go 8 ?_
   refine grs ?_
   refine gr_run ?_
   refine bind_e (fun v5 e5 => gr_call [] (laws_szAtom.con e5) ?_)
   clear e5
   refine gr_run ?_
   refine gr_done ?_
   refine bif_e (fun c3 => ?_) (fun c3 => ?_)
   ·refine go 5 ?_
    refine ret_e (fun hr_ => ?_)
    subst hr_
    exact ret_ Try.func16 []
   ·refine go 6 ?_
    exact fun h => good_again hl0 (by omega) ⟨_, ⟨by omega, _, _, rfl, h⟩, frle_, memle_⟩
  ·refine go 7 ?_
   refine ret_e (fun hr_ => ?_)
   subst hr_
   exact ret_ Try.func16 []
def laws_toAtom.f (k : Nat) (v0 : S64) : Option (S64) := (some v0)
set_option maxRecDepth 100000 in
set_option maxHeartbeats 4000000 in
theorem laws_toAtom.con {K : Kn} [KOk K] {k : Nat} {v0 : S64} {r : S64} (h : laws_toAtom.f k v0 = some r) : Con K Try.prog 43 [.agg [.p (.str v0.f0), .p (.str v0.f1), .p (.str v0.f2)]] [] (.agg [.p (.str r.f0), .p (.str r.f1), .p (.str r.f2)]) [] := by
 rw [laws_toAtom.f] at h
 refine con_intro 14 [] Try.func43 (by kernel_rfl) rfl rfl (by kernel_rfl) fun ι0 w0 hk0 => ?_
 revert h
 refine go 12 ?_
 refine ret_e (fun hr_ => ?_)
 subst hr_
 exact ret_ Try.func43 []
mutual
def laws_toAtomS.l0 : Nat → (List S64) → (List S64) → Int → (List S64) → Option ((List S64))
 | 0, _, _, _, _ => none
 | k + 1, v0, v1, v2, v3 => (bif decide (v2 < (v0.length : Int)) then ((ix v0 v2).bind fun v4 => ((laws_toAtom.f k v4).bind fun v5 => ((inr v2 v1.length).bind fun v6 => ((v3[(Int.toNat v2)]?).bind fun v7 => (laws_toAtomS.l0 k v0 v1 (IntKind.i64.wrap (v2 + 1)) (setr v3 (Int.toNat v2) v5)))))) else (some (List.take v1.length v3)))
def laws_toAtomS.f : Nat → (List S64) → Option ((List S64))
 | 0, _ => none
 | k + 1, v0 => ((mks (⟨(⟨#[]⟩ : ByteArray), (⟨#[]⟩ : ByteArray), (⟨#[]⟩ : ByteArray)⟩ : S64) (v0.length : Int) (v0.length : Int)).bind fun v1 => (laws_toAtomS.l0 k v0 v1 0 v1))
end
set_option maxRecDepth 100000 in
set_option maxHeartbeats 4000000 in
theorem laws_toAtomS.con {K : Kn} [KOk K] {k : Nat} {v0 : (List S64)} {r : (List S64)} (h : laws_toAtomS.f k v0 = some r) : Con K Try.prog 18 [.p (.lst false (List.map en64 v0))] [] (.nw (.lst false (List.map en64 r))) [] := by
 cases k with
 | zero => exact absurd h (by simp [laws_toAtomS.f])
 | succ k =>
 rw [laws_toAtomS.f] at h
 refine con_intro 23 [7] Try.func18 (by kernel_rfl) rfl rfl (by kernel_rfl) fun ι0 w0 hk0 => ?_
 revert h
 refine bind_e (fun v1 e1 => ?_)
 replace e1 := nf_ (mks_en en64 e1)
 refine go 8 ?_
 refine fun h => good_loop (fun n st => n ≤ k ∧ ∃ (v2 : _) (v3 : _), st = ⟨[(0, .p (.lst false (List.map en64 v0))), (3, .buf 7 1 0 v1.length), (4, .p (.int .i64 v2))], [(7, (1, .bufn 3 (List.map en64 v3)))]⟩ ∧ laws_toAtomS.l0 n v0 v1 v2 v3 = some r) k ⟨_, ⟨Nat.le_refl _, _, _, rfl, h⟩, frle_, memle_⟩ ?_
 clear e1
 clear h
 rintro n _ ⟨hkl0, v2, v3, rfl, h⟩ hl0
 cases n with
 | zero => exact absurd h (by simp [laws_toAtomS.l0])
 | succ kl0 =>
 rw [laws_toAtomS.l0] at h
 revert h
 refine bif_e (fun c1 => ?_) (fun c1 => ?_)
 ·refine bind_e (fun v4 e4 => ?_)
  replace e4 := nf_ (ix_en en64 e4)
  refine go 7 ?_
  refine grs ?_
  refine gr_run ?_
  refine bind_e (fun v5 e5 => gr_call [] (laws_toAtom.con e5) ?_)
  clear e5
  refine bind_e (fun v6 e6 => ?_)
  refine bind_e (fun v7 e7 => ?_)
  replace e7 := nf_ (gx_en en64 e7)
  refine gr_run ?_
  refine gr_done ?_
  refine go 2 ?_
  exact fun h => good_again hl0 (by omega) ⟨_, ⟨by omega, _, _, rfl, h⟩, frle_, memle_⟩
 ·refine go 7 ?_
  refine freezeN_ 2 ?_
  refine ret_e (fun hr_ => ?_)
  subst hr_
  exact ret_ Try.func18 []
def laws_eqAtom.f (k : Nat) (v0 : S64) (v1 : S64) : Option (Bool) := (bif decide (v0.f0 = v1.f0) then (bif decide (v0.f1 = v1.f1) then (bif decide (v0.f2 = v1.f2) then (some true) else (some false)) else (some false)) else (some false))
set_option maxRecDepth 100000 in
set_option maxHeartbeats 4000000 in
theorem laws_eqAtom.con {K : Kn} [KOk K] {k : Nat} {v0 : S64} {v1 : S64} {r : Bool} (h : laws_eqAtom.f k v0 v1 = some r) : Con K Try.prog 46 [.agg [.p (.str v0.f0), .p (.str v0.f1), .p (.str v0.f2)], .agg [.p (.str v1.f0), .p (.str v1.f1), .p (.str v1.f2)]] [] (.p (.bool r)) [] := by
 rw [laws_eqAtom.f] at h
 refine con_intro 20 [] Try.func46 (by kernel_rfl) rfl rfl (by kernel_rfl) fun ι0 w0 hk0 => ?_
 revert h
 refine bif_e (fun c1 => ?_) (fun c1 => ?_)
 ·refine bif_e (fun c2 => ?_) (fun c2 => ?_)
  ·refine bif_e (fun c3 => ?_) (fun c3 => ?_)
   ·refine go 19 ?_
    refine ret_e (fun hr_ => ?_)
    subst hr_
    exact ret_ Try.func46 []
   ·refine go 18 ?_
    refine ret_e (fun hr_ => ?_)
    subst hr_
    exact ret_ Try.func46 []
  ·refine go 13 ?_
   refine ret_e (fun hr_ => ?_)
   subst hr_
   exact ret_ Try.func46 []
 ·refine go 8 ?_
  refine ret_e (fun hr_ => ?_)
  subst hr_
  exact ret_ Try.func46 []
mutual
def laws_eqAtomS.l0 : Nat → (List S64) → (List S64) → Int → Option (Bool)
 | 0, _, _, _ => none
 | k + 1, v0, v1, v2 => (bif decide (v2 < (v0.length : Int)) then ((ix v0 v2).bind fun v3 => ((ix v1 v2).bind fun v4 => ((laws_eqAtom.f k v3 v4).bind fun v5 => (bif v5 then (laws_eqAtomS.l0 k v0 v1 (IntKind.i64.wrap (v2 + 1))) else (some false))))) else (some true))
def laws_eqAtomS.f : Nat → (List S64) → (List S64) → Option (Bool)
 | 0, _, _ => none
 | k + 1, v0, v1 => (bif ((v0.length : Int) == (v1.length : Int)) then (laws_eqAtomS.l0 k v0 v1 0) else (some false))
end
set_option maxRecDepth 100000 in
set_option maxHeartbeats 4000000 in
theorem laws_eqAtomS.con {K : Kn} [KOk K] {k : Nat} {v0 : (List S64)} {v1 : (List S64)} {r : Bool} (h : laws_eqAtomS.f k v0 v1 = some r) : Con K Try.prog 20 [.p (.lst false (List.map en64 v0)), .p (.lst false (List.map en64 v1))] [] (.p (.bool r)) [] := by
 cases k with
 | zero => exact absurd h (by simp [laws_eqAtomS.f])
 | succ k =>
 rw [laws_eqAtomS.f] at h
 refine con_intro 27 [] Try.func20 (by kernel_rfl) rfl rfl (by kernel_rfl) fun ι0 w0 hk0 => ?_
 revert h
 refine bif_e (fun c1 => ?_) (fun c1 => ?_)
 ·refine go 11 ?_
  refine fun h => good_loop (fun n st => n ≤ k ∧ ∃ (v2 : _), st = ⟨[(0, .p (.lst false (List.map en64 v0))), (1, .p (.lst false (List.map en64 v1))), (5, .p (.int .i64 v2))], []⟩ ∧ laws_eqAtomS.l0 n v0 v1 v2 = some r) k ⟨_, ⟨Nat.le_refl _, _, rfl, h⟩, frle_, memle_⟩ ?_
  clear c1
  clear h
  rintro n _ ⟨hkl0, v2, rfl, h⟩ hl0
  cases n with
  | zero => exact absurd h (by simp [laws_eqAtomS.l0])
  | succ kl0 =>
  rw [laws_eqAtomS.l0] at h
  revert h
  refine bif_e (fun c2 => ?_) (fun c2 => ?_)
  ·refine bind_e (fun v3 e3 => ?_)
   replace e3 := nf_ (ix_en en64 e3)
   refine bind_e (fun v4 e4 => ?_)
   replace e4 := nf_ (ix_en en64 e4)
   refine go 8 ?_
   refine grs ?_
   refine gr_run ?_
   refine bind_e (fun v5 e5 => gr_call [] (laws_eqAtom.con e5) ?_)
   clear e5
   refine gr_run ?_
   refine gr_done ?_
   refine bif_e (fun c3 => ?_) (fun c3 => ?_)
   ·refine go 4 ?_
    exact fun h => good_again hl0 (by omega) ⟨_, ⟨by omega, _, rfl, h⟩, frle_, memle_⟩
   ·refine go 3 ?_
    refine ret_e (fun hr_ => ?_)
    subst hr_
    exact ret_ Try.func20 []
  ·refine go 7 ?_
   refine ret_e (fun hr_ => ?_)
   subst hr_
   exact ret_ Try.func20 []
 ·refine go 8 ?_
  refine ret_e (fun hr_ => ?_)
  subst hr_
  exact ret_ Try.func20 []
def laws_FnExactIsTree.f (k : Nat) (v0 : (List S64)) : Option (Bool) := ((laws_szAtomS.f k v0 1048576).bind fun v1 => (bif decide (v1 < 0) then (some true) else ((laws_toAtomS.f k v0).bind fun v2 => ((spec_IsTree.f k v2).bind fun v3 => ((laws_toAtomS.f k v0).bind fun v4 => ((impl_IsTree.f k v4).bind fun v5 => (bif (v5 == v3) then ((laws_toAtomS.f k v0).bind fun v6 => ((laws_eqAtomS.f k v4 v6).bind fun v7 => (bif v7 then (some true) else (some false)))) else (some false))))))))
set_option maxRecDepth 100000 in
set_option maxHeartbeats 4000000 in
theorem laws_FnExactIsTree.con {K : Kn} [KOk K] {k : Nat} {v0 : (List S64)} {r : Bool} (h : laws_FnExactIsTree.f k v0 = some r) : Con K Try.prog 5 [.p (.lst false (List.map en64 v0))] [] (.p (.bool r)) [] := by
 rw [laws_FnExactIsTree.f] at h
 refine con_intro 27 [] Try.func5 (by kernel_rfl) rfl rfl (by kernel_rfl) fun ι0 w0 hk0 => ?_
 revert h
 refine go 5 ?_
 refine grs ?_
 refine gr_run ?_
 refine bind_e (fun v1 e1 => gr_call [] (laws_szAtomS.con e1) ?_)
 clear e1
 refine gr_run ?_
 refine gr_done ?_
 refine bif_e (fun c1 => ?_) (fun c1 => ?_)
 ·refine go 6 ?_
  refine ret_e (fun hr_ => ?_)
  subst hr_
  exact ret_ Try.func5 []
 ·refine go 6 ?_
  refine grs ?_
  refine gr_run ?_
  refine bind_e (fun v2 e2 => gr_call [] (laws_toAtomS.con e2) ?_)
  clear e2
  refine bind_e (fun v3 e3 => gr_call [] (spec_IsTree.con e3) ?_)
  clear e3
  refine gr_run ?_
  refine gr_done ?_
  refine go 1 ?_
  refine grs ?_
  refine gr_run ?_
  refine bind_e (fun v4 e4 => gr_call [] (laws_toAtomS.con e4) ?_)
  clear e4
  refine gr_run ?_
  refine gr_done ?_
  refine go 1 ?_
  refine grs ?_
  refine gr_run ?_
  refine bind_e (fun v5 e5 => gr_call [] (impl_IsTree.con e5) ?_)
  clear e5
  refine gr_run ?_
  refine gr_done ?_
  refine bif_e (fun c2 => ?_) (fun c2 => ?_)
  ·refine go 7 ?_
   refine grs ?_
   refine gr_run ?_
   refine bind_e (fun v6 e6 => gr_call [] (laws_toAtomS.con e6) ?_)
   clear e6
   refine bind_e (fun v7 e7 => gr_call [] (laws_eqAtomS.con e7) ?_)
   clear e7
   refine gr_run ?_
   refine gr_done ?_
   refine bif_e (fun c3 => ?_) (fun c3 => ?_)
   ·refine go 4 ?_
    refine ret_e (fun hr_ => ?_)
    subst hr_
    exact ret_ Try.func5 []
   ·refine go 3 ?_
    refine ret_e (fun hr_ => ?_)
    subst hr_
    exact ret_ Try.func5 []
  ·refine go 6 ?_
   refine ret_e (fun hr_ => ?_)
   subst hr_
   exact ret_ Try.func5 []
end Go.Ab
