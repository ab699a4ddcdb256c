/- What the functions compute, and their contracts, part 1. No condition beyond KOk. -/
import Derived.Test.YtaddedbombndlaaAbX
namespace Go.Ab
open Go.Proofs
set_option linter.unusedVariables false
set_option linter.unusedSimpArgs false
def laws_szPatNode.f (k : Nat) (v0 : S124) (v1 : Int) : Option (Int) := (bif decide ((IntKind.i64.wrap (v1 - (v0.f0.size : Int))) < 0) then (some (-1)) else (bif decide ((IntKind.i64.wrap ((IntKind.i64.wrap (v1 - (v0.f0.size : Int))) - (v0.f1.size : Int))) < 0) then (some (-1)) else (some (IntKind.i64.wrap ((IntKind.i64.wrap (v1 - (v0.f0.size : Int))) - (v0.f1.size : Int))))))
set_option maxRecDepth 100000 in
set_option maxHeartbeats 4000000 in
theorem laws_szPatNode.con {K : Kn} [KOk K] {k : Nat} {v0 : S124} {v1 : Int} {r : Int} (h : laws_szPatNode.f k v0 v1 = some r) : Con K Try.prog 77 [.agg [.p (.str v0.f0), .p (.str v0.f1)], .p (.int .i64 v1)] [] (.p (.int .i64 r)) [] := by
 rw [laws_szPatNode.f] at h
 refine con_intro 20 [] Try.func77 (by kernel_rfl) rfl rfl (by kernel_rfl) fun ι0 w0 hk0 => ?_
 revert h
 refine bif_e (fun c1 => ?_) (fun c1 => ?_)
 ·refine go 10 ?_
  refine ret_e (fun hr_ => ?_)
  subst hr_
  exact ret_ Try.func77 []
 ·refine bif_e (fun c2 => ?_) (fun c2 => ?_)
  ·refine go 17 ?_
   refine ret_e (fun hr_ => ?_)
   subst hr_
   exact ret_ Try.func77 []
  ·refine go 18 ?_
   refine ret_e (fun hr_ => ?_)
   subst hr_
   exact ret_ Try.func77 []
mutual
def laws_szPatNodeS.l0 : Nat → (List S124) → Int → Int → Option (Int)
 | 0, _, _, _ => none
 | k + 1, v0, v2, v3 => (bif decide (v3 < (v0.length : Int)) then ((ix v0 v3).bind fun v4 => ((laws_szPatNode.f k v4 v2).bind fun v5 => (bif decide (v5 < 0) then (some (-1)) else (laws_szPatNodeS.l0 k v0 v5 (IntKind.i64.wrap (v3 + 1)))))) else (some v2))
def laws_szPatNodeS.f : Nat → (List S124) → Int → Option (Int)
 | 0, _, _ => none
 | k + 1, v0, v1 => (bif decide ((IntKind.i64.wrap (v1 - (v0.length : Int))) < 0) then (some (-1)) else (laws_szPatNodeS.l0 k v0 (IntKind.i64.wrap (v1 - (v0.length : Int))) 0))
end
set_option maxRecDepth 100000 in
set_option maxHeartbeats 4000000 in
theorem laws_szPatNodeS.con {K : Kn} [KOk K] {k : Nat} {v0 : (List S124)} {v1 : Int} {r : Int} (h : laws_szPatNodeS.f k v0 v1 = some r) : Con K Try.prog 37 [.p (.lst false (List.map en124 v0)), .p (.int .i64 v1)] [] (.p (.int .i64 r)) [] := by
 cases k with
 | zero => exact absurd h (by simp [laws_szPatNodeS.f])
 | succ k =>
 rw [laws_szPatNodeS.f] at h
 refine con_intro 27 [] Try.func37 (by kernel_rfl) rfl rfl (by kernel_rfl) fun ι0 w0 hk0 => ?_
 revert h
 refine bif_e (fun c1 => ?_) (fun c1 => ?_)
 ·refine go 10 ?_
  refine ret_e (fun hr_ => ?_)
  subst hr_
  exact ret_ Try.func37 []
 ·refine go 13 ?_
  refine fun h => good_loop (fun n st => n ≤ k ∧ ∃ (v2 : _) (v3 : _), st = ⟨[(0, .p (.lst false (List.map en124 v0))), (1, .p (.int .i64 v2)), (5, .p (.int .i64 v3))], []⟩ ∧ laws_szPatNodeS.l0 n v0 v2 v3 = some r) k ⟨_, ⟨Nat.le_refl _, _, _, rfl, h⟩, frle_, memle_⟩ ?_
  clear c1
  clear h
  rintro n _ ⟨hkl0, v2, v3, rfl, h⟩ hl0
  cases n with
  | zero => exact absurd h (by simp [laws_szPatNodeS.l0])
  | succ kl0 =>
  rw [laws_szPatNodeS.l0] at h
  revert h
  refine bif_e (fun c2 => ?_) (fun c2 => ?_)
  ·refine bind_e (fun v4 e4 => ?_)
   replace e4 := nf_ (ix_en en124 e4)
   refine go 8 ?_
   refine grs ?_
   refine gr_run ?_
   refine bind_e (fun v5 e5 => gr_call [] (laws_szPatNode.con e5) ?_)
   clear e5
   refine gr_run ?_
   refine gr_done ?_
   refine bif_e (fun c3 => ?_) (fun c3 => ?_)
   ·refine go 5 ?_
    refine ret_e (fun hr_ => ?_)
    subst hr_
    exact ret_ Try.func37 []
   ·refine go 6 ?_
    exact fun h => good_again hl0 (by omega) ⟨_, ⟨by omega, _, _, rfl, h⟩, frle_, memle_⟩
  ·refine go 7 ?_
   refine ret_e (fun hr_ => ?_)
   subst hr_
   exact ret_ Try.func37 []
mutual
def laws_szStringS.l0 : Nat → (List ByteArray) → Int → Int → Option (Int)
 | 0, _, _, _ => none
 | k + 1, v0, v2, v3 => (bif decide (v3 < (v0.length : Int)) then ((ix v0 v3).bind fun v4 => (bif decide ((IntKind.i64.wrap (v2 - (v4.size : Int))) < 0) then (some (-1)) else (laws_szStringS.l0 k v0 (IntKind.i64.wrap (v2 - (v4.size : Int))) (IntKind.i64.wrap (v3 + 1))))) else (some v2))
def laws_szStringS.f : Nat → (List ByteArray) → Int → Option (Int)
 | 0, _, _ => none
 | k + 1, v0, v1 => (bif decide ((IntKind.i64.wrap (v1 - (v0.length : Int))) < 0) then (some (-1)) else (laws_szStringS.l0 k v0 (IntKind.i64.wrap (v1 - (v0.length : Int))) 0))
end
set_option maxRecDepth 100000 in
set_option maxHeartbeats 4000000 in
theorem laws_szStringS.con {K : Kn} [KOk K] {k : Nat} {v0 : (List ByteArray)} {v1 : Int} {r : Int} (h : laws_szStringS.f k v0 v1 = some r) : Con K Try.prog 90 [.p (.lst false (List.map srw v0)), .p (.int .i64 v1)] [] (.p (.int .i64 r)) [] := by
 cases k with
 | zero => exact absurd h (by simp [laws_szStringS.f])
 | succ k =>
 rw [laws_szStringS.f] at h
 refine con_intro 28 [] Try.func90 (by kernel_rfl) rfl rfl (by kernel_rfl) fun ι0 w0 hk0 => ?_
 revert h
 refine bif_e (fun c1 => ?_) (fun c1 => ?_)
 ·refine go 10 ?_
  refine ret_e (fun hr_ => ?_)
  subst hr_
  exact ret_ Try.func90 []
 ·refine go 13 ?_
  refine fun h => good_loop (fun n st => n ≤ k ∧ ∃ (v2 : _) (v3 : _), st = ⟨[(0, .p (.lst false (List.map srw v0))), (1, .p (.int .i64 v2)), (5, .p (.int .i64 v3))], []⟩ ∧ laws_szStringS.l0 n v0 v2 v3 = some r) k ⟨_, ⟨Nat.le_refl _, _, _, rfl, h⟩, frle_, memle_⟩ ?_
  clear c1
  clear h
  rintro n _ ⟨hkl0, v2, v3, rfl, h⟩ hl0
  cases n with
  | zero => exact absurd h (by simp [laws_szStringS.l0])
  | succ kl0 =>
  rw [laws_szStringS.l0] at h
  revert h
  refine bif_e (fun c2 => ?_) (fun c2 => ?_)
  ·refine bind_e (fun v4 e4 => ?_)
   replace e4 := nf_ (ix_en srw e4)
   refine bif_e (fun c3 => ?_) (fun c3 => ?_)
   ·refine go 14 ?_
    refine ret_e (fun hr_ => ?_)
    subst hr_
    exact ret_ Try.func90 []
   ·refine go 15 ?_
    exact fun h => good_again hl0 (by omega) ⟨_, ⟨by omega, _, _, rfl, h⟩, frle_, memle_⟩
  ·refine go 7 ?_
   refine ret_e (fun hr_ => ?_)
   subst hr_
   exact ret_ Try.func90 []
def laws_szPatEdge.f (k : Nat) (v0 : S127) (v1 : Int) : Option (Int) := (bif decide ((IntKind.i64.wrap (v1 - (v0.f0.size : Int))) < 0) then (some (-1)) else ((laws_szStringS.f k v0.f1 (IntKind.i64.wrap (v1 - (v0.f0.size : Int)))).bind fun v2 => (bif decide (v2 < 0) then (some (-1)) else (some v2))))
set_option maxRecDepth 100000 in
set_option maxHeartbeats 4000000 in
theorem laws_szPatEdge.con {K : Kn} [KOk K] {k : Nat} {v0 : S127} {v1 : Int} {r : Int} (h : laws_szPatEdge.f k v0 v1 = some r) : Con K Try.prog 78 [.agg [.p (.str v0.f0), .p (.lst false (List.map srw v0.f1)), .p (.int .i64 v0.f2), .p (.bool v0.f3), .p (.int .i64 v0.f4), .p (.int .i64 v0.f5)], .p (.int .i64 v1)] [] (.p (.int .i64 r)) [] := by
 rw [laws_szPatEdge.f] at h
 refine con_intro 19 [] Try.func78 (by kernel_rfl) rfl rfl (by kernel_rfl) fun ι0 w0 hk0 => ?_
 revert h
 refine bif_e (fun c1 => ?_) (fun c1 => ?_)
 ·refine go 10 ?_
  refine ret_e (fun hr_ => ?_)
  subst hr_
  exact ret_ Try.func78 []
 ·refine go 10 ?_
  refine grs ?_
  refine gr_run ?_
  refine bind_e (fun v2 e2 => gr_call [] (laws_szStringS.con e2) ?_)
  clear e2
  refine gr_run ?_
  refine gr_done ?_
  refine bif_e (fun c2 => ?_) (fun c2 => ?_)
  ·refine go 6 ?_
   refine ret_e (fun hr_ => ?_)
   subst hr_
   exact ret_ Try.func78 []
  ·refine go 7 ?_
   refine ret_e (fun hr_ => ?_)
   subst hr_
   exact ret_ Try.func78 []
mutual
def laws_szPatEdgeS.l0 : Nat → (List S127) → Int → Int → Option (Int)
 | 0, _, _, _ => none
 | k + 1, v0, v2, v3 => (bif decide (v3 < (v0.length : Int)) then ((ix v0 v3).bind fun v4 => ((laws_szPatEdge.f k v4 v2).bind fun v5 => (bif decide (v5 < 0) then (some (-1)) else (laws_szPatEdgeS.l0 k v0 v5 (IntKind.i64.wrap (v3 + 1)))))) else (some v2))
def laws_szPatEdgeS.f : Nat → (List S127) → Int → Option (Int)
 | 0, _, _ => none
 | k + 1, v0, v1 => (bif decide ((IntKind.i64.wrap (v1 - (v0.length : Int))) < 0) then (some (-1)) else (laws_szPatEdgeS.l0 k v0 (IntKind.i64.wrap (v1 - (v0.length : Int))) 0))
end
set_option maxRecDepth 100000 in
set_option maxHeartbeats 4000000 in
theorem laws_szPatEdgeS.con {K : Kn} [KOk K] {k : Nat} {v0 : (List S127)} {v1 : Int} {r : Int} (h : laws_szPatEdgeS.f k v0 v1 = some r) : Con K Try.prog 38 [.p (.lst false (List.map en127 v0)), .p (.int .i64 v1)] [] (.p (.int .i64 r)) [] := by
 cases k with
 | zero => exact absurd h (by simp [laws_szPatEdgeS.f])
 | succ k =>
 rw [laws_szPatEdgeS.f] at h
 refine con_intro 27 [] Try.func38 (by kernel_rfl) rfl rfl (by kernel_rfl) fun ι0 w0 hk0 => ?_
 revert h
 refine bif_e (fun c1 => ?_) (fun c1 => ?_)
 ·refine go 10 ?_
  refine ret_e (fun hr_ => ?_)
  subst hr_
  exact ret_ Try.func38 []
 ·refine go 13 ?_
  refine fun h => good_loop (fun n st => n ≤ k ∧ ∃ (v2 : _) (v3 : _), st = ⟨[(0, .p (.lst false (List.map en127 v0))), (1, .p (.int .i64 v2)), (5, .p (.int .i64 v3))], []⟩ ∧ laws_szPatEdgeS.l0 n v0 v2 v3 = some r) k ⟨_, ⟨Nat.le_refl _, _, _, rfl, h⟩, frle_, memle_⟩ ?_
  clear c1
  clear h
  rintro n _ ⟨hkl0, v2, v3, rfl, h⟩ hl0
  cases n with
  | zero => exact absurd h (by simp [laws_szPatEdgeS.l0])
  | succ kl0 =>
  rw [laws_szPatEdgeS.l0] at h
  revert h
  refine bif_e (fun c2 => ?_) (fun c2 => ?_)
  ·refine bind_e (fun v4 e4 => ?_)
   replace e4 := nf_ (ix_en en127 e4)
   refine go 8 ?_
   refine grs ?_
   refine gr_run ?_
   refine bind_e (fun v5 e5 => gr_call [] (laws_szPatEdge.con e5) ?_)
   clear e5
   refine gr_run ?_
   refine gr_done ?_
   refine bif_e (fun c3 => ?_) (fun c3 => ?_)
   ·refine go 5 ?_
    refine ret_e (fun hr_ => ?_)
    subst hr_
    exact ret_ Try.func38 []
   ·refine go 6 ?_
    exact fun h => good_again hl0 (by omega) ⟨_, ⟨by omega, _, _, rfl, h⟩, frle_, memle_⟩
  ·refine go 7 ?_
   refine ret_e (fun hr_ => ?_)
   subst hr_
   exact ret_ Try.func38 []
def laws_szPattern.f (k : Nat) (v0 : S43) (v1 : Int) : Option (Int) := (bif decide ((IntKind.i64.wrap (v1 - (v0.f0.size : Int))) < 0) then (some (-1)) else ((laws_szPatNodeS.f k v0.f3 (IntKind.i64.wrap (v1 - (v0.f0.size : Int)))).bind fun v2 => (bif decide (v2 < 0) then (some (-1)) else ((laws_szPatEdgeS.f k v0.f4 v2).bind fun v3 => (bif decide (v3 < 0) then (some (-1)) else (some v3))))))
set_option maxRecDepth 100000 in
set_option maxHeartbeats 4000000 in
theorem laws_szPattern.con {K : Kn} [KOk K] {k : Nat} {v0 : S43} {v1 : Int} {r : Int} (h : laws_szPattern.f k v0 v1 = some r) : Con K Try.prog 14 [.agg [.p (.str v0.f0), .p (.int .i64 v0.f1), .p (.bool v0.f2), .p (.lst false (List.map en124 v0.f3)), .p (.lst false (List.map en127 v0.f4))], .p (.int .i64 v1)] [] (.p (.int .i64 r)) [] := by
 rw [laws_szPattern.f] at h
 refine con_intro 25 [] Try.func14 (by kernel_rfl) rfl rfl (by kernel_rfl) fun ι0 w0 hk0 => ?_
 revert h
 refine bif_e (fun c1 => ?_) (fun c1 => ?_)
 ·refine go 10 ?_
  refine ret_e (fun hr_ => ?_)
  subst hr_
  exact ret_ Try.func14 []
 ·refine go 10 ?_
  refine grs ?_
  refine gr_run ?_
  refine bind_e (fun v2 e2 => gr_call [] (laws_szPatNodeS.con e2) ?_)
  clear e2
  refine gr_run ?_
  refine gr_done ?_
  refine bif_e (fun c2 => ?_) (fun c2 => ?_)
  ·refine go 6 ?_
   refine ret_e (fun hr_ => ?_)
   subst hr_
   exact ret_ Try.func14 []
  ·refine go 6 ?_
   refine grs ?_
   refine gr_run ?_
   refine bind_e (fun v3 e3 => gr_call [] (laws_szPatEdgeS.con e3) ?_)
   clear e3
   refine gr_run ?_
   refine gr_done ?_
   refine bif_e (fun c3 => ?_) (fun c3 => ?_)
   ·refine go 6 ?_
    refine ret_e (fun hr_ => ?_)
    subst hr_
    exact ret_ Try.func14 []
   ·refine go 7 ?_
    refine ret_e (fun hr_ => ?_)
    subst hr_
    exact ret_ Try.func14 []
def laws_toPatNode.f (k : Nat) (v0 : S124) : Option (S124) := (some v0)
set_option maxRecDepth 100000 in
set_option maxHeartbeats 4000000 in
theorem laws_toPatNode.con {K : Kn} [KOk K] {k : Nat} {v0 : S124} {r : S124} (h : laws_toPatNode.f k v0 = some r) : Con K Try.prog 83 [.agg [.p (.str v0.f0), .p (.str v0.f1)]] [] (.agg [.p (.str r.f0), .p (.str r.f1)]) [] := by
 rw [laws_toPatNode.f] at h
 refine con_intro 11 [] Try.func83 (by kernel_rfl) rfl rfl (by kernel_rfl) fun ι0 w0 hk0 => ?_
 revert h
 refine go 10 ?_
 refine ret_e (fun hr_ => ?_)
 subst hr_
 exact ret_ Try.func83 []
mutual
def laws_toPatNodeS.l0 : Nat → (List S124) → (List S124) → Int → (List S124) → Option ((List S124))
 | 0, _, _, _, _ => none
 | k + 1, v0, v1, v2, v3 => (bif decide (v2 < (v0.length : Int)) then ((ix v0 v2).bind fun v4 => ((laws_toPatNode.f k v4).bind fun v5 => ((inr v2 v1.length).bind fun v6 => ((v3[(Int.toNat v2)]?).bind fun v7 => (laws_toPatNodeS.l0 k v0 v1 (IntKind.i64.wrap (v2 + 1)) (setr v3 (Int.toNat v2) v5)))))) else (some (List.take v1.length v3)))
def laws_toPatNodeS.f : Nat → (List S124) → Option ((List S124))
 | 0, _ => none
 | k + 1, v0 => ((mks (⟨(⟨#[]⟩ : ByteArray), (⟨#[]⟩ : ByteArray)⟩ : S124) (v0.length : Int) (v0.length : Int)).bind fun v1 => (laws_toPatNodeS.l0 k v0 v1 0 v1))
end
set_option maxRecDepth 100000 in
set_option maxHeartbeats 4000000 in
theorem laws_toPatNodeS.con {K : Kn} [KOk K] {k : Nat} {v0 : (List S124)} {r : (List S124)} (h : laws_toPatNodeS.f k v0 = some r) : Con K Try.prog 42 [.p (.lst false (List.map en124 v0))] [] (.nw (.lst false (List.map en124 r))) [] := by
 cases k with
 | zero => exact absurd h (by simp [laws_toPatNodeS.f])
 | succ k =>
 rw [laws_toPatNodeS.f] at h
 refine con_intro 23 [7] Try.func42 (by kernel_rfl) rfl rfl (by kernel_rfl) fun ι0 w0 hk0 => ?_
 revert h
 refine bind_e (fun v1 e1 => ?_)
 replace e1 := nf_ (mks_en en124 e1)
 refine go 8 ?_
 refine fun h => good_loop (fun n st => n ≤ k ∧ ∃ (v2 : _) (v3 : _), st = ⟨[(0, .p (.lst false (List.map en124 v0))), (3, .buf 7 1 0 v1.length), (4, .p (.int .i64 v2))], [(7, (1, .bufn 2 (List.map en124 v3)))]⟩ ∧ laws_toPatNodeS.l0 n v0 v1 v2 v3 = some r) k ⟨_, ⟨Nat.le_refl _, _, _, rfl, h⟩, frle_, memle_⟩ ?_
 clear e1
 clear h
 rintro n _ ⟨hkl0, v2, v3, rfl, h⟩ hl0
 cases n with
 | zero => exact absurd h (by simp [laws_toPatNodeS.l0])
 | succ kl0 =>
 rw [laws_toPatNodeS.l0] at h
 revert h
 refine bif_e (fun c1 => ?_) (fun c1 => ?_)
 ·refine bind_e (fun v4 e4 => ?_)
  replace e4 := nf_ (ix_en en124 e4)
  refine go 7 ?_
  refine grs ?_
  refine gr_run ?_
  refine bind_e (fun v5 e5 => gr_call [] (laws_toPatNode.con e5) ?_)
  clear e5
  refine bind_e (fun v6 e6 => ?_)
  refine bind_e (fun v7 e7 => ?_)
  replace e7 := nf_ (gx_en en124 e7)
  refine gr_run ?_
  refine gr_done ?_
  refine go 2 ?_
  exact fun h => good_again hl0 (by omega) ⟨_, ⟨by omega, _, _, rfl, h⟩, frle_, memle_⟩
 ·refine go 7 ?_
  refine freezeN_ 2 ?_
  refine ret_e (fun hr_ => ?_)
  subst hr_
  exact ret_ Try.func42 []
mutual
def laws_toStringS.l0 : Nat → (List ByteArray) → (List ByteArray) → Int → (List ByteArray) → Option ((List ByteArray))
 | 0, _, _, _, _ => none
 | k + 1, v0, v1, v2, v3 => (bif decide (v2 < (v0.length : Int)) then ((ix v0 v2).bind fun v4 => ((inr v2 v1.length).bind fun v5 => ((v3[(Int.toNat v2)]?).bind fun v6 => (laws_toStringS.l0 k v0 v1 (IntKind.i64.wrap (v2 + 1)) (setr v3 (Int.toNat v2) v4))))) else (some (List.take v1.length v3)))
def laws_toStringS.f : Nat → (List ByteArray) → Option ((List ByteArray))
 | 0, _ => none
 | k + 1, v0 => ((mks (⟨#[]⟩ : ByteArray) (v0.length : Int) (v0.length : Int)).bind fun v1 => (laws_toStringS.l0 k v0 v1 0 v1))
end
set_option maxRecDepth 100000 in
set_option maxHeartbeats 4000000 in
theorem laws_toStringS.con {K : Kn} [KOk K] {k : Nat} {v0 : (List ByteArray)} {r : (List ByteArray)} (h : laws_toStringS.f k v0 = some r) : Con K Try.prog 96 [.p (.lst false (List.map srw v0))] [] (.nw (.lst false (List.map srw r))) [] := by
 cases k with
 | zero => exact absurd h (by simp [laws_toStringS.f])
 | succ k =>
 rw [laws_toStringS.f] at h
 refine con_intro 22 [7] Try.func96 (by kernel_rfl) rfl rfl (by kernel_rfl) fun ι0 w0 hk0 => ?_
 revert h
 refine bind_e (fun v1 e1 => ?_)
 replace e1 := nf_ (mks_en srw e1)
 refine go 8 ?_
 refine fun h => good_loop (fun n st => n ≤ k ∧ ∃ (v2 : _) (v3 : _), st = ⟨[(0, .p (.lst false (List.map srw v0))), (3, .buf 7 1 0 v1.length), (4, .p (.int .i64 v2))], [(7, (1, .bufn 1 (List.map srw v3)))]⟩ ∧ laws_toStringS.l0 n v0 v1 v2 v3 = some r) k ⟨_, ⟨Nat.le_refl _, _, _, rfl, h⟩, frle_, memle_⟩ ?_
 clear e1
 clear h
 rintro n _ ⟨hkl0, v2, v3, rfl, h⟩ hl0
 cases n with
 | zero => exact absurd h (by simp [laws_toStringS.l0])
 | succ kl0 =>
 rw [laws_toStringS.l0] at h
 revert h
 refine bif_e (fun c1 => ?_) (fun c1 => ?_)
 ·refine bind_e (fun v4 e4 => ?_)
  replace e4 := nf_ (ix_en srw e4)
  refine bind_e (fun v5 e5 => ?_)
  refine bind_e (fun v6 e6 => ?_)
  replace e6 := nf_ (gx_en srw e6)
  refine go 10 ?_
  exact fun h => good_again hl0 (by omega) ⟨_, ⟨by omega, _, _, rfl, h⟩, frle_, memle_⟩
 ·refine go 7 ?_
  refine freezeN_ 2 ?_
  refine ret_e (fun hr_ => ?_)
  subst hr_
  exact ret_ Try.func96 []
def laws_toPatEdge.f (k : Nat) (v0 : S127) : Option (S127) := ((laws_toStringS.f k v0.f1).bind fun v1 => (some (⟨v0.f0, v1, v0.f2, v0.f3, v0.f4, v0.f5⟩ : S127)))
set_option maxRecDepth 100000 in
set_option maxHeartbeats 4000000 in
theorem laws_toPatEdge.con {K : Kn} [KOk K] {k : Nat} {v0 : S127} {r : S127} (h : laws_toPatEdge.f k v0 = some r) : Con K Try.prog 84 [.agg [.p (.str v0.f0), .p (.lst false (List.map srw v0.f1)), .p (.int .i64 v0.f2), .p (.bool v0.f3), .p (.int .i64 v0.f4), .p (.int .i64 v0.f5)]] [] (.agg [.p (.str r.f0), .nw (.lst false (List.map srw r.f1)), .p (.int .i64 r.f2), .p (.bool r.f3), .p (.int .i64 r.f4), .p (.int .i64 r.f5)]) [] := by
 rw [laws_toPatEdge.f] at h
 refine con_intro 24 [] Try.func84 (by kernel_rfl) rfl rfl (by kernel_rfl) fun ι0 w0 hk0 => ?_
 revert h
 refine go 7 ?_
 refine grs ?_
 refine gr_run ?_
 refine bind_e (fun v1 e1 => gr_call [] (laws_toStringS.con e1) ?_)
 clear e1
 refine gr_run ?_
 refine gr_done ?_
 refine go 10 ?_
 refine ret_e (fun hr_ => ?_)
 subst hr_
 exact ret_ Try.func84 []
mutual
def laws_toPatEdgeS.l0 : Nat → (List S127) → (List S127) → Int → (List S127) → Option ((List S127))
 | 0, _, _, _, _ => none
 | k + 1, v0, v1, v2, v3 => (bif decide (v2 < (v0.length : Int)) then ((ix v0 v2).bind fun v4 => ((laws_toPatEdge.f k v4).bind fun v5 => ((inr v2 v1.length).bind fun v6 => ((v3[(Int.toNat v2)]?).bind fun v7 => (laws_toPatEdgeS.l0 k v0 v1 (IntKind.i64.wrap (v2 + 1)) (setr v3 (Int.toNat v2) v5)))))) else (some (List.take v1.length v3)))
def laws_toPatEdgeS.f : Nat → (List S127) → Option ((List S127))
 | 0, _ => none
 | k + 1, v0 => ((mks (⟨(⟨#[]⟩ : ByteArray), ([] : (List ByteArray)), 0, false, 0, 0⟩ : S127) (v0.length : Int) (v0.length : Int)).bind fun v1 => (laws_toPatEdgeS.l0 k v0 v1 0 v1))
end
set_option maxRecDepth 100000 in
set_option maxHeartbeats 4000000 in
theorem laws_toPatEdgeS.con {K : Kn} [KOk K] {k : Nat} {v0 : (List S127)} {r : (List S127)} (h : laws_toPatEdgeS.f k v0 = some r) : Con K Try.prog 43 [.p (.lst false (List.map en127 v0))] [] (.nw (.lst false (List.map en127 r))) [] := by
 cases k with
 | zero => exact absurd h (by simp [laws_toPatEdgeS.f])
 | succ k =>
 rw [laws_toPatEdgeS.f] at h
 refine con_intro 23 [7] Try.func43 (by kernel_rfl) rfl rfl (by kernel_rfl) fun ι0 w0 hk0 => ?_
 revert h
 refine bind_e (fun v1 e1 => ?_)
 replace e1 := nf_ (mks_en en127 e1)
 refine go 8 ?_
 refine fun h => good_loop (fun n st => n ≤ k ∧ ∃ (v2 : _) (v3 : _), st = ⟨[(0, .p (.lst false (List.map en127 v0))), (3, .buf 7 1 0 v1.length), (4, .p (.int .i64 v2))], [(7, (1, .bufn 6 (List.map en127 v3)))]⟩ ∧ laws_toPatEdgeS.l0 n v0 v1 v2 v3 = some r) k ⟨_, ⟨Nat.le_refl _, _, _, rfl, h⟩, frle_, memle_⟩ ?_
 clear e1
 clear h
 rintro n _ ⟨hkl0, v2, v3, rfl, h⟩ hl0
 cases n with
 | zero => exact absurd h (by simp [laws_toPatEdgeS.l0])
 | succ kl0 =>
 rw [laws_toPatEdgeS.l0] at h
 revert h
 refine bif_e (fun c1 => ?_) (fun c1 => ?_)
 ·refine bind_e (fun v4 e4 => ?_)
  replace e4 := nf_ (ix_en en127 e4)
  refine go 7 ?_
  refine grs ?_
  refine gr_run ?_
  refine bind_e (fun v5 e5 => gr_call [] (laws_toPatEdge.con e5) ?_)
  clear e5
  refine bind_e (fun v6 e6 => ?_)
  refine bind_e (fun v7 e7 => ?_)
  replace e7 := nf_ (gx_en en127 e7)
  refine gr_run ?_
  refine gr_done ?_
  refine go 2 ?_
  exact fun h => good_again hl0 (by omega) ⟨_, ⟨by omega, _, _, rfl, h⟩, frle_, memle_⟩
 ·refine go 7 ?_
  refine freezeN_ 2 ?_
  refine ret_e (fun hr_ => ?_)
  subst hr_
  exact ret_ Try.func43 []
def laws_toPattern.f (k : Nat) (v0 : S43) : Option (S49) := ((laws_toPatNodeS.f k v0.f3).bind fun v1 => ((laws_toPatEdgeS.f k v0.f4).bind fun v2 => (some (⟨v0.f0, v0.f1, v0.f2, v1, v2⟩ : S49))))
set_option maxRecDepth 100000 in
set_option maxHeartbeats 4000000 in
theorem laws_toPattern.con {K : Kn} [KOk K] {k : Nat} {v0 : S43} {r : S49} (h : laws_toPattern.f k v0 = some r) : Con K Try.prog 16 [.agg [.p (.str v0.f0), .p (.int .i64 v0.f1), .p (.bool v0.f2), .p (.lst false (List.map en124 v0.f3)), .p (.lst false (List.map en127 v0.f4))]] [] (.agg [.p (.str r.f0), .p (.int .i64 r.f1), .p (.bool r.f2), .nw (.lst false (List.map en124 r.f3)), .nw (.lst false (List.map en127 r.f4))]) [] := by
 rw [laws_toPattern.f] at h
 refine con_intro 22 [] Try.func16 (by kernel_rfl) rfl rfl (by kernel_rfl) fun ι0 w0 hk0 => ?_
 revert h
 refine go 11 ?_
 refine grs ?_
 refine gr_run ?_
 refine bind_e (fun v1 e1 => gr_call [] (laws_toPatNodeS.con e1) ?_)
 clear e1
 refine gr_run ?_
 refine gr_done ?_
 refine go 1 ?_
 refine grs ?_
 refine gr_run ?_
 refine bind_e (fun v2 e2 => gr_call [] (laws_toPatEdgeS.con e2) ?_)
 clear e2
 refine gr_run ?_
 refine gr_done ?_
 refine go 2 ?_
 refine ret_e (fun hr_ => ?_)
 subst hr_
 exact ret_ Try.func16 []
mutual
def laws_eqStringS_bb.l0 : Nat → Nat → Nat → Int → (List ByteArray) → (List ByteArray) → Option (Bool)
 | 0, _, _, _, _, _ => none
 | k + 1, v0, v1, v4, v2, v3 => (bif decide (v4 < (v0 : Int)) then ((inr v4 v0).bind fun v5 => ((v2[(Int.toNat v4)]?).bind fun v6 => ((inr v4 v1).bind fun v7 => ((v3[(Int.toNat v4)]?).bind fun v8 => (bif decide (v6 = v8) then (laws_eqStringS_bb.l0 k v0 v1 (IntKind.i64.wrap (v4 + 1)) v2 v3) else (some false)))))) else (some true))
def laws_eqStringS_bb.f : Nat → Nat → Nat → (List ByteArray) → (List ByteArray) → Option (Bool)
 | 0, _, _, _, _ => none
 | k + 1, v0, v1, v2, v3 => (bif ((v0 : Int) == (v1 : Int)) then (laws_eqStringS_bb.l0 k v0 v1 0 v2 v3) else (some false))
end
set_option maxRecDepth 100000 in
set_option maxHeartbeats 4000000 in
theorem laws_eqStringS_bb.con {K : Kn} [KOk K] {k : Nat} {v0 : Nat} {v1 : Nat} {v2 : (List ByteArray)} {v3 : (List ByteArray)} {r : Bool} (h : laws_eqStringS_bb.f k v0 v1 v2 v3 = some r) : Con K Try.prog 9 [.buf 1000 0 0 v0, .buf 1001 0 0 v1] [(1000, (0, .buf 1 (List.map srw v2))), (1001, (0, .buf 1 (List.map srw v3)))] (.p (.bool r)) [(1000, (0, .buf 1 (List.map srw v2))), (1001, (0, .buf 1 (List.map srw v3)))] := by
 cases k with
 | zero => exact absurd h (by simp [laws_eqStringS_bb.f])
 | succ k =>
 rw [laws_eqStringS_bb.f] at h
 refine con_intro 26 [] Try.func9 (by kernel_rfl) rfl rfl (by kernel_rfl) fun ι0 w0 hk0 => ?_
 revert h
 refine bif_e (fun c1 => ?_) (fun c1 => ?_)
 ·refine go 11 ?_
  refine fun h => good_loop (fun n st => n ≤ k ∧ ∃ (v4 : _), st = ⟨[(0, .buf 1000 0 0 v0), (1, .buf 1001 0 0 v1), (5, .p (.int .i64 v4))], [(1000, (0, .buf 1 (List.map srw v2))), (1001, (0, .buf 1 (List.map srw v3)))]⟩ ∧ laws_eqStringS_bb.l0 n v0 v1 v4 v2 v3 = some r) k ⟨_, ⟨Nat.le_refl _, _, rfl, h⟩, frle_, memle_⟩ ?_
  clear c1
  clear h
  rintro n _ ⟨hkl0, v4, rfl, h⟩ hl0
  cases n with
  | zero => exact absurd h (by simp [laws_eqStringS_bb.l0])
  | succ kl0 =>
  rw [laws_eqStringS_bb.l0] at h
  revert h
  refine bif_e (fun c2 => ?_) (fun c2 => ?_)
  ·refine bind_e (fun v5 e5 => ?_)
   refine bind_e (fun v6 e6 => ?_)
   replace e6 := nf_ (gx_en srw e6)
   refine bind_e (fun v7 e7 => ?_)
   refine bind_e (fun v8 e8 => ?_)
   replace e8 := nf_ (gx_en srw e8)
   refine go 8 ?_
   refine grs ?_
   refine gr_run ?_
   refine gr_done ?_
   refine bif_e (fun c3 => ?_) (fun c3 => ?_)
   ·refine go 4 ?_
    exact fun h => good_again hl0 (by omega) ⟨_, ⟨by omega, _, rfl, h⟩, frle_, memle_⟩
   ·refine go 3 ?_
    refine ret_e (fun hr_ => ?_)
    subst hr_
    exact ret_ Try.func9 [(1000, (0, 1000, 0)), (1001, (0, 1001, 0))]
  ·refine go 7 ?_
   refine ret_e (fun hr_ => ?_)
   subst hr_
   exact ret_ Try.func9 [(1000, (0, 1000, 0)), (1001, (0, 1001, 0))]
 ·refine go 8 ?_
  refine ret_e (fun hr_ => ?_)
  subst hr_
  exact ret_ Try.func9 [(1000, (0, 1000, 0)), (1001, (0, 1001, 0))]
def laws_eqPatNode.f (k : Nat) (v0 : S124) (v1 : S124) : Option (Bool) := (bif decide (v0.f0 = v1.f0) then (bif decide (v0.f1 = v1.f1) then (some true) else (some false)) else (some false))
set_option maxRecDepth 100000 in
set_option maxHeartbeats 4000000 in
theorem laws_eqPatNode.con {K : Kn} [KOk K] {k : Nat} {v0 : S124} {v1 : S124} {r : Bool} (h : laws_eqPatNode.f k v0 v1 = some r) : Con K Try.prog 88 [.agg [.p (.str v0.f0), .p (.str v0.f1)], .agg [.p (.str v1.f0), .p (.str v1.f1)]] [] (.p (.bool r)) [] := by
 rw [laws_eqPatNode.f] at h
 refine con_intro 15 [] Try.func88 (by kernel_rfl) rfl rfl (by kernel_rfl) fun ι0 w0 hk0 => ?_
 revert h
 refine bif_e (fun c1 => ?_) (fun c1 => ?_)
 ·refine bif_e (fun c2 => ?_) (fun c2 => ?_)
  ·refine go 14 ?_
   refine ret_e (fun hr_ => ?_)
   subst hr_
   exact ret_ Try.func88 []
  ·refine go 13 ?_
   refine ret_e (fun hr_ => ?_)
   subst hr_
   exact ret_ Try.func88 []
 ·refine go 8 ?_
  refine ret_e (fun hr_ => ?_)
  subst hr_
  exact ret_ Try.func88 []
mutual
def laws_eqPatNodeS.l0 : Nat → (List S124) → (List S124) → Int → Option (Bool)
 | 0, _, _, _ => none
 | k + 1, v0, v1, v2 => (bif decide (v2 < (v0.length : Int)) then ((ix v0 v2).bind fun v3 => ((ix v1 v2).bind fun v4 => ((laws_eqPatNode.f k v3 v4).bind fun v5 => (bif v5 then (laws_eqPatNodeS.l0 k v0 v1 (IntKind.i64.wrap (v2 + 1))) else (some false))))) else (some true))
def laws_eqPatNodeS.f : Nat → (List S124) → (List S124) → Option (Bool)
 | 0, _, _ => none
 | k + 1, v0, v1 => (bif ((v0.length : Int) == (v1.length : Int)) then (laws_eqPatNodeS.l0 k v0 v1 0) else (some false))
end
set_option maxRecDepth 100000 in
set_option maxHeartbeats 4000000 in
theorem laws_eqPatNodeS.con {K : Kn} [KOk K] {k : Nat} {v0 : (List S124)} {v1 : (List S124)} {r : Bool} (h : laws_eqPatNodeS.f k v0 v1 = some r) : Con K Try.prog 46 [.p (.lst false (List.map en124 v0)), .p (.lst false (List.map en124 v1))] [] (.p (.bool r)) [] := by
 cases k with
 | zero => exact absurd h (by simp [laws_eqPatNodeS.f])
 | succ k =>
 rw [laws_eqPatNodeS.f] at h
 refine con_intro 27 [] Try.func46 (by kernel_rfl) rfl rfl (by kernel_rfl) fun ι0 w0 hk0 => ?_
 revert h
 refine bif_e (fun c1 => ?_) (fun c1 => ?_)
 ·refine go 11 ?_
  refine fun h => good_loop (fun n st => n ≤ k ∧ ∃ (v2 : _), st = ⟨[(0, .p (.lst false (List.map en124 v0))), (1, .p (.lst false (List.map en124 v1))), (5, .p (.int .i64 v2))], []⟩ ∧ laws_eqPatNodeS.l0 n v0 v1 v2 = some r) k ⟨_, ⟨Nat.le_refl _, _, rfl, h⟩, frle_, memle_⟩ ?_
  clear c1
  clear h
  rintro n _ ⟨hkl0, v2, rfl, h⟩ hl0
  cases n with
  | zero => exact absurd h (by simp [laws_eqPatNodeS.l0])
  | succ kl0 =>
  rw [laws_eqPatNodeS.l0] at h
  revert h
  refine bif_e (fun c2 => ?_) (fun c2 => ?_)
  ·refine bind_e (fun v3 e3 => ?_)
   replace e3 := nf_ (ix_en en124 e3)
   refine bind_e (fun v4 e4 => ?_)
   replace e4 := nf_ (ix_en en124 e4)
   refine go 8 ?_
   refine grs ?_
   refine gr_run ?_
   refine bind_e (fun v5 e5 => gr_call [] (laws_eqPatNode.con e5) ?_)
   clear e5
   refine gr_run ?_
   refine gr_done ?_
   refine bif_e (fun c3 => ?_) (fun c3 => ?_)
   ·refine go 4 ?_
    exact fun h => good_again hl0 (by omega) ⟨_, ⟨by omega, _, rfl, h⟩, frle_, memle_⟩
   ·refine go 3 ?_
    refine ret_e (fun hr_ => ?_)
    subst hr_
    exact ret_ Try.func46 []
  ·refine go 7 ?_
   refine ret_e (fun hr_ => ?_)
   subst hr_
   exact ret_ Try.func46 []
 ·refine go 8 ?_
  refine ret_e (fun hr_ => ?_)
  subst hr_
  exact ret_ Try.func46 []
mutual
def laws_eqStringS.l0 : Nat → (List ByteArray) → (List ByteArray) → Int → Option (Bool)
 | 0, _, _, _ => none
 | k + 1, v0, v1, v2 => (bif decide (v2 < (v0.length : Int)) then ((ix v0 v2).bind fun v3 => ((ix v1 v2).bind fun v4 => (bif decide (v3 = v4) then (laws_eqStringS.l0 k v0 v1 (IntKind.i64.wrap (v2 + 1))) else (some false)))) else (some true))
def laws_eqStringS.f : Nat → (List ByteArray) → (List ByteArray) → Option (Bool)
 | 0, _, _ => none
 | k + 1, v0, v1 => (bif ((v0.length : Int) == (v1.length : Int)) then (laws_eqStringS.l0 k v0 v1 0) else (some false))
end
set_option maxRecDepth 100000 in
set_option maxHeartbeats 4000000 in
theorem laws_eqStringS.con {K : Kn} [KOk K] {k : Nat} {v0 : (List ByteArray)} {v1 : (List ByteArray)} {r : Bool} (h : laws_eqStringS.f k v0 v1 = some r) : Con K Try.prog 9 [.p (.lst false (List.map srw v0)), .p (.lst false (List.map srw v1))] [] (.p (.bool r)) [] := by
 cases k with
 | zero => exact absurd h (by simp [laws_eqStringS.f])
 | succ k =>
 rw [laws_eqStringS.f] at h
 refine con_intro 26 [] Try.func9 (by kernel_rfl) rfl rfl (by kernel_rfl) fun ι0 w0 hk0 => ?_
 revert h
 refine bif_e (fun c1 => ?_) (fun c1 => ?_)
 ·refine go 11 ?_
  refine fun h => good_loop (fun n st => n ≤ k ∧ ∃ (v2 : _), st = ⟨[(0, .p (.lst false (List.map srw v0))), (1, .p (.lst false (List.map srw v1))), (5, .p (.int .i64 v2))], []⟩ ∧ laws_eqStringS.l0 n v0 v1 v2 = some r) k ⟨_, ⟨Nat.le_refl _, _, rfl, h⟩, frle_, memle_⟩ ?_
  clear c1
  clear h
  rintro n _ ⟨hkl0, v2, rfl, h⟩ hl0
  cases n with
  | zero => exact absurd h (by simp [laws_eqStringS.l0])
  | succ kl0 =>
  rw [laws_eqStringS.l0] at h
  revert h
  refine bif_e (fun c2 => ?_) (fun c2 => ?_)
  ·refine bind_e (fun v3 e3 => ?_)
   replace e3 := nf_ (ix_en srw e3)
   refine bind_e (fun v4 e4 => ?_)
   replace e4 := nf_ (ix_en srw e4)
   refine go 8 ?_
   refine grs ?_
   refine gr_run ?_
   refine gr_done ?_
   refine bif_e (fun c3 => ?_) (fun c3 => ?_)
   ·refine go 4 ?_
    exact fun h => good_again hl0 (by omega) ⟨_, ⟨by omega, _, rfl, h⟩, frle_, memle_⟩
   ·refine go 3 ?_
    refine ret_e (fun hr_ => ?_)
    subst hr_
    exact ret_ Try.func9 []
  ·refine go 7 ?_
   refine ret_e (fun hr_ => ?_)
   subst hr_
   exact ret_ Try.func9 []
 ·refine go 8 ?_
  refine ret_e (fun hr_ => ?_)
  subst hr_
  exact ret_ Try.func9 []
def laws_eqPatEdge.f (k : Nat) (v0 : S127) (v1 : S127) : Option (Bool) := (bif decide (v0.f0 = v1.f0) then ((laws_eqStringS.f k v0.f1 v1.f1).bind fun v2 => (bif v2 then (bif (v0.f2 == v1.f2) then (bif (v0.f3 == v1.f3) then (bif (v0.f4 == v1.f4) then (bif (v0.f5 == v1.f5) then (some true) else (some false)) else (some false)) else (some false)) else (some false)) else (some false))) else (some false))
set_option maxRecDepth 100000 in
set_option maxHeartbeats 4000000 in
theorem laws_eqPatEdge.con {K : Kn} [KOk K] {k : Nat} {v0 : S127} {v1 : S127} {r : Bool} (h : laws_eqPatEdge.f k v0 v1 = some r) : Con K Try.prog 89 [.agg [.p (.str v0.f0), .p (.lst false (List.map srw v0.f1)), .p (.int .i64 v0.f2), .p (.bool v0.f3), .p (.int .i64 v0.f4), .p (.int .i64 v0.f5)], .agg [.p (.str v1.f0), .p (.lst false (List.map srw v1.f1)), .p (.int .i64 v1.f2), .p (.bool v1.f3), .p (.int .i64 v1.f4), .p (.int .i64 v1.f5)]] [] (.p (.bool r)) [] := by
 rw [laws_eqPatEdge.f] at h
 refine con_intro 36 [] Try.func89 (by kernel_rfl) rfl rfl (by kernel_rfl) fun ι0 w0 hk0 => ?_
 revert h
 refine bif_e (fun c1 => ?_) (fun c1 => ?_)
 ·refine go 9 ?_
  refine grs ?_
  refine gr_run ?_
  refine bind_e (fun v2 e2 => gr_call [] (laws_eqStringS.con e2) ?_)
  clear e2
  refine gr_run ?_
  refine gr_done ?_
  refine bif_e (fun c2 => ?_) (fun c2 => ?_)
  ·refine bif_e (fun c3 => ?_) (fun c3 => ?_)
   ·refine bif_e (fun c4 => ?_) (fun c4 => ?_)
    ·refine bif_e (fun c5 => ?_) (fun c5 => ?_)
     ·refine bif_e (fun c6 => ?_) (fun c6 => ?_)
      ·refine go 24 ?_
       refine ret_e (fun hr_ => ?_)
       subst hr_
       exact ret_ Try.func89 []
      ·refine go 23 ?_
       refine ret_e (fun hr_ => ?_)
       subst hr_
       exact ret_ Try.func89 []
     ·refine go 18 ?_
      refine ret_e (fun hr_ => ?_)
      subst hr_
      exact ret_ Try.func89 []
    ·refine go 13 ?_
     refine ret_e (fun hr_ => ?_)
     subst hr_
     exact ret_ Try.func89 []
   ·refine go 8 ?_
    refine ret_e (fun hr_ => ?_)
    subst hr_
    exact ret_ Try.func89 []
  ·refine go 3 ?_
   refine ret_e (fun hr_ => ?_)
   subst hr_
   exact ret_ Try.func89 []
 ·refine go 8 ?_
  refine ret_e (fun hr_ => ?_)
  subst hr_
  exact ret_ Try.func89 []
mutual
def laws_eqPatEdgeS.l0 : Nat → (List S127) → (List S127) → Int → Option (Bool)
 | 0, _, _, _ => none
 | k + 1, v0, v1, v2 => (bif decide (v2 < (v0.length : Int)) then ((ix v0 v2).bind fun v3 => ((ix v1 v2).bind fun v4 => ((laws_eqPatEdge.f k v3 v4).bind fun v5 => (bif v5 then (laws_eqPatEdgeS.l0 k v0 v1 (IntKind.i64.wrap (v2 + 1))) else (some false))))) else (some true))
def laws_eqPatEdgeS.f : Nat → (List S127) → (List S127) → Option (Bool)
 | 0, _, _ => none
 | k + 1, v0, v1 => (bif ((v0.length : Int) == (v1.length : Int)) then (laws_eqPatEdgeS.l0 k v0 v1 0) else (some false))
end
set_option maxRecDepth 100000 in
set_option maxHeartbeats 4000000 in
theorem laws_eqPatEdgeS.con {K : Kn} [KOk K] {k : Nat} {v0 : (List S127)} {v1 : (List S127)} {r : Bool} (h : laws_eqPatEdgeS.f k v0 v1 = some r) : Con K Try.prog 47 [.p (.lst false (List.map en127 v0)), .p (.lst false (List.map en127 v1))] [] (.p (.bool r)) [] := by
 cases k with
 | zero => exact absurd h (by simp [laws_eqPatEdgeS.f])
 | succ k =>
 rw [laws_eqPatEdgeS.f] at h
 refine con_intro 27 [] Try.func47 (by kernel_rfl) rfl rfl (by kernel_rfl) fun ι0 w0 hk0 => ?_
 revert h
 refine bif_e (fun c1 => ?_) (fun c1 => ?_)
 ·refine go 11 ?_
  refine fun h => good_loop (fun n st => n ≤ k ∧ ∃ (v2 : _), st = ⟨[(0, .p (.lst false (List.map en127 v0))), (1, .p (.lst false (List.map en127 v1))), (5, .p (.int .i64 v2))], []⟩ ∧ laws_eqPatEdgeS.l0 n v0 v1 v2 = some r) k ⟨_, ⟨Nat.le_refl _, _, rfl, h⟩, frle_, memle_⟩ ?_
  clear c1
  clear h
  rintro n _ ⟨hkl0, v2, rfl, h⟩ hl0
  cases n with
  | zero => exact absurd h (by simp [laws_eqPatEdgeS.l0])
  | succ kl0 =>
  rw [laws_eqPatEdgeS.l0] at h
  revert h
  refine bif_e (fun c2 => ?_) (fun c2 => ?_)
  ·refine bind_e (fun v3 e3 => ?_)
   replace e3 := nf_ (ix_en en127 e3)
   refine bind_e (fun v4 e4 => ?_)
   replace e4 := nf_ (ix_en en127 e4)
   refine go 8 ?_
   refine grs ?_
   refine gr_run ?_
   refine bind_e (fun v5 e5 => gr_call [] (laws_eqPatEdge.con e5) ?_)
   clear e5
   refine gr_run ?_
   refine gr_done ?_
   refine bif_e (fun c3 => ?_) (fun c3 => ?_)
   ·refine go 4 ?_
    exact fun h => good_again hl0 (by omega) ⟨_, ⟨by omega, _, rfl, h⟩, frle_, memle_⟩
   ·refine go 3 ?_
    refine ret_e (fun hr_ => ?_)
    subst hr_
    exact ret_ Try.func47 []
  ·refine go 7 ?_
   refine ret_e (fun hr_ => ?_)
   subst hr_
   exact ret_ Try.func47 []
 ·refine go 8 ?_
  refine ret_e (fun hr_ => ?_)
  subst hr_
  exact ret_ Try.func47 []
def laws_eqPattern.f (k : Nat) (v0 : S49) (v1 : S49) : Option (Bool) := (bif decide (v0.f0 = v1.f0) then (bif (v0.f1 == v1.f1) then (bif (v0.f2 == v1.f2) then ((laws_eqPatNodeS.f k v0.f3 v1.f3).bind fun v2 => (bif v2 then ((laws_eqPatEdgeS.f k v0.f4 v1.f4).bind fun v3 => (bif v3 then (some true) else (some false))) else (some false))) else (some false)) else (some false)) else (some false))
set_option maxRecDepth 100000 in
set_option maxHeartbeats 4000000 in
theorem laws_eqPattern.con {K : Kn} [KOk K] {k : Nat} {v0 : S49} {v1 : S49} {r : Bool} (h : laws_eqPattern.f k v0 v1 = some r) : Con K Try.prog 18 [.agg [.p (.str v0.f0), .p (.int .i64 v0.f1), .p (.bool v0.f2), .p (.lst false (List.map en124 v0.f3)), .p (.lst false (List.map en127 v0.f4))], .agg [.p (.str v1.f0), .p (.int .i64 v1.f1), .p (.bool v1.f2), .p (.lst false (List.map en124 v1.f3)), .p (.lst false (List.map en127 v1.f4))]] [] (.p (.bool r)) [] := by
 rw [laws_eqPattern.f] at h
 refine con_intro 32 [] Try.func18 (by kernel_rfl) rfl rfl (by kernel_rfl) fun ι0 w0 hk0 => ?_
 revert h
 refine bif_e (fun c1 => ?_) (fun c1 => ?_)
 ·refine bif_e (fun c2 => ?_) (fun c2 => ?_)
  ·refine bif_e (fun c3 => ?_) (fun c3 => ?_)
   ·refine go 19 ?_
    refine grs ?_
    refine gr_run ?_
    refine bind_e (fun v2 e2 => gr_call [] (laws_eqPatNodeS.con e2) ?_)
    clear e2
    refine gr_run ?_
    refine gr_done ?_
    refine bif_e (fun c4 => ?_) (fun c4 => ?_)
    ·refine go 4 ?_
     refine grs ?_
     refine gr_run ?_
     refine bind_e (fun v3 e3 => gr_call [] (laws_eqPatEdgeS.con e3) ?_)
     clear e3
     refine gr_run ?_
     refine gr_done ?_
     refine bif_e (fun c5 => ?_) (fun c5 => ?_)
     ·refine go 4 ?_
      refine ret_e (fun hr_ => ?_)
      subst hr_
      exact ret_ Try.func18 []
     ·refine go 3 ?_
      refine ret_e (fun hr_ => ?_)
      subst hr_
      exact ret_ Try.func18 []
    ·refine go 3 ?_
     refine ret_e (fun hr_ => ?_)
     subst hr_
     exact ret_ Try.func18 []
   ·refine go 18 ?_
    refine ret_e (fun hr_ => ?_)
    subst hr_
    exact ret_ Try.func18 []
  ·refine go 13 ?_
   refine ret_e (fun hr_ => ?_)
   subst hr_
   exact ret_ Try.func18 []
 ·refine go 8 ?_
  refine ret_e (fun hr_ => ?_)
  subst hr_
  exact ret_ Try.func18 []
mutual
def laws_markText.l0 : Nat → Int → ByteArray → Option (ByteArray)
 | 0, _, _ => none
 | k + 1, v1, v2 => (bif decide (0 < v1) then ((rem v1 10).bind fun v4 => ((cat (bstr ([(IntKind.u8.wrap (IntKind.i64.wrap (48 + v4)))] : List Int)) v2).bind fun v5 => ((quo .i64 v1 10).bind fun v6 => (laws_markText.l0 k v6 v5)))) else ((cat (⟨#[109]⟩ : ByteArray) v2).bind fun v3 => (some v3)))
def laws_markText.f : Nat → Int → Option (ByteArray)
 | 0, _ => none
 | k + 1, v0 => (bif decide (v0 ≤ 0) then (some (⟨#[109, 48]⟩ : ByteArray)) else (laws_markText.l0 k v0 (⟨#[]⟩ : ByteArray)))
end
set_option maxRecDepth 100000 in
set_option maxHeartbeats 4000000 in
theorem laws_markText.con {K : Kn} [KOk K] {k : Nat} {v0 : Int} {r : ByteArray} (h : laws_markText.f k v0 = some r) : Con K Try.prog 36 [.p (.int .i64 v0)] [] (.p (.str r)) [] := by
 cases k with
 | zero => exact absurd h (by simp [laws_markText.f])
 | succ k =>
 rw [laws_markText.f] at h
 refine con_intro 20 [] Try.func36 (by kernel_rfl) rfl rfl (by kernel_rfl) fun ι0 w0 hk0 => ?_
 revert h
 refine bif_e (fun c1 => ?_) (fun c1 => ?_)
 ·refine go 8 ?_
  refine ret_e (fun hr_ => ?_)
  subst hr_
  exact ret_ Try.func36 []
 ·refine go 11 ?_
  refine fun h => good_loop (fun n st => n ≤ k ∧ ∃ (v1 : _) (v2 : _), st = ⟨[(0, .p (.int .i64 v1)), (3, .p (.str v2))], []⟩ ∧ laws_markText.l0 n v1 v2 = some r) k ⟨_, ⟨Nat.le_refl _, _, _, rfl, h⟩, frle_, memle_⟩ ?_
  clear c1
  clear h
  rintro n _ ⟨hkl0, v1, v2, rfl, h⟩ hl0
  cases n with
  | zero => exact absurd h (by simp [laws_markText.l0])
  | succ kl0 =>
  rw [laws_markText.l0] at h
  revert h
  refine bif_e (fun c2 => ?_) (fun c2 => ?_)
  ·refine bind_e (fun v4 e4 => ?_)
   refine bind_e (fun v5 e5 => ?_)
   refine bind_e (fun v6 e6 => ?_)
   refine go 10 ?_
   exact fun h => good_again hl0 (by omega) ⟨_, ⟨by omega, _, _, rfl, h⟩, frle_, memle_⟩
  ·refine bind_e (fun v3 e3 => ?_)
   refine go 7 ?_
   refine ret_e (fun hr_ => ?_)
   subst hr_
   exact ret_ Try.func36 []
mutual
def laws_markPatNodeS_sv.l0 : Nat → (List S124) → Int → Int → Option (Int)
 | 0, _, _, _ => none
 | k + 1, v0, v2, v3 => (bif decide (v3 < (v0.length : Int)) then ((laws_markText.f k v2).bind fun v4 => ((ix v0 v3).bind fun v5 => ((laws_markText.f k (IntKind.i64.wrap (v2 + 1))).bind fun v6 => (laws_markPatNodeS_sv.l0 k v0 (IntKind.i64.wrap ((IntKind.i64.wrap (v2 + 1)) + 1)) (IntKind.i64.wrap (v3 + 1)))))) else (some v2))
def laws_markPatNodeS_sv.f : Nat → (List S124) → Int → Option (Int)
 | 0, _, _ => none
 | k + 1, v0, v1 => (laws_markPatNodeS_sv.l0 k v0 v1 0)
end
set_option maxRecDepth 100000 in
set_option maxHeartbeats 4000000 in
theorem laws_markPatNodeS_sv.con {K : Kn} [KOk K] {k : Nat} {v0 : (List S124)} {v1 : Int} {r : Int} (h : laws_markPatNodeS_sv.f k v0 v1 = some r) : Con K Try.prog 48 [.sh 1000 0 (List.map en124 v0), .p (.int .i64 v1)] [(1000, (0, .pool))] (.p (.int .i64 r)) [(1000, (0, .pool))] := by
 cases k with
 | zero => exact absurd h (by simp [laws_markPatNodeS_sv.f])
 | succ k =>
 rw [laws_markPatNodeS_sv.f] at h
 refine con_intro 29 [] Try.func48 (by kernel_rfl) rfl rfl (by kernel_rfl) fun ι0 w0 hk0 => ?_
 revert h
 refine go 6 ?_
 refine fun h => good_loop (fun n st => n ≤ k ∧ ∃ (v2 : _) (v3 : _), st = ⟨[(0, .sh 1000 0 (List.map en124 v0)), (1, .p (.int .i64 v2)), (5, .p (.int .i64 v3))], [(1000, (0, .pool))]⟩ ∧ laws_markPatNodeS_sv.l0 n v0 v2 v3 = some r) k ⟨_, ⟨Nat.le_refl _, _, _, rfl, h⟩, frle_, memle_⟩ ?_
 clear h
 rintro n _ ⟨hkl0, v2, v3, rfl, h⟩ hl0
 cases n with
 | zero => exact absurd h (by simp [laws_markPatNodeS_sv.l0])
 | succ kl0 =>
 rw [laws_markPatNodeS_sv.l0] at h
 revert h
 refine bif_e (fun c1 => ?_) (fun c1 => ?_)
 ·refine go 8 ?_
  refine grs ?_
  refine gr_run ?_
  refine bind_e (fun v4 e4 => gr_call [] (laws_markText.con e4) ?_)
  clear e4
  refine bind_e (fun v5 e5 => ?_)
  replace e5 := nf_ (ix_en en124 e5)
  refine gr_run ?_
  refine gr_done ?_
  refine go 3 ?_
  refine grs ?_
  refine gr_run ?_
  refine bind_e (fun v6 e6 => gr_call [] (laws_markText.con e6) ?_)
  clear e6
  refine gr_run ?_
  refine gr_done ?_
  refine go 3 ?_
  exact fun h => good_again hl0 (by omega) ⟨_, ⟨by omega, _, _, rfl, h⟩, frle_, memle_⟩
 ·refine go 7 ?_
  refine ret_e (fun hr_ => ?_)
  subst hr_
  exact ret_ Try.func48 [(1000, (0, 1000, 0))]
mutual
def laws_markStringS_sv.l0 : Nat → (List ByteArray) → Int → Int → Option (Int)
 | 0, _, _, _ => none
 | k + 1, v0, v2, v3 => (bif decide (v3 < (v0.length : Int)) then ((laws_markText.f k v2).bind fun v4 => ((ix v0 v3).bind fun v5 => (laws_markStringS_sv.l0 k v0 (IntKind.i64.wrap (v2 + 1)) (IntKind.i64.wrap (v3 + 1))))) else (some v2))
def laws_markStringS_sv.f : Nat → (List ByteArray) → Int → Option (Int)
 | 0, _, _ => none
 | k + 1, v0, v1 => (laws_markStringS_sv.l0 k v0 v1 0)
end
set_option maxRecDepth 100000 in
set_option maxHeartbeats 4000000 in
theorem laws_markStringS_sv.con {K : Kn} [KOk K] {k : Nat} {v0 : (List ByteArray)} {v1 : Int} {r : Int} (h : laws_markStringS_sv.f k v0 v1 = some r) : Con K Try.prog 12 [.sh 1000 0 (List.map srw v0), .p (.int .i64 v1)] [(1000, (0, .pool))] (.p (.int .i64 r)) [(1000, (0, .pool))] := by
 cases k with
 | zero => exact absurd h (by simp [laws_markStringS_sv.f])
 | succ k =>
 rw [laws_markStringS_sv.f] at h
 refine con_intro 20 [] Try.func12 (by kernel_rfl) rfl rfl (by kernel_rfl) fun ι0 w0 hk0 => ?_
 revert h
 refine go 6 ?_
 refine fun h => good_loop (fun n st => n ≤ k ∧ ∃ (v2 : _) (v3 : _), st = ⟨[(0, .sh 1000 0 (List.map srw v0)), (1, .p (.int .i64 v2)), (5, .p (.int .i64 v3))], [(1000, (0, .pool))]⟩ ∧ laws_markStringS_sv.l0 n v0 v2 v3 = some r) k ⟨_, ⟨Nat.le_refl _, _, _, rfl, h⟩, frle_, memle_⟩ ?_
 clear h
 rintro n _ ⟨hkl0, v2, v3, rfl, h⟩ hl0
 cases n with
 | zero => exact absurd h (by simp [laws_markStringS_sv.l0])
 | succ kl0 =>
 rw [laws_markStringS_sv.l0] at h
 revert h
 refine bif_e (fun c1 => ?_) (fun c1 => ?_)
 ·refine go 8 ?_
  refine grs ?_
  refine gr_run ?_
  refine bind_e (fun v4 e4 => gr_call [] (laws_markText.con e4) ?_)
  clear e4
  refine bind_e (fun v5 e5 => ?_)
  replace e5 := nf_ (ix_en srw e5)
  refine gr_run ?_
  refine gr_done ?_
  refine go 3 ?_
  exact fun h => good_again hl0 (by omega) ⟨_, ⟨by omega, _, _, rfl, h⟩, frle_, memle_⟩
 ·refine go 7 ?_
  refine ret_e (fun hr_ => ?_)
  subst hr_
  exact ret_ Try.func12 [(1000, (0, 1000, 0))]
mutual
def laws_markPatEdgeS_sv.l0 : Nat → (List S127) → Int → Int → Option (Int)
 | 0, _, _, _ => none
 | k + 1, v0, v2, v3 => (bif decide (v3 < (v0.length : Int)) then ((laws_markText.f k v2).bind fun v4 => ((ix v0 v3).bind fun v5 => ((laws_markStringS_sv.f k v5.f1 (IntKind.i64.wrap (v2 + 1))).bind fun v7 => ((rem (IntKind.i64.wrap (v7 + 1)) 3).bind fun v9 => (laws_markPatEdgeS_sv.l0 k v0 (IntKind.i64.wrap ((IntKind.i64.wrap ((IntKind.i64.wrap ((IntKind.i64.wrap (v7 + 1)) + 1)) + 1)) + 1)) (IntKind.i64.wrap (v3 + 1))))))) else (some v2))
def laws_markPatEdgeS_sv.f : Nat → (List S127) → Int → Option (Int)
 | 0, _, _ => none
 | k + 1, v0, v1 => (laws_markPatEdgeS_sv.l0 k v0 v1 0)
end
set_option maxRecDepth 100000 in
set_option maxHeartbeats 4000000 in
theorem laws_markPatEdgeS_sv.con {K : Kn} [KOk K] {k : Nat} {v0 : (List S127)} {v1 : Int} {r : Int} (h : laws_markPatEdgeS_sv.f k v0 v1 = some r) : Con K Try.prog 49 [.sh 1000 0 (List.map en127 v0), .p (.int .i64 v1)] [(1000, (0, .pool))] (.p (.int .i64 r)) [(1000, (0, .pool))] := by
 cases k with
 | zero => exact absurd h (by simp [laws_markPatEdgeS_sv.f])
 | succ k =>
 rw [laws_markPatEdgeS_sv.f] at h
 refine con_intro 58 [] Try.func49 (by kernel_rfl) rfl rfl (by kernel_rfl) fun ι0 w0 hk0 => ?_
 revert h
 refine go 6 ?_
 refine fun h => good_loop (fun n st => n ≤ k ∧ ∃ (v2 : _) (v3 : _), st = ⟨[(0, .sh 1000 0 (List.map en127 v0)), (1, .p (.int .i64 v2)), (5, .p (.int .i64 v3))], [(1000, (0, .pool))]⟩ ∧ laws_markPatEdgeS_sv.l0 n v0 v2 v3 = some r) k ⟨_, ⟨Nat.le_refl _, _, _, rfl, h⟩, frle_, memle_⟩ ?_
 clear h
 rintro n _ ⟨hkl0, v2, v3, rfl, h⟩ hl0
 cases n with
 | zero => exact absurd h (by simp [laws_markPatEdgeS_sv.l0])
 | succ kl0 =>
 rw [laws_markPatEdgeS_sv.l0] at h
 revert h
 refine bif_e (fun c1 => ?_) (fun c1 => ?_)
 ·refine go 8 ?_
  refine grs ?_
  refine gr_run ?_
  refine bind_e (fun v4 e4 => gr_call [] (laws_markText.con e4) ?_)
  clear e4
  refine bind_e (fun v5 e5 => ?_)
  replace e5 := nf_ (ix_en en127 e5)
  refine gr_run ?_
  refine gr_done ?_
  refine go 3 ?_
  refine grs ?_
  refine gr_run ?_
  refine bind_e (fun v7 e7 => gr_call [(1000, (0, 1000, 0))] (laws_markStringS_sv.con e7) ?_)
  clear e7
  refine gr_run ?_
  refine gr_done ?_
  refine bind_e (fun v9 e9 => ?_)
  refine go 17 ?_
  exact fun h => good_again hl0 (by omega) ⟨_, ⟨by omega, _, _, rfl, h⟩, frle_, memle_⟩
 ·refine go 7 ?_
  refine ret_e (fun hr_ => ?_)
  subst hr_
  exact ret_ Try.func49 [(1000, (0, 1000, 0))]
end Go.Ab
