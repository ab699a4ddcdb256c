/- What the functions compute, and their contracts, part 1. No condition beyond KOk. -/
import Derived.Test.YtfjckgcbgepndaaDoorAbX
import Derived.Test.YtfjckgcbgepndaaDoorAbF3
import Derived.Test.YtfjckgcbgepndaaDoorAbF5
namespace Go.Ab
open Go.Proofs
set_option linter.unusedVariables false
set_option linter.unusedSimpArgs false
def laws_szPatNode.f (k : Nat) (v0 : S45) (v1 : Int) : Option (Int) := (bif decide ((IntKind.i64.wrap (v1 - (v0.f0.size : Int))) < 0) then (some (-1)) else (bif decide ((IntKind.i64.wrap ((IntKind.i64.wrap (v1 - (v0.f0.size : Int))) - (v0.f1.size : Int))) < 0) then (some (-1)) else (some (IntKind.i64.wrap ((IntKind.i64.wrap (v1 - (v0.f0.size : Int))) - (v0.f1.size : Int))))))
set_option maxRecDepth 100000 in
set_option maxHeartbeats 4000000 in
theorem laws_szPatNode.con {K : Kn} [KOk K] {k : Nat} {v0 : S45} {v1 : Int} {r : Int} (h : laws_szPatNode.f k v0 v1 = some r) : Con K Tryd.prog 19 [.agg [.p (.str v0.f0), .p (.str v0.f1)], .p (.int .i64 v1)] [] (.p (.int .i64 r)) [] := by
 rw [laws_szPatNode.f] at h
 refine con_intro 20 [] Tryd.func19 (by kernel_rfl) rfl rfl (by kernel_rfl) fun ι0 w0 hk0 => ?_
 revert h
 refine bif_e (fun c1 => ?_) (fun c1 => ?_)
 ·refine go 10 ?_
  refine ret_e (fun hr_ => ?_)
  subst hr_
  exact ret_ Tryd.func19 []
 ·refine bif_e (fun c2 => ?_) (fun c2 => ?_)
  ·refine go 17 ?_
   refine ret_e (fun hr_ => ?_)
   subst hr_
   exact ret_ Tryd.func19 []
  ·refine go 18 ?_
   refine ret_e (fun hr_ => ?_)
   subst hr_
   exact ret_ Tryd.func19 []
mutual
def laws_szPatNodeS.l0 : Nat → (List S45) → Int → Int → Option (Int)
 | 0, _, _, _ => none
 | k + 1, v0, v2, v3 => (bif decide (v3 < (v0.length : Int)) then ((ix v0 v3).bind fun v4 => ((laws_szPatNode.f k v4 v2).bind fun v5 => (bif decide (v5 < 0) then (some (-1)) else (laws_szPatNodeS.l0 k v0 v5 (IntKind.i64.wrap (v3 + 1)))))) else (some v2))
def laws_szPatNodeS.f : Nat → (List S45) → Int → Option (Int)
 | 0, _, _ => none
 | k + 1, v0, v1 => (bif decide ((IntKind.i64.wrap (v1 - (v0.length : Int))) < 0) then (some (-1)) else (laws_szPatNodeS.l0 k v0 (IntKind.i64.wrap (v1 - (v0.length : Int))) 0))
end
set_option maxRecDepth 100000 in
set_option maxHeartbeats 4000000 in
theorem laws_szPatNodeS.con {K : Kn} [KOk K] {k : Nat} {v0 : (List S45)} {v1 : Int} {r : Int} (h : laws_szPatNodeS.f k v0 v1 = some r) : Con K Tryd.prog 9 [.p (.lst false (List.map en45 v0)), .p (.int .i64 v1)] [] (.p (.int .i64 r)) [] := by
 cases k with
 | zero => exact absurd h (by simp [laws_szPatNodeS.f])
 | succ k =>
 rw [laws_szPatNodeS.f] at h
 refine con_intro 27 [] Tryd.func9 (by kernel_rfl) rfl rfl (by kernel_rfl) fun ι0 w0 hk0 => ?_
 revert h
 refine bif_e (fun c1 => ?_) (fun c1 => ?_)
 ·refine go 10 ?_
  refine ret_e (fun hr_ => ?_)
  subst hr_
  exact ret_ Tryd.func9 []
 ·refine go 13 ?_
  refine fun h => good_loop (fun n st => n ≤ k ∧ ∃ (v2 : _) (v3 : _), st = ⟨[(0, .p (.lst false (List.map en45 v0))), (1, .p (.int .i64 v2)), (5, .p (.int .i64 v3))], []⟩ ∧ laws_szPatNodeS.l0 n v0 v2 v3 = some r) k ⟨_, ⟨Nat.le_refl _, _, _, rfl, h⟩, frle_, memle_⟩ ?_
  clear c1
  clear h
  rintro n _ ⟨hkl0, v2, v3, rfl, h⟩ hl0
  cases n with
  | zero => exact absurd h (by simp [laws_szPatNodeS.l0])
  | succ kl0 =>
  rw [laws_szPatNodeS.l0] at h
  revert h
  refine bif_e (fun c2 => ?_) (fun c2 => ?_)
  ·refine bind_e (fun v4 e4 => ?_)
   replace e4 := nf_ (ix_en en45 e4)
   refine go 8 ?_
   refine grs ?_
   refine gr_run ?_
   refine bind_e (fun v5 e5 => gr_call [] (laws_szPatNode.con e5) ?_)
   clear e5
   refine gr_run ?_
   refine gr_done ?_
   refine bif_e (fun c3 => ?_) (fun c3 => ?_)
   ·refine go 5 ?_
    refine ret_e (fun hr_ => ?_)
    subst hr_
    exact ret_ Tryd.func9 []
   ·refine go 6 ?_
    exact fun h => good_again hl0 (by omega) ⟨_, ⟨by omega, _, _, rfl, h⟩, frle_, memle_⟩
  ·refine go 7 ?_
   refine ret_e (fun hr_ => ?_)
   subst hr_
   exact ret_ Tryd.func9 []
mutual
def laws_szStringS.l0 : Nat → (List ByteArray) → Int → Int → Option (Int)
 | 0, _, _, _ => none
 | k + 1, v0, v2, v3 => (bif decide (v3 < (v0.length : Int)) then ((ix v0 v3).bind fun v4 => (bif decide ((IntKind.i64.wrap (v2 - (v4.size : Int))) < 0) then (some (-1)) else (laws_szStringS.l0 k v0 (IntKind.i64.wrap (v2 - (v4.size : Int))) (IntKind.i64.wrap (v3 + 1))))) else (some v2))
def laws_szStringS.f : Nat → (List ByteArray) → Int → Option (Int)
 | 0, _, _ => none
 | k + 1, v0, v1 => (bif decide ((IntKind.i64.wrap (v1 - (v0.length : Int))) < 0) then (some (-1)) else (laws_szStringS.l0 k v0 (IntKind.i64.wrap (v1 - (v0.length : Int))) 0))
end
set_option maxRecDepth 100000 in
set_option maxHeartbeats 4000000 in
theorem laws_szStringS.con {K : Kn} [KOk K] {k : Nat} {v0 : (List ByteArray)} {v1 : Int} {r : Int} (h : laws_szStringS.f k v0 v1 = some r) : Con K Tryd.prog 37 [.p (.lst false (List.map srw v0)), .p (.int .i64 v1)] [] (.p (.int .i64 r)) [] := by
 cases k with
 | zero => exact absurd h (by simp [laws_szStringS.f])
 | succ k =>
 rw [laws_szStringS.f] at h
 refine con_intro 28 [] Tryd.func37 (by kernel_rfl) rfl rfl (by kernel_rfl) fun ι0 w0 hk0 => ?_
 revert h
 refine bif_e (fun c1 => ?_) (fun c1 => ?_)
 ·refine go 10 ?_
  refine ret_e (fun hr_ => ?_)
  subst hr_
  exact ret_ Tryd.func37 []
 ·refine go 13 ?_
  refine fun h => good_loop (fun n st => n ≤ k ∧ ∃ (v2 : _) (v3 : _), st = ⟨[(0, .p (.lst false (List.map srw v0))), (1, .p (.int .i64 v2)), (5, .p (.int .i64 v3))], []⟩ ∧ laws_szStringS.l0 n v0 v2 v3 = some r) k ⟨_, ⟨Nat.le_refl _, _, _, rfl, h⟩, frle_, memle_⟩ ?_
  clear c1
  clear h
  rintro n _ ⟨hkl0, v2, v3, rfl, h⟩ hl0
  cases n with
  | zero => exact absurd h (by simp [laws_szStringS.l0])
  | succ kl0 =>
  rw [laws_szStringS.l0] at h
  revert h
  refine bif_e (fun c2 => ?_) (fun c2 => ?_)
  ·refine bind_e (fun v4 e4 => ?_)
   replace e4 := nf_ (ix_en srw e4)
   refine bif_e (fun c3 => ?_) (fun c3 => ?_)
   ·refine go 14 ?_
    refine ret_e (fun hr_ => ?_)
    subst hr_
    exact ret_ Tryd.func37 []
   ·refine go 15 ?_
    exact fun h => good_again hl0 (by omega) ⟨_, ⟨by omega, _, _, rfl, h⟩, frle_, memle_⟩
  ·refine go 7 ?_
   refine ret_e (fun hr_ => ?_)
   subst hr_
   exact ret_ Tryd.func37 []
def laws_szPatEdge.f (k : Nat) (v0 : S49) (v1 : Int) : Option (Int) := (bif decide ((IntKind.i64.wrap (v1 - (v0.f0.size : Int))) < 0) then (some (-1)) else ((laws_szStringS.f k v0.f1 (IntKind.i64.wrap (v1 - (v0.f0.size : Int)))).bind fun v2 => (bif decide (v2 < 0) then (some (-1)) else (some v2))))
set_option maxRecDepth 100000 in
set_option maxHeartbeats 4000000 in
theorem laws_szPatEdge.con {K : Kn} [KOk K] {k : Nat} {v0 : S49} {v1 : Int} {r : Int} (h : laws_szPatEdge.f k v0 v1 = some r) : Con K Tryd.prog 20 [.agg [.p (.str v0.f0), .p (.lst false (List.map srw v0.f1)), .p (.int .i64 v0.f2), .p (.bool v0.f3), .p (.int .i64 v0.f4), .p (.int .i64 v0.f5)], .p (.int .i64 v1)] [] (.p (.int .i64 r)) [] := by
 rw [laws_szPatEdge.f] at h
 refine con_intro 19 [] Tryd.func20 (by kernel_rfl) rfl rfl (by kernel_rfl) fun ι0 w0 hk0 => ?_
 revert h
 refine bif_e (fun c1 => ?_) (fun c1 => ?_)
 ·refine go 10 ?_
  refine ret_e (fun hr_ => ?_)
  subst hr_
  exact ret_ Tryd.func20 []
 ·refine go 10 ?_
  refine grs ?_
  refine gr_run ?_
  refine bind_e (fun v2 e2 => gr_call [] (laws_szStringS.con e2) ?_)
  clear e2
  refine gr_run ?_
  refine gr_done ?_
  refine bif_e (fun c2 => ?_) (fun c2 => ?_)
  ·refine go 6 ?_
   refine ret_e (fun hr_ => ?_)
   subst hr_
   exact ret_ Tryd.func20 []
  ·refine go 7 ?_
   refine ret_e (fun hr_ => ?_)
   subst hr_
   exact ret_ Tryd.func20 []
mutual
def laws_szPatEdgeS.l0 : Nat → (List S49) → Int → Int → Option (Int)
 | 0, _, _, _ => none
 | k + 1, v0, v2, v3 => (bif decide (v3 < (v0.length : Int)) then ((ix v0 v3).bind fun v4 => ((laws_szPatEdge.f k v4 v2).bind fun v5 => (bif decide (v5 < 0) then (some (-1)) else (laws_szPatEdgeS.l0 k v0 v5 (IntKind.i64.wrap (v3 + 1)))))) else (some v2))
def laws_szPatEdgeS.f : Nat → (List S49) → Int → Option (Int)
 | 0, _, _ => none
 | k + 1, v0, v1 => (bif decide ((IntKind.i64.wrap (v1 - (v0.length : Int))) < 0) then (some (-1)) else (laws_szPatEdgeS.l0 k v0 (IntKind.i64.wrap (v1 - (v0.length : Int))) 0))
end
set_option maxRecDepth 100000 in
set_option maxHeartbeats 4000000 in
theorem laws_szPatEdgeS.con {K : Kn} [KOk K] {k : Nat} {v0 : (List S49)} {v1 : Int} {r : Int} (h : laws_szPatEdgeS.f k v0 v1 = some r) : Con K Tryd.prog 10 [.p (.lst false (List.map en49 v0)), .p (.int .i64 v1)] [] (.p (.int .i64 r)) [] := by
 cases k with
 | zero => exact absurd h (by simp [laws_szPatEdgeS.f])
 | succ k =>
 rw [laws_szPatEdgeS.f] at h
 refine con_intro 27 [] Tryd.func10 (by kernel_rfl) rfl rfl (by kernel_rfl) fun ι0 w0 hk0 => ?_
 revert h
 refine bif_e (fun c1 => ?_) (fun c1 => ?_)
 ·refine go 10 ?_
  refine ret_e (fun hr_ => ?_)
  subst hr_
  exact ret_ Tryd.func10 []
 ·refine go 13 ?_
  refine fun h => good_loop (fun n st => n ≤ k ∧ ∃ (v2 : _) (v3 : _), st = ⟨[(0, .p (.lst false (List.map en49 v0))), (1, .p (.int .i64 v2)), (5, .p (.int .i64 v3))], []⟩ ∧ laws_szPatEdgeS.l0 n v0 v2 v3 = some r) k ⟨_, ⟨Nat.le_refl _, _, _, rfl, h⟩, frle_, memle_⟩ ?_
  clear c1
  clear h
  rintro n _ ⟨hkl0, v2, v3, rfl, h⟩ hl0
  cases n with
  | zero => exact absurd h (by simp [laws_szPatEdgeS.l0])
  | succ kl0 =>
  rw [laws_szPatEdgeS.l0] at h
  revert h
  refine bif_e (fun c2 => ?_) (fun c2 => ?_)
  ·refine bind_e (fun v4 e4 => ?_)
   replace e4 := nf_ (ix_en en49 e4)
   refine go 8 ?_
   refine grs ?_
   refine gr_run ?_
   refine bind_e (fun v5 e5 => gr_call [] (laws_szPatEdge.con e5) ?_)
   clear e5
   refine gr_run ?_
   refine gr_done ?_
   refine bif_e (fun c3 => ?_) (fun c3 => ?_)
   ·refine go 5 ?_
    refine ret_e (fun hr_ => ?_)
    subst hr_
    exact ret_ Tryd.func10 []
   ·refine go 6 ?_
    exact fun h => good_again hl0 (by omega) ⟨_, ⟨by omega, _, _, rfl, h⟩, frle_, memle_⟩
  ·refine go 7 ?_
   refine ret_e (fun hr_ => ?_)
   subst hr_
   exact ret_ Tryd.func10 []
def laws_szPattern.f (k : Nat) (v0 : S24) (v1 : Int) : Option (Int) := (bif decide ((IntKind.i64.wrap (v1 - (v0.f0.size : Int))) < 0) then (some (-1)) else ((laws_szPatNodeS.f k v0.f3 (IntKind.i64.wrap (v1 - (v0.f0.size : Int)))).bind fun v2 => (bif decide (v2 < 0) then (some (-1)) else ((laws_szPatEdgeS.f k v0.f4 v2).bind fun v3 => (bif decide (v3 < 0) then (some (-1)) else (some v3))))))
set_option maxRecDepth 100000 in
set_option maxHeartbeats 4000000 in
theorem laws_szPattern.con {K : Kn} [KOk K] {k : Nat} {v0 : S24} {v1 : Int} {r : Int} (h : laws_szPattern.f k v0 v1 = some r) : Con K Tryd.prog 4 [.agg [.p (.str v0.f0), .p (.int .i64 v0.f1), .p (.bool v0.f2), .p (.lst false (List.map en45 v0.f3)), .p (.lst false (List.map en49 v0.f4))], .p (.int .i64 v1)] [] (.p (.int .i64 r)) [] := by
 rw [laws_szPattern.f] at h
 refine con_intro 25 [] Tryd.func4 (by kernel_rfl) rfl rfl (by kernel_rfl) fun ι0 w0 hk0 => ?_
 revert h
 refine bif_e (fun c1 => ?_) (fun c1 => ?_)
 ·refine go 10 ?_
  refine ret_e (fun hr_ => ?_)
  subst hr_
  exact ret_ Tryd.func4 []
 ·refine go 10 ?_
  refine grs ?_
  refine gr_run ?_
  refine bind_e (fun v2 e2 => gr_call [] (laws_szPatNodeS.con e2) ?_)
  clear e2
  refine gr_run ?_
  refine gr_done ?_
  refine bif_e (fun c2 => ?_) (fun c2 => ?_)
  ·refine go 6 ?_
   refine ret_e (fun hr_ => ?_)
   subst hr_
   exact ret_ Tryd.func4 []
  ·refine go 6 ?_
   refine grs ?_
   refine gr_run ?_
   refine bind_e (fun v3 e3 => gr_call [] (laws_szPatEdgeS.con e3) ?_)
   clear e3
   refine gr_run ?_
   refine gr_done ?_
   refine bif_e (fun c3 => ?_) (fun c3 => ?_)
   ·refine go 6 ?_
    refine ret_e (fun hr_ => ?_)
    subst hr_
    exact ret_ Tryd.func4 []
   ·refine go 7 ?_
    refine ret_e (fun hr_ => ?_)
    subst hr_
    exact ret_ Tryd.func4 []
def laws_toPatNode.f (k : Nat) (v0 : S45) : Option (S45) := (some v0)
set_option maxRecDepth 100000 in
set_option maxHeartbeats 4000000 in
theorem laws_toPatNode.con {K : Kn} [KOk K] {k : Nat} {v0 : S45} {r : S45} (h : laws_toPatNode.f k v0 = some r) : Con K Tryd.prog 28 [.agg [.p (.str v0.f0), .p (.str v0.f1)]] [] (.agg [.p (.str r.f0), .p (.str r.f1)]) [] := by
 rw [laws_toPatNode.f] at h
 refine con_intro 11 [] Tryd.func28 (by kernel_rfl) rfl rfl (by kernel_rfl) fun ι0 w0 hk0 => ?_
 revert h
 refine go 10 ?_
 refine ret_e (fun hr_ => ?_)
 subst hr_
 exact ret_ Tryd.func28 []
mutual
def laws_toPatNodeS.l0 : Nat → (List S45) → (List S45) → Int → (List S45) → Option ((List S45))
 | 0, _, _, _, _ => none
 | k + 1, v0, v1, v2, v3 => (bif decide (v2 < (v0.length : Int)) then ((ix v0 v2).bind fun v4 => ((laws_toPatNode.f k v4).bind fun v5 => ((inr v2 v1.length).bind fun v6 => ((v3[(Int.toNat v2)]?).bind fun v7 => (laws_toPatNodeS.l0 k v0 v1 (IntKind.i64.wrap (v2 + 1)) (setr v3 (Int.toNat v2) v5)))))) else (some (List.take v1.length v3)))
def laws_toPatNodeS.f : Nat → (List S45) → Option ((List S45))
 | 0, _ => none
 | k + 1, v0 => ((mks (⟨(⟨#[]⟩ : ByteArray), (⟨#[]⟩ : ByteArray)⟩ : S45) (v0.length : Int) (v0.length : Int)).bind fun v1 => (laws_toPatNodeS.l0 k v0 v1 0 v1))
end
set_option maxRecDepth 100000 in
set_option maxHeartbeats 4000000 in
theorem laws_toPatNodeS.con {K : Kn} [KOk K] {k : Nat} {v0 : (List S45)} {r : (List S45)} (h : laws_toPatNodeS.f k v0 = some r) : Con K Tryd.prog 13 [.p (.lst false (List.map en45 v0))] [] (.nw (.lst false (List.map en45 r))) [] := by
 cases k with
 | zero => exact absurd h (by simp [laws_toPatNodeS.f])
 | succ k =>
 rw [laws_toPatNodeS.f] at h
 refine con_intro 23 [7] Tryd.func13 (by kernel_rfl) rfl rfl (by kernel_rfl) fun ι0 w0 hk0 => ?_
 revert h
 refine bind_e (fun v1 e1 => ?_)
 replace e1 := nf_ (mks_en en45 e1)
 refine go 8 ?_
 refine fun h => good_loop (fun n st => n ≤ k ∧ ∃ (v2 : _) (v3 : _), st = ⟨[(0, .p (.lst false (List.map en45 v0))), (3, .buf 7 1 0 v1.length), (4, .p (.int .i64 v2))], [(7, (1, .bufn 2 (List.map en45 v3)))]⟩ ∧ laws_toPatNodeS.l0 n v0 v1 v2 v3 = some r) k ⟨_, ⟨Nat.le_refl _, _, _, rfl, h⟩, frle_, memle_⟩ ?_
 clear e1
 clear h
 rintro n _ ⟨hkl0, v2, v3, rfl, h⟩ hl0
 cases n with
 | zero => exact absurd h (by simp [laws_toPatNodeS.l0])
 | succ kl0 =>
 rw [laws_toPatNodeS.l0] at h
 revert h
 refine bif_e (fun c1 => ?_) (fun c1 => ?_)
 ·refine bind_e (fun v4 e4 => ?_)
  replace e4 := nf_ (ix_en en45 e4)
  refine go 7 ?_
  refine grs ?_
  refine gr_run ?_
  refine bind_e (fun v5 e5 => gr_call [] (laws_toPatNode.con e5) ?_)
  clear e5
  refine bind_e (fun v6 e6 => ?_)
  refine bind_e (fun v7 e7 => ?_)
  replace e7 := nf_ (gx_en en45 e7)
  refine gr_run ?_
  refine gr_done ?_
  refine go 2 ?_
  exact fun h => good_again hl0 (by omega) ⟨_, ⟨by omega, _, _, rfl, h⟩, frle_, memle_⟩
 ·refine go 7 ?_
  refine freezeN_ 2 ?_
  refine ret_e (fun hr_ => ?_)
  subst hr_
  exact ret_ Tryd.func13 []
mutual
def laws_toStringS.l0 : Nat → (List ByteArray) → (List ByteArray) → Int → (List ByteArray) → Option ((List ByteArray))
 | 0, _, _, _, _ => none
 | k + 1, v0, v1, v2, v3 => (bif decide (v2 < (v0.length : Int)) then ((ix v0 v2).bind fun v4 => ((inr v2 v1.length).bind fun v5 => ((v3[(Int.toNat v2)]?).bind fun v6 => (laws_toStringS.l0 k v0 v1 (IntKind.i64.wrap (v2 + 1)) (setr v3 (Int.toNat v2) v4))))) else (some (List.take v1.length v3)))
def laws_toStringS.f : Nat → (List ByteArray) → Option ((List ByteArray))
 | 0, _ => none
 | k + 1, v0 => ((mks (⟨#[]⟩ : ByteArray) (v0.length : Int) (v0.length : Int)).bind fun v1 => (laws_toStringS.l0 k v0 v1 0 v1))
end
set_option maxRecDepth 100000 in
set_option maxHeartbeats 4000000 in
theorem laws_toStringS.con {K : Kn} [KOk K] {k : Nat} {v0 : (List ByteArray)} {r : (List ByteArray)} (h : laws_toStringS.f k v0 = some r) : Con K Tryd.prog 43 [.p (.lst false (List.map srw v0))] [] (.nw (.lst false (List.map srw r))) [] := by
 cases k with
 | zero => exact absurd h (by simp [laws_toStringS.f])
 | succ k =>
 rw [laws_toStringS.f] at h
 refine con_intro 22 [7] Tryd.func43 (by kernel_rfl) rfl rfl (by kernel_rfl) fun ι0 w0 hk0 => ?_
 revert h
 refine bind_e (fun v1 e1 => ?_)
 replace e1 := nf_ (mks_en srw e1)
 refine go 8 ?_
 refine fun h => good_loop (fun n st => n ≤ k ∧ ∃ (v2 : _) (v3 : _), st = ⟨[(0, .p (.lst false (List.map srw v0))), (3, .buf 7 1 0 v1.length), (4, .p (.int .i64 v2))], [(7, (1, .bufn 1 (List.map srw v3)))]⟩ ∧ laws_toStringS.l0 n v0 v1 v2 v3 = some r) k ⟨_, ⟨Nat.le_refl _, _, _, rfl, h⟩, frle_, memle_⟩ ?_
 clear e1
 clear h
 rintro n _ ⟨hkl0, v2, v3, rfl, h⟩ hl0
 cases n with
 | zero => exact absurd h (by simp [laws_toStringS.l0])
 | succ kl0 =>
 rw [laws_toStringS.l0] at h
 revert h
 refine bif_e (fun c1 => ?_) (fun c1 => ?_)
 ·refine bind_e (fun v4 e4 => ?_)
  replace e4 := nf_ (ix_en srw e4)
  refine bind_e (fun v5 e5 => ?_)
  refine bind_e (fun v6 e6 => ?_)
  replace e6 := nf_ (gx_en srw e6)
  refine go 10 ?_
  exact fun h => good_again hl0 (by omega) ⟨_, ⟨by omega, _, _, rfl, h⟩, frle_, memle_⟩
 ·refine go 7 ?_
  refine freezeN_ 2 ?_
  refine ret_e (fun hr_ => ?_)
  subst hr_
  exact ret_ Tryd.func43 []
def laws_toPatEdge.f (k : Nat) (v0 : S49) : Option (S49) := ((laws_toStringS.f k v0.f1).bind fun v1 => (some (⟨v0.f0, v1, v0.f2, v0.f3, v0.f4, v0.f5⟩ : S49)))
set_option maxRecDepth 100000 in
set_option maxHeartbeats 4000000 in
theorem laws_toPatEdge.con {K : Kn} [KOk K] {k : Nat} {v0 : S49} {r : S49} (h : laws_toPatEdge.f k v0 = some r) : Con K Tryd.prog 29 [.agg [.p (.str v0.f0), .p (.lst false (List.map srw v0.f1)), .p (.int .i64 v0.f2), .p (.bool v0.f3), .p (.int .i64 v0.f4), .p (.int .i64 v0.f5)]] [] (.agg [.p (.str r.f0), .nw (.lst false (List.map srw r.f1)), .p (.int .i64 r.f2), .p (.bool r.f3), .p (.int .i64 r.f4), .p (.int .i64 r.f5)]) [] := by
 rw [laws_toPatEdge.f] at h
 refine con_intro 24 [] Tryd.func29 (by kernel_rfl) rfl rfl (by kernel_rfl) fun ι0 w0 hk0 => ?_
 revert h
 refine go 7 ?_
 refine grs ?_
 refine gr_run ?_
 refine bind_e (fun v1 e1 => gr_call [] (laws_toStringS.con e1) ?_)
 clear e1
 refine gr_run ?_
 refine gr_done ?_
 refine go 10 ?_
 refine ret_e (fun hr_ => ?_)
 subst hr_
 exact ret_ Tryd.func29 []
mutual
def laws_toPatEdgeS.l0 : Nat → (List S49) → (List S49) → Int → (List S49) → Option ((List S49))
 | 0, _, _, _, _ => none
 | k + 1, v0, v1, v2, v3 => (bif decide (v2 < (v0.length : Int)) then ((ix v0 v2).bind fun v4 => ((laws_toPatEdge.f k v4).bind fun v5 => ((inr v2 v1.length).bind fun v6 => ((v3[(Int.toNat v2)]?).bind fun v7 => (laws_toPatEdgeS.l0 k v0 v1 (IntKind.i64.wrap (v2 + 1)) (setr v3 (Int.toNat v2) v5)))))) else (some (List.take v1.length v3)))
def laws_toPatEdgeS.f : Nat → (List S49) → Option ((List S49))
 | 0, _ => none
 | k + 1, v0 => ((mks (⟨(⟨#[]⟩ : ByteArray), ([] : (List ByteArray)), 0, false, 0, 0⟩ : S49) (v0.length : Int) (v0.length : Int)).bind fun v1 => (laws_toPatEdgeS.l0 k v0 v1 0 v1))
end
set_option maxRecDepth 100000 in
set_option maxHeartbeats 4000000 in
theorem laws_toPatEdgeS.con {K : Kn} [KOk K] {k : Nat} {v0 : (List S49)} {r : (List S49)} (h : laws_toPatEdgeS.f k v0 = some r) : Con K Tryd.prog 14 [.p (.lst false (List.map en49 v0))] [] (.nw (.lst false (List.map en49 r))) [] := by
 cases k with
 | zero => exact absurd h (by simp [laws_toPatEdgeS.f])
 | succ k =>
 rw [laws_toPatEdgeS.f] at h
 refine con_intro 23 [7] Tryd.func14 (by kernel_rfl) rfl rfl (by kernel_rfl) fun ι0 w0 hk0 => ?_
 revert h
 refine bind_e (fun v1 e1 => ?_)
 replace e1 := nf_ (mks_en en49 e1)
 refine go 8 ?_
 refine fun h => good_loop (fun n st => n ≤ k ∧ ∃ (v2 : _) (v3 : _), st = ⟨[(0, .p (.lst false (List.map en49 v0))), (3, .buf 7 1 0 v1.length), (4, .p (.int .i64 v2))], [(7, (1, .bufn 6 (List.map en49 v3)))]⟩ ∧ laws_toPatEdgeS.l0 n v0 v1 v2 v3 = some r) k ⟨_, ⟨Nat.le_refl _, _, _, rfl, h⟩, frle_, memle_⟩ ?_
 clear e1
 clear h
 rintro n _ ⟨hkl0, v2, v3, rfl, h⟩ hl0
 cases n with
 | zero => exact absurd h (by simp [laws_toPatEdgeS.l0])
 | succ kl0 =>
 rw [laws_toPatEdgeS.l0] at h
 revert h
 refine bif_e (fun c1 => ?_) (fun c1 => ?_)
 ·refine bind_e (fun v4 e4 => ?_)
  replace e4 := nf_ (ix_en en49 e4)
  refine go 7 ?_
  refine grs ?_
  refine gr_run ?_
  refine bind_e (fun v5 e5 => gr_call [] (laws_toPatEdge.con e5) ?_)
  clear e5
  refine bind_e (fun v6 e6 => ?_)
  refine bind_e (fun v7 e7 => ?_)
  replace e7 := nf_ (gx_en en49 e7)
  refine gr_run ?_
  refine gr_done ?_
  refine go 2 ?_
  exact fun h => good_again hl0 (by omega) ⟨_, ⟨by omega, _, _, rfl, h⟩, frle_, memle_⟩
 ·refine go 7 ?_
  refine freezeN_ 2 ?_
  refine ret_e (fun hr_ => ?_)
  subst hr_
  exact ret_ Tryd.func14 []
def laws_toPattern.f (k : Nat) (v0 : S24) : Option (S30) := ((laws_toPatNodeS.f k v0.f3).bind fun v1 => ((laws_toPatEdgeS.f k v0.f4).bind fun v2 => (some (⟨v0.f0, v0.f1, v0.f2, v1, v2⟩ : S30))))
set_option maxRecDepth 100000 in
set_option maxHeartbeats 4000000 in
theorem laws_toPattern.con {K : Kn} [KOk K] {k : Nat} {v0 : S24} {r : S30} (h : laws_toPattern.f k v0 = some r) : Con K Tryd.prog 6 [.agg [.p (.str v0.f0), .p (.int .i64 v0.f1), .p (.bool v0.f2), .p (.lst false (List.map en45 v0.f3)), .p (.lst false (List.map en49 v0.f4))]] [] (.agg [.p (.str r.f0), .p (.int .i64 r.f1), .p (.bool r.f2), .nw (.lst false (List.map en45 r.f3)), .nw (.lst false (List.map en49 r.f4))]) [] := by
 rw [laws_toPattern.f] at h
 refine con_intro 22 [] Tryd.func6 (by kernel_rfl) rfl rfl (by kernel_rfl) fun ι0 w0 hk0 => ?_
 revert h
 refine go 11 ?_
 refine grs ?_
 refine gr_run ?_
 refine bind_e (fun v1 e1 => gr_call [] (laws_toPatNodeS.con e1) ?_)
 clear e1
 refine gr_run ?_
 refine gr_done ?_
 refine go 1 ?_
 refine grs ?_
 refine gr_run ?_
 refine bind_e (fun v2 e2 => gr_call [] (laws_toPatEdgeS.con e2) ?_)
 clear e2
 refine gr_run ?_
 refine gr_done ?_
 refine go 2 ?_
 refine ret_e (fun hr_ => ?_)
 subst hr_
 exact ret_ Tryd.func6 []
def laws_eqPatNode.f (k : Nat) (v0 : S45) (v1 : S45) : Option (Bool) := (bif decide (v0.f0 = v1.f0) then (bif decide (v0.f1 = v1.f1) then (some true) else (some false)) else (some false))
set_option maxRecDepth 100000 in
set_option maxHeartbeats 4000000 in
theorem laws_eqPatNode.con {K : Kn} [KOk K] {k : Nat} {v0 : S45} {v1 : S45} {r : Bool} (h : laws_eqPatNode.f k v0 v1 = some r) : Con K Tryd.prog 35 [.agg [.p (.str v0.f0), .p (.str v0.f1)], .agg [.p (.str v1.f0), .p (.str v1.f1)]] [] (.p (.bool r)) [] := by
 rw [laws_eqPatNode.f] at h
 refine con_intro 15 [] Tryd.func35 (by kernel_rfl) rfl rfl (by kernel_rfl) fun ι0 w0 hk0 => ?_
 revert h
 refine bif_e (fun c1 => ?_) (fun c1 => ?_)
 ·refine bif_e (fun c2 => ?_) (fun c2 => ?_)
  ·refine go 14 ?_
   refine ret_e (fun hr_ => ?_)
   subst hr_
   exact ret_ Tryd.func35 []
  ·refine go 13 ?_
   refine ret_e (fun hr_ => ?_)
   subst hr_
   exact ret_ Tryd.func35 []
 ·refine go 8 ?_
  refine ret_e (fun hr_ => ?_)
  subst hr_
  exact ret_ Tryd.func35 []
mutual
def laws_eqPatNodeS.l0 : Nat → (List S45) → (List S45) → Int → Option (Bool)
 | 0, _, _, _ => none
 | k + 1, v0, v1, v2 => (bif decide (v2 < (v0.length : Int)) then ((ix v0 v2).bind fun v3 => ((ix v1 v2).bind fun v4 => ((laws_eqPatNode.f k v3 v4).bind fun v5 => (bif v5 then (laws_eqPatNodeS.l0 k v0 v1 (IntKind.i64.wrap (v2 + 1))) else (some false))))) else (some true))
def laws_eqPatNodeS.f : Nat → (List S45) → (List S45) → Option (Bool)
 | 0, _, _ => none
 | k + 1, v0, v1 => (bif ((v0.length : Int) == (v1.length : Int)) then (laws_eqPatNodeS.l0 k v0 v1 0) else (some false))
end
set_option maxRecDepth 100000 in
set_option maxHeartbeats 4000000 in
theorem laws_eqPatNodeS.con {K : Kn} [KOk K] {k : Nat} {v0 : (List S45)} {v1 : (List S45)} {r : Bool} (h : laws_eqPatNodeS.f k v0 v1 = some r) : Con K Tryd.prog 17 [.p (.lst false (List.map en45 v0)), .p (.lst false (List.map en45 v1))] [] (.p (.bool r)) [] := by
 cases k with
 | zero => exact absurd h (by simp [laws_eqPatNodeS.f])
 | succ k =>
 rw [laws_eqPatNodeS.f] at h
 refine con_intro 27 [] Tryd.func17 (by kernel_rfl) rfl rfl (by kernel_rfl) fun ι0 w0 hk0 => ?_
 revert h
 refine bif_e (fun c1 => ?_) (fun c1 => ?_)
 ·refine go 11 ?_
  refine fun h => good_loop (fun n st => n ≤ k ∧ ∃ (v2 : _), st = ⟨[(0, .p (.lst false (List.map en45 v0))), (1, .p (.lst false (List.map en45 v1))), (5, .p (.int .i64 v2))], []⟩ ∧ laws_eqPatNodeS.l0 n v0 v1 v2 = some r) k ⟨_, ⟨Nat.le_refl _, _, rfl, h⟩, frle_, memle_⟩ ?_
  clear c1
  clear h
  rintro n _ ⟨hkl0, v2, rfl, h⟩ hl0
  cases n with
  | zero => exact absurd h (by simp [laws_eqPatNodeS.l0])
  | succ kl0 =>
  rw [laws_eqPatNodeS.l0] at h
  revert h
  refine bif_e (fun c2 => ?_) (fun c2 => ?_)
  ·refine bind_e (fun v3 e3 => ?_)
   replace e3 := nf_ (ix_en en45 e3)
   refine bind_e (fun v4 e4 => ?_)
   replace e4 := nf_ (ix_en en45 e4)
   refine go 8 ?_
   refine grs ?_
   refine gr_run ?_
   refine bind_e (fun v5 e5 => gr_call [] (laws_eqPatNode.con e5) ?_)
   clear e5
   refine gr_run ?_
   refine gr_done ?_
   refine bif_e (fun c3 => ?_) (fun c3 => ?_)
   ·refine go 4 ?_
    exact fun h => good_again hl0 (by omega) ⟨_, ⟨by omega, _, rfl, h⟩, frle_, memle_⟩
   ·refine go 3 ?_
    refine ret_e (fun hr_ => ?_)
    subst hr_
    exact ret_ Tryd.func17 []
  ·refine go 7 ?_
   refine ret_e (fun hr_ => ?_)
   subst hr_
   exact ret_ Tryd.func17 []
 ·refine go 8 ?_
  refine ret_e (fun hr_ => ?_)
  subst hr_
  exact ret_ Tryd.func17 []
mutual
def laws_eqStringS.l0 : Nat → (List ByteArray) → (List ByteArray) → Int → Option (Bool)
 | 0, _, _, _ => none
 | k + 1, v0, v1, v2 => (bif decide (v2 < (v0.length : Int)) then ((ix v0 v2).bind fun v3 => ((ix v1 v2).bind fun v4 => (bif decide (v3 = v4) then (laws_eqStringS.l0 k v0 v1 (IntKind.i64.wrap (v2 + 1))) else (some false)))) else (some true))
def laws_eqStringS.f : Nat → (List ByteArray) → (List ByteArray) → Option (Bool)
 | 0, _, _ => none
 | k + 1, v0, v1 => (bif ((v0.length : Int) == (v1.length : Int)) then (laws_eqStringS.l0 k v0 v1 0) else (some false))
end
set_option maxRecDepth 100000 in
set_option maxHeartbeats 4000000 in
theorem laws_eqStringS.con {K : Kn} [KOk K] {k : Nat} {v0 : (List ByteArray)} {v1 : (List ByteArray)} {r : Bool} (h : laws_eqStringS.f k v0 v1 = some r) : Con K Tryd.prog 49 [.p (.lst false (List.map srw v0)), .p (.lst false (List.map srw v1))] [] (.p (.bool r)) [] := by
 cases k with
 | zero => exact absurd h (by simp [laws_eqStringS.f])
 | succ k =>
 rw [laws_eqStringS.f] at h
 refine con_intro 26 [] Tryd.func49 (by kernel_rfl) rfl rfl (by kernel_rfl) fun ι0 w0 hk0 => ?_
 revert h
 refine bif_e (fun c1 => ?_) (fun c1 => ?_)
 ·refine go 11 ?_
  refine fun h => good_loop (fun n st => n ≤ k ∧ ∃ (v2 : _), st = ⟨[(0, .p (.lst false (List.map srw v0))), (1, .p (.lst false (List.map srw v1))), (5, .p (.int .i64 v2))], []⟩ ∧ laws_eqStringS.l0 n v0 v1 v2 = some r) k ⟨_, ⟨Nat.le_refl _, _, rfl, h⟩, frle_, memle_⟩ ?_
  clear c1
  clear h
  rintro n _ ⟨hkl0, v2, rfl, h⟩ hl0
  cases n with
  | zero => exact absurd h (by simp [laws_eqStringS.l0])
  | succ kl0 =>
  rw [laws_eqStringS.l0] at h
  revert h
  refine bif_e (fun c2 => ?_) (fun c2 => ?_)
  ·refine bind_e (fun v3 e3 => ?_)
   replace e3 := nf_ (ix_en srw e3)
   refine bind_e (fun v4 e4 => ?_)
   replace e4 := nf_ (ix_en srw e4)
   refine go 8 ?_
   refine grs ?_
   refine gr_run ?_
   refine gr_done ?_
   refine bif_e (fun c3 => ?_) (fun c3 => ?_)
   ·refine go 4 ?_
    exact fun h => good_again hl0 (by omega) ⟨_, ⟨by omega, _, rfl, h⟩, frle_, memle_⟩
   ·refine go 3 ?_
    refine ret_e (fun hr_ => ?_)
    subst hr_
    exact ret_ Tryd.func49 []
  ·refine go 7 ?_
   refine ret_e (fun hr_ => ?_)
   subst hr_
   exact ret_ Tryd.func49 []
 ·refine go 8 ?_
  refine ret_e (fun hr_ => ?_)
  subst hr_
  exact ret_ Tryd.func49 []
def laws_eqPatEdge.f (k : Nat) (v0 : S49) (v1 : S49) : Option (Bool) := (bif decide (v0.f0 = v1.f0) then ((laws_eqStringS.f k v0.f1 v1.f1).bind fun v2 => (bif v2 then (bif (v0.f2 == v1.f2) then (bif (v0.f3 == v1.f3) then (bif (v0.f4 == v1.f4) then (bif (v0.f5 == v1.f5) then (some true) else (some false)) else (some false)) else (some false)) else (some false)) else (some false))) else (some false))
set_option maxRecDepth 100000 in
set_option maxHeartbeats 4000000 in
theorem laws_eqPatEdge.con {K : Kn} [KOk K] {k : Nat} {v0 : S49} {v1 : S49} {r : Bool} (h : laws_eqPatEdge.f k v0 v1 = some r) : Con K Tryd.prog 36 [.agg [.p (.str v0.f0), .p (.lst false (List.map srw v0.f1)), .p (.int .i64 v0.f2), .p (.bool v0.f3), .p (.int .i64 v0.f4), .p (.int .i64 v0.f5)], .agg [.p (.str v1.f0), .p (.lst false (List.map srw v1.f1)), .p (.int .i64 v1.f2), .p (.bool v1.f3), .p (.int .i64 v1.f4), .p (.int .i64 v1.f5)]] [] (.p (.bool r)) [] := by
 rw [laws_eqPatEdge.f] at h
 refine con_intro 36 [] Tryd.func36 (by kernel_rfl) rfl rfl (by kernel_rfl) fun ι0 w0 hk0 => ?_
 revert h
 refine bif_e (fun c1 => ?_) (fun c1 => ?_)
 ·refine go 9 ?_
  refine grs ?_
  refine gr_run ?_
  refine bind_e (fun v2 e2 => gr_call [] (laws_eqStringS.con e2) ?_)
  clear e2
  refine gr_run ?_
  refine gr_done ?_
  refine bif_e (fun c2 => ?_) (fun c2 => ?_)
  ·refine bif_e (fun c3 => ?_) (fun c3 => ?_)
   ·refine bif_e (fun c4 => ?_) (fun c4 => ?_)
    ·refine bif_e (fun c5 => ?_) (fun c5 => ?_)
     ·refine bif_e (fun c6 => ?_) (fun c6 => ?_)
      ·refine go 24 ?_
       refine ret_e (fun hr_ => ?_)
       subst hr_
       exact ret_ Tryd.func36 []
      ·refine go 23 ?_
       refine ret_e (fun hr_ => ?_)
       subst hr_
       exact ret_ Tryd.func36 []
     ·refine go 18 ?_
      refine ret_e (fun hr_ => ?_)
      subst hr_
      exact ret_ Tryd.func36 []
    ·refine go 13 ?_
     refine ret_e (fun hr_ => ?_)
     subst hr_
     exact ret_ Tryd.func36 []
   ·refine go 8 ?_
    refine ret_e (fun hr_ => ?_)
    subst hr_
    exact ret_ Tryd.func36 []
  ·refine go 3 ?_
   refine ret_e (fun hr_ => ?_)
   subst hr_
   exact ret_ Tryd.func36 []
 ·refine go 8 ?_
  refine ret_e (fun hr_ => ?_)
  subst hr_
  exact ret_ Tryd.func36 []
mutual
def laws_eqPatEdgeS.l0 : Nat → (List S49) → (List S49) → Int → Option (Bool)
 | 0, _, _, _ => none
 | k + 1, v0, v1, v2 => (bif decide (v2 < (v0.length : Int)) then ((ix v0 v2).bind fun v3 => ((ix v1 v2).bind fun v4 => ((laws_eqPatEdge.f k v3 v4).bind fun v5 => (bif v5 then (laws_eqPatEdgeS.l0 k v0 v1 (IntKind.i64.wrap (v2 + 1))) else (some false))))) else (some true))
def laws_eqPatEdgeS.f : Nat → (List S49) → (List S49) → Option (Bool)
 | 0, _, _ => none
 | k + 1, v0, v1 => (bif ((v0.length : Int) == (v1.length : Int)) then (laws_eqPatEdgeS.l0 k v0 v1 0) else (some false))
end
set_option maxRecDepth 100000 in
set_option maxHeartbeats 4000000 in
theorem laws_eqPatEdgeS.con {K : Kn} [KOk K] {k : Nat} {v0 : (List S49)} {v1 : (List S49)} {r : Bool} (h : laws_eqPatEdgeS.f k v0 v1 = some r) : Con K Tryd.prog 18 [.p (.lst false (List.map en49 v0)), .p (.lst false (List.map en49 v1))] [] (.p (.bool r)) [] := by
 cases k with
 | zero => exact absurd h (by simp [laws_eqPatEdgeS.f])
 | succ k =>
 rw [laws_eqPatEdgeS.f] at h
 refine con_intro 27 [] Tryd.func18 (by kernel_rfl) rfl rfl (by kernel_rfl) fun ι0 w0 hk0 => ?_
 revert h
 refine bif_e (fun c1 => ?_) (fun c1 => ?_)
 ·refine go 11 ?_
  refine fun h => good_loop (fun n st => n ≤ k ∧ ∃ (v2 : _), st = ⟨[(0, .p (.lst false (List.map en49 v0))), (1, .p (.lst false (List.map en49 v1))), (5, .p (.int .i64 v2))], []⟩ ∧ laws_eqPatEdgeS.l0 n v0 v1 v2 = some r) k ⟨_, ⟨Nat.le_refl _, _, rfl, h⟩, frle_, memle_⟩ ?_
  clear c1
  clear h
  rintro n _ ⟨hkl0, v2, rfl, h⟩ hl0
  cases n with
  | zero => exact absurd h (by simp [laws_eqPatEdgeS.l0])
  | succ kl0 =>
  rw [laws_eqPatEdgeS.l0] at h
  revert h
  refine bif_e (fun c2 => ?_) (fun c2 => ?_)
  ·refine bind_e (fun v3 e3 => ?_)
   replace e3 := nf_ (ix_en en49 e3)
   refine bind_e (fun v4 e4 => ?_)
   replace e4 := nf_ (ix_en en49 e4)
   refine go 8 ?_
   refine grs ?_
   refine gr_run ?_
   refine bind_e (fun v5 e5 => gr_call [] (laws_eqPatEdge.con e5) ?_)
   clear e5
   refine gr_run ?_
   refine gr_done ?_
   refine bif_e (fun c3 => ?_) (fun c3 => ?_)
   ·refine go 4 ?_
    exact fun h => good_again hl0 (by omega) ⟨_, ⟨by omega, _, rfl, h⟩, frle_, memle_⟩
   ·refine go 3 ?_
    refine ret_e (fun hr_ => ?_)
    subst hr_
    exact ret_ Tryd.func18 []
  ·refine go 7 ?_
   refine ret_e (fun hr_ => ?_)
   subst hr_
   exact ret_ Tryd.func18 []
 ·refine go 8 ?_
  refine ret_e (fun hr_ => ?_)
  subst hr_
  exact ret_ Tryd.func18 []
def laws_eqPattern.f (k : Nat) (v0 : S30) (v1 : S30) : Option (Bool) := (bif decide (v0.f0 = v1.f0) then (bif (v0.f1 == v1.f1) then (bif (v0.f2 == v1.f2) then ((laws_eqPatNodeS.f k v0.f3 v1.f3).bind fun v2 => (bif v2 then ((laws_eqPatEdgeS.f k v0.f4 v1.f4).bind fun v3 => (bif v3 then (some true) else (some false))) else (some false))) else (some false)) else (some false)) else (some false))
set_option maxRecDepth 100000 in
set_option maxHeartbeats 4000000 in
theorem laws_eqPattern.con {K : Kn} [KOk K] {k : Nat} {v0 : S30} {v1 : S30} {r : Bool} (h : laws_eqPattern.f k v0 v1 = some r) : Con K Tryd.prog 8 [.agg [.p (.str v0.f0), .p (.int .i64 v0.f1), .p (.bool v0.f2), .p (.lst false (List.map en45 v0.f3)), .p (.lst false (List.map en49 v0.f4))], .agg [.p (.str v1.f0), .p (.int .i64 v1.f1), .p (.bool v1.f2), .p (.lst false (List.map en45 v1.f3)), .p (.lst false (List.map en49 v1.f4))]] [] (.p (.bool r)) [] := by
 rw [laws_eqPattern.f] at h
 refine con_intro 32 [] Tryd.func8 (by kernel_rfl) rfl rfl (by kernel_rfl) fun ι0 w0 hk0 => ?_
 revert h
 refine bif_e (fun c1 => ?_) (fun c1 => ?_)
 ·refine bif_e (fun c2 => ?_) (fun c2 => ?_)
  ·refine bif_e (fun c3 => ?_) (fun c3 => ?_)
   ·refine go 19 ?_
    refine grs ?_
    refine gr_run ?_
    refine bind_e (fun v2 e2 => gr_call [] (laws_eqPatNodeS.con e2) ?_)
    clear e2
    refine gr_run ?_
    refine gr_done ?_
    refine bif_e (fun c4 => ?_) (fun c4 => ?_)
    ·refine go 4 ?_
     refine grs ?_
     refine gr_run ?_
     refine bind_e (fun v3 e3 => gr_call [] (laws_eqPatEdgeS.con e3) ?_)
     clear e3
     refine gr_run ?_
     refine gr_done ?_
     refine bif_e (fun c5 => ?_) (fun c5 => ?_)
     ·refine go 4 ?_
      refine ret_e (fun hr_ => ?_)
      subst hr_
      exact ret_ Tryd.func8 []
     ·refine go 3 ?_
      refine ret_e (fun hr_ => ?_)
      subst hr_
      exact ret_ Tryd.func8 []
    ·refine go 3 ?_
     refine ret_e (fun hr_ => ?_)
     subst hr_
     exact ret_ Tryd.func8 []
   ·refine go 18 ?_
    refine ret_e (fun hr_ => ?_)
    subst hr_
    exact ret_ Tryd.func8 []
  ·refine go 13 ?_
   refine ret_e (fun hr_ => ?_)
   subst hr_
   exact ret_ Tryd.func8 []
 ·refine go 8 ?_
  refine ret_e (fun hr_ => ?_)
  subst hr_
  exact ret_ Tryd.func8 []
def laws_FnExactShowPattern.f (k : Nat) (v0 : S24) : Option (Bool) := ((laws_szPattern.f k v0 1048576).bind fun v1 => (bif decide (v1 < 0) then (some true) else ((laws_toPattern.f k v0).bind fun v2 => ((spec_ShowPattern.f k v2).bind fun v3 => ((laws_toPattern.f k v0).bind fun v4 => ((impl_ShowPattern.f k v4).bind fun v5 => (bif decide (v5 = v3) then ((laws_toPattern.f k v0).bind fun v6 => ((laws_eqPattern.f k v4 v6).bind fun v7 => (bif v7 then (some true) else (some false)))) else (some false))))))))
set_option maxRecDepth 100000 in
set_option maxHeartbeats 4000000 in
theorem laws_FnExactShowPattern.con {K : Kn} [KOk K] {k : Nat} {v0 : S24} {r : Bool} (h : laws_FnExactShowPattern.f k v0 = some r) : Con K Tryd.prog 3 [.agg [.p (.str v0.f0), .p (.int .i64 v0.f1), .p (.bool v0.f2), .p (.lst false (List.map en45 v0.f3)), .p (.lst false (List.map en49 v0.f4))]] [] (.p (.bool r)) [] := by
 rw [laws_FnExactShowPattern.f] at h
 refine con_intro 27 [] Tryd.func3 (by kernel_rfl) rfl rfl (by kernel_rfl) fun ι0 w0 hk0 => ?_
 revert h
 refine go 5 ?_
 refine grs ?_
 refine gr_run ?_
 refine bind_e (fun v1 e1 => gr_call [] (laws_szPattern.con e1) ?_)
 clear e1
 refine gr_run ?_
 refine gr_done ?_
 refine bif_e (fun c1 => ?_) (fun c1 => ?_)
 ·refine go 6 ?_
  refine ret_e (fun hr_ => ?_)
  subst hr_
  exact ret_ Tryd.func3 []
 ·refine go 6 ?_
  refine grs ?_
  refine gr_run ?_
  refine bind_e (fun v2 e2 => gr_call [] (laws_toPattern.con e2) ?_)
  clear e2
  refine bind_e (fun v3 e3 => gr_call [] (spec_ShowPattern.con e3) ?_)
  clear e3
  refine gr_run ?_
  refine gr_done ?_
  refine go 1 ?_
  refine grs ?_
  refine gr_run ?_
  refine bind_e (fun v4 e4 => gr_call [] (laws_toPattern.con e4) ?_)
  clear e4
  refine gr_run ?_
  refine gr_done ?_
  refine go 1 ?_
  refine grs ?_
  refine gr_run ?_
  refine bind_e (fun v5 e5 => gr_call [] (impl_ShowPattern.con e5) ?_)
  clear e5
  refine gr_run ?_
  refine gr_done ?_
  refine bif_e (fun c2 => ?_) (fun c2 => ?_)
  ·refine go 7 ?_
   refine grs ?_
   refine gr_run ?_
   refine bind_e (fun v6 e6 => gr_call [] (laws_toPattern.con e6) ?_)
   clear e6
   refine bind_e (fun v7 e7 => gr_call [] (laws_eqPattern.con e7) ?_)
   clear e7
   refine gr_run ?_
   refine gr_done ?_
   refine bif_e (fun c3 => ?_) (fun c3 => ?_)
   ·refine go 4 ?_
    refine ret_e (fun hr_ => ?_)
    subst hr_
    exact ret_ Tryd.func3 []
   ·refine go 3 ?_
    refine ret_e (fun hr_ => ?_)
    subst hr_
    exact ret_ Tryd.func3 []
  ·refine go 6 ?_
   refine ret_e (fun hr_ => ?_)
   subst hr_
   exact ret_ Tryd.func3 []
end Go.Ab
