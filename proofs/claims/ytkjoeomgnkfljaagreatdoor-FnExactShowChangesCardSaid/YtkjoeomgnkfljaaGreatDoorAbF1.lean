/- What the functions compute, and their contracts, part 1. No condition beyond KOk. -/
import Derived.Test.YtkjoeomgnkfljaaGreatDoorAbX
import Derived.Test.YtkjoeomgnkfljaaGreatDoorAbF4
import Derived.Test.YtkjoeomgnkfljaaGreatDoorAbF7
namespace Go.Ab
open Go.Proofs
set_option linter.unusedVariables false
set_option linter.unusedSimpArgs false
mutual
def laws_szStringS.l0 : Nat → (List ByteArray) → Int → Int → Option (Int)
 | 0, _, _, _ => none
 | k + 1, v0, v2, v3 => (bif decide (v3 < (v0.length : Int)) then ((ix v0 v3).bind fun v4 => (bif decide ((IntKind.i64.wrap (v2 - (v4.size : Int))) < 0) then (some (-1)) else (laws_szStringS.l0 k v0 (IntKind.i64.wrap (v2 - (v4.size : Int))) (IntKind.i64.wrap (v3 + 1))))) else (some v2))
def laws_szStringS.f : Nat → (List ByteArray) → Int → Option (Int)
 | 0, _, _ => none
 | k + 1, v0, v1 => (bif decide ((IntKind.i64.wrap (v1 - (v0.length : Int))) < 0) then (some (-1)) else (laws_szStringS.l0 k v0 (IntKind.i64.wrap (v1 - (v0.length : Int))) 0))
end
set_option maxRecDepth 100000 in
set_option maxHeartbeats 4000000 in
theorem laws_szStringS.con {K : Kn} [KOk K] {k : Nat} {v0 : (List ByteArray)} {v1 : Int} {r : Int} (h : laws_szStringS.f k v0 v1 = some r) : Con K Tryz.prog 162 [.p (.lst false (List.map srw v0)), .p (.int .i64 v1)] [] (.p (.int .i64 r)) [] := by
 cases k with
 | zero => exact absurd h (by simp [laws_szStringS.f])
 | succ k =>
 rw [laws_szStringS.f] at h
 refine con_intro 28 [] Tryz.func162 (by kernel_rfl) rfl rfl (by kernel_rfl) fun ι0 w0 hk0 => ?_
 revert h
 refine bif_e (fun c1 => ?_) (fun c1 => ?_)
 ·refine go 10 ?_
  refine ret_e (fun hr_ => ?_)
  subst hr_
  exact ret_ Tryz.func162 []
 ·refine go 13 ?_
  refine fun h => good_loop (fun n st => n ≤ k ∧ ∃ (v2 : _) (v3 : _), st = ⟨[(0, .p (.lst false (List.map srw v0))), (1, .p (.int .i64 v2)), (5, .p (.int .i64 v3))], []⟩ ∧ laws_szStringS.l0 n v0 v2 v3 = some r) k ⟨_, ⟨Nat.le_refl _, _, _, rfl, h⟩, frle_, memle_⟩ ?_
  clear c1
  clear h
  rintro n _ ⟨hkl0, v2, v3, rfl, h⟩ hl0
  cases n with
  | zero => exact absurd h (by simp [laws_szStringS.l0])
  | succ kl0 =>
  rw [laws_szStringS.l0] at h
  revert h
  refine bif_e (fun c2 => ?_) (fun c2 => ?_)
  ·refine bind_e (fun v4 e4 => ?_)
   replace e4 := nf_ (ix_en srw e4)
   refine bif_e (fun c3 => ?_) (fun c3 => ?_)
   ·refine go 14 ?_
    refine ret_e (fun hr_ => ?_)
    subst hr_
    exact ret_ Tryz.func162 []
   ·refine go 15 ?_
    exact fun h => good_again hl0 (by omega) ⟨_, ⟨by omega, _, _, rfl, h⟩, frle_, memle_⟩
  ·refine go 7 ?_
   refine ret_e (fun hr_ => ?_)
   subst hr_
   exact ret_ Tryz.func162 []
def laws_szField.f (k : Nat) (v0 : S193) (v1 : Int) : Option (Int) := (bif decide ((IntKind.i64.wrap (v1 - (v0.f0.size : Int))) < 0) then (some (-1)) else (bif decide ((IntKind.i64.wrap ((IntKind.i64.wrap (v1 - (v0.f0.size : Int))) - (v0.f1.size : Int))) < 0) then (some (-1)) else (some (IntKind.i64.wrap ((IntKind.i64.wrap (v1 - (v0.f0.size : Int))) - (v0.f1.size : Int))))))
set_option maxRecDepth 100000 in
set_option maxHeartbeats 4000000 in
theorem laws_szField.con {K : Kn} [KOk K] {k : Nat} {v0 : S193} {v1 : Int} {r : Int} (h : laws_szField.f k v0 v1 = some r) : Con K Tryz.prog 206 [.agg [.p (.str v0.f0), .p (.str v0.f1)], .p (.int .i64 v1)] [] (.p (.int .i64 r)) [] := by
 rw [laws_szField.f] at h
 refine con_intro 20 [] Tryz.func206 (by kernel_rfl) rfl rfl (by kernel_rfl) fun ι0 w0 hk0 => ?_
 revert h
 refine bif_e (fun c1 => ?_) (fun c1 => ?_)
 ·refine go 10 ?_
  refine ret_e (fun hr_ => ?_)
  subst hr_
  exact ret_ Tryz.func206 []
 ·refine bif_e (fun c2 => ?_) (fun c2 => ?_)
  ·refine go 17 ?_
   refine ret_e (fun hr_ => ?_)
   subst hr_
   exact ret_ Tryz.func206 []
  ·refine go 18 ?_
   refine ret_e (fun hr_ => ?_)
   subst hr_
   exact ret_ Tryz.func206 []
mutual
def laws_szFieldS.l0 : Nat → (List S193) → Int → Int → Option (Int)
 | 0, _, _, _ => none
 | k + 1, v0, v2, v3 => (bif decide (v3 < (v0.length : Int)) then ((ix v0 v3).bind fun v4 => ((laws_szField.f k v4 v2).bind fun v5 => (bif decide (v5 < 0) then (some (-1)) else (laws_szFieldS.l0 k v0 v5 (IntKind.i64.wrap (v3 + 1)))))) else (some v2))
def laws_szFieldS.f : Nat → (List S193) → Int → Option (Int)
 | 0, _, _ => none
 | k + 1, v0, v1 => (bif decide ((IntKind.i64.wrap (v1 - (v0.length : Int))) < 0) then (some (-1)) else (laws_szFieldS.l0 k v0 (IntKind.i64.wrap (v1 - (v0.length : Int))) 0))
end
set_option maxRecDepth 100000 in
set_option maxHeartbeats 4000000 in
theorem laws_szFieldS.con {K : Kn} [KOk K] {k : Nat} {v0 : (List S193)} {v1 : Int} {r : Int} (h : laws_szFieldS.f k v0 v1 = some r) : Con K Tryz.prog 163 [.p (.lst false (List.map en193 v0)), .p (.int .i64 v1)] [] (.p (.int .i64 r)) [] := by
 cases k with
 | zero => exact absurd h (by simp [laws_szFieldS.f])
 | succ k =>
 rw [laws_szFieldS.f] at h
 refine con_intro 27 [] Tryz.func163 (by kernel_rfl) rfl rfl (by kernel_rfl) fun ι0 w0 hk0 => ?_
 revert h
 refine bif_e (fun c1 => ?_) (fun c1 => ?_)
 ·refine go 10 ?_
  refine ret_e (fun hr_ => ?_)
  subst hr_
  exact ret_ Tryz.func163 []
 ·refine go 13 ?_
  refine fun h => good_loop (fun n st => n ≤ k ∧ ∃ (v2 : _) (v3 : _), st = ⟨[(0, .p (.lst false (List.map en193 v0))), (1, .p (.int .i64 v2)), (5, .p (.int .i64 v3))], []⟩ ∧ laws_szFieldS.l0 n v0 v2 v3 = some r) k ⟨_, ⟨Nat.le_refl _, _, _, rfl, h⟩, frle_, memle_⟩ ?_
  clear c1
  clear h
  rintro n _ ⟨hkl0, v2, v3, rfl, h⟩ hl0
  cases n with
  | zero => exact absurd h (by simp [laws_szFieldS.l0])
  | succ kl0 =>
  rw [laws_szFieldS.l0] at h
  revert h
  refine bif_e (fun c2 => ?_) (fun c2 => ?_)
  ·refine bind_e (fun v4 e4 => ?_)
   replace e4 := nf_ (ix_en en193 e4)
   refine go 8 ?_
   refine grs ?_
   refine gr_run ?_
   refine bind_e (fun v5 e5 => gr_call [] (laws_szField.con e5) ?_)
   clear e5
   refine gr_run ?_
   refine gr_done ?_
   refine bif_e (fun c3 => ?_) (fun c3 => ?_)
   ·refine go 5 ?_
    refine ret_e (fun hr_ => ?_)
    subst hr_
    exact ret_ Tryz.func163 []
   ·refine go 6 ?_
    exact fun h => good_again hl0 (by omega) ⟨_, ⟨by omega, _, _, rfl, h⟩, frle_, memle_⟩
  ·refine go 7 ?_
   refine ret_e (fun hr_ => ?_)
   subst hr_
   exact ret_ Tryz.func163 []
def laws_szNode.f (k : Nat) (v0 : S137) (v1 : Int) : Option (Int) := ((laws_szStringS.f k v0.f1 v1).bind fun v2 => (bif decide (v2 < 0) then (some (-1)) else ((laws_szFieldS.f k v0.f2 v2).bind fun v3 => (bif decide (v3 < 0) then (some (-1)) else (some v3)))))
set_option maxRecDepth 100000 in
set_option maxHeartbeats 4000000 in
theorem laws_szNode.con {K : Kn} [KOk K] {k : Nat} {v0 : S137} {v1 : Int} {r : Int} (h : laws_szNode.f k v0 v1 = some r) : Con K Tryz.prog 108 [.agg [.p (.int .i64 v0.f0), .p (.lst false (List.map srw v0.f1)), .p (.lst false (List.map en193 v0.f2))], .p (.int .i64 v1)] [] (.p (.int .i64 r)) [] := by
 rw [laws_szNode.f] at h
 refine con_intro 18 [] Tryz.func108 (by kernel_rfl) rfl rfl (by kernel_rfl) fun ι0 w0 hk0 => ?_
 revert h
 refine go 3 ?_
 refine grs ?_
 refine gr_run ?_
 refine bind_e (fun v2 e2 => gr_call [] (laws_szStringS.con e2) ?_)
 clear e2
 refine gr_run ?_
 refine gr_done ?_
 refine bif_e (fun c1 => ?_) (fun c1 => ?_)
 ·refine go 6 ?_
  refine ret_e (fun hr_ => ?_)
  subst hr_
  exact ret_ Tryz.func108 []
 ·refine go 6 ?_
  refine grs ?_
  refine gr_run ?_
  refine bind_e (fun v3 e3 => gr_call [] (laws_szFieldS.con e3) ?_)
  clear e3
  refine gr_run ?_
  refine gr_done ?_
  refine bif_e (fun c2 => ?_) (fun c2 => ?_)
  ·refine go 6 ?_
   refine ret_e (fun hr_ => ?_)
   subst hr_
   exact ret_ Tryz.func108 []
  ·refine go 7 ?_
   refine ret_e (fun hr_ => ?_)
   subst hr_
   exact ret_ Tryz.func108 []
def laws_szEdge.f (k : Nat) (v0 : S139) (v1 : Int) : Option (Int) := (bif decide ((IntKind.i64.wrap (v1 - (v0.f1.size : Int))) < 0) then (some (-1)) else ((laws_szFieldS.f k v0.f4 (IntKind.i64.wrap (v1 - (v0.f1.size : Int)))).bind fun v2 => (bif decide (v2 < 0) then (some (-1)) else (some v2))))
set_option maxRecDepth 100000 in
set_option maxHeartbeats 4000000 in
theorem laws_szEdge.con {K : Kn} [KOk K] {k : Nat} {v0 : S139} {v1 : Int} {r : Int} (h : laws_szEdge.f k v0 v1 = some r) : Con K Tryz.prog 109 [.agg [.p (.int .i64 v0.f0), .p (.str v0.f1), .p (.int .i64 v0.f2), .p (.int .i64 v0.f3), .p (.lst false (List.map en193 v0.f4))], .p (.int .i64 v1)] [] (.p (.int .i64 r)) [] := by
 rw [laws_szEdge.f] at h
 refine con_intro 19 [] Tryz.func109 (by kernel_rfl) rfl rfl (by kernel_rfl) fun ι0 w0 hk0 => ?_
 revert h
 refine bif_e (fun c1 => ?_) (fun c1 => ?_)
 ·refine go 10 ?_
  refine ret_e (fun hr_ => ?_)
  subst hr_
  exact ret_ Tryz.func109 []
 ·refine go 10 ?_
  refine grs ?_
  refine gr_run ?_
  refine bind_e (fun v2 e2 => gr_call [] (laws_szFieldS.con e2) ?_)
  clear e2
  refine gr_run ?_
  refine gr_done ?_
  refine bif_e (fun c2 => ?_) (fun c2 => ?_)
  ·refine go 6 ?_
   refine ret_e (fun hr_ => ?_)
   subst hr_
   exact ret_ Tryz.func109 []
  ·refine go 7 ?_
   refine ret_e (fun hr_ => ?_)
   subst hr_
   exact ret_ Tryz.func109 []
def laws_szChange.f (k : Nat) (v0 : S141) (v1 : Int) : Option (Int) := ((laws_szNode.f k v0.f1 v1).bind fun v2 => (bif decide (v2 < 0) then (some (-1)) else ((laws_szEdge.f k v0.f2 v2).bind fun v3 => (bif decide (v3 < 0) then (some (-1)) else (bif decide ((IntKind.i64.wrap (v3 - (v0.f3.size : Int))) < 0) then (some (-1)) else (bif decide ((IntKind.i64.wrap ((IntKind.i64.wrap (v3 - (v0.f3.size : Int))) - (v0.f4.size : Int))) < 0) then (some (-1)) else (bif decide ((IntKind.i64.wrap ((IntKind.i64.wrap ((IntKind.i64.wrap (v3 - (v0.f3.size : Int))) - (v0.f4.size : Int))) - (v0.f5.size : Int))) < 0) then (some (-1)) else (some (IntKind.i64.wrap ((IntKind.i64.wrap ((IntKind.i64.wrap (v3 - (v0.f3.size : Int))) - (v0.f4.size : Int))) - (v0.f5.size : Int)))))))))))
set_option maxRecDepth 100000 in
set_option maxHeartbeats 4000000 in
theorem laws_szChange.con {K : Kn} [KOk K] {k : Nat} {v0 : S141} {v1 : Int} {r : Int} (h : laws_szChange.f k v0 v1 = some r) : Con K Tryz.prog 85 [.agg [.p (.int .i64 v0.f0), .p (.int .i64 v0.f1.f0), .p (.lst false (List.map srw v0.f1.f1)), .p (.lst false (List.map en193 v0.f1.f2)), .p (.int .i64 v0.f2.f0), .p (.str v0.f2.f1), .p (.int .i64 v0.f2.f2), .p (.int .i64 v0.f2.f3), .p (.lst false (List.map en193 v0.f2.f4)), .p (.str v0.f3), .p (.str v0.f4), .p (.str v0.f5)], .p (.int .i64 v1)] [] (.p (.int .i64 r)) [] := by
 rw [laws_szChange.f] at h
 refine con_intro 39 [] Tryz.func85 (by kernel_rfl) rfl rfl (by kernel_rfl) fun ι0 w0 hk0 => ?_
 revert h
 refine go 3 ?_
 refine grs ?_
 refine gr_run ?_
 refine bind_e (fun v2 e2 => gr_call [] (laws_szNode.con e2) ?_)
 clear e2
 refine gr_run ?_
 refine gr_done ?_
 refine bif_e (fun c1 => ?_) (fun c1 => ?_)
 ·refine go 6 ?_
  refine ret_e (fun hr_ => ?_)
  subst hr_
  exact ret_ Tryz.func85 []
 ·refine go 6 ?_
  refine grs ?_
  refine gr_run ?_
  refine bind_e (fun v3 e3 => gr_call [] (laws_szEdge.con e3) ?_)
  clear e3
  refine gr_run ?_
  refine gr_done ?_
  refine bif_e (fun c2 => ?_) (fun c2 => ?_)
  ·refine go 6 ?_
   refine ret_e (fun hr_ => ?_)
   subst hr_
   exact ret_ Tryz.func85 []
  ·refine bif_e (fun c3 => ?_) (fun c3 => ?_)
   ·refine go 13 ?_
    refine ret_e (fun hr_ => ?_)
    subst hr_
    exact ret_ Tryz.func85 []
   ·refine bif_e (fun c4 => ?_) (fun c4 => ?_)
    ·refine go 20 ?_
     refine ret_e (fun hr_ => ?_)
     subst hr_
     exact ret_ Tryz.func85 []
    ·refine bif_e (fun c5 => ?_) (fun c5 => ?_)
     ·refine go 27 ?_
      refine ret_e (fun hr_ => ?_)
      subst hr_
      exact ret_ Tryz.func85 []
     ·refine go 28 ?_
      refine ret_e (fun hr_ => ?_)
      subst hr_
      exact ret_ Tryz.func85 []
mutual
def laws_szChangeS.l0 : Nat → (List S141) → Int → Int → Option (Int)
 | 0, _, _, _ => none
 | k + 1, v0, v2, v3 => (bif decide (v3 < (v0.length : Int)) then ((ix v0 v3).bind fun v4 => ((laws_szChange.f k v4 v2).bind fun v5 => (bif decide (v5 < 0) then (some (-1)) else (laws_szChangeS.l0 k v0 v5 (IntKind.i64.wrap (v3 + 1)))))) else (some v2))
def laws_szChangeS.f : Nat → (List S141) → Int → Option (Int)
 | 0, _, _ => none
 | k + 1, v0, v1 => (bif decide ((IntKind.i64.wrap (v1 - (v0.length : Int))) < 0) then (some (-1)) else (laws_szChangeS.l0 k v0 (IntKind.i64.wrap (v1 - (v0.length : Int))) 0))
end
set_option maxRecDepth 100000 in
set_option maxHeartbeats 4000000 in
theorem laws_szChangeS.con {K : Kn} [KOk K] {k : Nat} {v0 : (List S141)} {v1 : Int} {r : Int} (h : laws_szChangeS.f k v0 v1 = some r) : Con K Tryz.prog 34 [.p (.lst false (List.map en141 v0)), .p (.int .i64 v1)] [] (.p (.int .i64 r)) [] := by
 cases k with
 | zero => exact absurd h (by simp [laws_szChangeS.f])
 | succ k =>
 rw [laws_szChangeS.f] at h
 refine con_intro 27 [] Tryz.func34 (by kernel_rfl) rfl rfl (by kernel_rfl) fun ι0 w0 hk0 => ?_
 revert h
 refine bif_e (fun c1 => ?_) (fun c1 => ?_)
 ·refine go 10 ?_
  refine ret_e (fun hr_ => ?_)
  subst hr_
  exact ret_ Tryz.func34 []
 ·refine go 13 ?_
  refine fun h => good_loop (fun n st => n ≤ k ∧ ∃ (v2 : _) (v3 : _), st = ⟨[(0, .p (.lst false (List.map en141 v0))), (1, .p (.int .i64 v2)), (5, .p (.int .i64 v3))], []⟩ ∧ laws_szChangeS.l0 n v0 v2 v3 = some r) k ⟨_, ⟨Nat.le_refl _, _, _, rfl, h⟩, frle_, memle_⟩ ?_
  clear c1
  clear h
  rintro n _ ⟨hkl0, v2, v3, rfl, h⟩ hl0
  cases n with
  | zero => exact absurd h (by simp [laws_szChangeS.l0])
  | succ kl0 =>
  rw [laws_szChangeS.l0] at h
  revert h
  refine bif_e (fun c2 => ?_) (fun c2 => ?_)
  ·refine bind_e (fun v4 e4 => ?_)
   replace e4 := nf_ (ix_en en141 e4)
   refine go 8 ?_
   refine grs ?_
   refine gr_run ?_
   refine bind_e (fun v5 e5 => gr_call [] (laws_szChange.con e5) ?_)
   clear e5
   refine gr_run ?_
   refine gr_done ?_
   refine bif_e (fun c3 => ?_) (fun c3 => ?_)
   ·refine go 5 ?_
    refine ret_e (fun hr_ => ?_)
    subst hr_
    exact ret_ Tryz.func34 []
   ·refine go 6 ?_
    exact fun h => good_again hl0 (by omega) ⟨_, ⟨by omega, _, _, rfl, h⟩, frle_, memle_⟩
  ·refine go 7 ?_
   refine ret_e (fun hr_ => ?_)
   subst hr_
   exact ret_ Tryz.func34 []
mutual
def laws_toStringS.l0 : Nat → (List ByteArray) → (List ByteArray) → Int → (List ByteArray) → Option ((List ByteArray))
 | 0, _, _, _, _ => none
 | k + 1, v0, v1, v2, v3 => (bif decide (v2 < (v0.length : Int)) then ((ix v0 v2).bind fun v4 => ((inr v2 v1.length).bind fun v5 => ((v3[(Int.toNat v2)]?).bind fun v6 => (laws_toStringS.l0 k v0 v1 (IntKind.i64.wrap (v2 + 1)) (setr v3 (Int.toNat v2) v4))))) else (some (List.take v1.length v3)))
def laws_toStringS.f : Nat → (List ByteArray) → Option ((List ByteArray))
 | 0, _ => none
 | k + 1, v0 => ((mks (⟨#[]⟩ : ByteArray) (v0.length : Int) (v0.length : Int)).bind fun v1 => (laws_toStringS.l0 k v0 v1 0 v1))
end
set_option maxRecDepth 100000 in
set_option maxHeartbeats 4000000 in
theorem laws_toStringS.con {K : Kn} [KOk K] {k : Nat} {v0 : (List ByteArray)} {r : (List ByteArray)} (h : laws_toStringS.f k v0 = some r) : Con K Tryz.prog 167 [.p (.lst false (List.map srw v0))] [] (.nw (.lst false (List.map srw r))) [] := by
 cases k with
 | zero => exact absurd h (by simp [laws_toStringS.f])
 | succ k =>
 rw [laws_toStringS.f] at h
 refine con_intro 22 [7] Tryz.func167 (by kernel_rfl) rfl rfl (by kernel_rfl) fun ι0 w0 hk0 => ?_
 revert h
 refine bind_e (fun v1 e1 => ?_)
 replace e1 := nf_ (mks_en srw e1)
 refine go 8 ?_
 refine fun h => good_loop (fun n st => n ≤ k ∧ ∃ (v2 : _) (v3 : _), st = ⟨[(0, .p (.lst false (List.map srw v0))), (3, .buf 7 1 0 v1.length), (4, .p (.int .i64 v2))], [(7, (1, .bufn 1 (List.map srw v3)))]⟩ ∧ laws_toStringS.l0 n v0 v1 v2 v3 = some r) k ⟨_, ⟨Nat.le_refl _, _, _, rfl, h⟩, frle_, memle_⟩ ?_
 clear e1
 clear h
 rintro n _ ⟨hkl0, v2, v3, rfl, h⟩ hl0
 cases n with
 | zero => exact absurd h (by simp [laws_toStringS.l0])
 | succ kl0 =>
 rw [laws_toStringS.l0] at h
 revert h
 refine bif_e (fun c1 => ?_) (fun c1 => ?_)
 ·refine bind_e (fun v4 e4 => ?_)
  replace e4 := nf_ (ix_en srw e4)
  refine bind_e (fun v5 e5 => ?_)
  refine bind_e (fun v6 e6 => ?_)
  replace e6 := nf_ (gx_en srw e6)
  refine go 10 ?_
  exact fun h => good_again hl0 (by omega) ⟨_, ⟨by omega, _, _, rfl, h⟩, frle_, memle_⟩
 ·refine go 7 ?_
  refine freezeN_ 2 ?_
  refine ret_e (fun hr_ => ?_)
  subst hr_
  exact ret_ Tryz.func167 []
def laws_toField.f (k : Nat) (v0 : S193) : Option (S193) := (some v0)
set_option maxRecDepth 100000 in
set_option maxHeartbeats 4000000 in
theorem laws_toField.con {K : Kn} [KOk K] {k : Nat} {v0 : S193} {r : S193} (h : laws_toField.f k v0 = some r) : Con K Tryz.prog 207 [.agg [.p (.str v0.f0), .p (.str v0.f1)]] [] (.agg [.p (.str r.f0), .p (.str r.f1)]) [] := by
 rw [laws_toField.f] at h
 refine con_intro 11 [] Tryz.func207 (by kernel_rfl) rfl rfl (by kernel_rfl) fun ι0 w0 hk0 => ?_
 revert h
 refine go 10 ?_
 refine ret_e (fun hr_ => ?_)
 subst hr_
 exact ret_ Tryz.func207 []
mutual
def laws_toFieldS.l0 : Nat → (List S193) → (List S193) → Int → (List S193) → Option ((List S193))
 | 0, _, _, _, _ => none
 | k + 1, v0, v1, v2, v3 => (bif decide (v2 < (v0.length : Int)) then ((ix v0 v2).bind fun v4 => ((laws_toField.f k v4).bind fun v5 => ((inr v2 v1.length).bind fun v6 => ((v3[(Int.toNat v2)]?).bind fun v7 => (laws_toFieldS.l0 k v0 v1 (IntKind.i64.wrap (v2 + 1)) (setr v3 (Int.toNat v2) v5)))))) else (some (List.take v1.length v3)))
def laws_toFieldS.f : Nat → (List S193) → Option ((List S193))
 | 0, _ => none
 | k + 1, v0 => ((mks (⟨(⟨#[]⟩ : ByteArray), (⟨#[]⟩ : ByteArray)⟩ : S193) (v0.length : Int) (v0.length : Int)).bind fun v1 => (laws_toFieldS.l0 k v0 v1 0 v1))
end
set_option maxRecDepth 100000 in
set_option maxHeartbeats 4000000 in
theorem laws_toFieldS.con {K : Kn} [KOk K] {k : Nat} {v0 : (List S193)} {r : (List S193)} (h : laws_toFieldS.f k v0 = some r) : Con K Tryz.prog 168 [.p (.lst false (List.map en193 v0))] [] (.nw (.lst false (List.map en193 r))) [] := by
 cases k with
 | zero => exact absurd h (by simp [laws_toFieldS.f])
 | succ k =>
 rw [laws_toFieldS.f] at h
 refine con_intro 23 [7] Tryz.func168 (by kernel_rfl) rfl rfl (by kernel_rfl) fun ι0 w0 hk0 => ?_
 revert h
 refine bind_e (fun v1 e1 => ?_)
 replace e1 := nf_ (mks_en en193 e1)
 refine go 8 ?_
 refine fun h => good_loop (fun n st => n ≤ k ∧ ∃ (v2 : _) (v3 : _), st = ⟨[(0, .p (.lst false (List.map en193 v0))), (3, .buf 7 1 0 v1.length), (4, .p (.int .i64 v2))], [(7, (1, .bufn 2 (List.map en193 v3)))]⟩ ∧ laws_toFieldS.l0 n v0 v1 v2 v3 = some r) k ⟨_, ⟨Nat.le_refl _, _, _, rfl, h⟩, frle_, memle_⟩ ?_
 clear e1
 clear h
 rintro n _ ⟨hkl0, v2, v3, rfl, h⟩ hl0
 cases n with
 | zero => exact absurd h (by simp [laws_toFieldS.l0])
 | succ kl0 =>
 rw [laws_toFieldS.l0] at h
 revert h
 refine bif_e (fun c1 => ?_) (fun c1 => ?_)
 ·refine bind_e (fun v4 e4 => ?_)
  replace e4 := nf_ (ix_en en193 e4)
  refine go 7 ?_
  refine grs ?_
  refine gr_run ?_
  refine bind_e (fun v5 e5 => gr_call [] (laws_toField.con e5) ?_)
  clear e5
  refine bind_e (fun v6 e6 => ?_)
  refine bind_e (fun v7 e7 => ?_)
  replace e7 := nf_ (gx_en en193 e7)
  refine gr_run ?_
  refine gr_done ?_
  refine go 2 ?_
  exact fun h => good_again hl0 (by omega) ⟨_, ⟨by omega, _, _, rfl, h⟩, frle_, memle_⟩
 ·refine go 7 ?_
  refine freezeN_ 2 ?_
  refine ret_e (fun hr_ => ?_)
  subst hr_
  exact ret_ Tryz.func168 []
def laws_toNode.f (k : Nat) (v0 : S137) : Option (S94) := ((laws_toStringS.f k v0.f1).bind fun v1 => ((laws_toFieldS.f k v0.f2).bind fun v2 => (some (⟨v0.f0, v1, v2⟩ : S94))))
set_option maxRecDepth 100000 in
set_option maxHeartbeats 4000000 in
theorem laws_toNode.con {K : Kn} [KOk K] {k : Nat} {v0 : S137} {r : S94} (h : laws_toNode.f k v0 = some r) : Con K Tryz.prog 112 [.agg [.p (.int .i64 v0.f0), .p (.lst false (List.map srw v0.f1)), .p (.lst false (List.map en193 v0.f2))]] [] (.agg [.p (.int .i64 r.f0), .nw (.lst false (List.map srw r.f1)), .nw (.lst false (List.map en193 r.f2))]) [] := by
 rw [laws_toNode.f] at h
 refine con_intro 16 [] Tryz.func112 (by kernel_rfl) rfl rfl (by kernel_rfl) fun ι0 w0 hk0 => ?_
 revert h
 refine go 7 ?_
 refine grs ?_
 refine gr_run ?_
 refine bind_e (fun v1 e1 => gr_call [] (laws_toStringS.con e1) ?_)
 clear e1
 refine gr_run ?_
 refine gr_done ?_
 refine go 1 ?_
 refine grs ?_
 refine gr_run ?_
 refine bind_e (fun v2 e2 => gr_call [] (laws_toFieldS.con e2) ?_)
 clear e2
 refine gr_run ?_
 refine gr_done ?_
 refine go 2 ?_
 refine ret_e (fun hr_ => ?_)
 subst hr_
 exact ret_ Tryz.func112 []
def laws_toEdge.f (k : Nat) (v0 : S139) : Option (S110) := ((laws_toFieldS.f k v0.f4).bind fun v1 => (some (⟨v0.f0, v0.f1, v0.f2, v0.f3, v1⟩ : S110)))
set_option maxRecDepth 100000 in
set_option maxHeartbeats 4000000 in
theorem laws_toEdge.con {K : Kn} [KOk K] {k : Nat} {v0 : S139} {r : S110} (h : laws_toEdge.f k v0 = some r) : Con K Tryz.prog 113 [.agg [.p (.int .i64 v0.f0), .p (.str v0.f1), .p (.int .i64 v0.f2), .p (.int .i64 v0.f3), .p (.lst false (List.map en193 v0.f4))]] [] (.agg [.p (.int .i64 r.f0), .p (.str r.f1), .p (.int .i64 r.f2), .p (.int .i64 r.f3), .nw (.lst false (List.map en193 r.f4))]) [] := by
 rw [laws_toEdge.f] at h
 refine con_intro 21 [] Tryz.func113 (by kernel_rfl) rfl rfl (by kernel_rfl) fun ι0 w0 hk0 => ?_
 revert h
 refine go 13 ?_
 refine grs ?_
 refine gr_run ?_
 refine bind_e (fun v1 e1 => gr_call [] (laws_toFieldS.con e1) ?_)
 clear e1
 refine gr_run ?_
 refine gr_done ?_
 refine go 2 ?_
 refine ret_e (fun hr_ => ?_)
 subst hr_
 exact ret_ Tryz.func113 []
def laws_toChange.f (k : Nat) (v0 : S141) : Option (S145) := ((laws_toNode.f k v0.f1).bind fun v1 => ((laws_toEdge.f k v0.f2).bind fun v2 => (some (⟨v0.f0, v1, v2, v0.f3, v0.f4, v0.f5⟩ : S145))))
set_option maxRecDepth 100000 in
set_option maxHeartbeats 4000000 in
theorem laws_toChange.con {K : Kn} [KOk K] {k : Nat} {v0 : S141} {r : S145} (h : laws_toChange.f k v0 = some r) : Con K Tryz.prog 87 [.agg [.p (.int .i64 v0.f0), .p (.int .i64 v0.f1.f0), .p (.lst false (List.map srw v0.f1.f1)), .p (.lst false (List.map en193 v0.f1.f2)), .p (.int .i64 v0.f2.f0), .p (.str v0.f2.f1), .p (.int .i64 v0.f2.f2), .p (.int .i64 v0.f2.f3), .p (.lst false (List.map en193 v0.f2.f4)), .p (.str v0.f3), .p (.str v0.f4), .p (.str v0.f5)]] [] (.agg [.p (.int .i64 r.f0), .p (.int .i64 r.f1.f0), .nw (.lst false (List.map srw r.f1.f1)), .nw (.lst false (List.map en193 r.f1.f2)), .p (.int .i64 r.f2.f0), .p (.str r.f2.f1), .p (.int .i64 r.f2.f2), .p (.int .i64 r.f2.f3), .nw (.lst false (List.map en193 r.f2.f4)), .p (.str r.f3), .p (.str r.f4), .p (.str r.f5)]) [] := by
 rw [laws_toChange.f] at h
 refine con_intro 25 [] Tryz.func87 (by kernel_rfl) rfl rfl (by kernel_rfl) fun ι0 w0 hk0 => ?_
 revert h
 refine go 7 ?_
 refine grs ?_
 refine gr_run ?_
 refine bind_e (fun v1 e1 => gr_call [] (laws_toNode.con e1) ?_)
 clear e1
 refine gr_run ?_
 refine gr_done ?_
 refine go 1 ?_
 refine grs ?_
 refine gr_run ?_
 refine bind_e (fun v2 e2 => gr_call [] (laws_toEdge.con e2) ?_)
 clear e2
 refine gr_run ?_
 refine gr_done ?_
 refine go 8 ?_
 refine ret_e (fun hr_ => ?_)
 subst hr_
 exact ret_ Tryz.func87 []
mutual
def laws_toChangeS.l0 : Nat → (List S141) → (List S145) → Int → (List S145) → Option ((List S145))
 | 0, _, _, _, _ => none
 | k + 1, v0, v1, v2, v3 => (bif decide (v2 < (v0.length : Int)) then ((ix v0 v2).bind fun v4 => ((laws_toChange.f k v4).bind fun v5 => ((inr v2 v1.length).bind fun v6 => ((v3[(Int.toNat v2)]?).bind fun v7 => (laws_toChangeS.l0 k v0 v1 (IntKind.i64.wrap (v2 + 1)) (setr v3 (Int.toNat v2) v5)))))) else (some (List.take v1.length v3)))
def laws_toChangeS.f : Nat → (List S141) → Option ((List S145))
 | 0, _ => none
 | k + 1, v0 => ((mks (⟨0, (⟨0, ([] : (List ByteArray)), ([] : (List S193))⟩ : S94), (⟨0, (⟨#[]⟩ : ByteArray), 0, 0, ([] : (List S193))⟩ : S110), (⟨#[]⟩ : ByteArray), (⟨#[]⟩ : ByteArray), (⟨#[]⟩ : ByteArray)⟩ : S145) (v0.length : Int) (v0.length : Int)).bind fun v1 => (laws_toChangeS.l0 k v0 v1 0 v1))
end
set_option maxRecDepth 100000 in
set_option maxHeartbeats 4000000 in
theorem laws_toChangeS.con {K : Kn} [KOk K] {k : Nat} {v0 : (List S141)} {r : (List S145)} (h : laws_toChangeS.f k v0 = some r) : Con K Tryz.prog 36 [.p (.lst false (List.map en141 v0))] [] (.nw (.lst false (List.map en145 r))) [] := by
 cases k with
 | zero => exact absurd h (by simp [laws_toChangeS.f])
 | succ k =>
 rw [laws_toChangeS.f] at h
 refine con_intro 23 [7] Tryz.func36 (by kernel_rfl) rfl rfl (by kernel_rfl) fun ι0 w0 hk0 => ?_
 revert h
 refine bind_e (fun v1 e1 => ?_)
 replace e1 := nf_ (mks_en en145 e1)
 refine go 8 ?_
 refine fun h => good_loop (fun n st => n ≤ k ∧ ∃ (v2 : _) (v3 : _), st = ⟨[(0, .p (.lst false (List.map en141 v0))), (3, .buf 7 1 0 v1.length), (4, .p (.int .i64 v2))], [(7, (1, .bufn 12 (List.map en145 v3)))]⟩ ∧ laws_toChangeS.l0 n v0 v1 v2 v3 = some r) k ⟨_, ⟨Nat.le_refl _, _, _, rfl, h⟩, frle_, memle_⟩ ?_
 clear e1
 clear h
 rintro n _ ⟨hkl0, v2, v3, rfl, h⟩ hl0
 cases n with
 | zero => exact absurd h (by simp [laws_toChangeS.l0])
 | succ kl0 =>
 rw [laws_toChangeS.l0] at h
 revert h
 refine bif_e (fun c1 => ?_) (fun c1 => ?_)
 ·refine bind_e (fun v4 e4 => ?_)
  replace e4 := nf_ (ix_en en141 e4)
  refine go 7 ?_
  refine grs ?_
  refine gr_run ?_
  refine bind_e (fun v5 e5 => gr_call [] (laws_toChange.con e5) ?_)
  clear e5
  refine bind_e (fun v6 e6 => ?_)
  refine bind_e (fun v7 e7 => ?_)
  replace e7 := nf_ (gx_en en145 e7)
  refine gr_run ?_
  refine gr_done ?_
  refine go 2 ?_
  exact fun h => good_again hl0 (by omega) ⟨_, ⟨by omega, _, _, rfl, h⟩, frle_, memle_⟩
 ·refine go 7 ?_
  refine freezeN_ 2 ?_
  refine ret_e (fun hr_ => ?_)
  subst hr_
  exact ret_ Tryz.func36 []
mutual
def laws_eqStringS.l0 : Nat → (List ByteArray) → (List ByteArray) → Int → Option (Bool)
 | 0, _, _, _ => none
 | k + 1, v0, v1, v2 => (bif decide (v2 < (v0.length : Int)) then ((ix v0 v2).bind fun v3 => ((ix v1 v2).bind fun v4 => (bif decide (v3 = v4) then (laws_eqStringS.l0 k v0 v1 (IntKind.i64.wrap (v2 + 1))) else (some false)))) else (some true))
def laws_eqStringS.f : Nat → (List ByteArray) → (List ByteArray) → Option (Bool)
 | 0, _, _ => none
 | k + 1, v0, v1 => (bif ((v0.length : Int) == (v1.length : Int)) then (laws_eqStringS.l0 k v0 v1 0) else (some false))
end
set_option maxRecDepth 100000 in
set_option maxHeartbeats 4000000 in
theorem laws_eqStringS.con {K : Kn} [KOk K] {k : Nat} {v0 : (List ByteArray)} {v1 : (List ByteArray)} {r : Bool} (h : laws_eqStringS.f k v0 v1 = some r) : Con K Tryz.prog 29 [.p (.lst false (List.map srw v0)), .p (.lst false (List.map srw v1))] [] (.p (.bool r)) [] := by
 cases k with
 | zero => exact absurd h (by simp [laws_eqStringS.f])
 | succ k =>
 rw [laws_eqStringS.f] at h
 refine con_intro 26 [] Tryz.func29 (by kernel_rfl) rfl rfl (by kernel_rfl) fun ι0 w0 hk0 => ?_
 revert h
 refine bif_e (fun c1 => ?_) (fun c1 => ?_)
 ·refine go 11 ?_
  refine fun h => good_loop (fun n st => n ≤ k ∧ ∃ (v2 : _), st = ⟨[(0, .p (.lst false (List.map srw v0))), (1, .p (.lst false (List.map srw v1))), (5, .p (.int .i64 v2))], []⟩ ∧ laws_eqStringS.l0 n v0 v1 v2 = some r) k ⟨_, ⟨Nat.le_refl _, _, rfl, h⟩, frle_, memle_⟩ ?_
  clear c1
  clear h
  rintro n _ ⟨hkl0, v2, rfl, h⟩ hl0
  cases n with
  | zero => exact absurd h (by simp [laws_eqStringS.l0])
  | succ kl0 =>
  rw [laws_eqStringS.l0] at h
  revert h
  refine bif_e (fun c2 => ?_) (fun c2 => ?_)
  ·refine bind_e (fun v3 e3 => ?_)
   replace e3 := nf_ (ix_en srw e3)
   refine bind_e (fun v4 e4 => ?_)
   replace e4 := nf_ (ix_en srw e4)
   refine go 8 ?_
   refine grs ?_
   refine gr_run ?_
   refine gr_done ?_
   refine bif_e (fun c3 => ?_) (fun c3 => ?_)
   ·refine go 4 ?_
    exact fun h => good_again hl0 (by omega) ⟨_, ⟨by omega, _, rfl, h⟩, frle_, memle_⟩
   ·refine go 3 ?_
    refine ret_e (fun hr_ => ?_)
    subst hr_
    exact ret_ Tryz.func29 []
  ·refine go 7 ?_
   refine ret_e (fun hr_ => ?_)
   subst hr_
   exact ret_ Tryz.func29 []
 ·refine go 8 ?_
  refine ret_e (fun hr_ => ?_)
  subst hr_
  exact ret_ Tryz.func29 []
def laws_eqField.f (k : Nat) (v0 : S193) (v1 : S193) : Option (Bool) := (bif decide (v0.f0 = v1.f0) then (bif decide (v0.f1 = v1.f1) then (some true) else (some false)) else (some false))
set_option maxRecDepth 100000 in
set_option maxHeartbeats 4000000 in
theorem laws_eqField.con {K : Kn} [KOk K] {k : Nat} {v0 : S193} {v1 : S193} {r : Bool} (h : laws_eqField.f k v0 v1 = some r) : Con K Tryz.prog 208 [.agg [.p (.str v0.f0), .p (.str v0.f1)], .agg [.p (.str v1.f0), .p (.str v1.f1)]] [] (.p (.bool r)) [] := by
 rw [laws_eqField.f] at h
 refine con_intro 15 [] Tryz.func208 (by kernel_rfl) rfl rfl (by kernel_rfl) fun ι0 w0 hk0 => ?_
 revert h
 refine bif_e (fun c1 => ?_) (fun c1 => ?_)
 ·refine bif_e (fun c2 => ?_) (fun c2 => ?_)
  ·refine go 14 ?_
   refine ret_e (fun hr_ => ?_)
   subst hr_
   exact ret_ Tryz.func208 []
  ·refine go 13 ?_
   refine ret_e (fun hr_ => ?_)
   subst hr_
   exact ret_ Tryz.func208 []
 ·refine go 8 ?_
  refine ret_e (fun hr_ => ?_)
  subst hr_
  exact ret_ Tryz.func208 []
mutual
def laws_eqFieldS.l0 : Nat → (List S193) → (List S193) → Int → Option (Bool)
 | 0, _, _, _ => none
 | k + 1, v0, v1, v2 => (bif decide (v2 < (v0.length : Int)) then ((ix v0 v2).bind fun v3 => ((ix v1 v2).bind fun v4 => ((laws_eqField.f k v3 v4).bind fun v5 => (bif v5 then (laws_eqFieldS.l0 k v0 v1 (IntKind.i64.wrap (v2 + 1))) else (some false))))) else (some true))
def laws_eqFieldS.f : Nat → (List S193) → (List S193) → Option (Bool)
 | 0, _, _ => none
 | k + 1, v0, v1 => (bif ((v0.length : Int) == (v1.length : Int)) then (laws_eqFieldS.l0 k v0 v1 0) else (some false))
end
set_option maxRecDepth 100000 in
set_option maxHeartbeats 4000000 in
theorem laws_eqFieldS.con {K : Kn} [KOk K] {k : Nat} {v0 : (List S193)} {v1 : (List S193)} {r : Bool} (h : laws_eqFieldS.f k v0 v1 = some r) : Con K Tryz.prog 171 [.p (.lst false (List.map en193 v0)), .p (.lst false (List.map en193 v1))] [] (.p (.bool r)) [] := by
 cases k with
 | zero => exact absurd h (by simp [laws_eqFieldS.f])
 | succ k =>
 rw [laws_eqFieldS.f] at h
 refine con_intro 27 [] Tryz.func171 (by kernel_rfl) rfl rfl (by kernel_rfl) fun ι0 w0 hk0 => ?_
 revert h
 refine bif_e (fun c1 => ?_) (fun c1 => ?_)
 ·refine go 11 ?_
  refine fun h => good_loop (fun n st => n ≤ k ∧ ∃ (v2 : _), st = ⟨[(0, .p (.lst false (List.map en193 v0))), (1, .p (.lst false (List.map en193 v1))), (5, .p (.int .i64 v2))], []⟩ ∧ laws_eqFieldS.l0 n v0 v1 v2 = some r) k ⟨_, ⟨Nat.le_refl _, _, rfl, h⟩, frle_, memle_⟩ ?_
  clear c1
  clear h
  rintro n _ ⟨hkl0, v2, rfl, h⟩ hl0
  cases n with
  | zero => exact absurd h (by simp [laws_eqFieldS.l0])
  | succ kl0 =>
  rw [laws_eqFieldS.l0] at h
  revert h
  refine bif_e (fun c2 => ?_) (fun c2 => ?_)
  ·refine bind_e (fun v3 e3 => ?_)
   replace e3 := nf_ (ix_en en193 e3)
   refine bind_e (fun v4 e4 => ?_)
   replace e4 := nf_ (ix_en en193 e4)
   refine go 8 ?_
   refine grs ?_
   refine gr_run ?_
   refine bind_e (fun v5 e5 => gr_call [] (laws_eqField.con e5) ?_)
   clear e5
   refine gr_run ?_
   refine gr_done ?_
   refine bif_e (fun c3 => ?_) (fun c3 => ?_)
   ·refine go 4 ?_
    exact fun h => good_again hl0 (by omega) ⟨_, ⟨by omega, _, rfl, h⟩, frle_, memle_⟩
   ·refine go 3 ?_
    refine ret_e (fun hr_ => ?_)
    subst hr_
    exact ret_ Tryz.func171 []
  ·refine go 7 ?_
   refine ret_e (fun hr_ => ?_)
   subst hr_
   exact ret_ Tryz.func171 []
 ·refine go 8 ?_
  refine ret_e (fun hr_ => ?_)
  subst hr_
  exact ret_ Tryz.func171 []
def laws_eqNode.f (k : Nat) (v0 : S94) (v1 : S94) : Option (Bool) := (bif (v0.f0 == v1.f0) then ((laws_eqStringS.f k v0.f1 v1.f1).bind fun v2 => (bif v2 then ((laws_eqFieldS.f k v0.f2 v1.f2).bind fun v3 => (bif v3 then (some true) else (some false))) else (some false))) else (some false))
set_option maxRecDepth 100000 in
set_option maxHeartbeats 4000000 in
theorem laws_eqNode.con {K : Kn} [KOk K] {k : Nat} {v0 : S94} {v1 : S94} {r : Bool} (h : laws_eqNode.f k v0 v1 = some r) : Con K Tryz.prog 121 [.agg [.p (.int .i64 v0.f0), .p (.lst false (List.map srw v0.f1)), .p (.lst false (List.map en193 v0.f2))], .agg [.p (.int .i64 v1.f0), .p (.lst false (List.map srw v1.f1)), .p (.lst false (List.map en193 v1.f2))]] [] (.p (.bool r)) [] := by
 rw [laws_eqNode.f] at h
 refine con_intro 22 [] Tryz.func121 (by kernel_rfl) rfl rfl (by kernel_rfl) fun ι0 w0 hk0 => ?_
 revert h
 refine bif_e (fun c1 => ?_) (fun c1 => ?_)
 ·refine go 9 ?_
  refine grs ?_
  refine gr_run ?_
  refine bind_e (fun v2 e2 => gr_call [] (laws_eqStringS.con e2) ?_)
  clear e2
  refine gr_run ?_
  refine gr_done ?_
  refine bif_e (fun c2 => ?_) (fun c2 => ?_)
  ·refine go 4 ?_
   refine grs ?_
   refine gr_run ?_
   refine bind_e (fun v3 e3 => gr_call [] (laws_eqFieldS.con e3) ?_)
   clear e3
   refine gr_run ?_
   refine gr_done ?_
   refine bif_e (fun c3 => ?_) (fun c3 => ?_)
   ·refine go 4 ?_
    refine ret_e (fun hr_ => ?_)
    subst hr_
    exact ret_ Tryz.func121 []
   ·refine go 3 ?_
    refine ret_e (fun hr_ => ?_)
    subst hr_
    exact ret_ Tryz.func121 []
  ·refine go 3 ?_
   refine ret_e (fun hr_ => ?_)
   subst hr_
   exact ret_ Tryz.func121 []
 ·refine go 8 ?_
  refine ret_e (fun hr_ => ?_)
  subst hr_
  exact ret_ Tryz.func121 []
def laws_eqEdge.f (k : Nat) (v0 : S110) (v1 : S110) : Option (Bool) := (bif (v0.f0 == v1.f0) then (bif decide (v0.f1 = v1.f1) then (bif (v0.f2 == v1.f2) then (bif (v0.f3 == v1.f3) then ((laws_eqFieldS.f k v0.f4 v1.f4).bind fun v2 => (bif v2 then (some true) else (some false))) else (some false)) else (some false)) else (some false)) else (some false))
set_option maxRecDepth 100000 in
set_option maxHeartbeats 4000000 in
theorem laws_eqEdge.con {K : Kn} [KOk K] {k : Nat} {v0 : S110} {v1 : S110} {r : Bool} (h : laws_eqEdge.f k v0 v1 = some r) : Con K Tryz.prog 122 [.agg [.p (.int .i64 v0.f0), .p (.str v0.f1), .p (.int .i64 v0.f2), .p (.int .i64 v0.f3), .p (.lst false (List.map en193 v0.f4))], .agg [.p (.int .i64 v1.f0), .p (.str v1.f1), .p (.int .i64 v1.f2), .p (.int .i64 v1.f3), .p (.lst false (List.map en193 v1.f4))]] [] (.p (.bool r)) [] := by
 rw [laws_eqEdge.f] at h
 refine con_intro 31 [] Tryz.func122 (by kernel_rfl) rfl rfl (by kernel_rfl) fun ι0 w0 hk0 => ?_
 revert h
 refine bif_e (fun c1 => ?_) (fun c1 => ?_)
 ·refine bif_e (fun c2 => ?_) (fun c2 => ?_)
  ·refine bif_e (fun c3 => ?_) (fun c3 => ?_)
   ·refine bif_e (fun c4 => ?_) (fun c4 => ?_)
    ·refine go 24 ?_
     refine grs ?_
     refine gr_run ?_
     refine bind_e (fun v2 e2 => gr_call [] (laws_eqFieldS.con e2) ?_)
     clear e2
     refine gr_run ?_
     refine gr_done ?_
     refine bif_e (fun c5 => ?_) (fun c5 => ?_)
     ·refine go 4 ?_
      refine ret_e (fun hr_ => ?_)
      subst hr_
      exact ret_ Tryz.func122 []
     ·refine go 3 ?_
      refine ret_e (fun hr_ => ?_)
      subst hr_
      exact ret_ Tryz.func122 []
    ·refine go 23 ?_
     refine ret_e (fun hr_ => ?_)
     subst hr_
     exact ret_ Tryz.func122 []
   ·refine go 18 ?_
    refine ret_e (fun hr_ => ?_)
    subst hr_
    exact ret_ Tryz.func122 []
  ·refine go 13 ?_
   refine ret_e (fun hr_ => ?_)
   subst hr_
   exact ret_ Tryz.func122 []
 ·refine go 8 ?_
  refine ret_e (fun hr_ => ?_)
  subst hr_
  exact ret_ Tryz.func122 []
def laws_eqChange.f (k : Nat) (v0 : S145) (v1 : S145) : Option (Bool) := (bif (v0.f0 == v1.f0) then ((laws_eqNode.f k v0.f1 v1.f1).bind fun v2 => (bif v2 then ((laws_eqEdge.f k v0.f2 v1.f2).bind fun v3 => (bif v3 then (bif decide (v0.f3 = v1.f3) then (bif decide (v0.f4 = v1.f4) then (bif decide (v0.f5 = v1.f5) then (some true) else (some false)) else (some false)) else (some false)) else (some false))) else (some false))) else (some false))
set_option maxRecDepth 100000 in
set_option maxHeartbeats 4000000 in
theorem laws_eqChange.con {K : Kn} [KOk K] {k : Nat} {v0 : S145} {v1 : S145} {r : Bool} (h : laws_eqChange.f k v0 v1 = some r) : Con K Tryz.prog 89 [.agg [.p (.int .i64 v0.f0), .p (.int .i64 v0.f1.f0), .p (.lst false (List.map srw v0.f1.f1)), .p (.lst false (List.map en193 v0.f1.f2)), .p (.int .i64 v0.f2.f0), .p (.str v0.f2.f1), .p (.int .i64 v0.f2.f2), .p (.int .i64 v0.f2.f3), .p (.lst false (List.map en193 v0.f2.f4)), .p (.str v0.f3), .p (.str v0.f4), .p (.str v0.f5)], .agg [.p (.int .i64 v1.f0), .p (.int .i64 v1.f1.f0), .p (.lst false (List.map srw v1.f1.f1)), .p (.lst false (List.map en193 v1.f1.f2)), .p (.int .i64 v1.f2.f0), .p (.str v1.f2.f1), .p (.int .i64 v1.f2.f2), .p (.int .i64 v1.f2.f3), .p (.lst false (List.map en193 v1.f2.f4)), .p (.str v1.f3), .p (.str v1.f4), .p (.str v1.f5)]] [] (.p (.bool r)) [] := by
 rw [laws_eqChange.f] at h
 refine con_intro 37 [] Tryz.func89 (by kernel_rfl) rfl rfl (by kernel_rfl) fun ι0 w0 hk0 => ?_
 revert h
 refine bif_e (fun c1 => ?_) (fun c1 => ?_)
 ·refine go 9 ?_
  refine grs ?_
  refine gr_run ?_
  refine bind_e (fun v2 e2 => gr_call [] (laws_eqNode.con e2) ?_)
  clear e2
  refine gr_run ?_
  refine gr_done ?_
  refine bif_e (fun c2 => ?_) (fun c2 => ?_)
  ·refine go 4 ?_
   refine grs ?_
   refine gr_run ?_
   refine bind_e (fun v3 e3 => gr_call [] (laws_eqEdge.con e3) ?_)
   clear e3
   refine gr_run ?_
   refine gr_done ?_
   refine bif_e (fun c3 => ?_) (fun c3 => ?_)
   ·refine bif_e (fun c4 => ?_) (fun c4 => ?_)
    ·refine bif_e (fun c5 => ?_) (fun c5 => ?_)
     ·refine bif_e (fun c6 => ?_) (fun c6 => ?_)
      ·refine go 19 ?_
       refine ret_e (fun hr_ => ?_)
       subst hr_
       exact ret_ Tryz.func89 []
      ·refine go 18 ?_
       refine ret_e (fun hr_ => ?_)
       subst hr_
       exact ret_ Tryz.func89 []
     ·refine go 13 ?_
      refine ret_e (fun hr_ => ?_)
      subst hr_
      exact ret_ Tryz.func89 []
    ·refine go 8 ?_
     refine ret_e (fun hr_ => ?_)
     subst hr_
     exact ret_ Tryz.func89 []
   ·refine go 3 ?_
    refine ret_e (fun hr_ => ?_)
    subst hr_
    exact ret_ Tryz.func89 []
  ·refine go 3 ?_
   refine ret_e (fun hr_ => ?_)
   subst hr_
   exact ret_ Tryz.func89 []
 ·refine go 8 ?_
  refine ret_e (fun hr_ => ?_)
  subst hr_
  exact ret_ Tryz.func89 []
mutual
def laws_eqChangeS.l0 : Nat → (List S145) → (List S145) → Int → Option (Bool)
 | 0, _, _, _ => none
 | k + 1, v0, v1, v2 => (bif decide (v2 < (v0.length : Int)) then ((ix v0 v2).bind fun v3 => ((ix v1 v2).bind fun v4 => ((laws_eqChange.f k v3 v4).bind fun v5 => (bif v5 then (laws_eqChangeS.l0 k v0 v1 (IntKind.i64.wrap (v2 + 1))) else (some false))))) else (some true))
def laws_eqChangeS.f : Nat → (List S145) → (List S145) → Option (Bool)
 | 0, _, _ => none
 | k + 1, v0, v1 => (bif ((v0.length : Int) == (v1.length : Int)) then (laws_eqChangeS.l0 k v0 v1 0) else (some false))
end
set_option maxRecDepth 100000 in
set_option maxHeartbeats 4000000 in
theorem laws_eqChangeS.con {K : Kn} [KOk K] {k : Nat} {v0 : (List S145)} {v1 : (List S145)} {r : Bool} (h : laws_eqChangeS.f k v0 v1 = some r) : Con K Tryz.prog 38 [.p (.lst false (List.map en145 v0)), .p (.lst false (List.map en145 v1))] [] (.p (.bool r)) [] := by
 cases k with
 | zero => exact absurd h (by simp [laws_eqChangeS.f])
 | succ k =>
 rw [laws_eqChangeS.f] at h
 refine con_intro 27 [] Tryz.func38 (by kernel_rfl) rfl rfl (by kernel_rfl) fun ι0 w0 hk0 => ?_
 revert h
 refine bif_e (fun c1 => ?_) (fun c1 => ?_)
 ·refine go 11 ?_
  refine fun h => good_loop (fun n st => n ≤ k ∧ ∃ (v2 : _), st = ⟨[(0, .p (.lst false (List.map en145 v0))), (1, .p (.lst false (List.map en145 v1))), (5, .p (.int .i64 v2))], []⟩ ∧ laws_eqChangeS.l0 n v0 v1 v2 = some r) k ⟨_, ⟨Nat.le_refl _, _, rfl, h⟩, frle_, memle_⟩ ?_
  clear c1
  clear h
  rintro n _ ⟨hkl0, v2, rfl, h⟩ hl0
  cases n with
  | zero => exact absurd h (by simp [laws_eqChangeS.l0])
  | succ kl0 =>
  rw [laws_eqChangeS.l0] at h
  revert h
  refine bif_e (fun c2 => ?_) (fun c2 => ?_)
  ·refine bind_e (fun v3 e3 => ?_)
   replace e3 := nf_ (ix_en en145 e3)
   refine bind_e (fun v4 e4 => ?_)
   replace e4 := nf_ (ix_en en145 e4)
   refine go 8 ?_
   refine grs ?_
   refine gr_run ?_
   refine bind_e (fun v5 e5 => gr_call [] (laws_eqChange.con e5) ?_)
   clear e5
   refine gr_run ?_
   refine gr_done ?_
   refine bif_e (fun c3 => ?_) (fun c3 => ?_)
   ·refine go 4 ?_
    exact fun h => good_again hl0 (by omega) ⟨_, ⟨by omega, _, rfl, h⟩, frle_, memle_⟩
   ·refine go 3 ?_
    refine ret_e (fun hr_ => ?_)
    subst hr_
    exact ret_ Tryz.func38 []
  ·refine go 7 ?_
   refine ret_e (fun hr_ => ?_)
   subst hr_
   exact ret_ Tryz.func38 []
 ·refine go 8 ?_
  refine ret_e (fun hr_ => ?_)
  subst hr_
  exact ret_ Tryz.func38 []
def laws_FnExactShowChanges.f (k : Nat) (v0 : (List S141)) : Option (Bool) := ((laws_szChangeS.f k v0 1048576).bind fun v1 => (bif decide (v1 < 0) then (some true) else ((laws_toChangeS.f k v0).bind fun v2 => ((spec_ShowChanges.f k v2).bind fun v3 => ((laws_toChangeS.f k v0).bind fun v4 => ((impl_ShowChanges.f k v4).bind fun v5 => (bif decide (v5 = v3) then ((laws_toChangeS.f k v0).bind fun v6 => ((laws_eqChangeS.f k v4 v6).bind fun v7 => (bif v7 then (some true) else (some false)))) else (some false))))))))
set_option maxRecDepth 100000 in
set_option maxHeartbeats 4000000 in
theorem laws_FnExactShowChanges.con {K : Kn} [KOk K] {k : Nat} {v0 : (List S141)} {r : Bool} (h : laws_FnExactShowChanges.f k v0 = some r) : Con K Tryz.prog 6 [.p (.lst false (List.map en141 v0))] [] (.p (.bool r)) [] := by
 rw [laws_FnExactShowChanges.f] at h
 refine con_intro 27 [] Tryz.func6 (by kernel_rfl) rfl rfl (by kernel_rfl) fun ι0 w0 hk0 => ?_
 revert h
 refine go 5 ?_
 refine grs ?_
 refine gr_run ?_
 refine bind_e (fun v1 e1 => gr_call [] (laws_szChangeS.con e1) ?_)
 clear e1
 refine gr_run ?_
 refine gr_done ?_
 refine bif_e (fun c1 => ?_) (fun c1 => ?_)
 ·refine go 6 ?_
  refine ret_e (fun hr_ => ?_)
  subst hr_
  exact ret_ Tryz.func6 []
 ·refine go 6 ?_
  refine grs ?_
  refine gr_run ?_
  refine bind_e (fun v2 e2 => gr_call [] (laws_toChangeS.con e2) ?_)
  clear e2
  refine bind_e (fun v3 e3 => gr_call [] (spec_ShowChanges.con e3) ?_)
  clear e3
  refine gr_run ?_
  refine gr_done ?_
  refine go 1 ?_
  refine grs ?_
  refine gr_run ?_
  refine bind_e (fun v4 e4 => gr_call [] (laws_toChangeS.con e4) ?_)
  clear e4
  refine gr_run ?_
  refine gr_done ?_
  refine go 1 ?_
  refine grs ?_
  refine gr_run ?_
  refine bind_e (fun v5 e5 => gr_call [] (impl_ShowChanges.con e5) ?_)
  clear e5
  refine gr_run ?_
  refine gr_done ?_
  refine bif_e (fun c2 => ?_) (fun c2 => ?_)
  ·refine go 7 ?_
   refine grs ?_
   refine gr_run ?_
   refine bind_e (fun v6 e6 => gr_call [] (laws_toChangeS.con e6) ?_)
   clear e6
   refine bind_e (fun v7 e7 => gr_call [] (laws_eqChangeS.con e7) ?_)
   clear e7
   refine gr_run ?_
   refine gr_done ?_
   refine bif_e (fun c3 => ?_) (fun c3 => ?_)
   ·refine go 4 ?_
    refine ret_e (fun hr_ => ?_)
    subst hr_
    exact ret_ Tryz.func6 []
   ·refine go 3 ?_
    refine ret_e (fun hr_ => ?_)
    subst hr_
    exact ret_ Tryz.func6 []
  ·refine go 6 ?_
   refine ret_e (fun hr_ => ?_)
   subst hr_
   exact ret_ Tryz.func6 []
end Go.Ab
