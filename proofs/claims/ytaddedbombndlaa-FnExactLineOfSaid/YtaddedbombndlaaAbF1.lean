/- What the functions compute, and their contracts, part 1. No condition beyond KOk. -/
import Derived.Test.YtaddedbombndlaaAbX
namespace Go.Ab
open Go.Proofs
set_option linter.unusedVariables false
set_option linter.unusedSimpArgs false
mutual
def laws_szStringS.l0 : Nat → (List ByteArray) → Int → Int → Option (Int)
 | 0, _, _, _ => none
 | k + 1, v0, v2, v3 => (bif decide (v3 < (v0.length : Int)) then ((ix v0 v3).bind fun v4 => (bif decide ((IntKind.i64.wrap (v2 - (v4.size : Int))) < 0) then (some (-1)) else (laws_szStringS.l0 k v0 (IntKind.i64.wrap (v2 - (v4.size : Int))) (IntKind.i64.wrap (v3 + 1))))) else (some v2))
def laws_szStringS.f : Nat → (List ByteArray) → Int → Option (Int)
 | 0, _, _ => none
 | k + 1, v0, v1 => (bif decide ((IntKind.i64.wrap (v1 - (v0.length : Int))) < 0) then (some (-1)) else (laws_szStringS.l0 k v0 (IntKind.i64.wrap (v1 - (v0.length : Int))) 0))
end
set_option maxRecDepth 100000 in
set_option maxHeartbeats 4000000 in
theorem laws_szStringS.con {K : Kn} [KOk K] {k : Nat} {v0 : (List ByteArray)} {v1 : Int} {r : Int} (h : laws_szStringS.f k v0 v1 = some r) : Con K Try.prog 90 [.p (.lst false (List.map srw v0)), .p (.int .i64 v1)] [] (.p (.int .i64 r)) [] := by
 cases k with
 | zero => exact absurd h (by simp [laws_szStringS.f])
 | succ k =>
 rw [laws_szStringS.f] at h
 refine con_intro 28 [] Try.func90 (by kernel_rfl) rfl rfl (by kernel_rfl) fun ι0 w0 hk0 => ?_
 revert h
 refine bif_e (fun c1 => ?_) (fun c1 => ?_)
 ·refine go 10 ?_
  refine ret_e (fun hr_ => ?_)
  subst hr_
  exact ret_ Try.func90 []
 ·refine go 13 ?_
  refine fun h => good_loop (fun n st => n ≤ k ∧ ∃ (v2 : _) (v3 : _), st = ⟨[(0, .p (.lst false (List.map srw v0))), (1, .p (.int .i64 v2)), (5, .p (.int .i64 v3))], []⟩ ∧ laws_szStringS.l0 n v0 v2 v3 = some r) k ⟨_, ⟨Nat.le_refl _, _, _, rfl, h⟩, frle_, memle_⟩ ?_
  clear c1
  clear h
  rintro n _ ⟨hkl0, v2, v3, rfl, h⟩ hl0
  cases n with
  | zero => exact absurd h (by simp [laws_szStringS.l0])
  | succ kl0 =>
  rw [laws_szStringS.l0] at h
  revert h
  refine bif_e (fun c2 => ?_) (fun c2 => ?_)
  ·refine bind_e (fun v4 e4 => ?_)
   replace e4 := nf_ (ix_en srw e4)
   refine bif_e (fun c3 => ?_) (fun c3 => ?_)
   ·refine go 14 ?_
    refine ret_e (fun hr_ => ?_)
    subst hr_
    exact ret_ Try.func90 []
   ·refine go 15 ?_
    exact fun h => good_again hl0 (by omega) ⟨_, ⟨by omega, _, _, rfl, h⟩, frle_, memle_⟩
  ·refine go 7 ?_
   refine ret_e (fun hr_ => ?_)
   subst hr_
   exact ret_ Try.func90 []
def laws_szRule.f (k : Nat) (v0 : S113) (v1 : Int) : Option (Int) := (bif decide ((IntKind.i64.wrap (v1 - (v0.f0.size : Int))) < 0) then (some (-1)) else (some (IntKind.i64.wrap (v1 - (v0.f0.size : Int)))))
set_option maxRecDepth 100000 in
set_option maxHeartbeats 4000000 in
theorem laws_szRule.con {K : Kn} [KOk K] {k : Nat} {v0 : S113} {v1 : Int} {r : Int} (h : laws_szRule.f k v0 v1 = some r) : Con K Try.prog 107 [.agg [.p (.str v0.f0), .p (.int .i64 v0.f1), .p (.bool v0.f2)], .p (.int .i64 v1)] [] (.p (.int .i64 r)) [] := by
 rw [laws_szRule.f] at h
 refine con_intro 13 [] Try.func107 (by kernel_rfl) rfl rfl (by kernel_rfl) fun ι0 w0 hk0 => ?_
 revert h
 refine bif_e (fun c1 => ?_) (fun c1 => ?_)
 ·refine go 10 ?_
  refine ret_e (fun hr_ => ?_)
  subst hr_
  exact ret_ Try.func107 []
 ·refine go 11 ?_
  refine ret_e (fun hr_ => ?_)
  subst hr_
  exact ret_ Try.func107 []
mutual
def laws_szRuleS.l0 : Nat → (List S113) → Int → Int → Option (Int)
 | 0, _, _, _ => none
 | k + 1, v0, v2, v3 => (bif decide (v3 < (v0.length : Int)) then ((ix v0 v3).bind fun v4 => ((laws_szRule.f k v4 v2).bind fun v5 => (bif decide (v5 < 0) then (some (-1)) else (laws_szRuleS.l0 k v0 v5 (IntKind.i64.wrap (v3 + 1)))))) else (some v2))
def laws_szRuleS.f : Nat → (List S113) → Int → Option (Int)
 | 0, _, _ => none
 | k + 1, v0, v1 => (bif decide ((IntKind.i64.wrap (v1 - (v0.length : Int))) < 0) then (some (-1)) else (laws_szRuleS.l0 k v0 (IntKind.i64.wrap (v1 - (v0.length : Int))) 0))
end
set_option maxRecDepth 100000 in
set_option maxHeartbeats 4000000 in
theorem laws_szRuleS.con {K : Kn} [KOk K] {k : Nat} {v0 : (List S113)} {v1 : Int} {r : Int} (h : laws_szRuleS.f k v0 v1 = some r) : Con K Try.prog 91 [.p (.lst false (List.map en113 v0)), .p (.int .i64 v1)] [] (.p (.int .i64 r)) [] := by
 cases k with
 | zero => exact absurd h (by simp [laws_szRuleS.f])
 | succ k =>
 rw [laws_szRuleS.f] at h
 refine con_intro 27 [] Try.func91 (by kernel_rfl) rfl rfl (by kernel_rfl) fun ι0 w0 hk0 => ?_
 revert h
 refine bif_e (fun c1 => ?_) (fun c1 => ?_)
 ·refine go 10 ?_
  refine ret_e (fun hr_ => ?_)
  subst hr_
  exact ret_ Try.func91 []
 ·refine go 13 ?_
  refine fun h => good_loop (fun n st => n ≤ k ∧ ∃ (v2 : _) (v3 : _), st = ⟨[(0, .p (.lst false (List.map en113 v0))), (1, .p (.int .i64 v2)), (5, .p (.int .i64 v3))], []⟩ ∧ laws_szRuleS.l0 n v0 v2 v3 = some r) k ⟨_, ⟨Nat.le_refl _, _, _, rfl, h⟩, frle_, memle_⟩ ?_
  clear c1
  clear h
  rintro n _ ⟨hkl0, v2, v3, rfl, h⟩ hl0
  cases n with
  | zero => exact absurd h (by simp [laws_szRuleS.l0])
  | succ kl0 =>
  rw [laws_szRuleS.l0] at h
  revert h
  refine bif_e (fun c2 => ?_) (fun c2 => ?_)
  ·refine bind_e (fun v4 e4 => ?_)
   replace e4 := nf_ (ix_en en113 e4)
   refine go 8 ?_
   refine grs ?_
   refine gr_run ?_
   refine bind_e (fun v5 e5 => gr_call [] (laws_szRule.con e5) ?_)
   clear e5
   refine gr_run ?_
   refine gr_done ?_
   refine bif_e (fun c3 => ?_) (fun c3 => ?_)
   ·refine go 5 ?_
    refine ret_e (fun hr_ => ?_)
    subst hr_
    exact ret_ Try.func91 []
   ·refine go 6 ?_
    exact fun h => good_again hl0 (by omega) ⟨_, ⟨by omega, _, _, rfl, h⟩, frle_, memle_⟩
  ·refine go 7 ?_
   refine ret_e (fun hr_ => ?_)
   subst hr_
   exact ret_ Try.func91 []
def laws_szNodeType.f (k : Nat) (v0 : S86) (v1 : Int) : Option (Int) := (bif decide ((IntKind.i64.wrap (v1 - (v0.f0.size : Int))) < 0) then (some (-1)) else ((laws_szStringS.f k v0.f1 (IntKind.i64.wrap (v1 - (v0.f0.size : Int)))).bind fun v2 => (bif decide (v2 < 0) then (some (-1)) else ((laws_szRuleS.f k v0.f2 v2).bind fun v3 => (bif decide (v3 < 0) then (some (-1)) else (some v3))))))
set_option maxRecDepth 100000 in
set_option maxHeartbeats 4000000 in
theorem laws_szNodeType.con {K : Kn} [KOk K] {k : Nat} {v0 : S86} {v1 : Int} {r : Int} (h : laws_szNodeType.f k v0 v1 = some r) : Con K Try.prog 50 [.agg [.p (.str v0.f0), .p (.lst false (List.map srw v0.f1)), .p (.lst false (List.map en113 v0.f2)), .p (.bool v0.f3)], .p (.int .i64 v1)] [] (.p (.int .i64 r)) [] := by
 rw [laws_szNodeType.f] at h
 refine con_intro 25 [] Try.func50 (by kernel_rfl) rfl rfl (by kernel_rfl) fun ι0 w0 hk0 => ?_
 revert h
 refine bif_e (fun c1 => ?_) (fun c1 => ?_)
 ·refine go 10 ?_
  refine ret_e (fun hr_ => ?_)
  subst hr_
  exact ret_ Try.func50 []
 ·refine go 10 ?_
  refine grs ?_
  refine gr_run ?_
  refine bind_e (fun v2 e2 => gr_call [] (laws_szStringS.con e2) ?_)
  clear e2
  refine gr_run ?_
  refine gr_done ?_
  refine bif_e (fun c2 => ?_) (fun c2 => ?_)
  ·refine go 6 ?_
   refine ret_e (fun hr_ => ?_)
   subst hr_
   exact ret_ Try.func50 []
  ·refine go 6 ?_
   refine grs ?_
   refine gr_run ?_
   refine bind_e (fun v3 e3 => gr_call [] (laws_szRuleS.con e3) ?_)
   clear e3
   refine gr_run ?_
   refine gr_done ?_
   refine bif_e (fun c3 => ?_) (fun c3 => ?_)
   ·refine go 6 ?_
    refine ret_e (fun hr_ => ?_)
    subst hr_
    exact ret_ Try.func50 []
   ·refine go 7 ?_
    refine ret_e (fun hr_ => ?_)
    subst hr_
    exact ret_ Try.func50 []
mutual
def laws_szNodeTypeS.l0 : Nat → (List S86) → Int → Int → Option (Int)
 | 0, _, _, _ => none
 | k + 1, v0, v2, v3 => (bif decide (v3 < (v0.length : Int)) then ((ix v0 v3).bind fun v4 => ((laws_szNodeType.f k v4 v2).bind fun v5 => (bif decide (v5 < 0) then (some (-1)) else (laws_szNodeTypeS.l0 k v0 v5 (IntKind.i64.wrap (v3 + 1)))))) else (some v2))
def laws_szNodeTypeS.f : Nat → (List S86) → Int → Option (Int)
 | 0, _, _ => none
 | k + 1, v0, v1 => (bif decide ((IntKind.i64.wrap (v1 - (v0.length : Int))) < 0) then (some (-1)) else (laws_szNodeTypeS.l0 k v0 (IntKind.i64.wrap (v1 - (v0.length : Int))) 0))
end
set_option maxRecDepth 100000 in
set_option maxHeartbeats 4000000 in
theorem laws_szNodeTypeS.con {K : Kn} [KOk K] {k : Nat} {v0 : (List S86)} {v1 : Int} {r : Int} (h : laws_szNodeTypeS.f k v0 v1 = some r) : Con K Try.prog 20 [.p (.lst false (List.map en86 v0)), .p (.int .i64 v1)] [] (.p (.int .i64 r)) [] := by
 cases k with
 | zero => exact absurd h (by simp [laws_szNodeTypeS.f])
 | succ k =>
 rw [laws_szNodeTypeS.f] at h
 refine con_intro 27 [] Try.func20 (by kernel_rfl) rfl rfl (by kernel_rfl) fun ι0 w0 hk0 => ?_
 revert h
 refine bif_e (fun c1 => ?_) (fun c1 => ?_)
 ·refine go 10 ?_
  refine ret_e (fun hr_ => ?_)
  subst hr_
  exact ret_ Try.func20 []
 ·refine go 13 ?_
  refine fun h => good_loop (fun n st => n ≤ k ∧ ∃ (v2 : _) (v3 : _), st = ⟨[(0, .p (.lst false (List.map en86 v0))), (1, .p (.int .i64 v2)), (5, .p (.int .i64 v3))], []⟩ ∧ laws_szNodeTypeS.l0 n v0 v2 v3 = some r) k ⟨_, ⟨Nat.le_refl _, _, _, rfl, h⟩, frle_, memle_⟩ ?_
  clear c1
  clear h
  rintro n _ ⟨hkl0, v2, v3, rfl, h⟩ hl0
  cases n with
  | zero => exact absurd h (by simp [laws_szNodeTypeS.l0])
  | succ kl0 =>
  rw [laws_szNodeTypeS.l0] at h
  revert h
  refine bif_e (fun c2 => ?_) (fun c2 => ?_)
  ·refine bind_e (fun v4 e4 => ?_)
   replace e4 := nf_ (ix_en en86 e4)
   refine go 8 ?_
   refine grs ?_
   refine gr_run ?_
   refine bind_e (fun v5 e5 => gr_call [] (laws_szNodeType.con e5) ?_)
   clear e5
   refine gr_run ?_
   refine gr_done ?_
   refine bif_e (fun c3 => ?_) (fun c3 => ?_)
   ·refine go 5 ?_
    refine ret_e (fun hr_ => ?_)
    subst hr_
    exact ret_ Try.func20 []
   ·refine go 6 ?_
    exact fun h => good_again hl0 (by omega) ⟨_, ⟨by omega, _, _, rfl, h⟩, frle_, memle_⟩
  ·refine go 7 ?_
   refine ret_e (fun hr_ => ?_)
   subst hr_
   exact ret_ Try.func20 []
def laws_szEdgeType.f (k : Nat) (v0 : S89) (v1 : Int) : Option (Int) := (bif decide ((IntKind.i64.wrap (v1 - (v0.f0.size : Int))) < 0) then (some (-1)) else (bif decide ((IntKind.i64.wrap ((IntKind.i64.wrap (v1 - (v0.f0.size : Int))) - (v0.f1.size : Int))) < 0) then (some (-1)) else (bif decide ((IntKind.i64.wrap ((IntKind.i64.wrap ((IntKind.i64.wrap (v1 - (v0.f0.size : Int))) - (v0.f1.size : Int))) - (v0.f2.size : Int))) < 0) then (some (-1)) else ((laws_szRuleS.f k v0.f3 (IntKind.i64.wrap ((IntKind.i64.wrap ((IntKind.i64.wrap (v1 - (v0.f0.size : Int))) - (v0.f1.size : Int))) - (v0.f2.size : Int)))).bind fun v2 => (bif decide (v2 < 0) then (some (-1)) else (some v2))))))
set_option maxRecDepth 100000 in
set_option maxHeartbeats 4000000 in
theorem laws_szEdgeType.con {K : Kn} [KOk K] {k : Nat} {v0 : S89} {v1 : Int} {r : Int} (h : laws_szEdgeType.f k v0 v1 = some r) : Con K Try.prog 51 [.agg [.p (.str v0.f0), .p (.str v0.f1), .p (.str v0.f2), .p (.lst false (List.map en113 v0.f3)), .p (.int .i64 v0.f4), .p (.int .i64 v0.f5), .p (.int .i64 v0.f6)], .p (.int .i64 v1)] [] (.p (.int .i64 r)) [] := by
 rw [laws_szEdgeType.f] at h
 refine con_intro 33 [] Try.func51 (by kernel_rfl) rfl rfl (by kernel_rfl) fun ι0 w0 hk0 => ?_
 revert h
 refine bif_e (fun c1 => ?_) (fun c1 => ?_)
 ·refine go 10 ?_
  refine ret_e (fun hr_ => ?_)
  subst hr_
  exact ret_ Try.func51 []
 ·refine bif_e (fun c2 => ?_) (fun c2 => ?_)
  ·refine go 17 ?_
   refine ret_e (fun hr_ => ?_)
   subst hr_
   exact ret_ Try.func51 []
  ·refine bif_e (fun c3 => ?_) (fun c3 => ?_)
   ·refine go 24 ?_
    refine ret_e (fun hr_ => ?_)
    subst hr_
    exact ret_ Try.func51 []
   ·refine go 24 ?_
    refine grs ?_
    refine gr_run ?_
    refine bind_e (fun v2 e2 => gr_call [] (laws_szRuleS.con e2) ?_)
    clear e2
    refine gr_run ?_
    refine gr_done ?_
    refine bif_e (fun c4 => ?_) (fun c4 => ?_)
    ·refine go 6 ?_
     refine ret_e (fun hr_ => ?_)
     subst hr_
     exact ret_ Try.func51 []
    ·refine go 7 ?_
     refine ret_e (fun hr_ => ?_)
     subst hr_
     exact ret_ Try.func51 []
mutual
def laws_szEdgeTypeS.l0 : Nat → (List S89) → Int → Int → Option (Int)
 | 0, _, _, _ => none
 | k + 1, v0, v2, v3 => (bif decide (v3 < (v0.length : Int)) then ((ix v0 v3).bind fun v4 => ((laws_szEdgeType.f k v4 v2).bind fun v5 => (bif decide (v5 < 0) then (some (-1)) else (laws_szEdgeTypeS.l0 k v0 v5 (IntKind.i64.wrap (v3 + 1)))))) else (some v2))
def laws_szEdgeTypeS.f : Nat → (List S89) → Int → Option (Int)
 | 0, _, _ => none
 | k + 1, v0, v1 => (bif decide ((IntKind.i64.wrap (v1 - (v0.length : Int))) < 0) then (some (-1)) else (laws_szEdgeTypeS.l0 k v0 (IntKind.i64.wrap (v1 - (v0.length : Int))) 0))
end
set_option maxRecDepth 100000 in
set_option maxHeartbeats 4000000 in
theorem laws_szEdgeTypeS.con {K : Kn} [KOk K] {k : Nat} {v0 : (List S89)} {v1 : Int} {r : Int} (h : laws_szEdgeTypeS.f k v0 v1 = some r) : Con K Try.prog 21 [.p (.lst false (List.map en89 v0)), .p (.int .i64 v1)] [] (.p (.int .i64 r)) [] := by
 cases k with
 | zero => exact absurd h (by simp [laws_szEdgeTypeS.f])
 | succ k =>
 rw [laws_szEdgeTypeS.f] at h
 refine con_intro 27 [] Try.func21 (by kernel_rfl) rfl rfl (by kernel_rfl) fun ι0 w0 hk0 => ?_
 revert h
 refine bif_e (fun c1 => ?_) (fun c1 => ?_)
 ·refine go 10 ?_
  refine ret_e (fun hr_ => ?_)
  subst hr_
  exact ret_ Try.func21 []
 ·refine go 13 ?_
  refine fun h => good_loop (fun n st => n ≤ k ∧ ∃ (v2 : _) (v3 : _), st = ⟨[(0, .p (.lst false (List.map en89 v0))), (1, .p (.int .i64 v2)), (5, .p (.int .i64 v3))], []⟩ ∧ laws_szEdgeTypeS.l0 n v0 v2 v3 = some r) k ⟨_, ⟨Nat.le_refl _, _, _, rfl, h⟩, frle_, memle_⟩ ?_
  clear c1
  clear h
  rintro n _ ⟨hkl0, v2, v3, rfl, h⟩ hl0
  cases n with
  | zero => exact absurd h (by simp [laws_szEdgeTypeS.l0])
  | succ kl0 =>
  rw [laws_szEdgeTypeS.l0] at h
  revert h
  refine bif_e (fun c2 => ?_) (fun c2 => ?_)
  ·refine bind_e (fun v4 e4 => ?_)
   replace e4 := nf_ (ix_en en89 e4)
   refine go 8 ?_
   refine grs ?_
   refine gr_run ?_
   refine bind_e (fun v5 e5 => gr_call [] (laws_szEdgeType.con e5) ?_)
   clear e5
   refine gr_run ?_
   refine gr_done ?_
   refine bif_e (fun c3 => ?_) (fun c3 => ?_)
   ·refine go 5 ?_
    refine ret_e (fun hr_ => ?_)
    subst hr_
    exact ret_ Try.func21 []
   ·refine go 6 ?_
    exact fun h => good_again hl0 (by omega) ⟨_, ⟨by omega, _, _, rfl, h⟩, frle_, memle_⟩
  ·refine go 7 ?_
   refine ret_e (fun hr_ => ?_)
   subst hr_
   exact ret_ Try.func21 []
def laws_szKey.f (k : Nat) (v0 : S92) (v1 : Int) : Option (Int) := (bif decide ((IntKind.i64.wrap (v1 - (v0.f0.size : Int))) < 0) then (some (-1)) else ((laws_szStringS.f k v0.f1 (IntKind.i64.wrap (v1 - (v0.f0.size : Int)))).bind fun v2 => (bif decide (v2 < 0) then (some (-1)) else (some v2))))
set_option maxRecDepth 100000 in
set_option maxHeartbeats 4000000 in
theorem laws_szKey.con {K : Kn} [KOk K] {k : Nat} {v0 : S92} {v1 : Int} {r : Int} (h : laws_szKey.f k v0 v1 = some r) : Con K Try.prog 52 [.agg [.p (.str v0.f0), .p (.lst false (List.map srw v0.f1))], .p (.int .i64 v1)] [] (.p (.int .i64 r)) [] := by
 rw [laws_szKey.f] at h
 refine con_intro 19 [] Try.func52 (by kernel_rfl) rfl rfl (by kernel_rfl) fun ι0 w0 hk0 => ?_
 revert h
 refine bif_e (fun c1 => ?_) (fun c1 => ?_)
 ·refine go 10 ?_
  refine ret_e (fun hr_ => ?_)
  subst hr_
  exact ret_ Try.func52 []
 ·refine go 10 ?_
  refine grs ?_
  refine gr_run ?_
  refine bind_e (fun v2 e2 => gr_call [] (laws_szStringS.con e2) ?_)
  clear e2
  refine gr_run ?_
  refine gr_done ?_
  refine bif_e (fun c2 => ?_) (fun c2 => ?_)
  ·refine go 6 ?_
   refine ret_e (fun hr_ => ?_)
   subst hr_
   exact ret_ Try.func52 []
  ·refine go 7 ?_
   refine ret_e (fun hr_ => ?_)
   subst hr_
   exact ret_ Try.func52 []
mutual
def laws_szKeyS.l0 : Nat → (List S92) → Int → Int → Option (Int)
 | 0, _, _, _ => none
 | k + 1, v0, v2, v3 => (bif decide (v3 < (v0.length : Int)) then ((ix v0 v3).bind fun v4 => ((laws_szKey.f k v4 v2).bind fun v5 => (bif decide (v5 < 0) then (some (-1)) else (laws_szKeyS.l0 k v0 v5 (IntKind.i64.wrap (v3 + 1)))))) else (some v2))
def laws_szKeyS.f : Nat → (List S92) → Int → Option (Int)
 | 0, _, _ => none
 | k + 1, v0, v1 => (bif decide ((IntKind.i64.wrap (v1 - (v0.length : Int))) < 0) then (some (-1)) else (laws_szKeyS.l0 k v0 (IntKind.i64.wrap (v1 - (v0.length : Int))) 0))
end
set_option maxRecDepth 100000 in
set_option maxHeartbeats 4000000 in
theorem laws_szKeyS.con {K : Kn} [KOk K] {k : Nat} {v0 : (List S92)} {v1 : Int} {r : Int} (h : laws_szKeyS.f k v0 v1 = some r) : Con K Try.prog 22 [.p (.lst false (List.map en92 v0)), .p (.int .i64 v1)] [] (.p (.int .i64 r)) [] := by
 cases k with
 | zero => exact absurd h (by simp [laws_szKeyS.f])
 | succ k =>
 rw [laws_szKeyS.f] at h
 refine con_intro 27 [] Try.func22 (by kernel_rfl) rfl rfl (by kernel_rfl) fun ι0 w0 hk0 => ?_
 revert h
 refine bif_e (fun c1 => ?_) (fun c1 => ?_)
 ·refine go 10 ?_
  refine ret_e (fun hr_ => ?_)
  subst hr_
  exact ret_ Try.func22 []
 ·refine go 13 ?_
  refine fun h => good_loop (fun n st => n ≤ k ∧ ∃ (v2 : _) (v3 : _), st = ⟨[(0, .p (.lst false (List.map en92 v0))), (1, .p (.int .i64 v2)), (5, .p (.int .i64 v3))], []⟩ ∧ laws_szKeyS.l0 n v0 v2 v3 = some r) k ⟨_, ⟨Nat.le_refl _, _, _, rfl, h⟩, frle_, memle_⟩ ?_
  clear c1
  clear h
  rintro n _ ⟨hkl0, v2, v3, rfl, h⟩ hl0
  cases n with
  | zero => exact absurd h (by simp [laws_szKeyS.l0])
  | succ kl0 =>
  rw [laws_szKeyS.l0] at h
  revert h
  refine bif_e (fun c2 => ?_) (fun c2 => ?_)
  ·refine bind_e (fun v4 e4 => ?_)
   replace e4 := nf_ (ix_en en92 e4)
   refine go 8 ?_
   refine grs ?_
   refine gr_run ?_
   refine bind_e (fun v5 e5 => gr_call [] (laws_szKey.con e5) ?_)
   clear e5
   refine gr_run ?_
   refine gr_done ?_
   refine bif_e (fun c3 => ?_) (fun c3 => ?_)
   ·refine go 5 ?_
    refine ret_e (fun hr_ => ?_)
    subst hr_
    exact ret_ Try.func22 []
   ·refine go 6 ?_
    exact fun h => good_again hl0 (by omega) ⟨_, ⟨by omega, _, _, rfl, h⟩, frle_, memle_⟩
  ·refine go 7 ?_
   refine ret_e (fun hr_ => ?_)
   subst hr_
   exact ret_ Try.func22 []
def laws_szSchema.f (k : Nat) (v0 : S25) (v1 : Int) : Option (Int) := ((laws_szNodeTypeS.f k v0.f0 v1).bind fun v2 => (bif decide (v2 < 0) then (some (-1)) else ((laws_szEdgeTypeS.f k v0.f1 v2).bind fun v3 => (bif decide (v3 < 0) then (some (-1)) else ((laws_szKeyS.f k v0.f2 v3).bind fun v4 => (bif decide (v4 < 0) then (some (-1)) else (some v4)))))))
set_option maxRecDepth 100000 in
set_option maxHeartbeats 4000000 in
theorem laws_szSchema.con {K : Kn} [KOk K] {k : Nat} {v0 : S25} {v1 : Int} {r : Int} (h : laws_szSchema.f k v0 v1 = some r) : Con K Try.prog 5 [.agg [.p (.lst false (List.map en86 v0.f0)), .p (.lst false (List.map en89 v0.f1)), .p (.lst false (List.map en92 v0.f2)), .p (.bool v0.f3)], .p (.int .i64 v1)] [] (.p (.int .i64 r)) [] := by
 rw [laws_szSchema.f] at h
 refine con_intro 24 [] Try.func5 (by kernel_rfl) rfl rfl (by kernel_rfl) fun ι0 w0 hk0 => ?_
 revert h
 refine go 3 ?_
 refine grs ?_
 refine gr_run ?_
 refine bind_e (fun v2 e2 => gr_call [] (laws_szNodeTypeS.con e2) ?_)
 clear e2
 refine gr_run ?_
 refine gr_done ?_
 refine bif_e (fun c1 => ?_) (fun c1 => ?_)
 ·refine go 6 ?_
  refine ret_e (fun hr_ => ?_)
  subst hr_
  exact ret_ Try.func5 []
 ·refine go 6 ?_
  refine grs ?_
  refine gr_run ?_
  refine bind_e (fun v3 e3 => gr_call [] (laws_szEdgeTypeS.con e3) ?_)
  clear e3
  refine gr_run ?_
  refine gr_done ?_
  refine bif_e (fun c2 => ?_) (fun c2 => ?_)
  ·refine go 6 ?_
   refine ret_e (fun hr_ => ?_)
   subst hr_
   exact ret_ Try.func5 []
  ·refine go 6 ?_
   refine grs ?_
   refine gr_run ?_
   refine bind_e (fun v4 e4 => gr_call [] (laws_szKeyS.con e4) ?_)
   clear e4
   refine gr_run ?_
   refine gr_done ?_
   refine bif_e (fun c3 => ?_) (fun c3 => ?_)
   ·refine go 6 ?_
    refine ret_e (fun hr_ => ?_)
    subst hr_
    exact ret_ Try.func5 []
   ·refine go 7 ?_
    refine ret_e (fun hr_ => ?_)
    subst hr_
    exact ret_ Try.func5 []
mutual
def laws_toStringS.l0 : Nat → (List ByteArray) → (List ByteArray) → Int → (List ByteArray) → Option ((List ByteArray))
 | 0, _, _, _, _ => none
 | k + 1, v0, v1, v2, v3 => (bif decide (v2 < (v0.length : Int)) then ((ix v0 v2).bind fun v4 => ((inr v2 v1.length).bind fun v5 => ((v3[(Int.toNat v2)]?).bind fun v6 => (laws_toStringS.l0 k v0 v1 (IntKind.i64.wrap (v2 + 1)) (setr v3 (Int.toNat v2) v4))))) else (some (List.take v1.length v3)))
def laws_toStringS.f : Nat → (List ByteArray) → Option ((List ByteArray))
 | 0, _ => none
 | k + 1, v0 => ((mks (⟨#[]⟩ : ByteArray) (v0.length : Int) (v0.length : Int)).bind fun v1 => (laws_toStringS.l0 k v0 v1 0 v1))
end
set_option maxRecDepth 100000 in
set_option maxHeartbeats 4000000 in
theorem laws_toStringS.con {K : Kn} [KOk K] {k : Nat} {v0 : (List ByteArray)} {r : (List ByteArray)} (h : laws_toStringS.f k v0 = some r) : Con K Try.prog 96 [.p (.lst false (List.map srw v0))] [] (.nw (.lst false (List.map srw r))) [] := by
 cases k with
 | zero => exact absurd h (by simp [laws_toStringS.f])
 | succ k =>
 rw [laws_toStringS.f] at h
 refine con_intro 22 [7] Try.func96 (by kernel_rfl) rfl rfl (by kernel_rfl) fun ι0 w0 hk0 => ?_
 revert h
 refine bind_e (fun v1 e1 => ?_)
 replace e1 := nf_ (mks_en srw e1)
 refine go 8 ?_
 refine fun h => good_loop (fun n st => n ≤ k ∧ ∃ (v2 : _) (v3 : _), st = ⟨[(0, .p (.lst false (List.map srw v0))), (3, .buf 7 1 0 v1.length), (4, .p (.int .i64 v2))], [(7, (1, .bufn 1 (List.map srw v3)))]⟩ ∧ laws_toStringS.l0 n v0 v1 v2 v3 = some r) k ⟨_, ⟨Nat.le_refl _, _, _, rfl, h⟩, frle_, memle_⟩ ?_
 clear e1
 clear h
 rintro n _ ⟨hkl0, v2, v3, rfl, h⟩ hl0
 cases n with
 | zero => exact absurd h (by simp [laws_toStringS.l0])
 | succ kl0 =>
 rw [laws_toStringS.l0] at h
 revert h
 refine bif_e (fun c1 => ?_) (fun c1 => ?_)
 ·refine bind_e (fun v4 e4 => ?_)
  replace e4 := nf_ (ix_en srw e4)
  refine bind_e (fun v5 e5 => ?_)
  refine bind_e (fun v6 e6 => ?_)
  replace e6 := nf_ (gx_en srw e6)
  refine go 10 ?_
  exact fun h => good_again hl0 (by omega) ⟨_, ⟨by omega, _, _, rfl, h⟩, frle_, memle_⟩
 ·refine go 7 ?_
  refine freezeN_ 2 ?_
  refine ret_e (fun hr_ => ?_)
  subst hr_
  exact ret_ Try.func96 []
def laws_toRule.f (k : Nat) (v0 : S113) : Option (S113) := (some v0)
set_option maxRecDepth 100000 in
set_option maxHeartbeats 4000000 in
theorem laws_toRule.con {K : Kn} [KOk K] {k : Nat} {v0 : S113} {r : S113} (h : laws_toRule.f k v0 = some r) : Con K Try.prog 109 [.agg [.p (.str v0.f0), .p (.int .i64 v0.f1), .p (.bool v0.f2)]] [] (.agg [.p (.str r.f0), .p (.int .i64 r.f1), .p (.bool r.f2)]) [] := by
 rw [laws_toRule.f] at h
 refine con_intro 14 [] Try.func109 (by kernel_rfl) rfl rfl (by kernel_rfl) fun ι0 w0 hk0 => ?_
 revert h
 refine go 12 ?_
 refine ret_e (fun hr_ => ?_)
 subst hr_
 exact ret_ Try.func109 []
mutual
def laws_toRuleS.l0 : Nat → (List S113) → (List S113) → Int → (List S113) → Option ((List S113))
 | 0, _, _, _, _ => none
 | k + 1, v0, v1, v2, v3 => (bif decide (v2 < (v0.length : Int)) then ((ix v0 v2).bind fun v4 => ((laws_toRule.f k v4).bind fun v5 => ((inr v2 v1.length).bind fun v6 => ((v3[(Int.toNat v2)]?).bind fun v7 => (laws_toRuleS.l0 k v0 v1 (IntKind.i64.wrap (v2 + 1)) (setr v3 (Int.toNat v2) v5)))))) else (some (List.take v1.length v3)))
def laws_toRuleS.f : Nat → (List S113) → Option ((List S113))
 | 0, _ => none
 | k + 1, v0 => ((mks (⟨(⟨#[]⟩ : ByteArray), 0, false⟩ : S113) (v0.length : Int) (v0.length : Int)).bind fun v1 => (laws_toRuleS.l0 k v0 v1 0 v1))
end
set_option maxRecDepth 100000 in
set_option maxHeartbeats 4000000 in
theorem laws_toRuleS.con {K : Kn} [KOk K] {k : Nat} {v0 : (List S113)} {r : (List S113)} (h : laws_toRuleS.f k v0 = some r) : Con K Try.prog 97 [.p (.lst false (List.map en113 v0))] [] (.nw (.lst false (List.map en113 r))) [] := by
 cases k with
 | zero => exact absurd h (by simp [laws_toRuleS.f])
 | succ k =>
 rw [laws_toRuleS.f] at h
 refine con_intro 23 [7] Try.func97 (by kernel_rfl) rfl rfl (by kernel_rfl) fun ι0 w0 hk0 => ?_
 revert h
 refine bind_e (fun v1 e1 => ?_)
 replace e1 := nf_ (mks_en en113 e1)
 refine go 8 ?_
 refine fun h => good_loop (fun n st => n ≤ k ∧ ∃ (v2 : _) (v3 : _), st = ⟨[(0, .p (.lst false (List.map en113 v0))), (3, .buf 7 1 0 v1.length), (4, .p (.int .i64 v2))], [(7, (1, .bufn 3 (List.map en113 v3)))]⟩ ∧ laws_toRuleS.l0 n v0 v1 v2 v3 = some r) k ⟨_, ⟨Nat.le_refl _, _, _, rfl, h⟩, frle_, memle_⟩ ?_
 clear e1
 clear h
 rintro n _ ⟨hkl0, v2, v3, rfl, h⟩ hl0
 cases n with
 | zero => exact absurd h (by simp [laws_toRuleS.l0])
 | succ kl0 =>
 rw [laws_toRuleS.l0] at h
 revert h
 refine bif_e (fun c1 => ?_) (fun c1 => ?_)
 ·refine bind_e (fun v4 e4 => ?_)
  replace e4 := nf_ (ix_en en113 e4)
  refine go 7 ?_
  refine grs ?_
  refine gr_run ?_
  refine bind_e (fun v5 e5 => gr_call [] (laws_toRule.con e5) ?_)
  clear e5
  refine bind_e (fun v6 e6 => ?_)
  refine bind_e (fun v7 e7 => ?_)
  replace e7 := nf_ (gx_en en113 e7)
  refine gr_run ?_
  refine gr_done ?_
  refine go 2 ?_
  exact fun h => good_again hl0 (by omega) ⟨_, ⟨by omega, _, _, rfl, h⟩, frle_, memle_⟩
 ·refine go 7 ?_
  refine freezeN_ 2 ?_
  refine ret_e (fun hr_ => ?_)
  subst hr_
  exact ret_ Try.func97 []
def laws_toNodeType.f (k : Nat) (v0 : S86) : Option (S96) := ((laws_toStringS.f k v0.f1).bind fun v1 => ((laws_toRuleS.f k v0.f2).bind fun v2 => (some (⟨v0.f0, v1, v2, v0.f3⟩ : S96))))
set_option maxRecDepth 100000 in
set_option maxHeartbeats 4000000 in
theorem laws_toNodeType.con {K : Kn} [KOk K] {k : Nat} {v0 : S86} {r : S96} (h : laws_toNodeType.f k v0 = some r) : Con K Try.prog 60 [.agg [.p (.str v0.f0), .p (.lst false (List.map srw v0.f1)), .p (.lst false (List.map en113 v0.f2)), .p (.bool v0.f3)]] [] (.agg [.p (.str r.f0), .nw (.lst false (List.map srw r.f1)), .nw (.lst false (List.map en113 r.f2)), .p (.bool r.f3)]) [] := by
 rw [laws_toNodeType.f] at h
 refine con_intro 19 [] Try.func60 (by kernel_rfl) rfl rfl (by kernel_rfl) fun ι0 w0 hk0 => ?_
 revert h
 refine go 7 ?_
 refine grs ?_
 refine gr_run ?_
 refine bind_e (fun v1 e1 => gr_call [] (laws_toStringS.con e1) ?_)
 clear e1
 refine gr_run ?_
 refine gr_done ?_
 refine go 1 ?_
 refine grs ?_
 refine gr_run ?_
 refine bind_e (fun v2 e2 => gr_call [] (laws_toRuleS.con e2) ?_)
 clear e2
 refine gr_run ?_
 refine gr_done ?_
 refine go 4 ?_
 refine ret_e (fun hr_ => ?_)
 subst hr_
 exact ret_ Try.func60 []
mutual
def laws_toNodeTypeS.l0 : Nat → (List S86) → (List S96) → Int → (List S96) → Option ((List S96))
 | 0, _, _, _, _ => none
 | k + 1, v0, v1, v2, v3 => (bif decide (v2 < (v0.length : Int)) then ((ix v0 v2).bind fun v4 => ((laws_toNodeType.f k v4).bind fun v5 => ((inr v2 v1.length).bind fun v6 => ((v3[(Int.toNat v2)]?).bind fun v7 => (laws_toNodeTypeS.l0 k v0 v1 (IntKind.i64.wrap (v2 + 1)) (setr v3 (Int.toNat v2) v5)))))) else (some (List.take v1.length v3)))
def laws_toNodeTypeS.f : Nat → (List S86) → Option ((List S96))
 | 0, _ => none
 | k + 1, v0 => ((mks (⟨(⟨#[]⟩ : ByteArray), ([] : (List ByteArray)), ([] : (List S113)), false⟩ : S96) (v0.length : Int) (v0.length : Int)).bind fun v1 => (laws_toNodeTypeS.l0 k v0 v1 0 v1))
end
set_option maxRecDepth 100000 in
set_option maxHeartbeats 4000000 in
theorem laws_toNodeTypeS.con {K : Kn} [KOk K] {k : Nat} {v0 : (List S86)} {r : (List S96)} (h : laws_toNodeTypeS.f k v0 = some r) : Con K Try.prog 25 [.p (.lst false (List.map en86 v0))] [] (.nw (.lst false (List.map en96 r))) [] := by
 cases k with
 | zero => exact absurd h (by simp [laws_toNodeTypeS.f])
 | succ k =>
 rw [laws_toNodeTypeS.f] at h
 refine con_intro 23 [7] Try.func25 (by kernel_rfl) rfl rfl (by kernel_rfl) fun ι0 w0 hk0 => ?_
 revert h
 refine bind_e (fun v1 e1 => ?_)
 replace e1 := nf_ (mks_en en96 e1)
 refine go 8 ?_
 refine fun h => good_loop (fun n st => n ≤ k ∧ ∃ (v2 : _) (v3 : _), st = ⟨[(0, .p (.lst false (List.map en86 v0))), (3, .buf 7 1 0 v1.length), (4, .p (.int .i64 v2))], [(7, (1, .bufn 4 (List.map en96 v3)))]⟩ ∧ laws_toNodeTypeS.l0 n v0 v1 v2 v3 = some r) k ⟨_, ⟨Nat.le_refl _, _, _, rfl, h⟩, frle_, memle_⟩ ?_
 clear e1
 clear h
 rintro n _ ⟨hkl0, v2, v3, rfl, h⟩ hl0
 cases n with
 | zero => exact absurd h (by simp [laws_toNodeTypeS.l0])
 | succ kl0 =>
 rw [laws_toNodeTypeS.l0] at h
 revert h
 refine bif_e (fun c1 => ?_) (fun c1 => ?_)
 ·refine bind_e (fun v4 e4 => ?_)
  replace e4 := nf_ (ix_en en86 e4)
  refine go 7 ?_
  refine grs ?_
  refine gr_run ?_
  refine bind_e (fun v5 e5 => gr_call [] (laws_toNodeType.con e5) ?_)
  clear e5
  refine bind_e (fun v6 e6 => ?_)
  refine bind_e (fun v7 e7 => ?_)
  replace e7 := nf_ (gx_en en96 e7)
  refine gr_run ?_
  refine gr_done ?_
  refine go 2 ?_
  exact fun h => good_again hl0 (by omega) ⟨_, ⟨by omega, _, _, rfl, h⟩, frle_, memle_⟩
 ·refine go 7 ?_
  refine freezeN_ 2 ?_
  refine ret_e (fun hr_ => ?_)
  subst hr_
  exact ret_ Try.func25 []
def laws_toEdgeType.f (k : Nat) (v0 : S89) : Option (S99) := ((laws_toRuleS.f k v0.f3).bind fun v1 => (some (⟨v0.f0, v0.f1, v0.f2, v1, v0.f4, v0.f5, v0.f6⟩ : S99)))
set_option maxRecDepth 100000 in
set_option maxHeartbeats 4000000 in
theorem laws_toEdgeType.con {K : Kn} [KOk K] {k : Nat} {v0 : S89} {r : S99} (h : laws_toEdgeType.f k v0 = some r) : Con K Try.prog 61 [.agg [.p (.str v0.f0), .p (.str v0.f1), .p (.str v0.f2), .p (.lst false (List.map en113 v0.f3)), .p (.int .i64 v0.f4), .p (.int .i64 v0.f5), .p (.int .i64 v0.f6)]] [] (.agg [.p (.str r.f0), .p (.str r.f1), .p (.str r.f2), .nw (.lst false (List.map en113 r.f3)), .p (.int .i64 r.f4), .p (.int .i64 r.f5), .p (.int .i64 r.f6)]) [] := by
 rw [laws_toEdgeType.f] at h
 refine con_intro 27 [] Try.func61 (by kernel_rfl) rfl rfl (by kernel_rfl) fun ι0 w0 hk0 => ?_
 revert h
 refine go 11 ?_
 refine grs ?_
 refine gr_run ?_
 refine bind_e (fun v1 e1 => gr_call [] (laws_toRuleS.con e1) ?_)
 clear e1
 refine gr_run ?_
 refine gr_done ?_
 refine go 8 ?_
 refine ret_e (fun hr_ => ?_)
 subst hr_
 exact ret_ Try.func61 []
mutual
def laws_toEdgeTypeS.l0 : Nat → (List S89) → (List S99) → Int → (List S99) → Option ((List S99))
 | 0, _, _, _, _ => none
 | k + 1, v0, v1, v2, v3 => (bif decide (v2 < (v0.length : Int)) then ((ix v0 v2).bind fun v4 => ((laws_toEdgeType.f k v4).bind fun v5 => ((inr v2 v1.length).bind fun v6 => ((v3[(Int.toNat v2)]?).bind fun v7 => (laws_toEdgeTypeS.l0 k v0 v1 (IntKind.i64.wrap (v2 + 1)) (setr v3 (Int.toNat v2) v5)))))) else (some (List.take v1.length v3)))
def laws_toEdgeTypeS.f : Nat → (List S89) → Option ((List S99))
 | 0, _ => none
 | k + 1, v0 => ((mks (⟨(⟨#[]⟩ : ByteArray), (⟨#[]⟩ : ByteArray), (⟨#[]⟩ : ByteArray), ([] : (List S113)), 0, 0, 0⟩ : S99) (v0.length : Int) (v0.length : Int)).bind fun v1 => (laws_toEdgeTypeS.l0 k v0 v1 0 v1))
end
set_option maxRecDepth 100000 in
set_option maxHeartbeats 4000000 in
theorem laws_toEdgeTypeS.con {K : Kn} [KOk K] {k : Nat} {v0 : (List S89)} {r : (List S99)} (h : laws_toEdgeTypeS.f k v0 = some r) : Con K Try.prog 26 [.p (.lst false (List.map en89 v0))] [] (.nw (.lst false (List.map en99 r))) [] := by
 cases k with
 | zero => exact absurd h (by simp [laws_toEdgeTypeS.f])
 | succ k =>
 rw [laws_toEdgeTypeS.f] at h
 refine con_intro 23 [7] Try.func26 (by kernel_rfl) rfl rfl (by kernel_rfl) fun ι0 w0 hk0 => ?_
 revert h
 refine bind_e (fun v1 e1 => ?_)
 replace e1 := nf_ (mks_en en99 e1)
 refine go 8 ?_
 refine fun h => good_loop (fun n st => n ≤ k ∧ ∃ (v2 : _) (v3 : _), st = ⟨[(0, .p (.lst false (List.map en89 v0))), (3, .buf 7 1 0 v1.length), (4, .p (.int .i64 v2))], [(7, (1, .bufn 7 (List.map en99 v3)))]⟩ ∧ laws_toEdgeTypeS.l0 n v0 v1 v2 v3 = some r) k ⟨_, ⟨Nat.le_refl _, _, _, rfl, h⟩, frle_, memle_⟩ ?_
 clear e1
 clear h
 rintro n _ ⟨hkl0, v2, v3, rfl, h⟩ hl0
 cases n with
 | zero => exact absurd h (by simp [laws_toEdgeTypeS.l0])
 | succ kl0 =>
 rw [laws_toEdgeTypeS.l0] at h
 revert h
 refine bif_e (fun c1 => ?_) (fun c1 => ?_)
 ·refine bind_e (fun v4 e4 => ?_)
  replace e4 := nf_ (ix_en en89 e4)
  refine go 7 ?_
  refine grs ?_
  refine gr_run ?_
  refine bind_e (fun v5 e5 => gr_call [] (laws_toEdgeType.con e5) ?_)
  clear e5
  refine bind_e (fun v6 e6 => ?_)
  refine bind_e (fun v7 e7 => ?_)
  replace e7 := nf_ (gx_en en99 e7)
  refine gr_run ?_
  refine gr_done ?_
  refine go 2 ?_
  exact fun h => good_again hl0 (by omega) ⟨_, ⟨by omega, _, _, rfl, h⟩, frle_, memle_⟩
 ·refine go 7 ?_
  refine freezeN_ 2 ?_
  refine ret_e (fun hr_ => ?_)
  subst hr_
  exact ret_ Try.func26 []
def laws_toKey.f (k : Nat) (v0 : S92) : Option (S92) := ((laws_toStringS.f k v0.f1).bind fun v1 => (some (⟨v0.f0, v1⟩ : S92)))
set_option maxRecDepth 100000 in
set_option maxHeartbeats 4000000 in
theorem laws_toKey.con {K : Kn} [KOk K] {k : Nat} {v0 : S92} {r : S92} (h : laws_toKey.f k v0 = some r) : Con K Try.prog 62 [.agg [.p (.str v0.f0), .p (.lst false (List.map srw v0.f1))]] [] (.agg [.p (.str r.f0), .nw (.lst false (List.map srw r.f1))]) [] := by
 rw [laws_toKey.f] at h
 refine con_intro 12 [] Try.func62 (by kernel_rfl) rfl rfl (by kernel_rfl) fun ι0 w0 hk0 => ?_
 revert h
 refine go 7 ?_
 refine grs ?_
 refine gr_run ?_
 refine bind_e (fun v1 e1 => gr_call [] (laws_toStringS.con e1) ?_)
 clear e1
 refine gr_run ?_
 refine gr_done ?_
 refine go 2 ?_
 refine ret_e (fun hr_ => ?_)
 subst hr_
 exact ret_ Try.func62 []
mutual
def laws_toKeyS.l0 : Nat → (List S92) → (List S92) → Int → (List S92) → Option ((List S92))
 | 0, _, _, _, _ => none
 | k + 1, v0, v1, v2, v3 => (bif decide (v2 < (v0.length : Int)) then ((ix v0 v2).bind fun v4 => ((laws_toKey.f k v4).bind fun v5 => ((inr v2 v1.length).bind fun v6 => ((v3[(Int.toNat v2)]?).bind fun v7 => (laws_toKeyS.l0 k v0 v1 (IntKind.i64.wrap (v2 + 1)) (setr v3 (Int.toNat v2) v5)))))) else (some (List.take v1.length v3)))
def laws_toKeyS.f : Nat → (List S92) → Option ((List S92))
 | 0, _ => none
 | k + 1, v0 => ((mks (⟨(⟨#[]⟩ : ByteArray), ([] : (List ByteArray))⟩ : S92) (v0.length : Int) (v0.length : Int)).bind fun v1 => (laws_toKeyS.l0 k v0 v1 0 v1))
end
set_option maxRecDepth 100000 in
set_option maxHeartbeats 4000000 in
theorem laws_toKeyS.con {K : Kn} [KOk K] {k : Nat} {v0 : (List S92)} {r : (List S92)} (h : laws_toKeyS.f k v0 = some r) : Con K Try.prog 27 [.p (.lst false (List.map en92 v0))] [] (.nw (.lst false (List.map en92 r))) [] := by
 cases k with
 | zero => exact absurd h (by simp [laws_toKeyS.f])
 | succ k =>
 rw [laws_toKeyS.f] at h
 refine con_intro 23 [7] Try.func27 (by kernel_rfl) rfl rfl (by kernel_rfl) fun ι0 w0 hk0 => ?_
 revert h
 refine bind_e (fun v1 e1 => ?_)
 replace e1 := nf_ (mks_en en92 e1)
 refine go 8 ?_
 refine fun h => good_loop (fun n st => n ≤ k ∧ ∃ (v2 : _) (v3 : _), st = ⟨[(0, .p (.lst false (List.map en92 v0))), (3, .buf 7 1 0 v1.length), (4, .p (.int .i64 v2))], [(7, (1, .bufn 2 (List.map en92 v3)))]⟩ ∧ laws_toKeyS.l0 n v0 v1 v2 v3 = some r) k ⟨_, ⟨Nat.le_refl _, _, _, rfl, h⟩, frle_, memle_⟩ ?_
 clear e1
 clear h
 rintro n _ ⟨hkl0, v2, v3, rfl, h⟩ hl0
 cases n with
 | zero => exact absurd h (by simp [laws_toKeyS.l0])
 | succ kl0 =>
 rw [laws_toKeyS.l0] at h
 revert h
 refine bif_e (fun c1 => ?_) (fun c1 => ?_)
 ·refine bind_e (fun v4 e4 => ?_)
  replace e4 := nf_ (ix_en en92 e4)
  refine go 7 ?_
  refine grs ?_
  refine gr_run ?_
  refine bind_e (fun v5 e5 => gr_call [] (laws_toKey.con e5) ?_)
  clear e5
  refine bind_e (fun v6 e6 => ?_)
  refine bind_e (fun v7 e7 => ?_)
  replace e7 := nf_ (gx_en en92 e7)
  refine gr_run ?_
  refine gr_done ?_
  refine go 2 ?_
  exact fun h => good_again hl0 (by omega) ⟨_, ⟨by omega, _, _, rfl, h⟩, frle_, memle_⟩
 ·refine go 7 ?_
  refine freezeN_ 2 ?_
  refine ret_e (fun hr_ => ?_)
  subst hr_
  exact ret_ Try.func27 []
def laws_toSchema.f (k : Nat) (v0 : S25) : Option (S33) := ((laws_toNodeTypeS.f k v0.f0).bind fun v1 => ((laws_toEdgeTypeS.f k v0.f1).bind fun v2 => ((laws_toKeyS.f k v0.f2).bind fun v3 => (some (⟨v1, v2, v3, v0.f3⟩ : S33)))))
set_option maxRecDepth 100000 in
set_option maxHeartbeats 4000000 in
theorem laws_toSchema.con {K : Kn} [KOk K] {k : Nat} {v0 : S25} {r : S33} (h : laws_toSchema.f k v0 = some r) : Con K Try.prog 7 [.agg [.p (.lst false (List.map en86 v0.f0)), .p (.lst false (List.map en89 v0.f1)), .p (.lst false (List.map en92 v0.f2)), .p (.bool v0.f3)]] [] (.agg [.nw (.lst false (List.map en96 r.f0)), .nw (.lst false (List.map en99 r.f1)), .nw (.lst false (List.map en92 r.f2)), .p (.bool r.f3)]) [] := by
 rw [laws_toSchema.f] at h
 refine con_intro 20 [] Try.func7 (by kernel_rfl) rfl rfl (by kernel_rfl) fun ι0 w0 hk0 => ?_
 revert h
 refine go 5 ?_
 refine grs ?_
 refine gr_run ?_
 refine bind_e (fun v1 e1 => gr_call [] (laws_toNodeTypeS.con e1) ?_)
 clear e1
 refine gr_run ?_
 refine gr_done ?_
 refine go 1 ?_
 refine grs ?_
 refine gr_run ?_
 refine bind_e (fun v2 e2 => gr_call [] (laws_toEdgeTypeS.con e2) ?_)
 clear e2
 refine gr_run ?_
 refine gr_done ?_
 refine go 1 ?_
 refine grs ?_
 refine gr_run ?_
 refine bind_e (fun v3 e3 => gr_call [] (laws_toKeyS.con e3) ?_)
 clear e3
 refine gr_run ?_
 refine gr_done ?_
 refine go 4 ?_
 refine ret_e (fun hr_ => ?_)
 subst hr_
 exact ret_ Try.func7 []
mutual
def laws_eqStringS_bb.l0 : Nat → Nat → Nat → Int → (List ByteArray) → (List ByteArray) → Option (Bool)
 | 0, _, _, _, _, _ => none
 | k + 1, v0, v1, v4, v2, v3 => (bif decide (v4 < (v0 : Int)) then ((inr v4 v0).bind fun v5 => ((v2[(Int.toNat v4)]?).bind fun v6 => ((inr v4 v1).bind fun v7 => ((v3[(Int.toNat v4)]?).bind fun v8 => (bif decide (v6 = v8) then (laws_eqStringS_bb.l0 k v0 v1 (IntKind.i64.wrap (v4 + 1)) v2 v3) else (some false)))))) else (some true))
def laws_eqStringS_bb.f : Nat → Nat → Nat → (List ByteArray) → (List ByteArray) → Option (Bool)
 | 0, _, _, _, _ => none
 | k + 1, v0, v1, v2, v3 => (bif ((v0 : Int) == (v1 : Int)) then (laws_eqStringS_bb.l0 k v0 v1 0 v2 v3) else (some false))
end
set_option maxRecDepth 100000 in
set_option maxHeartbeats 4000000 in
theorem laws_eqStringS_bb.con {K : Kn} [KOk K] {k : Nat} {v0 : Nat} {v1 : Nat} {v2 : (List ByteArray)} {v3 : (List ByteArray)} {r : Bool} (h : laws_eqStringS_bb.f k v0 v1 v2 v3 = some r) : Con K Try.prog 9 [.buf 1000 0 0 v0, .buf 1001 0 0 v1] [(1000, (0, .buf 1 (List.map srw v2))), (1001, (0, .buf 1 (List.map srw v3)))] (.p (.bool r)) [(1000, (0, .buf 1 (List.map srw v2))), (1001, (0, .buf 1 (List.map srw v3)))] := by
 cases k with
 | zero => exact absurd h (by simp [laws_eqStringS_bb.f])
 | succ k =>
 rw [laws_eqStringS_bb.f] at h
 refine con_intro 26 [] Try.func9 (by kernel_rfl) rfl rfl (by kernel_rfl) fun ι0 w0 hk0 => ?_
 revert h
 refine bif_e (fun c1 => ?_) (fun c1 => ?_)
 ·refine go 11 ?_
  refine fun h => good_loop (fun n st => n ≤ k ∧ ∃ (v4 : _), st = ⟨[(0, .buf 1000 0 0 v0), (1, .buf 1001 0 0 v1), (5, .p (.int .i64 v4))], [(1000, (0, .buf 1 (List.map srw v2))), (1001, (0, .buf 1 (List.map srw v3)))]⟩ ∧ laws_eqStringS_bb.l0 n v0 v1 v4 v2 v3 = some r) k ⟨_, ⟨Nat.le_refl _, _, rfl, h⟩, frle_, memle_⟩ ?_
  clear c1
  clear h
  rintro n _ ⟨hkl0, v4, rfl, h⟩ hl0
  cases n with
  | zero => exact absurd h (by simp [laws_eqStringS_bb.l0])
  | succ kl0 =>
  rw [laws_eqStringS_bb.l0] at h
  revert h
  refine bif_e (fun c2 => ?_) (fun c2 => ?_)
  ·refine bind_e (fun v5 e5 => ?_)
   refine bind_e (fun v6 e6 => ?_)
   replace e6 := nf_ (gx_en srw e6)
   refine bind_e (fun v7 e7 => ?_)
   refine bind_e (fun v8 e8 => ?_)
   replace e8 := nf_ (gx_en srw e8)
   refine go 8 ?_
   refine grs ?_
   refine gr_run ?_
   refine gr_done ?_
   refine bif_e (fun c3 => ?_) (fun c3 => ?_)
   ·refine go 4 ?_
    exact fun h => good_again hl0 (by omega) ⟨_, ⟨by omega, _, rfl, h⟩, frle_, memle_⟩
   ·refine go 3 ?_
    refine ret_e (fun hr_ => ?_)
    subst hr_
    exact ret_ Try.func9 [(1000, (0, 1000, 0)), (1001, (0, 1001, 0))]
  ·refine go 7 ?_
   refine ret_e (fun hr_ => ?_)
   subst hr_
   exact ret_ Try.func9 [(1000, (0, 1000, 0)), (1001, (0, 1001, 0))]
 ·refine go 8 ?_
  refine ret_e (fun hr_ => ?_)
  subst hr_
  exact ret_ Try.func9 [(1000, (0, 1000, 0)), (1001, (0, 1001, 0))]
mutual
def laws_eqStringS.l0 : Nat → (List ByteArray) → (List ByteArray) → Int → Option (Bool)
 | 0, _, _, _ => none
 | k + 1, v0, v1, v2 => (bif decide (v2 < (v0.length : Int)) then ((ix v0 v2).bind fun v3 => ((ix v1 v2).bind fun v4 => (bif decide (v3 = v4) then (laws_eqStringS.l0 k v0 v1 (IntKind.i64.wrap (v2 + 1))) else (some false)))) else (some true))
def laws_eqStringS.f : Nat → (List ByteArray) → (List ByteArray) → Option (Bool)
 | 0, _, _ => none
 | k + 1, v0, v1 => (bif ((v0.length : Int) == (v1.length : Int)) then (laws_eqStringS.l0 k v0 v1 0) else (some false))
end
set_option maxRecDepth 100000 in
set_option maxHeartbeats 4000000 in
theorem laws_eqStringS.con {K : Kn} [KOk K] {k : Nat} {v0 : (List ByteArray)} {v1 : (List ByteArray)} {r : Bool} (h : laws_eqStringS.f k v0 v1 = some r) : Con K Try.prog 9 [.p (.lst false (List.map srw v0)), .p (.lst false (List.map srw v1))] [] (.p (.bool r)) [] := by
 cases k with
 | zero => exact absurd h (by simp [laws_eqStringS.f])
 | succ k =>
 rw [laws_eqStringS.f] at h
 refine con_intro 26 [] Try.func9 (by kernel_rfl) rfl rfl (by kernel_rfl) fun ι0 w0 hk0 => ?_
 revert h
 refine bif_e (fun c1 => ?_) (fun c1 => ?_)
 ·refine go 11 ?_
  refine fun h => good_loop (fun n st => n ≤ k ∧ ∃ (v2 : _), st = ⟨[(0, .p (.lst false (List.map srw v0))), (1, .p (.lst false (List.map srw v1))), (5, .p (.int .i64 v2))], []⟩ ∧ laws_eqStringS.l0 n v0 v1 v2 = some r) k ⟨_, ⟨Nat.le_refl _, _, rfl, h⟩, frle_, memle_⟩ ?_
  clear c1
  clear h
  rintro n _ ⟨hkl0, v2, rfl, h⟩ hl0
  cases n with
  | zero => exact absurd h (by simp [laws_eqStringS.l0])
  | succ kl0 =>
  rw [laws_eqStringS.l0] at h
  revert h
  refine bif_e (fun c2 => ?_) (fun c2 => ?_)
  ·refine bind_e (fun v3 e3 => ?_)
   replace e3 := nf_ (ix_en srw e3)
   refine bind_e (fun v4 e4 => ?_)
   replace e4 := nf_ (ix_en srw e4)
   refine go 8 ?_
   refine grs ?_
   refine gr_run ?_
   refine gr_done ?_
   refine bif_e (fun c3 => ?_) (fun c3 => ?_)
   ·refine go 4 ?_
    exact fun h => good_again hl0 (by omega) ⟨_, ⟨by omega, _, rfl, h⟩, frle_, memle_⟩
   ·refine go 3 ?_
    refine ret_e (fun hr_ => ?_)
    subst hr_
    exact ret_ Try.func9 []
  ·refine go 7 ?_
   refine ret_e (fun hr_ => ?_)
   subst hr_
   exact ret_ Try.func9 []
 ·refine go 8 ?_
  refine ret_e (fun hr_ => ?_)
  subst hr_
  exact ret_ Try.func9 []
def laws_eqRule.f (k : Nat) (v0 : S113) (v1 : S113) : Option (Bool) := (bif decide (v0.f0 = v1.f0) then (bif (v0.f1 == v1.f1) then (bif (v0.f2 == v1.f2) then (some true) else (some false)) else (some false)) else (some false))
set_option maxRecDepth 100000 in
set_option maxHeartbeats 4000000 in
theorem laws_eqRule.con {K : Kn} [KOk K] {k : Nat} {v0 : S113} {v1 : S113} {r : Bool} (h : laws_eqRule.f k v0 v1 = some r) : Con K Try.prog 111 [.agg [.p (.str v0.f0), .p (.int .i64 v0.f1), .p (.bool v0.f2)], .agg [.p (.str v1.f0), .p (.int .i64 v1.f1), .p (.bool v1.f2)]] [] (.p (.bool r)) [] := by
 rw [laws_eqRule.f] at h
 refine con_intro 20 [] Try.func111 (by kernel_rfl) rfl rfl (by kernel_rfl) fun ι0 w0 hk0 => ?_
 revert h
 refine bif_e (fun c1 => ?_) (fun c1 => ?_)
 ·refine bif_e (fun c2 => ?_) (fun c2 => ?_)
  ·refine bif_e (fun c3 => ?_) (fun c3 => ?_)
   ·refine go 19 ?_
    refine ret_e (fun hr_ => ?_)
    subst hr_
    exact ret_ Try.func111 []
   ·refine go 18 ?_
    refine ret_e (fun hr_ => ?_)
    subst hr_
    exact ret_ Try.func111 []
  ·refine go 13 ?_
   refine ret_e (fun hr_ => ?_)
   subst hr_
   exact ret_ Try.func111 []
 ·refine go 8 ?_
  refine ret_e (fun hr_ => ?_)
  subst hr_
  exact ret_ Try.func111 []
mutual
def laws_eqRuleS.l0 : Nat → (List S113) → (List S113) → Int → Option (Bool)
 | 0, _, _, _ => none
 | k + 1, v0, v1, v2 => (bif decide (v2 < (v0.length : Int)) then ((ix v0 v2).bind fun v3 => ((ix v1 v2).bind fun v4 => ((laws_eqRule.f k v3 v4).bind fun v5 => (bif v5 then (laws_eqRuleS.l0 k v0 v1 (IntKind.i64.wrap (v2 + 1))) else (some false))))) else (some true))
def laws_eqRuleS.f : Nat → (List S113) → (List S113) → Option (Bool)
 | 0, _, _ => none
 | k + 1, v0, v1 => (bif ((v0.length : Int) == (v1.length : Int)) then (laws_eqRuleS.l0 k v0 v1 0) else (some false))
end
set_option maxRecDepth 100000 in
set_option maxHeartbeats 4000000 in
theorem laws_eqRuleS.con {K : Kn} [KOk K] {k : Nat} {v0 : (List S113)} {v1 : (List S113)} {r : Bool} (h : laws_eqRuleS.f k v0 v1 = some r) : Con K Try.prog 102 [.p (.lst false (List.map en113 v0)), .p (.lst false (List.map en113 v1))] [] (.p (.bool r)) [] := by
 cases k with
 | zero => exact absurd h (by simp [laws_eqRuleS.f])
 | succ k =>
 rw [laws_eqRuleS.f] at h
 refine con_intro 27 [] Try.func102 (by kernel_rfl) rfl rfl (by kernel_rfl) fun ι0 w0 hk0 => ?_
 revert h
 refine bif_e (fun c1 => ?_) (fun c1 => ?_)
 ·refine go 11 ?_
  refine fun h => good_loop (fun n st => n ≤ k ∧ ∃ (v2 : _), st = ⟨[(0, .p (.lst false (List.map en113 v0))), (1, .p (.lst false (List.map en113 v1))), (5, .p (.int .i64 v2))], []⟩ ∧ laws_eqRuleS.l0 n v0 v1 v2 = some r) k ⟨_, ⟨Nat.le_refl _, _, rfl, h⟩, frle_, memle_⟩ ?_
  clear c1
  clear h
  rintro n _ ⟨hkl0, v2, rfl, h⟩ hl0
  cases n with
  | zero => exact absurd h (by simp [laws_eqRuleS.l0])
  | succ kl0 =>
  rw [laws_eqRuleS.l0] at h
  revert h
  refine bif_e (fun c2 => ?_) (fun c2 => ?_)
  ·refine bind_e (fun v3 e3 => ?_)
   replace e3 := nf_ (ix_en en113 e3)
   refine bind_e (fun v4 e4 => ?_)
   replace e4 := nf_ (ix_en en113 e4)
   refine go 8 ?_
   refine grs ?_
   refine gr_run ?_
   refine bind_e (fun v5 e5 => gr_call [] (laws_eqRule.con e5) ?_)
   clear e5
   refine gr_run ?_
   refine gr_done ?_
   refine bif_e (fun c3 => ?_) (fun c3 => ?_)
   ·refine go 4 ?_
    exact fun h => good_again hl0 (by omega) ⟨_, ⟨by omega, _, rfl, h⟩, frle_, memle_⟩
   ·refine go 3 ?_
    refine ret_e (fun hr_ => ?_)
    subst hr_
    exact ret_ Try.func102 []
  ·refine go 7 ?_
   refine ret_e (fun hr_ => ?_)
   subst hr_
   exact ret_ Try.func102 []
 ·refine go 8 ?_
  refine ret_e (fun hr_ => ?_)
  subst hr_
  exact ret_ Try.func102 []
end Go.Ab
