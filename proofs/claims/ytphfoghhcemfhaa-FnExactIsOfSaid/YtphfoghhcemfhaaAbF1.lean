/- What the functions compute, and their contracts, part 1. No condition beyond KOk. -/
import Derived.Test.YtphfoghhcemfhaaAbX
namespace Go.Ab
open Go.Proofs
set_option linter.unusedVariables false
set_option linter.unusedSimpArgs false
mutual
def laws_szStringS.l0 : Nat → (List ByteArray) → Int → Int → Option (Int)
 | 0, _, _, _ => none
 | k + 1, v0, v2, v3 => (bif decide (v3 < (v0.length : Int)) then ((ix v0 v3).bind fun v4 => (bif decide ((IntKind.i64.wrap (v2 - (v4.size : Int))) < 0) then (some (-1)) else (laws_szStringS.l0 k v0 (IntKind.i64.wrap (v2 - (v4.size : Int))) (IntKind.i64.wrap (v3 + 1))))) else (some v2))
def laws_szStringS.f : Nat → (List ByteArray) → Int → Option (Int)
 | 0, _, _ => none
 | k + 1, v0, v1 => (bif decide ((IntKind.i64.wrap (v1 - (v0.length : Int))) < 0) then (some (-1)) else (laws_szStringS.l0 k v0 (IntKind.i64.wrap (v1 - (v0.length : Int))) 0))
end
set_option maxRecDepth 100000 in
set_option maxHeartbeats 4000000 in
theorem laws_szStringS.con {K : Kn} [KOk K] {k : Nat} {v0 : (List ByteArray)} {v1 : Int} {r : Int} (h : laws_szStringS.f k v0 v1 = some r) : Con K Try.prog 47 [.p (.lst false (List.map srw v0)), .p (.int .i64 v1)] [] (.p (.int .i64 r)) [] := by
 cases k with
 | zero => exact absurd h (by simp [laws_szStringS.f])
 | succ k =>
 rw [laws_szStringS.f] at h
 refine con_intro 28 [] Try.func47 (by kernel_rfl) rfl rfl (by kernel_rfl) fun ι0 w0 hk0 => ?_
 revert h
 refine bif_e (fun c1 => ?_) (fun c1 => ?_)
 ·refine go 10 ?_
  refine ret_e (fun hr_ => ?_)
  subst hr_
  exact ret_ Try.func47 []
 ·refine go 13 ?_
  refine fun h => good_loop (fun n st => n ≤ k ∧ ∃ (v2 : _) (v3 : _), st = ⟨[(0, .p (.lst false (List.map srw v0))), (1, .p (.int .i64 v2)), (5, .p (.int .i64 v3))], []⟩ ∧ laws_szStringS.l0 n v0 v2 v3 = some r) k ⟨_, ⟨Nat.le_refl _, _, _, rfl, h⟩, frle_, memle_⟩ ?_
  clear c1
  clear h
  rintro n _ ⟨hkl0, v2, v3, rfl, h⟩ hl0
  cases n with
  | zero => exact absurd h (by simp [laws_szStringS.l0])
  | succ kl0 =>
  rw [laws_szStringS.l0] at h
  revert h
  refine bif_e (fun c2 => ?_) (fun c2 => ?_)
  ·refine bind_e (fun v4 e4 => ?_)
   replace e4 := nf_ (ix_en srw e4)
   refine bif_e (fun c3 => ?_) (fun c3 => ?_)
   ·refine go 14 ?_
    refine ret_e (fun hr_ => ?_)
    subst hr_
    exact ret_ Try.func47 []
   ·refine go 15 ?_
    exact fun h => good_again hl0 (by omega) ⟨_, ⟨by omega, _, _, rfl, h⟩, frle_, memle_⟩
  ·refine go 7 ?_
   refine ret_e (fun hr_ => ?_)
   subst hr_
   exact ret_ Try.func47 []
def laws_szRule.f (k : Nat) (v0 : S280) (v1 : Int) : Option (Int) := (bif decide ((IntKind.i64.wrap (v1 - (v0.f0.size : Int))) < 0) then (some (-1)) else (some (IntKind.i64.wrap (v1 - (v0.f0.size : Int)))))
set_option maxRecDepth 100000 in
set_option maxHeartbeats 4000000 in
theorem laws_szRule.con {K : Kn} [KOk K] {k : Nat} {v0 : S280} {v1 : Int} {r : Int} (h : laws_szRule.f k v0 v1 = some r) : Con K Try.prog 288 [.agg [.p (.str v0.f0), .p (.int .i64 v0.f1), .p (.bool v0.f2)], .p (.int .i64 v1)] [] (.p (.int .i64 r)) [] := by
 rw [laws_szRule.f] at h
 refine con_intro 13 [] Try.func288 (by kernel_rfl) rfl rfl (by kernel_rfl) fun ι0 w0 hk0 => ?_
 revert h
 refine bif_e (fun c1 => ?_) (fun c1 => ?_)
 ·refine go 10 ?_
  refine ret_e (fun hr_ => ?_)
  subst hr_
  exact ret_ Try.func288 []
 ·refine go 11 ?_
  refine ret_e (fun hr_ => ?_)
  subst hr_
  exact ret_ Try.func288 []
mutual
def laws_szRuleS.l0 : Nat → (List S280) → Int → Int → Option (Int)
 | 0, _, _, _ => none
 | k + 1, v0, v2, v3 => (bif decide (v3 < (v0.length : Int)) then ((ix v0 v3).bind fun v4 => ((laws_szRule.f k v4 v2).bind fun v5 => (bif decide (v5 < 0) then (some (-1)) else (laws_szRuleS.l0 k v0 v5 (IntKind.i64.wrap (v3 + 1)))))) else (some v2))
def laws_szRuleS.f : Nat → (List S280) → Int → Option (Int)
 | 0, _, _ => none
 | k + 1, v0, v1 => (bif decide ((IntKind.i64.wrap (v1 - (v0.length : Int))) < 0) then (some (-1)) else (laws_szRuleS.l0 k v0 (IntKind.i64.wrap (v1 - (v0.length : Int))) 0))
end
set_option maxRecDepth 100000 in
set_option maxHeartbeats 4000000 in
theorem laws_szRuleS.con {K : Kn} [KOk K] {k : Nat} {v0 : (List S280)} {v1 : Int} {r : Int} (h : laws_szRuleS.f k v0 v1 = some r) : Con K Try.prog 258 [.p (.lst false (List.map en280 v0)), .p (.int .i64 v1)] [] (.p (.int .i64 r)) [] := by
 cases k with
 | zero => exact absurd h (by simp [laws_szRuleS.f])
 | succ k =>
 rw [laws_szRuleS.f] at h
 refine con_intro 27 [] Try.func258 (by kernel_rfl) rfl rfl (by kernel_rfl) fun ι0 w0 hk0 => ?_
 revert h
 refine bif_e (fun c1 => ?_) (fun c1 => ?_)
 ·refine go 10 ?_
  refine ret_e (fun hr_ => ?_)
  subst hr_
  exact ret_ Try.func258 []
 ·refine go 13 ?_
  refine fun h => good_loop (fun n st => n ≤ k ∧ ∃ (v2 : _) (v3 : _), st = ⟨[(0, .p (.lst false (List.map en280 v0))), (1, .p (.int .i64 v2)), (5, .p (.int .i64 v3))], []⟩ ∧ laws_szRuleS.l0 n v0 v2 v3 = some r) k ⟨_, ⟨Nat.le_refl _, _, _, rfl, h⟩, frle_, memle_⟩ ?_
  clear c1
  clear h
  rintro n _ ⟨hkl0, v2, v3, rfl, h⟩ hl0
  cases n with
  | zero => exact absurd h (by simp [laws_szRuleS.l0])
  | succ kl0 =>
  rw [laws_szRuleS.l0] at h
  revert h
  refine bif_e (fun c2 => ?_) (fun c2 => ?_)
  ·refine bind_e (fun v4 e4 => ?_)
   replace e4 := nf_ (ix_en en280 e4)
   refine go 8 ?_
   refine grs ?_
   refine gr_run ?_
   refine bind_e (fun v5 e5 => gr_call [] (laws_szRule.con e5) ?_)
   clear e5
   refine gr_run ?_
   refine gr_done ?_
   refine bif_e (fun c3 => ?_) (fun c3 => ?_)
   ·refine go 5 ?_
    refine ret_e (fun hr_ => ?_)
    subst hr_
    exact ret_ Try.func258 []
   ·refine go 6 ?_
    exact fun h => good_again hl0 (by omega) ⟨_, ⟨by omega, _, _, rfl, h⟩, frle_, memle_⟩
  ·refine go 7 ?_
   refine ret_e (fun hr_ => ?_)
   subst hr_
   exact ret_ Try.func258 []
def laws_szNodeType.f (k : Nat) (v0 : S267) (v1 : Int) : Option (Int) := (bif decide ((IntKind.i64.wrap (v1 - (v0.f0.size : Int))) < 0) then (some (-1)) else ((laws_szStringS.f k v0.f1 (IntKind.i64.wrap (v1 - (v0.f0.size : Int)))).bind fun v2 => (bif decide (v2 < 0) then (some (-1)) else ((laws_szRuleS.f k v0.f2 v2).bind fun v3 => (bif decide (v3 < 0) then (some (-1)) else (some v3))))))
set_option maxRecDepth 100000 in
set_option maxHeartbeats 4000000 in
theorem laws_szNodeType.con {K : Kn} [KOk K] {k : Nat} {v0 : S267} {v1 : Int} {r : Int} (h : laws_szNodeType.f k v0 v1 = some r) : Con K Try.prog 192 [.agg [.p (.str v0.f0), .p (.lst false (List.map srw v0.f1)), .p (.lst false (List.map en280 v0.f2)), .p (.bool v0.f3)], .p (.int .i64 v1)] [] (.p (.int .i64 r)) [] := by
 rw [laws_szNodeType.f] at h
 refine con_intro 25 [] Try.func192 (by kernel_rfl) rfl rfl (by kernel_rfl) fun ι0 w0 hk0 => ?_
 revert h
 refine bif_e (fun c1 => ?_) (fun c1 => ?_)
 ·refine go 10 ?_
  refine ret_e (fun hr_ => ?_)
  subst hr_
  exact ret_ Try.func192 []
 ·refine go 10 ?_
  refine grs ?_
  refine gr_run ?_
  refine bind_e (fun v2 e2 => gr_call [] (laws_szStringS.con e2) ?_)
  clear e2
  refine gr_run ?_
  refine gr_done ?_
  refine bif_e (fun c2 => ?_) (fun c2 => ?_)
  ·refine go 6 ?_
   refine ret_e (fun hr_ => ?_)
   subst hr_
   exact ret_ Try.func192 []
  ·refine go 6 ?_
   refine grs ?_
   refine gr_run ?_
   refine bind_e (fun v3 e3 => gr_call [] (laws_szRuleS.con e3) ?_)
   clear e3
   refine gr_run ?_
   refine gr_done ?_
   refine bif_e (fun c3 => ?_) (fun c3 => ?_)
   ·refine go 6 ?_
    refine ret_e (fun hr_ => ?_)
    subst hr_
    exact ret_ Try.func192 []
   ·refine go 7 ?_
    refine ret_e (fun hr_ => ?_)
    subst hr_
    exact ret_ Try.func192 []
mutual
def laws_szNodeTypeS.l0 : Nat → (List S267) → Int → Int → Option (Int)
 | 0, _, _, _ => none
 | k + 1, v0, v2, v3 => (bif decide (v3 < (v0.length : Int)) then ((ix v0 v3).bind fun v4 => ((laws_szNodeType.f k v4 v2).bind fun v5 => (bif decide (v5 < 0) then (some (-1)) else (laws_szNodeTypeS.l0 k v0 v5 (IntKind.i64.wrap (v3 + 1)))))) else (some v2))
def laws_szNodeTypeS.f : Nat → (List S267) → Int → Option (Int)
 | 0, _, _ => none
 | k + 1, v0, v1 => (bif decide ((IntKind.i64.wrap (v1 - (v0.length : Int))) < 0) then (some (-1)) else (laws_szNodeTypeS.l0 k v0 (IntKind.i64.wrap (v1 - (v0.length : Int))) 0))
end
set_option maxRecDepth 100000 in
set_option maxHeartbeats 4000000 in
theorem laws_szNodeTypeS.con {K : Kn} [KOk K] {k : Nat} {v0 : (List S267)} {v1 : Int} {r : Int} (h : laws_szNodeTypeS.f k v0 v1 = some r) : Con K Try.prog 107 [.p (.lst false (List.map en267 v0)), .p (.int .i64 v1)] [] (.p (.int .i64 r)) [] := by
 cases k with
 | zero => exact absurd h (by simp [laws_szNodeTypeS.f])
 | succ k =>
 rw [laws_szNodeTypeS.f] at h
 refine con_intro 27 [] Try.func107 (by kernel_rfl) rfl rfl (by kernel_rfl) fun ι0 w0 hk0 => ?_
 revert h
 refine bif_e (fun c1 => ?_) (fun c1 => ?_)
 ·refine go 10 ?_
  refine ret_e (fun hr_ => ?_)
  subst hr_
  exact ret_ Try.func107 []
 ·refine go 13 ?_
  refine fun h => good_loop (fun n st => n ≤ k ∧ ∃ (v2 : _) (v3 : _), st = ⟨[(0, .p (.lst false (List.map en267 v0))), (1, .p (.int .i64 v2)), (5, .p (.int .i64 v3))], []⟩ ∧ laws_szNodeTypeS.l0 n v0 v2 v3 = some r) k ⟨_, ⟨Nat.le_refl _, _, _, rfl, h⟩, frle_, memle_⟩ ?_
  clear c1
  clear h
  rintro n _ ⟨hkl0, v2, v3, rfl, h⟩ hl0
  cases n with
  | zero => exact absurd h (by simp [laws_szNodeTypeS.l0])
  | succ kl0 =>
  rw [laws_szNodeTypeS.l0] at h
  revert h
  refine bif_e (fun c2 => ?_) (fun c2 => ?_)
  ·refine bind_e (fun v4 e4 => ?_)
   replace e4 := nf_ (ix_en en267 e4)
   refine go 8 ?_
   refine grs ?_
   refine gr_run ?_
   refine bind_e (fun v5 e5 => gr_call [] (laws_szNodeType.con e5) ?_)
   clear e5
   refine gr_run ?_
   refine gr_done ?_
   refine bif_e (fun c3 => ?_) (fun c3 => ?_)
   ·refine go 5 ?_
    refine ret_e (fun hr_ => ?_)
    subst hr_
    exact ret_ Try.func107 []
   ·refine go 6 ?_
    exact fun h => good_again hl0 (by omega) ⟨_, ⟨by omega, _, _, rfl, h⟩, frle_, memle_⟩
  ·refine go 7 ?_
   refine ret_e (fun hr_ => ?_)
   subst hr_
   exact ret_ Try.func107 []
def laws_szEdgeType.f (k : Nat) (v0 : S270) (v1 : Int) : Option (Int) := (bif decide ((IntKind.i64.wrap (v1 - (v0.f0.size : Int))) < 0) then (some (-1)) else (bif decide ((IntKind.i64.wrap ((IntKind.i64.wrap (v1 - (v0.f0.size : Int))) - (v0.f1.size : Int))) < 0) then (some (-1)) else (bif decide ((IntKind.i64.wrap ((IntKind.i64.wrap ((IntKind.i64.wrap (v1 - (v0.f0.size : Int))) - (v0.f1.size : Int))) - (v0.f2.size : Int))) < 0) then (some (-1)) else ((laws_szRuleS.f k v0.f3 (IntKind.i64.wrap ((IntKind.i64.wrap ((IntKind.i64.wrap (v1 - (v0.f0.size : Int))) - (v0.f1.size : Int))) - (v0.f2.size : Int)))).bind fun v2 => (bif decide (v2 < 0) then (some (-1)) else (some v2))))))
set_option maxRecDepth 100000 in
set_option maxHeartbeats 4000000 in
theorem laws_szEdgeType.con {K : Kn} [KOk K] {k : Nat} {v0 : S270} {v1 : Int} {r : Int} (h : laws_szEdgeType.f k v0 v1 = some r) : Con K Try.prog 193 [.agg [.p (.str v0.f0), .p (.str v0.f1), .p (.str v0.f2), .p (.lst false (List.map en280 v0.f3)), .p (.int .i64 v0.f4), .p (.int .i64 v0.f5), .p (.int .i64 v0.f6)], .p (.int .i64 v1)] [] (.p (.int .i64 r)) [] := by
 rw [laws_szEdgeType.f] at h
 refine con_intro 33 [] Try.func193 (by kernel_rfl) rfl rfl (by kernel_rfl) fun ι0 w0 hk0 => ?_
 revert h
 refine bif_e (fun c1 => ?_) (fun c1 => ?_)
 ·refine go 10 ?_
  refine ret_e (fun hr_ => ?_)
  subst hr_
  exact ret_ Try.func193 []
 ·refine bif_e (fun c2 => ?_) (fun c2 => ?_)
  ·refine go 17 ?_
   refine ret_e (fun hr_ => ?_)
   subst hr_
   exact ret_ Try.func193 []
  ·refine bif_e (fun c3 => ?_) (fun c3 => ?_)
   ·refine go 24 ?_
    refine ret_e (fun hr_ => ?_)
    subst hr_
    exact ret_ Try.func193 []
   ·refine go 24 ?_
    refine grs ?_
    refine gr_run ?_
    refine bind_e (fun v2 e2 => gr_call [] (laws_szRuleS.con e2) ?_)
    clear e2
    refine gr_run ?_
    refine gr_done ?_
    refine bif_e (fun c4 => ?_) (fun c4 => ?_)
    ·refine go 6 ?_
     refine ret_e (fun hr_ => ?_)
     subst hr_
     exact ret_ Try.func193 []
    ·refine go 7 ?_
     refine ret_e (fun hr_ => ?_)
     subst hr_
     exact ret_ Try.func193 []
mutual
def laws_szEdgeTypeS.l0 : Nat → (List S270) → Int → Int → Option (Int)
 | 0, _, _, _ => none
 | k + 1, v0, v2, v3 => (bif decide (v3 < (v0.length : Int)) then ((ix v0 v3).bind fun v4 => ((laws_szEdgeType.f k v4 v2).bind fun v5 => (bif decide (v5 < 0) then (some (-1)) else (laws_szEdgeTypeS.l0 k v0 v5 (IntKind.i64.wrap (v3 + 1)))))) else (some v2))
def laws_szEdgeTypeS.f : Nat → (List S270) → Int → Option (Int)
 | 0, _, _ => none
 | k + 1, v0, v1 => (bif decide ((IntKind.i64.wrap (v1 - (v0.length : Int))) < 0) then (some (-1)) else (laws_szEdgeTypeS.l0 k v0 (IntKind.i64.wrap (v1 - (v0.length : Int))) 0))
end
set_option maxRecDepth 100000 in
set_option maxHeartbeats 4000000 in
theorem laws_szEdgeTypeS.con {K : Kn} [KOk K] {k : Nat} {v0 : (List S270)} {v1 : Int} {r : Int} (h : laws_szEdgeTypeS.f k v0 v1 = some r) : Con K Try.prog 108 [.p (.lst false (List.map en270 v0)), .p (.int .i64 v1)] [] (.p (.int .i64 r)) [] := by
 cases k with
 | zero => exact absurd h (by simp [laws_szEdgeTypeS.f])
 | succ k =>
 rw [laws_szEdgeTypeS.f] at h
 refine con_intro 27 [] Try.func108 (by kernel_rfl) rfl rfl (by kernel_rfl) fun ι0 w0 hk0 => ?_
 revert h
 refine bif_e (fun c1 => ?_) (fun c1 => ?_)
 ·refine go 10 ?_
  refine ret_e (fun hr_ => ?_)
  subst hr_
  exact ret_ Try.func108 []
 ·refine go 13 ?_
  refine fun h => good_loop (fun n st => n ≤ k ∧ ∃ (v2 : _) (v3 : _), st = ⟨[(0, .p (.lst false (List.map en270 v0))), (1, .p (.int .i64 v2)), (5, .p (.int .i64 v3))], []⟩ ∧ laws_szEdgeTypeS.l0 n v0 v2 v3 = some r) k ⟨_, ⟨Nat.le_refl _, _, _, rfl, h⟩, frle_, memle_⟩ ?_
  clear c1
  clear h
  rintro n _ ⟨hkl0, v2, v3, rfl, h⟩ hl0
  cases n with
  | zero => exact absurd h (by simp [laws_szEdgeTypeS.l0])
  | succ kl0 =>
  rw [laws_szEdgeTypeS.l0] at h
  revert h
  refine bif_e (fun c2 => ?_) (fun c2 => ?_)
  ·refine bind_e (fun v4 e4 => ?_)
   replace e4 := nf_ (ix_en en270 e4)
   refine go 8 ?_
   refine grs ?_
   refine gr_run ?_
   refine bind_e (fun v5 e5 => gr_call [] (laws_szEdgeType.con e5) ?_)
   clear e5
   refine gr_run ?_
   refine gr_done ?_
   refine bif_e (fun c3 => ?_) (fun c3 => ?_)
   ·refine go 5 ?_
    refine ret_e (fun hr_ => ?_)
    subst hr_
    exact ret_ Try.func108 []
   ·refine go 6 ?_
    exact fun h => good_again hl0 (by omega) ⟨_, ⟨by omega, _, _, rfl, h⟩, frle_, memle_⟩
  ·refine go 7 ?_
   refine ret_e (fun hr_ => ?_)
   subst hr_
   exact ret_ Try.func108 []
def laws_szKey.f (k : Nat) (v0 : S166) (v1 : Int) : Option (Int) := (bif decide ((IntKind.i64.wrap (v1 - (v0.f0.size : Int))) < 0) then (some (-1)) else ((laws_szStringS.f k v0.f1 (IntKind.i64.wrap (v1 - (v0.f0.size : Int)))).bind fun v2 => (bif decide (v2 < 0) then (some (-1)) else (some v2))))
set_option maxRecDepth 100000 in
set_option maxHeartbeats 4000000 in
theorem laws_szKey.con {K : Kn} [KOk K] {k : Nat} {v0 : S166} {v1 : Int} {r : Int} (h : laws_szKey.f k v0 v1 = some r) : Con K Try.prog 194 [.agg [.p (.str v0.f0), .p (.lst false (List.map srw v0.f1))], .p (.int .i64 v1)] [] (.p (.int .i64 r)) [] := by
 rw [laws_szKey.f] at h
 refine con_intro 19 [] Try.func194 (by kernel_rfl) rfl rfl (by kernel_rfl) fun ι0 w0 hk0 => ?_
 revert h
 refine bif_e (fun c1 => ?_) (fun c1 => ?_)
 ·refine go 10 ?_
  refine ret_e (fun hr_ => ?_)
  subst hr_
  exact ret_ Try.func194 []
 ·refine go 10 ?_
  refine grs ?_
  refine gr_run ?_
  refine bind_e (fun v2 e2 => gr_call [] (laws_szStringS.con e2) ?_)
  clear e2
  refine gr_run ?_
  refine gr_done ?_
  refine bif_e (fun c2 => ?_) (fun c2 => ?_)
  ·refine go 6 ?_
   refine ret_e (fun hr_ => ?_)
   subst hr_
   exact ret_ Try.func194 []
  ·refine go 7 ?_
   refine ret_e (fun hr_ => ?_)
   subst hr_
   exact ret_ Try.func194 []
mutual
def laws_szKeyS.l0 : Nat → (List S166) → Int → Int → Option (Int)
 | 0, _, _, _ => none
 | k + 1, v0, v2, v3 => (bif decide (v3 < (v0.length : Int)) then ((ix v0 v3).bind fun v4 => ((laws_szKey.f k v4 v2).bind fun v5 => (bif decide (v5 < 0) then (some (-1)) else (laws_szKeyS.l0 k v0 v5 (IntKind.i64.wrap (v3 + 1)))))) else (some v2))
def laws_szKeyS.f : Nat → (List S166) → Int → Option (Int)
 | 0, _, _ => none
 | k + 1, v0, v1 => (bif decide ((IntKind.i64.wrap (v1 - (v0.length : Int))) < 0) then (some (-1)) else (laws_szKeyS.l0 k v0 (IntKind.i64.wrap (v1 - (v0.length : Int))) 0))
end
set_option maxRecDepth 100000 in
set_option maxHeartbeats 4000000 in
theorem laws_szKeyS.con {K : Kn} [KOk K] {k : Nat} {v0 : (List S166)} {v1 : Int} {r : Int} (h : laws_szKeyS.f k v0 v1 = some r) : Con K Try.prog 109 [.p (.lst false (List.map en166 v0)), .p (.int .i64 v1)] [] (.p (.int .i64 r)) [] := by
 cases k with
 | zero => exact absurd h (by simp [laws_szKeyS.f])
 | succ k =>
 rw [laws_szKeyS.f] at h
 refine con_intro 27 [] Try.func109 (by kernel_rfl) rfl rfl (by kernel_rfl) fun ι0 w0 hk0 => ?_
 revert h
 refine bif_e (fun c1 => ?_) (fun c1 => ?_)
 ·refine go 10 ?_
  refine ret_e (fun hr_ => ?_)
  subst hr_
  exact ret_ Try.func109 []
 ·refine go 13 ?_
  refine fun h => good_loop (fun n st => n ≤ k ∧ ∃ (v2 : _) (v3 : _), st = ⟨[(0, .p (.lst false (List.map en166 v0))), (1, .p (.int .i64 v2)), (5, .p (.int .i64 v3))], []⟩ ∧ laws_szKeyS.l0 n v0 v2 v3 = some r) k ⟨_, ⟨Nat.le_refl _, _, _, rfl, h⟩, frle_, memle_⟩ ?_
  clear c1
  clear h
  rintro n _ ⟨hkl0, v2, v3, rfl, h⟩ hl0
  cases n with
  | zero => exact absurd h (by simp [laws_szKeyS.l0])
  | succ kl0 =>
  rw [laws_szKeyS.l0] at h
  revert h
  refine bif_e (fun c2 => ?_) (fun c2 => ?_)
  ·refine bind_e (fun v4 e4 => ?_)
   replace e4 := nf_ (ix_en en166 e4)
   refine go 8 ?_
   refine grs ?_
   refine gr_run ?_
   refine bind_e (fun v5 e5 => gr_call [] (laws_szKey.con e5) ?_)
   clear e5
   refine gr_run ?_
   refine gr_done ?_
   refine bif_e (fun c3 => ?_) (fun c3 => ?_)
   ·refine go 5 ?_
    refine ret_e (fun hr_ => ?_)
    subst hr_
    exact ret_ Try.func109 []
   ·refine go 6 ?_
    exact fun h => good_again hl0 (by omega) ⟨_, ⟨by omega, _, _, rfl, h⟩, frle_, memle_⟩
  ·refine go 7 ?_
   refine ret_e (fun hr_ => ?_)
   subst hr_
   exact ret_ Try.func109 []
def laws_szSchema.f (k : Nat) (v0 : S58) (v1 : Int) : Option (Int) := ((laws_szNodeTypeS.f k v0.f0 v1).bind fun v2 => (bif decide (v2 < 0) then (some (-1)) else ((laws_szEdgeTypeS.f k v0.f1 v2).bind fun v3 => (bif decide (v3 < 0) then (some (-1)) else ((laws_szKeyS.f k v0.f2 v3).bind fun v4 => (bif decide (v4 < 0) then (some (-1)) else (some v4)))))))
set_option maxRecDepth 100000 in
set_option maxHeartbeats 4000000 in
theorem laws_szSchema.con {K : Kn} [KOk K] {k : Nat} {v0 : S58} {v1 : Int} {r : Int} (h : laws_szSchema.f k v0 v1 = some r) : Con K Try.prog 37 [.agg [.p (.lst false (List.map en267 v0.f0)), .p (.lst false (List.map en270 v0.f1)), .p (.lst false (List.map en166 v0.f2)), .p (.bool v0.f3)], .p (.int .i64 v1)] [] (.p (.int .i64 r)) [] := by
 rw [laws_szSchema.f] at h
 refine con_intro 24 [] Try.func37 (by kernel_rfl) rfl rfl (by kernel_rfl) fun ι0 w0 hk0 => ?_
 revert h
 refine go 3 ?_
 refine grs ?_
 refine gr_run ?_
 refine bind_e (fun v2 e2 => gr_call [] (laws_szNodeTypeS.con e2) ?_)
 clear e2
 refine gr_run ?_
 refine gr_done ?_
 refine bif_e (fun c1 => ?_) (fun c1 => ?_)
 ·refine go 6 ?_
  refine ret_e (fun hr_ => ?_)
  subst hr_
  exact ret_ Try.func37 []
 ·refine go 6 ?_
  refine grs ?_
  refine gr_run ?_
  refine bind_e (fun v3 e3 => gr_call [] (laws_szEdgeTypeS.con e3) ?_)
  clear e3
  refine gr_run ?_
  refine gr_done ?_
  refine bif_e (fun c2 => ?_) (fun c2 => ?_)
  ·refine go 6 ?_
   refine ret_e (fun hr_ => ?_)
   subst hr_
   exact ret_ Try.func37 []
  ·refine go 6 ?_
   refine grs ?_
   refine gr_run ?_
   refine bind_e (fun v4 e4 => gr_call [] (laws_szKeyS.con e4) ?_)
   clear e4
   refine gr_run ?_
   refine gr_done ?_
   refine bif_e (fun c3 => ?_) (fun c3 => ?_)
   ·refine go 6 ?_
    refine ret_e (fun hr_ => ?_)
    subst hr_
    exact ret_ Try.func37 []
   ·refine go 7 ?_
    refine ret_e (fun hr_ => ?_)
    subst hr_
    exact ret_ Try.func37 []
mutual
def laws_toStringS.l0 : Nat → (List ByteArray) → (List ByteArray) → Int → (List ByteArray) → Option ((List ByteArray))
 | 0, _, _, _, _ => none
 | k + 1, v0, v1, v2, v3 => (bif decide (v2 < (v0.length : Int)) then ((ix v0 v2).bind fun v4 => ((inr v2 v1.length).bind fun v5 => ((v3[(Int.toNat v2)]?).bind fun v6 => (laws_toStringS.l0 k v0 v1 (IntKind.i64.wrap (v2 + 1)) (setr v3 (Int.toNat v2) v4))))) else (some (List.take v1.length v3)))
def laws_toStringS.f : Nat → (List ByteArray) → Option ((List ByteArray))
 | 0, _ => none
 | k + 1, v0 => ((mks (⟨#[]⟩ : ByteArray) (v0.length : Int) (v0.length : Int)).bind fun v1 => (laws_toStringS.l0 k v0 v1 0 v1))
end
set_option maxRecDepth 100000 in
set_option maxHeartbeats 4000000 in
theorem laws_toStringS.con {K : Kn} [KOk K] {k : Nat} {v0 : (List ByteArray)} {r : (List ByteArray)} (h : laws_toStringS.f k v0 = some r) : Con K Try.prog 49 [.p (.lst false (List.map srw v0))] [] (.nw (.lst false (List.map srw r))) [] := by
 cases k with
 | zero => exact absurd h (by simp [laws_toStringS.f])
 | succ k =>
 rw [laws_toStringS.f] at h
 refine con_intro 22 [7] Try.func49 (by kernel_rfl) rfl rfl (by kernel_rfl) fun ι0 w0 hk0 => ?_
 revert h
 refine bind_e (fun v1 e1 => ?_)
 replace e1 := nf_ (mks_en srw e1)
 refine go 8 ?_
 refine fun h => good_loop (fun n st => n ≤ k ∧ ∃ (v2 : _) (v3 : _), st = ⟨[(0, .p (.lst false (List.map srw v0))), (3, .buf 7 1 0 v1.length), (4, .p (.int .i64 v2))], [(7, (1, .bufn 1 (List.map srw v3)))]⟩ ∧ laws_toStringS.l0 n v0 v1 v2 v3 = some r) k ⟨_, ⟨Nat.le_refl _, _, _, rfl, h⟩, frle_, memle_⟩ ?_
 clear e1
 clear h
 rintro n _ ⟨hkl0, v2, v3, rfl, h⟩ hl0
 cases n with
 | zero => exact absurd h (by simp [laws_toStringS.l0])
 | succ kl0 =>
 rw [laws_toStringS.l0] at h
 revert h
 refine bif_e (fun c1 => ?_) (fun c1 => ?_)
 ·refine bind_e (fun v4 e4 => ?_)
  replace e4 := nf_ (ix_en srw e4)
  refine bind_e (fun v5 e5 => ?_)
  refine bind_e (fun v6 e6 => ?_)
  replace e6 := nf_ (gx_en srw e6)
  refine go 10 ?_
  exact fun h => good_again hl0 (by omega) ⟨_, ⟨by omega, _, _, rfl, h⟩, frle_, memle_⟩
 ·refine go 7 ?_
  refine freezeN_ 2 ?_
  refine ret_e (fun hr_ => ?_)
  subst hr_
  exact ret_ Try.func49 []
def laws_toRule.f (k : Nat) (v0 : S280) : Option (S280) := (some v0)
set_option maxRecDepth 100000 in
set_option maxHeartbeats 4000000 in
theorem laws_toRule.con {K : Kn} [KOk K] {k : Nat} {v0 : S280} {r : S280} (h : laws_toRule.f k v0 = some r) : Con K Try.prog 289 [.agg [.p (.str v0.f0), .p (.int .i64 v0.f1), .p (.bool v0.f2)]] [] (.agg [.p (.str r.f0), .p (.int .i64 r.f1), .p (.bool r.f2)]) [] := by
 rw [laws_toRule.f] at h
 refine con_intro 14 [] Try.func289 (by kernel_rfl) rfl rfl (by kernel_rfl) fun ι0 w0 hk0 => ?_
 revert h
 refine go 12 ?_
 refine ret_e (fun hr_ => ?_)
 subst hr_
 exact ret_ Try.func289 []
mutual
def laws_toRuleS.l0 : Nat → (List S280) → (List S280) → Int → (List S280) → Option ((List S280))
 | 0, _, _, _, _ => none
 | k + 1, v0, v1, v2, v3 => (bif decide (v2 < (v0.length : Int)) then ((ix v0 v2).bind fun v4 => ((laws_toRule.f k v4).bind fun v5 => ((inr v2 v1.length).bind fun v6 => ((v3[(Int.toNat v2)]?).bind fun v7 => (laws_toRuleS.l0 k v0 v1 (IntKind.i64.wrap (v2 + 1)) (setr v3 (Int.toNat v2) v5)))))) else (some (List.take v1.length v3)))
def laws_toRuleS.f : Nat → (List S280) → Option ((List S280))
 | 0, _ => none
 | k + 1, v0 => ((mks (⟨(⟨#[]⟩ : ByteArray), 0, false⟩ : S280) (v0.length : Int) (v0.length : Int)).bind fun v1 => (laws_toRuleS.l0 k v0 v1 0 v1))
end
set_option maxRecDepth 100000 in
set_option maxHeartbeats 4000000 in
theorem laws_toRuleS.con {K : Kn} [KOk K] {k : Nat} {v0 : (List S280)} {r : (List S280)} (h : laws_toRuleS.f k v0 = some r) : Con K Try.prog 260 [.p (.lst false (List.map en280 v0))] [] (.nw (.lst false (List.map en280 r))) [] := by
 cases k with
 | zero => exact absurd h (by simp [laws_toRuleS.f])
 | succ k =>
 rw [laws_toRuleS.f] at h
 refine con_intro 23 [7] Try.func260 (by kernel_rfl) rfl rfl (by kernel_rfl) fun ι0 w0 hk0 => ?_
 revert h
 refine bind_e (fun v1 e1 => ?_)
 replace e1 := nf_ (mks_en en280 e1)
 refine go 8 ?_
 refine fun h => good_loop (fun n st => n ≤ k ∧ ∃ (v2 : _) (v3 : _), st = ⟨[(0, .p (.lst false (List.map en280 v0))), (3, .buf 7 1 0 v1.length), (4, .p (.int .i64 v2))], [(7, (1, .bufn 3 (List.map en280 v3)))]⟩ ∧ laws_toRuleS.l0 n v0 v1 v2 v3 = some r) k ⟨_, ⟨Nat.le_refl _, _, _, rfl, h⟩, frle_, memle_⟩ ?_
 clear e1
 clear h
 rintro n _ ⟨hkl0, v2, v3, rfl, h⟩ hl0
 cases n with
 | zero => exact absurd h (by simp [laws_toRuleS.l0])
 | succ kl0 =>
 rw [laws_toRuleS.l0] at h
 revert h
 refine bif_e (fun c1 => ?_) (fun c1 => ?_)
 ·refine bind_e (fun v4 e4 => ?_)
  replace e4 := nf_ (ix_en en280 e4)
  refine go 7 ?_
  refine grs ?_
  refine gr_run ?_
  refine bind_e (fun v5 e5 => gr_call [] (laws_toRule.con e5) ?_)
  clear e5
  refine bind_e (fun v6 e6 => ?_)
  refine bind_e (fun v7 e7 => ?_)
  replace e7 := nf_ (gx_en en280 e7)
  refine gr_run ?_
  refine gr_done ?_
  refine go 2 ?_
  exact fun h => good_again hl0 (by omega) ⟨_, ⟨by omega, _, _, rfl, h⟩, frle_, memle_⟩
 ·refine go 7 ?_
  refine freezeN_ 2 ?_
  refine ret_e (fun hr_ => ?_)
  subst hr_
  exact ret_ Try.func260 []
def laws_toNodeType.f (k : Nat) (v0 : S267) : Option (S160) := ((laws_toStringS.f k v0.f1).bind fun v1 => ((laws_toRuleS.f k v0.f2).bind fun v2 => (some (⟨v0.f0, v1, v2, v0.f3⟩ : S160))))
set_option maxRecDepth 100000 in
set_option maxHeartbeats 4000000 in
theorem laws_toNodeType.con {K : Kn} [KOk K] {k : Nat} {v0 : S267} {r : S160} (h : laws_toNodeType.f k v0 = some r) : Con K Try.prog 197 [.agg [.p (.str v0.f0), .p (.lst false (List.map srw v0.f1)), .p (.lst false (List.map en280 v0.f2)), .p (.bool v0.f3)]] [] (.agg [.p (.str r.f0), .nw (.lst false (List.map srw r.f1)), .nw (.lst false (List.map en280 r.f2)), .p (.bool r.f3)]) [] := by
 rw [laws_toNodeType.f] at h
 refine con_intro 19 [] Try.func197 (by kernel_rfl) rfl rfl (by kernel_rfl) fun ι0 w0 hk0 => ?_
 revert h
 refine go 7 ?_
 refine grs ?_
 refine gr_run ?_
 refine bind_e (fun v1 e1 => gr_call [] (laws_toStringS.con e1) ?_)
 clear e1
 refine gr_run ?_
 refine gr_done ?_
 refine go 1 ?_
 refine grs ?_
 refine gr_run ?_
 refine bind_e (fun v2 e2 => gr_call [] (laws_toRuleS.con e2) ?_)
 clear e2
 refine gr_run ?_
 refine gr_done ?_
 refine go 4 ?_
 refine ret_e (fun hr_ => ?_)
 subst hr_
 exact ret_ Try.func197 []
mutual
def laws_toNodeTypeS.l0 : Nat → (List S267) → (List S160) → Int → (List S160) → Option ((List S160))
 | 0, _, _, _, _ => none
 | k + 1, v0, v1, v2, v3 => (bif decide (v2 < (v0.length : Int)) then ((ix v0 v2).bind fun v4 => ((laws_toNodeType.f k v4).bind fun v5 => ((inr v2 v1.length).bind fun v6 => ((v3[(Int.toNat v2)]?).bind fun v7 => (laws_toNodeTypeS.l0 k v0 v1 (IntKind.i64.wrap (v2 + 1)) (setr v3 (Int.toNat v2) v5)))))) else (some (List.take v1.length v3)))
def laws_toNodeTypeS.f : Nat → (List S267) → Option ((List S160))
 | 0, _ => none
 | k + 1, v0 => ((mks (⟨(⟨#[]⟩ : ByteArray), ([] : (List ByteArray)), ([] : (List S280)), false⟩ : S160) (v0.length : Int) (v0.length : Int)).bind fun v1 => (laws_toNodeTypeS.l0 k v0 v1 0 v1))
end
set_option maxRecDepth 100000 in
set_option maxHeartbeats 4000000 in
theorem laws_toNodeTypeS.con {K : Kn} [KOk K] {k : Nat} {v0 : (List S267)} {r : (List S160)} (h : laws_toNodeTypeS.f k v0 = some r) : Con K Try.prog 115 [.p (.lst false (List.map en267 v0))] [] (.nw (.lst false (List.map en160 r))) [] := by
 cases k with
 | zero => exact absurd h (by simp [laws_toNodeTypeS.f])
 | succ k =>
 rw [laws_toNodeTypeS.f] at h
 refine con_intro 23 [7] Try.func115 (by kernel_rfl) rfl rfl (by kernel_rfl) fun ι0 w0 hk0 => ?_
 revert h
 refine bind_e (fun v1 e1 => ?_)
 replace e1 := nf_ (mks_en en160 e1)
 refine go 8 ?_
 refine fun h => good_loop (fun n st => n ≤ k ∧ ∃ (v2 : _) (v3 : _), st = ⟨[(0, .p (.lst false (List.map en267 v0))), (3, .buf 7 1 0 v1.length), (4, .p (.int .i64 v2))], [(7, (1, .bufn 4 (List.map en160 v3)))]⟩ ∧ laws_toNodeTypeS.l0 n v0 v1 v2 v3 = some r) k ⟨_, ⟨Nat.le_refl _, _, _, rfl, h⟩, frle_, memle_⟩ ?_
 clear e1
 clear h
 rintro n _ ⟨hkl0, v2, v3, rfl, h⟩ hl0
 cases n with
 | zero => exact absurd h (by simp [laws_toNodeTypeS.l0])
 | succ kl0 =>
 rw [laws_toNodeTypeS.l0] at h
 revert h
 refine bif_e (fun c1 => ?_) (fun c1 => ?_)
 ·refine bind_e (fun v4 e4 => ?_)
  replace e4 := nf_ (ix_en en267 e4)
  refine go 7 ?_
  refine grs ?_
  refine gr_run ?_
  refine bind_e (fun v5 e5 => gr_call [] (laws_toNodeType.con e5) ?_)
  clear e5
  refine bind_e (fun v6 e6 => ?_)
  refine bind_e (fun v7 e7 => ?_)
  replace e7 := nf_ (gx_en en160 e7)
  refine gr_run ?_
  refine gr_done ?_
  refine go 2 ?_
  exact fun h => good_again hl0 (by omega) ⟨_, ⟨by omega, _, _, rfl, h⟩, frle_, memle_⟩
 ·refine go 7 ?_
  refine freezeN_ 2 ?_
  refine ret_e (fun hr_ => ?_)
  subst hr_
  exact ret_ Try.func115 []
def laws_toEdgeType.f (k : Nat) (v0 : S270) : Option (S163) := ((laws_toRuleS.f k v0.f3).bind fun v1 => (some (⟨v0.f0, v0.f1, v0.f2, v1, v0.f4, v0.f5, v0.f6⟩ : S163)))
set_option maxRecDepth 100000 in
set_option maxHeartbeats 4000000 in
theorem laws_toEdgeType.con {K : Kn} [KOk K] {k : Nat} {v0 : S270} {r : S163} (h : laws_toEdgeType.f k v0 = some r) : Con K Try.prog 198 [.agg [.p (.str v0.f0), .p (.str v0.f1), .p (.str v0.f2), .p (.lst false (List.map en280 v0.f3)), .p (.int .i64 v0.f4), .p (.int .i64 v0.f5), .p (.int .i64 v0.f6)]] [] (.agg [.p (.str r.f0), .p (.str r.f1), .p (.str r.f2), .nw (.lst false (List.map en280 r.f3)), .p (.int .i64 r.f4), .p (.int .i64 r.f5), .p (.int .i64 r.f6)]) [] := by
 rw [laws_toEdgeType.f] at h
 refine con_intro 27 [] Try.func198 (by kernel_rfl) rfl rfl (by kernel_rfl) fun ι0 w0 hk0 => ?_
 revert h
 refine go 11 ?_
 refine grs ?_
 refine gr_run ?_
 refine bind_e (fun v1 e1 => gr_call [] (laws_toRuleS.con e1) ?_)
 clear e1
 refine gr_run ?_
 refine gr_done ?_
 refine go 8 ?_
 refine ret_e (fun hr_ => ?_)
 subst hr_
 exact ret_ Try.func198 []
mutual
def laws_toEdgeTypeS.l0 : Nat → (List S270) → (List S163) → Int → (List S163) → Option ((List S163))
 | 0, _, _, _, _ => none
 | k + 1, v0, v1, v2, v3 => (bif decide (v2 < (v0.length : Int)) then ((ix v0 v2).bind fun v4 => ((laws_toEdgeType.f k v4).bind fun v5 => ((inr v2 v1.length).bind fun v6 => ((v3[(Int.toNat v2)]?).bind fun v7 => (laws_toEdgeTypeS.l0 k v0 v1 (IntKind.i64.wrap (v2 + 1)) (setr v3 (Int.toNat v2) v5)))))) else (some (List.take v1.length v3)))
def laws_toEdgeTypeS.f : Nat → (List S270) → Option ((List S163))
 | 0, _ => none
 | k + 1, v0 => ((mks (⟨(⟨#[]⟩ : ByteArray), (⟨#[]⟩ : ByteArray), (⟨#[]⟩ : ByteArray), ([] : (List S280)), 0, 0, 0⟩ : S163) (v0.length : Int) (v0.length : Int)).bind fun v1 => (laws_toEdgeTypeS.l0 k v0 v1 0 v1))
end
set_option maxRecDepth 100000 in
set_option maxHeartbeats 4000000 in
theorem laws_toEdgeTypeS.con {K : Kn} [KOk K] {k : Nat} {v0 : (List S270)} {r : (List S163)} (h : laws_toEdgeTypeS.f k v0 = some r) : Con K Try.prog 116 [.p (.lst false (List.map en270 v0))] [] (.nw (.lst false (List.map en163 r))) [] := by
 cases k with
 | zero => exact absurd h (by simp [laws_toEdgeTypeS.f])
 | succ k =>
 rw [laws_toEdgeTypeS.f] at h
 refine con_intro 23 [7] Try.func116 (by kernel_rfl) rfl rfl (by kernel_rfl) fun ι0 w0 hk0 => ?_
 revert h
 refine bind_e (fun v1 e1 => ?_)
 replace e1 := nf_ (mks_en en163 e1)
 refine go 8 ?_
 refine fun h => good_loop (fun n st => n ≤ k ∧ ∃ (v2 : _) (v3 : _), st = ⟨[(0, .p (.lst false (List.map en270 v0))), (3, .buf 7 1 0 v1.length), (4, .p (.int .i64 v2))], [(7, (1, .bufn 7 (List.map en163 v3)))]⟩ ∧ laws_toEdgeTypeS.l0 n v0 v1 v2 v3 = some r) k ⟨_, ⟨Nat.le_refl _, _, _, rfl, h⟩, frle_, memle_⟩ ?_
 clear e1
 clear h
 rintro n _ ⟨hkl0, v2, v3, rfl, h⟩ hl0
 cases n with
 | zero => exact absurd h (by simp [laws_toEdgeTypeS.l0])
 | succ kl0 =>
 rw [laws_toEdgeTypeS.l0] at h
 revert h
 refine bif_e (fun c1 => ?_) (fun c1 => ?_)
 ·refine bind_e (fun v4 e4 => ?_)
  replace e4 := nf_ (ix_en en270 e4)
  refine go 7 ?_
  refine grs ?_
  refine gr_run ?_
  refine bind_e (fun v5 e5 => gr_call [] (laws_toEdgeType.con e5) ?_)
  clear e5
  refine bind_e (fun v6 e6 => ?_)
  refine bind_e (fun v7 e7 => ?_)
  replace e7 := nf_ (gx_en en163 e7)
  refine gr_run ?_
  refine gr_done ?_
  refine go 2 ?_
  exact fun h => good_again hl0 (by omega) ⟨_, ⟨by omega, _, _, rfl, h⟩, frle_, memle_⟩
 ·refine go 7 ?_
  refine freezeN_ 2 ?_
  refine ret_e (fun hr_ => ?_)
  subst hr_
  exact ret_ Try.func116 []
def laws_toKey.f (k : Nat) (v0 : S166) : Option (S166) := ((laws_toStringS.f k v0.f1).bind fun v1 => (some (⟨v0.f0, v1⟩ : S166)))
set_option maxRecDepth 100000 in
set_option maxHeartbeats 4000000 in
theorem laws_toKey.con {K : Kn} [KOk K] {k : Nat} {v0 : S166} {r : S166} (h : laws_toKey.f k v0 = some r) : Con K Try.prog 199 [.agg [.p (.str v0.f0), .p (.lst false (List.map srw v0.f1))]] [] (.agg [.p (.str r.f0), .nw (.lst false (List.map srw r.f1))]) [] := by
 rw [laws_toKey.f] at h
 refine con_intro 12 [] Try.func199 (by kernel_rfl) rfl rfl (by kernel_rfl) fun ι0 w0 hk0 => ?_
 revert h
 refine go 7 ?_
 refine grs ?_
 refine gr_run ?_
 refine bind_e (fun v1 e1 => gr_call [] (laws_toStringS.con e1) ?_)
 clear e1
 refine gr_run ?_
 refine gr_done ?_
 refine go 2 ?_
 refine ret_e (fun hr_ => ?_)
 subst hr_
 exact ret_ Try.func199 []
mutual
def laws_toKeyS.l0 : Nat → (List S166) → (List S166) → Int → (List S166) → Option ((List S166))
 | 0, _, _, _, _ => none
 | k + 1, v0, v1, v2, v3 => (bif decide (v2 < (v0.length : Int)) then ((ix v0 v2).bind fun v4 => ((laws_toKey.f k v4).bind fun v5 => ((inr v2 v1.length).bind fun v6 => ((v3[(Int.toNat v2)]?).bind fun v7 => (laws_toKeyS.l0 k v0 v1 (IntKind.i64.wrap (v2 + 1)) (setr v3 (Int.toNat v2) v5)))))) else (some (List.take v1.length v3)))
def laws_toKeyS.f : Nat → (List S166) → Option ((List S166))
 | 0, _ => none
 | k + 1, v0 => ((mks (⟨(⟨#[]⟩ : ByteArray), ([] : (List ByteArray))⟩ : S166) (v0.length : Int) (v0.length : Int)).bind fun v1 => (laws_toKeyS.l0 k v0 v1 0 v1))
end
set_option maxRecDepth 100000 in
set_option maxHeartbeats 4000000 in
theorem laws_toKeyS.con {K : Kn} [KOk K] {k : Nat} {v0 : (List S166)} {r : (List S166)} (h : laws_toKeyS.f k v0 = some r) : Con K Try.prog 117 [.p (.lst false (List.map en166 v0))] [] (.nw (.lst false (List.map en166 r))) [] := by
 cases k with
 | zero => exact absurd h (by simp [laws_toKeyS.f])
 | succ k =>
 rw [laws_toKeyS.f] at h
 refine con_intro 23 [7] Try.func117 (by kernel_rfl) rfl rfl (by kernel_rfl) fun ι0 w0 hk0 => ?_
 revert h
 refine bind_e (fun v1 e1 => ?_)
 replace e1 := nf_ (mks_en en166 e1)
 refine go 8 ?_
 refine fun h => good_loop (fun n st => n ≤ k ∧ ∃ (v2 : _) (v3 : _), st = ⟨[(0, .p (.lst false (List.map en166 v0))), (3, .buf 7 1 0 v1.length), (4, .p (.int .i64 v2))], [(7, (1, .bufn 2 (List.map en166 v3)))]⟩ ∧ laws_toKeyS.l0 n v0 v1 v2 v3 = some r) k ⟨_, ⟨Nat.le_refl _, _, _, rfl, h⟩, frle_, memle_⟩ ?_
 clear e1
 clear h
 rintro n _ ⟨hkl0, v2, v3, rfl, h⟩ hl0
 cases n with
 | zero => exact absurd h (by simp [laws_toKeyS.l0])
 | succ kl0 =>
 rw [laws_toKeyS.l0] at h
 revert h
 refine bif_e (fun c1 => ?_) (fun c1 => ?_)
 ·refine bind_e (fun v4 e4 => ?_)
  replace e4 := nf_ (ix_en en166 e4)
  refine go 7 ?_
  refine grs ?_
  refine gr_run ?_
  refine bind_e (fun v5 e5 => gr_call [] (laws_toKey.con e5) ?_)
  clear e5
  refine bind_e (fun v6 e6 => ?_)
  refine bind_e (fun v7 e7 => ?_)
  replace e7 := nf_ (gx_en en166 e7)
  refine gr_run ?_
  refine gr_done ?_
  refine go 2 ?_
  exact fun h => good_again hl0 (by omega) ⟨_, ⟨by omega, _, _, rfl, h⟩, frle_, memle_⟩
 ·refine go 7 ?_
  refine freezeN_ 2 ?_
  refine ret_e (fun hr_ => ?_)
  subst hr_
  exact ret_ Try.func117 []
def laws_toSchema.f (k : Nat) (v0 : S58) : Option (S65) := ((laws_toNodeTypeS.f k v0.f0).bind fun v1 => ((laws_toEdgeTypeS.f k v0.f1).bind fun v2 => ((laws_toKeyS.f k v0.f2).bind fun v3 => (some (⟨v1, v2, v3, v0.f3⟩ : S65)))))
set_option maxRecDepth 100000 in
set_option maxHeartbeats 4000000 in
theorem laws_toSchema.con {K : Kn} [KOk K] {k : Nat} {v0 : S58} {r : S65} (h : laws_toSchema.f k v0 = some r) : Con K Try.prog 39 [.agg [.p (.lst false (List.map en267 v0.f0)), .p (.lst false (List.map en270 v0.f1)), .p (.lst false (List.map en166 v0.f2)), .p (.bool v0.f3)]] [] (.agg [.nw (.lst false (List.map en160 r.f0)), .nw (.lst false (List.map en163 r.f1)), .nw (.lst false (List.map en166 r.f2)), .p (.bool r.f3)]) [] := by
 rw [laws_toSchema.f] at h
 refine con_intro 20 [] Try.func39 (by kernel_rfl) rfl rfl (by kernel_rfl) fun ι0 w0 hk0 => ?_
 revert h
 refine go 5 ?_
 refine grs ?_
 refine gr_run ?_
 refine bind_e (fun v1 e1 => gr_call [] (laws_toNodeTypeS.con e1) ?_)
 clear e1
 refine gr_run ?_
 refine gr_done ?_
 refine go 1 ?_
 refine grs ?_
 refine gr_run ?_
 refine bind_e (fun v2 e2 => gr_call [] (laws_toEdgeTypeS.con e2) ?_)
 clear e2
 refine gr_run ?_
 refine gr_done ?_
 refine go 1 ?_
 refine grs ?_
 refine gr_run ?_
 refine bind_e (fun v3 e3 => gr_call [] (laws_toKeyS.con e3) ?_)
 clear e3
 refine gr_run ?_
 refine gr_done ?_
 refine go 4 ?_
 refine ret_e (fun hr_ => ?_)
 subst hr_
 exact ret_ Try.func39 []
mutual
def laws_eqStringS.l0 : Nat → (List ByteArray) → (List ByteArray) → Int → Option (Bool)
 | 0, _, _, _ => none
 | k + 1, v0, v1, v2 => (bif decide (v2 < (v0.length : Int)) then ((ix v0 v2).bind fun v3 => ((ix v1 v2).bind fun v4 => (bif decide (v3 = v4) then (laws_eqStringS.l0 k v0 v1 (IntKind.i64.wrap (v2 + 1))) else (some false)))) else (some true))
def laws_eqStringS.f : Nat → (List ByteArray) → (List ByteArray) → Option (Bool)
 | 0, _, _ => none
 | k + 1, v0, v1 => (bif ((v0.length : Int) == (v1.length : Int)) then (laws_eqStringS.l0 k v0 v1 0) else (some false))
end
set_option maxRecDepth 100000 in
set_option maxHeartbeats 4000000 in
theorem laws_eqStringS.con {K : Kn} [KOk K] {k : Nat} {v0 : (List ByteArray)} {v1 : (List ByteArray)} {r : Bool} (h : laws_eqStringS.f k v0 v1 = some r) : Con K Try.prog 34 [.p (.lst false (List.map srw v0)), .p (.lst false (List.map srw v1))] [] (.p (.bool r)) [] := by
 cases k with
 | zero => exact absurd h (by simp [laws_eqStringS.f])
 | succ k =>
 rw [laws_eqStringS.f] at h
 refine con_intro 26 [] Try.func34 (by kernel_rfl) rfl rfl (by kernel_rfl) fun ι0 w0 hk0 => ?_
 revert h
 refine bif_e (fun c1 => ?_) (fun c1 => ?_)
 ·refine go 11 ?_
  refine fun h => good_loop (fun n st => n ≤ k ∧ ∃ (v2 : _), st = ⟨[(0, .p (.lst false (List.map srw v0))), (1, .p (.lst false (List.map srw v1))), (5, .p (.int .i64 v2))], []⟩ ∧ laws_eqStringS.l0 n v0 v1 v2 = some r) k ⟨_, ⟨Nat.le_refl _, _, rfl, h⟩, frle_, memle_⟩ ?_
  clear c1
  clear h
  rintro n _ ⟨hkl0, v2, rfl, h⟩ hl0
  cases n with
  | zero => exact absurd h (by simp [laws_eqStringS.l0])
  | succ kl0 =>
  rw [laws_eqStringS.l0] at h
  revert h
  refine bif_e (fun c2 => ?_) (fun c2 => ?_)
  ·refine bind_e (fun v3 e3 => ?_)
   replace e3 := nf_ (ix_en srw e3)
   refine bind_e (fun v4 e4 => ?_)
   replace e4 := nf_ (ix_en srw e4)
   refine go 8 ?_
   refine grs ?_
   refine gr_run ?_
   refine gr_done ?_
   refine bif_e (fun c3 => ?_) (fun c3 => ?_)
   ·refine go 4 ?_
    exact fun h => good_again hl0 (by omega) ⟨_, ⟨by omega, _, rfl, h⟩, frle_, memle_⟩
   ·refine go 3 ?_
    refine ret_e (fun hr_ => ?_)
    subst hr_
    exact ret_ Try.func34 []
  ·refine go 7 ?_
   refine ret_e (fun hr_ => ?_)
   subst hr_
   exact ret_ Try.func34 []
 ·refine go 8 ?_
  refine ret_e (fun hr_ => ?_)
  subst hr_
  exact ret_ Try.func34 []
def laws_eqRule.f (k : Nat) (v0 : S280) (v1 : S280) : Option (Bool) := (bif decide (v0.f0 = v1.f0) then (bif (v0.f1 == v1.f1) then (bif (v0.f2 == v1.f2) then (some true) else (some false)) else (some false)) else (some false))
set_option maxRecDepth 100000 in
set_option maxHeartbeats 4000000 in
theorem laws_eqRule.con {K : Kn} [KOk K] {k : Nat} {v0 : S280} {v1 : S280} {r : Bool} (h : laws_eqRule.f k v0 v1 = some r) : Con K Try.prog 290 [.agg [.p (.str v0.f0), .p (.int .i64 v0.f1), .p (.bool v0.f2)], .agg [.p (.str v1.f0), .p (.int .i64 v1.f1), .p (.bool v1.f2)]] [] (.p (.bool r)) [] := by
 rw [laws_eqRule.f] at h
 refine con_intro 20 [] Try.func290 (by kernel_rfl) rfl rfl (by kernel_rfl) fun ι0 w0 hk0 => ?_
 revert h
 refine bif_e (fun c1 => ?_) (fun c1 => ?_)
 ·refine bif_e (fun c2 => ?_) (fun c2 => ?_)
  ·refine bif_e (fun c3 => ?_) (fun c3 => ?_)
   ·refine go 19 ?_
    refine ret_e (fun hr_ => ?_)
    subst hr_
    exact ret_ Try.func290 []
   ·refine go 18 ?_
    refine ret_e (fun hr_ => ?_)
    subst hr_
    exact ret_ Try.func290 []
  ·refine go 13 ?_
   refine ret_e (fun hr_ => ?_)
   subst hr_
   exact ret_ Try.func290 []
 ·refine go 8 ?_
  refine ret_e (fun hr_ => ?_)
  subst hr_
  exact ret_ Try.func290 []
mutual
def laws_eqRuleS.l0 : Nat → (List S280) → (List S280) → Int → Option (Bool)
 | 0, _, _, _ => none
 | k + 1, v0, v1, v2 => (bif decide (v2 < (v0.length : Int)) then ((ix v0 v2).bind fun v3 => ((ix v1 v2).bind fun v4 => ((laws_eqRule.f k v3 v4).bind fun v5 => (bif v5 then (laws_eqRuleS.l0 k v0 v1 (IntKind.i64.wrap (v2 + 1))) else (some false))))) else (some true))
def laws_eqRuleS.f : Nat → (List S280) → (List S280) → Option (Bool)
 | 0, _, _ => none
 | k + 1, v0, v1 => (bif ((v0.length : Int) == (v1.length : Int)) then (laws_eqRuleS.l0 k v0 v1 0) else (some false))
end
set_option maxRecDepth 100000 in
set_option maxHeartbeats 4000000 in
theorem laws_eqRuleS.con {K : Kn} [KOk K] {k : Nat} {v0 : (List S280)} {v1 : (List S280)} {r : Bool} (h : laws_eqRuleS.f k v0 v1 = some r) : Con K Try.prog 263 [.p (.lst false (List.map en280 v0)), .p (.lst false (List.map en280 v1))] [] (.p (.bool r)) [] := by
 cases k with
 | zero => exact absurd h (by simp [laws_eqRuleS.f])
 | succ k =>
 rw [laws_eqRuleS.f] at h
 refine con_intro 27 [] Try.func263 (by kernel_rfl) rfl rfl (by kernel_rfl) fun ι0 w0 hk0 => ?_
 revert h
 refine bif_e (fun c1 => ?_) (fun c1 => ?_)
 ·refine go 11 ?_
  refine fun h => good_loop (fun n st => n ≤ k ∧ ∃ (v2 : _), st = ⟨[(0, .p (.lst false (List.map en280 v0))), (1, .p (.lst false (List.map en280 v1))), (5, .p (.int .i64 v2))], []⟩ ∧ laws_eqRuleS.l0 n v0 v1 v2 = some r) k ⟨_, ⟨Nat.le_refl _, _, rfl, h⟩, frle_, memle_⟩ ?_
  clear c1
  clear h
  rintro n _ ⟨hkl0, v2, rfl, h⟩ hl0
  cases n with
  | zero => exact absurd h (by simp [laws_eqRuleS.l0])
  | succ kl0 =>
  rw [laws_eqRuleS.l0] at h
  revert h
  refine bif_e (fun c2 => ?_) (fun c2 => ?_)
  ·refine bind_e (fun v3 e3 => ?_)
   replace e3 := nf_ (ix_en en280 e3)
   refine bind_e (fun v4 e4 => ?_)
   replace e4 := nf_ (ix_en en280 e4)
   refine go 8 ?_
   refine grs ?_
   refine gr_run ?_
   refine bind_e (fun v5 e5 => gr_call [] (laws_eqRule.con e5) ?_)
   clear e5
   refine gr_run ?_
   refine gr_done ?_
   refine bif_e (fun c3 => ?_) (fun c3 => ?_)
   ·refine go 4 ?_
    exact fun h => good_again hl0 (by omega) ⟨_, ⟨by omega, _, rfl, h⟩, frle_, memle_⟩
   ·refine go 3 ?_
    refine ret_e (fun hr_ => ?_)
    subst hr_
    exact ret_ Try.func263 []
  ·refine go 7 ?_
   refine ret_e (fun hr_ => ?_)
   subst hr_
   exact ret_ Try.func263 []
 ·refine go 8 ?_
  refine ret_e (fun hr_ => ?_)
  subst hr_
  exact ret_ Try.func263 []
def laws_eqNodeType.f (k : Nat) (v0 : S160) (v1 : S160) : Option (Bool) := (bif decide (v0.f0 = v1.f0) then ((laws_eqStringS.f k v0.f1 v1.f1).bind fun v2 => (bif v2 then ((laws_eqRuleS.f k v0.f2 v1.f2).bind fun v3 => (bif v3 then (bif (v0.f3 == v1.f3) then (some true) else (some false)) else (some false))) else (some false))) else (some false))
set_option maxRecDepth 100000 in
set_option maxHeartbeats 4000000 in
theorem laws_eqNodeType.con {K : Kn} [KOk K] {k : Nat} {v0 : S160} {v1 : S160} {r : Bool} (h : laws_eqNodeType.f k v0 v1 = some r) : Con K Try.prog 208 [.agg [.p (.str v0.f0), .p (.lst false (List.map srw v0.f1)), .p (.lst false (List.map en280 v0.f2)), .p (.bool v0.f3)], .agg [.p (.str v1.f0), .p (.lst false (List.map srw v1.f1)), .p (.lst false (List.map en280 v1.f2)), .p (.bool v1.f3)]] [] (.p (.bool r)) [] := by
 rw [laws_eqNodeType.f] at h
 refine con_intro 27 [] Try.func208 (by kernel_rfl) rfl rfl (by kernel_rfl) fun ι0 w0 hk0 => ?_
 revert h
 refine bif_e (fun c1 => ?_) (fun c1 => ?_)
 ·refine go 9 ?_
  refine grs ?_
  refine gr_run ?_
  refine bind_e (fun v2 e2 => gr_call [] (laws_eqStringS.con e2) ?_)
  clear e2
  refine gr_run ?_
  refine gr_done ?_
  refine bif_e (fun c2 => ?_) (fun c2 => ?_)
  ·refine go 4 ?_
   refine grs ?_
   refine gr_run ?_
   refine bind_e (fun v3 e3 => gr_call [] (laws_eqRuleS.con e3) ?_)
   clear e3
   refine gr_run ?_
   refine gr_done ?_
   refine bif_e (fun c3 => ?_) (fun c3 => ?_)
   ·refine bif_e (fun c4 => ?_) (fun c4 => ?_)
    ·refine go 9 ?_
     refine ret_e (fun hr_ => ?_)
     subst hr_
     exact ret_ Try.func208 []
    ·refine go 8 ?_
     refine ret_e (fun hr_ => ?_)
     subst hr_
     exact ret_ Try.func208 []
   ·refine go 3 ?_
    refine ret_e (fun hr_ => ?_)
    subst hr_
    exact ret_ Try.func208 []
  ·refine go 3 ?_
   refine ret_e (fun hr_ => ?_)
   subst hr_
   exact ret_ Try.func208 []
 ·refine go 8 ?_
  refine ret_e (fun hr_ => ?_)
  subst hr_
  exact ret_ Try.func208 []
end Go.Ab
