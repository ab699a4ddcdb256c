/- What the functions compute, and their contracts, part 6. No condition beyond KOk. -/
import Derived.Test.YtphfoghhcemfhaaAbX
import Derived.Test.YtphfoghhcemfhaaAbF1
import Derived.Test.YtphfoghhcemfhaaAbF3
import Derived.Test.YtphfoghhcemfhaaAbF5
namespace Go.Ab
open Go.Proofs
set_option linter.unusedVariables false
set_option linter.unusedSimpArgs false
mutual
def laws_eqNodeTypeS.l0 : Nat → (List S160) → (List S160) → Int → Option (Bool)
 | 0, _, _, _ => none
 | k + 1, v0, v1, v2 => (bif decide (v2 < (v0.length : Int)) then ((ix v0 v2).bind fun v3 => ((ix v1 v2).bind fun v4 => ((laws_eqNodeType.f k v3 v4).bind fun v5 => (bif v5 then (laws_eqNodeTypeS.l0 k v0 v1 (IntKind.i64.wrap (v2 + 1))) else (some false))))) else (some true))
def laws_eqNodeTypeS.f : Nat → (List S160) → (List S160) → Option (Bool)
 | 0, _, _ => none
 | k + 1, v0, v1 => (bif ((v0.length : Int) == (v1.length : Int)) then (laws_eqNodeTypeS.l0 k v0 v1 0) else (some false))
end
set_option maxRecDepth 100000 in
set_option maxHeartbeats 4000000 in
theorem laws_eqNodeTypeS.con {K : Kn} [KOk K] {k : Nat} {v0 : (List S160)} {v1 : (List S160)} {r : Bool} (h : laws_eqNodeTypeS.f k v0 v1 = some r) : Con K Try.prog 119 [.p (.lst false (List.map en160 v0)), .p (.lst false (List.map en160 v1))] [] (.p (.bool r)) [] := by
 cases k with
 | zero => exact absurd h (by simp [laws_eqNodeTypeS.f])
 | succ k =>
 rw [laws_eqNodeTypeS.f] at h
 refine con_intro 27 [] Try.func119 (by kernel_rfl) rfl rfl (by kernel_rfl) fun ι0 w0 hk0 => ?_
 revert h
 refine bif_e (fun c1 => ?_) (fun c1 => ?_)
 ·refine go 11 ?_
  refine fun h => good_loop (fun n st => n ≤ k ∧ ∃ (v2 : _), st = ⟨[(0, .p (.lst false (List.map en160 v0))), (1, .p (.lst false (List.map en160 v1))), (5, .p (.int .i64 v2))], []⟩ ∧ laws_eqNodeTypeS.l0 n v0 v1 v2 = some r) k ⟨_, ⟨Nat.le_refl _, _, rfl, h⟩, frle_, memle_⟩ ?_
  clear c1
  clear h
  rintro n _ ⟨hkl0, v2, rfl, h⟩ hl0
  cases n with
  | zero => exact absurd h (by simp [laws_eqNodeTypeS.l0])
  | succ kl0 =>
  rw [laws_eqNodeTypeS.l0] at h
  revert h
  refine bif_e (fun c2 => ?_) (fun c2 => ?_)
  ·refine bind_e (fun v3 e3 => ?_)
   replace e3 := nf_ (ix_en en160 e3)
   refine bind_e (fun v4 e4 => ?_)
   replace e4 := nf_ (ix_en en160 e4)
   refine go 8 ?_
   refine grs ?_
   refine gr_run ?_
   refine bind_e (fun v5 e5 => gr_call [] (laws_eqNodeType.con e5) ?_)
   clear e5
   refine gr_run ?_
   refine gr_done ?_
   refine bif_e (fun c3 => ?_) (fun c3 => ?_)
   ·refine go 4 ?_
    exact fun h => good_again hl0 (by omega) ⟨_, ⟨by omega, _, rfl, h⟩, frle_, memle_⟩
   ·refine go 3 ?_
    refine ret_e (fun hr_ => ?_)
    subst hr_
    exact ret_ Try.func119 []
  ·refine go 7 ?_
   refine ret_e (fun hr_ => ?_)
   subst hr_
   exact ret_ Try.func119 []
 ·refine go 8 ?_
  refine ret_e (fun hr_ => ?_)
  subst hr_
  exact ret_ Try.func119 []
def laws_eqEdgeType.f (k : Nat) (v0 : S163) (v1 : S163) : Option (Bool) := (bif decide (v0.f0 = v1.f0) then (bif decide (v0.f1 = v1.f1) then (bif decide (v0.f2 = v1.f2) then ((laws_eqRuleS.f k v0.f3 v1.f3).bind fun v2 => (bif v2 then (bif (v0.f4 == v1.f4) then (bif (v0.f5 == v1.f5) then (bif (v0.f6 == v1.f6) then (some true) else (some false)) else (some false)) else (some false)) else (some false))) else (some false)) else (some false)) else (some false))
set_option maxRecDepth 100000 in
set_option maxHeartbeats 4000000 in
theorem laws_eqEdgeType.con {K : Kn} [KOk K] {k : Nat} {v0 : S163} {v1 : S163} {r : Bool} (h : laws_eqEdgeType.f k v0 v1 = some r) : Con K Try.prog 209 [.agg [.p (.str v0.f0), .p (.str v0.f1), .p (.str v0.f2), .p (.lst false (List.map en280 v0.f3)), .p (.int .i64 v0.f4), .p (.int .i64 v0.f5), .p (.int .i64 v0.f6)], .agg [.p (.str v1.f0), .p (.str v1.f1), .p (.str v1.f2), .p (.lst false (List.map en280 v1.f3)), .p (.int .i64 v1.f4), .p (.int .i64 v1.f5), .p (.int .i64 v1.f6)]] [] (.p (.bool r)) [] := by
 rw [laws_eqEdgeType.f] at h
 refine con_intro 41 [] Try.func209 (by kernel_rfl) rfl rfl (by kernel_rfl) fun ι0 w0 hk0 => ?_
 revert h
 refine bif_e (fun c1 => ?_) (fun c1 => ?_)
 ·refine bif_e (fun c2 => ?_) (fun c2 => ?_)
  ·refine bif_e (fun c3 => ?_) (fun c3 => ?_)
   ·refine go 19 ?_
    refine grs ?_
    refine gr_run ?_
    refine bind_e (fun v2 e2 => gr_call [] (laws_eqRuleS.con e2) ?_)
    clear e2
    refine gr_run ?_
    refine gr_done ?_
    refine bif_e (fun c4 => ?_) (fun c4 => ?_)
    ·refine bif_e (fun c5 => ?_) (fun c5 => ?_)
     ·refine bif_e (fun c6 => ?_) (fun c6 => ?_)
      ·refine bif_e (fun c7 => ?_) (fun c7 => ?_)
       ·refine go 19 ?_
        refine ret_e (fun hr_ => ?_)
        subst hr_
        exact ret_ Try.func209 []
       ·refine go 18 ?_
        refine ret_e (fun hr_ => ?_)
        subst hr_
        exact ret_ Try.func209 []
      ·refine go 13 ?_
       refine ret_e (fun hr_ => ?_)
       subst hr_
       exact ret_ Try.func209 []
     ·refine go 8 ?_
      refine ret_e (fun hr_ => ?_)
      subst hr_
      exact ret_ Try.func209 []
    ·refine go 3 ?_
     refine ret_e (fun hr_ => ?_)
     subst hr_
     exact ret_ Try.func209 []
   ·refine go 18 ?_
    refine ret_e (fun hr_ => ?_)
    subst hr_
    exact ret_ Try.func209 []
  ·refine go 13 ?_
   refine ret_e (fun hr_ => ?_)
   subst hr_
   exact ret_ Try.func209 []
 ·refine go 8 ?_
  refine ret_e (fun hr_ => ?_)
  subst hr_
  exact ret_ Try.func209 []
mutual
def laws_eqEdgeTypeS.l0 : Nat → (List S163) → (List S163) → Int → Option (Bool)
 | 0, _, _, _ => none
 | k + 1, v0, v1, v2 => (bif decide (v2 < (v0.length : Int)) then ((ix v0 v2).bind fun v3 => ((ix v1 v2).bind fun v4 => ((laws_eqEdgeType.f k v3 v4).bind fun v5 => (bif v5 then (laws_eqEdgeTypeS.l0 k v0 v1 (IntKind.i64.wrap (v2 + 1))) else (some false))))) else (some true))
def laws_eqEdgeTypeS.f : Nat → (List S163) → (List S163) → Option (Bool)
 | 0, _, _ => none
 | k + 1, v0, v1 => (bif ((v0.length : Int) == (v1.length : Int)) then (laws_eqEdgeTypeS.l0 k v0 v1 0) else (some false))
end
set_option maxRecDepth 100000 in
set_option maxHeartbeats 4000000 in
theorem laws_eqEdgeTypeS.con {K : Kn} [KOk K] {k : Nat} {v0 : (List S163)} {v1 : (List S163)} {r : Bool} (h : laws_eqEdgeTypeS.f k v0 v1 = some r) : Con K Try.prog 120 [.p (.lst false (List.map en163 v0)), .p (.lst false (List.map en163 v1))] [] (.p (.bool r)) [] := by
 cases k with
 | zero => exact absurd h (by simp [laws_eqEdgeTypeS.f])
 | succ k =>
 rw [laws_eqEdgeTypeS.f] at h
 refine con_intro 27 [] Try.func120 (by kernel_rfl) rfl rfl (by kernel_rfl) fun ι0 w0 hk0 => ?_
 revert h
 refine bif_e (fun c1 => ?_) (fun c1 => ?_)
 ·refine go 11 ?_
  refine fun h => good_loop (fun n st => n ≤ k ∧ ∃ (v2 : _), st = ⟨[(0, .p (.lst false (List.map en163 v0))), (1, .p (.lst false (List.map en163 v1))), (5, .p (.int .i64 v2))], []⟩ ∧ laws_eqEdgeTypeS.l0 n v0 v1 v2 = some r) k ⟨_, ⟨Nat.le_refl _, _, rfl, h⟩, frle_, memle_⟩ ?_
  clear c1
  clear h
  rintro n _ ⟨hkl0, v2, rfl, h⟩ hl0
  cases n with
  | zero => exact absurd h (by simp [laws_eqEdgeTypeS.l0])
  | succ kl0 =>
  rw [laws_eqEdgeTypeS.l0] at h
  revert h
  refine bif_e (fun c2 => ?_) (fun c2 => ?_)
  ·refine bind_e (fun v3 e3 => ?_)
   replace e3 := nf_ (ix_en en163 e3)
   refine bind_e (fun v4 e4 => ?_)
   replace e4 := nf_ (ix_en en163 e4)
   refine go 8 ?_
   refine grs ?_
   refine gr_run ?_
   refine bind_e (fun v5 e5 => gr_call [] (laws_eqEdgeType.con e5) ?_)
   clear e5
   refine gr_run ?_
   refine gr_done ?_
   refine bif_e (fun c3 => ?_) (fun c3 => ?_)
   ·refine go 4 ?_
    exact fun h => good_again hl0 (by omega) ⟨_, ⟨by omega, _, rfl, h⟩, frle_, memle_⟩
   ·refine go 3 ?_
    refine ret_e (fun hr_ => ?_)
    subst hr_
    exact ret_ Try.func120 []
  ·refine go 7 ?_
   refine ret_e (fun hr_ => ?_)
   subst hr_
   exact ret_ Try.func120 []
 ·refine go 8 ?_
  refine ret_e (fun hr_ => ?_)
  subst hr_
  exact ret_ Try.func120 []
def laws_eqKey.f (k : Nat) (v0 : S166) (v1 : S166) : Option (Bool) := (bif decide (v0.f0 = v1.f0) then ((laws_eqStringS.f k v0.f1 v1.f1).bind fun v2 => (bif v2 then (some true) else (some false))) else (some false))
set_option maxRecDepth 100000 in
set_option maxHeartbeats 4000000 in
theorem laws_eqKey.con {K : Kn} [KOk K] {k : Nat} {v0 : S166} {v1 : S166} {r : Bool} (h : laws_eqKey.f k v0 v1 = some r) : Con K Try.prog 210 [.agg [.p (.str v0.f0), .p (.lst false (List.map srw v0.f1))], .agg [.p (.str v1.f0), .p (.lst false (List.map srw v1.f1))]] [] (.p (.bool r)) [] := by
 rw [laws_eqKey.f] at h
 refine con_intro 16 [] Try.func210 (by kernel_rfl) rfl rfl (by kernel_rfl) fun ι0 w0 hk0 => ?_
 revert h
 refine bif_e (fun c1 => ?_) (fun c1 => ?_)
 ·refine go 9 ?_
  refine grs ?_
  refine gr_run ?_
  refine bind_e (fun v2 e2 => gr_call [] (laws_eqStringS.con e2) ?_)
  clear e2
  refine gr_run ?_
  refine gr_done ?_
  refine bif_e (fun c2 => ?_) (fun c2 => ?_)
  ·refine go 4 ?_
   refine ret_e (fun hr_ => ?_)
   subst hr_
   exact ret_ Try.func210 []
  ·refine go 3 ?_
   refine ret_e (fun hr_ => ?_)
   subst hr_
   exact ret_ Try.func210 []
 ·refine go 8 ?_
  refine ret_e (fun hr_ => ?_)
  subst hr_
  exact ret_ Try.func210 []
mutual
def laws_eqKeyS.l0 : Nat → (List S166) → (List S166) → Int → Option (Bool)
 | 0, _, _, _ => none
 | k + 1, v0, v1, v2 => (bif decide (v2 < (v0.length : Int)) then ((ix v0 v2).bind fun v3 => ((ix v1 v2).bind fun v4 => ((laws_eqKey.f k v3 v4).bind fun v5 => (bif v5 then (laws_eqKeyS.l0 k v0 v1 (IntKind.i64.wrap (v2 + 1))) else (some false))))) else (some true))
def laws_eqKeyS.f : Nat → (List S166) → (List S166) → Option (Bool)
 | 0, _, _ => none
 | k + 1, v0, v1 => (bif ((v0.length : Int) == (v1.length : Int)) then (laws_eqKeyS.l0 k v0 v1 0) else (some false))
end
set_option maxRecDepth 100000 in
set_option maxHeartbeats 4000000 in
theorem laws_eqKeyS.con {K : Kn} [KOk K] {k : Nat} {v0 : (List S166)} {v1 : (List S166)} {r : Bool} (h : laws_eqKeyS.f k v0 v1 = some r) : Con K Try.prog 121 [.p (.lst false (List.map en166 v0)), .p (.lst false (List.map en166 v1))] [] (.p (.bool r)) [] := by
 cases k with
 | zero => exact absurd h (by simp [laws_eqKeyS.f])
 | succ k =>
 rw [laws_eqKeyS.f] at h
 refine con_intro 27 [] Try.func121 (by kernel_rfl) rfl rfl (by kernel_rfl) fun ι0 w0 hk0 => ?_
 revert h
 refine bif_e (fun c1 => ?_) (fun c1 => ?_)
 ·refine go 11 ?_
  refine fun h => good_loop (fun n st => n ≤ k ∧ ∃ (v2 : _), st = ⟨[(0, .p (.lst false (List.map en166 v0))), (1, .p (.lst false (List.map en166 v1))), (5, .p (.int .i64 v2))], []⟩ ∧ laws_eqKeyS.l0 n v0 v1 v2 = some r) k ⟨_, ⟨Nat.le_refl _, _, rfl, h⟩, frle_, memle_⟩ ?_
  clear c1
  clear h
  rintro n _ ⟨hkl0, v2, rfl, h⟩ hl0
  cases n with
  | zero => exact absurd h (by simp [laws_eqKeyS.l0])
  | succ kl0 =>
  rw [laws_eqKeyS.l0] at h
  revert h
  refine bif_e (fun c2 => ?_) (fun c2 => ?_)
  ·refine bind_e (fun v3 e3 => ?_)
   replace e3 := nf_ (ix_en en166 e3)
   refine bind_e (fun v4 e4 => ?_)
   replace e4 := nf_ (ix_en en166 e4)
   refine go 8 ?_
   refine grs ?_
   refine gr_run ?_
   refine bind_e (fun v5 e5 => gr_call [] (laws_eqKey.con e5) ?_)
   clear e5
   refine gr_run ?_
   refine gr_done ?_
   refine bif_e (fun c3 => ?_) (fun c3 => ?_)
   ·refine go 4 ?_
    exact fun h => good_again hl0 (by omega) ⟨_, ⟨by omega, _, rfl, h⟩, frle_, memle_⟩
   ·refine go 3 ?_
    refine ret_e (fun hr_ => ?_)
    subst hr_
    exact ret_ Try.func121 []
  ·refine go 7 ?_
   refine ret_e (fun hr_ => ?_)
   subst hr_
   exact ret_ Try.func121 []
 ·refine go 8 ?_
  refine ret_e (fun hr_ => ?_)
  subst hr_
  exact ret_ Try.func121 []
def laws_eqSchema.f (k : Nat) (v0 : S65) (v1 : S65) : Option (Bool) := ((laws_eqNodeTypeS.f k v0.f0 v1.f0).bind fun v2 => (bif v2 then ((laws_eqEdgeTypeS.f k v0.f1 v1.f1).bind fun v3 => (bif v3 then ((laws_eqKeyS.f k v0.f2 v1.f2).bind fun v4 => (bif v4 then (bif (v0.f3 == v1.f3) then (some true) else (some false)) else (some false))) else (some false))) else (some false)))
set_option maxRecDepth 100000 in
set_option maxHeartbeats 4000000 in
theorem laws_eqSchema.con {K : Kn} [KOk K] {k : Nat} {v0 : S65} {v1 : S65} {r : Bool} (h : laws_eqSchema.f k v0 v1 = some r) : Con K Try.prog 41 [.agg [.p (.lst false (List.map en160 v0.f0)), .p (.lst false (List.map en163 v0.f1)), .p (.lst false (List.map en166 v0.f2)), .p (.bool v0.f3)], .agg [.p (.lst false (List.map en160 v1.f0)), .p (.lst false (List.map en163 v1.f1)), .p (.lst false (List.map en166 v1.f2)), .p (.bool v1.f3)]] [] (.p (.bool r)) [] := by
 rw [laws_eqSchema.f] at h
 refine con_intro 28 [] Try.func41 (by kernel_rfl) rfl rfl (by kernel_rfl) fun ι0 w0 hk0 => ?_
 revert h
 refine go 4 ?_
 refine grs ?_
 refine gr_run ?_
 refine bind_e (fun v2 e2 => gr_call [] (laws_eqNodeTypeS.con e2) ?_)
 clear e2
 refine gr_run ?_
 refine gr_done ?_
 refine bif_e (fun c1 => ?_) (fun c1 => ?_)
 ·refine go 4 ?_
  refine grs ?_
  refine gr_run ?_
  refine bind_e (fun v3 e3 => gr_call [] (laws_eqEdgeTypeS.con e3) ?_)
  clear e3
  refine gr_run ?_
  refine gr_done ?_
  refine bif_e (fun c2 => ?_) (fun c2 => ?_)
  ·refine go 4 ?_
   refine grs ?_
   refine gr_run ?_
   refine bind_e (fun v4 e4 => gr_call [] (laws_eqKeyS.con e4) ?_)
   clear e4
   refine gr_run ?_
   refine gr_done ?_
   refine bif_e (fun c3 => ?_) (fun c3 => ?_)
   ·refine bif_e (fun c4 => ?_) (fun c4 => ?_)
    ·refine go 9 ?_
     refine ret_e (fun hr_ => ?_)
     subst hr_
     exact ret_ Try.func41 []
    ·refine go 8 ?_
     refine ret_e (fun hr_ => ?_)
     subst hr_
     exact ret_ Try.func41 []
   ·refine go 3 ?_
    refine ret_e (fun hr_ => ?_)
    subst hr_
    exact ret_ Try.func41 []
  ·refine go 3 ?_
   refine ret_e (fun hr_ => ?_)
   subst hr_
   exact ret_ Try.func41 []
 ·refine go 3 ?_
  refine ret_e (fun hr_ => ?_)
  subst hr_
  exact ret_ Try.func41 []
def laws_FnExactSchemaFault.f (k : Nat) (v0 : S58) : Option (Bool) := ((laws_szSchema.f k v0 1048576).bind fun v1 => (bif decide (v1 < 0) then (some true) else ((laws_toSchema.f k v0).bind fun v2 => ((spec_SchemaFault.f k v2).bind fun v3 => ((laws_toSchema.f k v0).bind fun v4 => ((impl_SchemaFault.f k v4).bind fun v5 => (bif (v5 == v3) then ((laws_toSchema.f k v0).bind fun v6 => ((laws_eqSchema.f k v4 v6).bind fun v7 => (bif v7 then (some true) else (some false)))) else (some false))))))))
set_option maxRecDepth 100000 in
set_option maxHeartbeats 4000000 in
theorem laws_FnExactSchemaFault.con {K : Kn} [KOk K] {k : Nat} {v0 : S58} {r : Bool} (h : laws_FnExactSchemaFault.f k v0 = some r) : Con K Try.prog 7 [.agg [.p (.lst false (List.map en267 v0.f0)), .p (.lst false (List.map en270 v0.f1)), .p (.lst false (List.map en166 v0.f2)), .p (.bool v0.f3)]] [] (.p (.bool r)) [] := by
 rw [laws_FnExactSchemaFault.f] at h
 refine con_intro 27 [] Try.func7 (by kernel_rfl) rfl rfl (by kernel_rfl) fun ι0 w0 hk0 => ?_
 revert h
 refine go 5 ?_
 refine grs ?_
 refine gr_run ?_
 refine bind_e (fun v1 e1 => gr_call [] (laws_szSchema.con e1) ?_)
 clear e1
 refine gr_run ?_
 refine gr_done ?_
 refine bif_e (fun c1 => ?_) (fun c1 => ?_)
 ·refine go 6 ?_
  refine ret_e (fun hr_ => ?_)
  subst hr_
  exact ret_ Try.func7 []
 ·refine go 6 ?_
  refine grs ?_
  refine gr_run ?_
  refine bind_e (fun v2 e2 => gr_call [] (laws_toSchema.con e2) ?_)
  clear e2
  refine bind_e (fun v3 e3 => gr_call [] (spec_SchemaFault.con e3) ?_)
  clear e3
  refine gr_run ?_
  refine gr_done ?_
  refine go 1 ?_
  refine grs ?_
  refine gr_run ?_
  refine bind_e (fun v4 e4 => gr_call [] (laws_toSchema.con e4) ?_)
  clear e4
  refine gr_run ?_
  refine gr_done ?_
  refine go 1 ?_
  refine grs ?_
  refine gr_run ?_
  refine bind_e (fun v5 e5 => gr_call [] (impl_SchemaFault.con e5) ?_)
  clear e5
  refine gr_run ?_
  refine gr_done ?_
  refine bif_e (fun c2 => ?_) (fun c2 => ?_)
  ·refine go 7 ?_
   refine grs ?_
   refine gr_run ?_
   refine bind_e (fun v6 e6 => gr_call [] (laws_toSchema.con e6) ?_)
   clear e6
   refine bind_e (fun v7 e7 => gr_call [] (laws_eqSchema.con e7) ?_)
   clear e7
   refine gr_run ?_
   refine gr_done ?_
   refine bif_e (fun c3 => ?_) (fun c3 => ?_)
   ·refine go 4 ?_
    refine ret_e (fun hr_ => ?_)
    subst hr_
    exact ret_ Try.func7 []
   ·refine go 3 ?_
    refine ret_e (fun hr_ => ?_)
    subst hr_
    exact ret_ Try.func7 []
  ·refine go 6 ?_
   refine ret_e (fun hr_ => ?_)
   subst hr_
   exact ret_ Try.func7 []
def laws_FnExactIsOf.f (k : Nat) (v0 : S58) (v1 : (List ByteArray)) (v2 : ByteArray) : Option (Bool) := (bif decide (1048576 < (v2.size : Int)) then (some true) else ((laws_szSchema.f k v0 1048576).bind fun v3 => (bif decide (v3 < 0) then (some true) else ((laws_szStringS.f k v1 v3).bind fun v4 => (bif decide (v4 < 0) then (some true) else ((laws_toSchema.f k v0).bind fun v5 => ((laws_toStringS.f k v1).bind fun v6 => ((spec_IsOf.f k v5 v6 v2).bind fun v7 => ((laws_toSchema.f k v0).bind fun v8 => ((laws_toStringS.f k v1).bind fun v9 => ((impl_IsOf.f k v8 v9 v2).bind fun v10 => (bif (v10 == v7) then ((laws_toSchema.f k v0).bind fun v11 => ((laws_eqSchema.f k v8 v11).bind fun v12 => (bif v12 then ((laws_toStringS.f k v1).bind fun v13 => ((laws_eqStringS.f k v9 v13).bind fun v14 => (bif v14 then (some true) else (some false)))) else (some false)))) else (some false)))))))))))))
set_option maxRecDepth 100000 in
set_option maxHeartbeats 4000000 in
theorem laws_FnExactIsOf.con {K : Kn} [KOk K] {k : Nat} {v0 : S58} {v1 : (List ByteArray)} {v2 : ByteArray} {r : Bool} (h : laws_FnExactIsOf.f k v0 v1 v2 = some r) : Con K Try.prog 9 [.agg [.p (.lst false (List.map en267 v0.f0)), .p (.lst false (List.map en270 v0.f1)), .p (.lst false (List.map en166 v0.f2)), .p (.bool v0.f3)], .p (.lst false (List.map srw v1)), .p (.str v2)] [] (.p (.bool r)) [] := by
 rw [laws_FnExactIsOf.f] at h
 refine con_intro 52 [] Try.func9 (by kernel_rfl) rfl rfl (by kernel_rfl) fun ι0 w0 hk0 => ?_
 revert h
 refine bif_e (fun c1 => ?_) (fun c1 => ?_)
 ·refine go 8 ?_
  refine ret_e (fun hr_ => ?_)
  subst hr_
  exact ret_ Try.func9 []
 ·refine go 10 ?_
  refine grs ?_
  refine gr_run ?_
  refine bind_e (fun v3 e3 => gr_call [] (laws_szSchema.con e3) ?_)
  clear e3
  refine gr_run ?_
  refine gr_done ?_
  refine bif_e (fun c2 => ?_) (fun c2 => ?_)
  ·refine go 6 ?_
   refine ret_e (fun hr_ => ?_)
   subst hr_
   exact ret_ Try.func9 []
  ·refine go 6 ?_
   refine grs ?_
   refine gr_run ?_
   refine bind_e (fun v4 e4 => gr_call [] (laws_szStringS.con e4) ?_)
   clear e4
   refine gr_run ?_
   refine gr_done ?_
   refine bif_e (fun c3 => ?_) (fun c3 => ?_)
   ·refine go 6 ?_
    refine ret_e (fun hr_ => ?_)
    subst hr_
    exact ret_ Try.func9 []
   ·refine go 6 ?_
    refine grs ?_
    refine gr_run ?_
    refine bind_e (fun v5 e5 => gr_call [] (laws_toSchema.con e5) ?_)
    clear e5
    refine gr_run ?_
    refine bind_e (fun v6 e6 => gr_call [] (laws_toStringS.con e6) ?_)
    clear e6
    refine gr_run ?_
    refine bind_e (fun v7 e7 => gr_call [] (spec_IsOf.con e7) ?_)
    clear e7
    refine gr_run ?_
    refine gr_done ?_
    refine go 1 ?_
    refine grs ?_
    refine gr_run ?_
    refine bind_e (fun v8 e8 => gr_call [] (laws_toSchema.con e8) ?_)
    clear e8
    refine gr_run ?_
    refine gr_done ?_
    refine go 1 ?_
    refine grs ?_
    refine gr_run ?_
    refine bind_e (fun v9 e9 => gr_call [] (laws_toStringS.con e9) ?_)
    clear e9
    refine gr_run ?_
    refine gr_done ?_
    refine go 1 ?_
    refine grs ?_
    refine gr_run ?_
    refine bind_e (fun v10 e10 => gr_call [] (impl_IsOf.con e10) ?_)
    clear e10
    refine gr_run ?_
    refine gr_done ?_
    refine bif_e (fun c4 => ?_) (fun c4 => ?_)
    ·refine go 7 ?_
     refine grs ?_
     refine gr_run ?_
     refine bind_e (fun v11 e11 => gr_call [] (laws_toSchema.con e11) ?_)
     clear e11
     refine bind_e (fun v12 e12 => gr_call [] (laws_eqSchema.con e12) ?_)
     clear e12
     refine gr_run ?_
     refine gr_done ?_
     refine bif_e (fun c5 => ?_) (fun c5 => ?_)
     ·refine go 4 ?_
      refine grs ?_
      refine gr_run ?_
      refine bind_e (fun v13 e13 => gr_call [] (laws_toStringS.con e13) ?_)
      clear e13
      refine bind_e (fun v14 e14 => gr_call [] (laws_eqStringS.con e14) ?_)
      clear e14
      refine gr_run ?_
      refine gr_done ?_
      refine bif_e (fun c6 => ?_) (fun c6 => ?_)
      ·refine go 4 ?_
       refine ret_e (fun hr_ => ?_)
       subst hr_
       exact ret_ Try.func9 []
      ·refine go 3 ?_
       refine ret_e (fun hr_ => ?_)
       subst hr_
       exact ret_ Try.func9 []
     ·refine go 3 ?_
      refine ret_e (fun hr_ => ?_)
      subst hr_
      exact ret_ Try.func9 []
    ·refine go 6 ?_
     refine ret_e (fun hr_ => ?_)
     subst hr_
     exact ret_ Try.func9 []
def laws_FnExactWeaker.f (k : Nat) (v0 : S58) (v1 : S58) : Option (Bool) := ((laws_szSchema.f k v0 1048576).bind fun v2 => (bif decide (v2 < 0) then (some true) else ((laws_szSchema.f k v1 v2).bind fun v3 => (bif decide (v3 < 0) then (some true) else ((laws_toSchema.f k v0).bind fun v4 => ((laws_toSchema.f k v1).bind fun v5 => ((spec_Weaker.f k v4 v5).bind fun v6 => ((laws_toSchema.f k v0).bind fun v7 => ((laws_toSchema.f k v1).bind fun v8 => ((impl_Weaker.f k v7 v8).bind fun v9 => (bif (v9 == v6) then ((laws_toSchema.f k v0).bind fun v10 => ((laws_eqSchema.f k v7 v10).bind fun v11 => (bif v11 then ((laws_toSchema.f k v1).bind fun v12 => ((laws_eqSchema.f k v8 v12).bind fun v13 => (bif v13 then (some true) else (some false)))) else (some false)))) else (some false))))))))))))
set_option maxRecDepth 100000 in
set_option maxHeartbeats 4000000 in
theorem laws_FnExactWeaker.con {K : Kn} [KOk K] {k : Nat} {v0 : S58} {v1 : S58} {r : Bool} (h : laws_FnExactWeaker.f k v0 v1 = some r) : Con K Try.prog 12 [.agg [.p (.lst false (List.map en267 v0.f0)), .p (.lst false (List.map en270 v0.f1)), .p (.lst false (List.map en166 v0.f2)), .p (.bool v0.f3)], .agg [.p (.lst false (List.map en267 v1.f0)), .p (.lst false (List.map en270 v1.f1)), .p (.lst false (List.map en166 v1.f2)), .p (.bool v1.f3)]] [] (.p (.bool r)) [] := by
 rw [laws_FnExactWeaker.f] at h
 refine con_intro 45 [] Try.func12 (by kernel_rfl) rfl rfl (by kernel_rfl) fun ι0 w0 hk0 => ?_
 revert h
 refine go 5 ?_
 refine grs ?_
 refine gr_run ?_
 refine bind_e (fun v2 e2 => gr_call [] (laws_szSchema.con e2) ?_)
 clear e2
 refine gr_run ?_
 refine gr_done ?_
 refine bif_e (fun c1 => ?_) (fun c1 => ?_)
 ·refine go 6 ?_
  refine ret_e (fun hr_ => ?_)
  subst hr_
  exact ret_ Try.func12 []
 ·refine go 6 ?_
  refine grs ?_
  refine gr_run ?_
  refine bind_e (fun v3 e3 => gr_call [] (laws_szSchema.con e3) ?_)
  clear e3
  refine gr_run ?_
  refine gr_done ?_
  refine bif_e (fun c2 => ?_) (fun c2 => ?_)
  ·refine go 6 ?_
   refine ret_e (fun hr_ => ?_)
   subst hr_
   exact ret_ Try.func12 []
  ·refine go 6 ?_
   refine grs ?_
   refine gr_run ?_
   refine bind_e (fun v4 e4 => gr_call [] (laws_toSchema.con e4) ?_)
   clear e4
   refine gr_run ?_
   refine bind_e (fun v5 e5 => gr_call [] (laws_toSchema.con e5) ?_)
   clear e5
   refine bind_e (fun v6 e6 => gr_call [] (spec_Weaker.con e6) ?_)
   clear e6
   refine gr_run ?_
   refine gr_done ?_
   refine go 1 ?_
   refine grs ?_
   refine gr_run ?_
   refine bind_e (fun v7 e7 => gr_call [] (laws_toSchema.con e7) ?_)
   clear e7
   refine gr_run ?_
   refine gr_done ?_
   refine go 1 ?_
   refine grs ?_
   refine gr_run ?_
   refine bind_e (fun v8 e8 => gr_call [] (laws_toSchema.con e8) ?_)
   clear e8
   refine gr_run ?_
   refine gr_done ?_
   refine go 1 ?_
   refine grs ?_
   refine gr_run ?_
   refine bind_e (fun v9 e9 => gr_call [] (impl_Weaker.con e9) ?_)
   clear e9
   refine gr_run ?_
   refine gr_done ?_
   refine bif_e (fun c3 => ?_) (fun c3 => ?_)
   ·refine go 7 ?_
    refine grs ?_
    refine gr_run ?_
    refine bind_e (fun v10 e10 => gr_call [] (laws_toSchema.con e10) ?_)
    clear e10
    refine bind_e (fun v11 e11 => gr_call [] (laws_eqSchema.con e11) ?_)
    clear e11
    refine gr_run ?_
    refine gr_done ?_
    refine bif_e (fun c4 => ?_) (fun c4 => ?_)
    ·refine go 4 ?_
     refine grs ?_
     refine gr_run ?_
     refine bind_e (fun v12 e12 => gr_call [] (laws_toSchema.con e12) ?_)
     clear e12
     refine bind_e (fun v13 e13 => gr_call [] (laws_eqSchema.con e13) ?_)
     clear e13
     refine gr_run ?_
     refine gr_done ?_
     refine bif_e (fun c5 => ?_) (fun c5 => ?_)
     ·refine go 4 ?_
      refine ret_e (fun hr_ => ?_)
      subst hr_
      exact ret_ Try.func12 []
     ·refine go 3 ?_
      refine ret_e (fun hr_ => ?_)
      subst hr_
      exact ret_ Try.func12 []
    ·refine go 3 ?_
     refine ret_e (fun hr_ => ?_)
     subst hr_
     exact ret_ Try.func12 []
   ·refine go 6 ?_
    refine ret_e (fun hr_ => ?_)
    subst hr_
    exact ret_ Try.func12 []
end Go.Ab
