/- What the functions compute, and their contracts, part 6. No condition beyond KOk. -/
import Derived.Test.YtaddedbombndlaaAbX
import Derived.Test.YtaddedbombndlaaAbF1
import Derived.Test.YtaddedbombndlaaAbF3
import Derived.Test.YtaddedbombndlaaAbF5
namespace Go.Ab
open Go.Proofs
set_option linter.unusedVariables false
set_option linter.unusedSimpArgs false
def laws_eqNodeType.f (k : Nat) (v0 : S96) (v1 : S96) : Option (Bool) := (bif decide (v0.f0 = v1.f0) then ((laws_eqStringS.f k v0.f1 v1.f1).bind fun v2 => (bif v2 then ((laws_eqRuleS.f k v0.f2 v1.f2).bind fun v3 => (bif v3 then (bif (v0.f3 == v1.f3) then (some true) else (some false)) else (some false))) else (some false))) else (some false))
set_option maxRecDepth 100000 in
set_option maxHeartbeats 4000000 in
theorem laws_eqNodeType.con {K : Kn} [KOk K] {k : Nat} {v0 : S96} {v1 : S96} {r : Bool} (h : laws_eqNodeType.f k v0 v1 = some r) : Con K Try.prog 73 [.agg [.p (.str v0.f0), .p (.lst false (List.map srw v0.f1)), .p (.lst false (List.map en113 v0.f2)), .p (.bool v0.f3)], .agg [.p (.str v1.f0), .p (.lst false (List.map srw v1.f1)), .p (.lst false (List.map en113 v1.f2)), .p (.bool v1.f3)]] [] (.p (.bool r)) [] := by
 rw [laws_eqNodeType.f] at h
 refine con_intro 27 [] Try.func73 (by kernel_rfl) rfl rfl (by kernel_rfl) fun ι0 w0 hk0 => ?_
 revert h
 refine bif_e (fun c1 => ?_) (fun c1 => ?_)
 ·refine go 9 ?_
  refine grs ?_
  refine gr_run ?_
  refine bind_e (fun v2 e2 => gr_call [] (laws_eqStringS.con e2) ?_)
  clear e2
  refine gr_run ?_
  refine gr_done ?_
  refine bif_e (fun c2 => ?_) (fun c2 => ?_)
  ·refine go 4 ?_
   refine grs ?_
   refine gr_run ?_
   refine bind_e (fun v3 e3 => gr_call [] (laws_eqRuleS.con e3) ?_)
   clear e3
   refine gr_run ?_
   refine gr_done ?_
   refine bif_e (fun c3 => ?_) (fun c3 => ?_)
   ·refine bif_e (fun c4 => ?_) (fun c4 => ?_)
    ·refine go 9 ?_
     refine ret_e (fun hr_ => ?_)
     subst hr_
     exact ret_ Try.func73 []
    ·refine go 8 ?_
     refine ret_e (fun hr_ => ?_)
     subst hr_
     exact ret_ Try.func73 []
   ·refine go 3 ?_
    refine ret_e (fun hr_ => ?_)
    subst hr_
    exact ret_ Try.func73 []
  ·refine go 3 ?_
   refine ret_e (fun hr_ => ?_)
   subst hr_
   exact ret_ Try.func73 []
 ·refine go 8 ?_
  refine ret_e (fun hr_ => ?_)
  subst hr_
  exact ret_ Try.func73 []
mutual
def laws_eqNodeTypeS.l0 : Nat → (List S96) → (List S96) → Int → Option (Bool)
 | 0, _, _, _ => none
 | k + 1, v0, v1, v2 => (bif decide (v2 < (v0.length : Int)) then ((ix v0 v2).bind fun v3 => ((ix v1 v2).bind fun v4 => ((laws_eqNodeType.f k v3 v4).bind fun v5 => (bif v5 then (laws_eqNodeTypeS.l0 k v0 v1 (IntKind.i64.wrap (v2 + 1))) else (some false))))) else (some true))
def laws_eqNodeTypeS.f : Nat → (List S96) → (List S96) → Option (Bool)
 | 0, _, _ => none
 | k + 1, v0, v1 => (bif ((v0.length : Int) == (v1.length : Int)) then (laws_eqNodeTypeS.l0 k v0 v1 0) else (some false))
end
set_option maxRecDepth 100000 in
set_option maxHeartbeats 4000000 in
theorem laws_eqNodeTypeS.con {K : Kn} [KOk K] {k : Nat} {v0 : (List S96)} {v1 : (List S96)} {r : Bool} (h : laws_eqNodeTypeS.f k v0 v1 = some r) : Con K Try.prog 30 [.p (.lst false (List.map en96 v0)), .p (.lst false (List.map en96 v1))] [] (.p (.bool r)) [] := by
 cases k with
 | zero => exact absurd h (by simp [laws_eqNodeTypeS.f])
 | succ k =>
 rw [laws_eqNodeTypeS.f] at h
 refine con_intro 27 [] Try.func30 (by kernel_rfl) rfl rfl (by kernel_rfl) fun ι0 w0 hk0 => ?_
 revert h
 refine bif_e (fun c1 => ?_) (fun c1 => ?_)
 ·refine go 11 ?_
  refine fun h => good_loop (fun n st => n ≤ k ∧ ∃ (v2 : _), st = ⟨[(0, .p (.lst false (List.map en96 v0))), (1, .p (.lst false (List.map en96 v1))), (5, .p (.int .i64 v2))], []⟩ ∧ laws_eqNodeTypeS.l0 n v0 v1 v2 = some r) k ⟨_, ⟨Nat.le_refl _, _, rfl, h⟩, frle_, memle_⟩ ?_
  clear c1
  clear h
  rintro n _ ⟨hkl0, v2, rfl, h⟩ hl0
  cases n with
  | zero => exact absurd h (by simp [laws_eqNodeTypeS.l0])
  | succ kl0 =>
  rw [laws_eqNodeTypeS.l0] at h
  revert h
  refine bif_e (fun c2 => ?_) (fun c2 => ?_)
  ·refine bind_e (fun v3 e3 => ?_)
   replace e3 := nf_ (ix_en en96 e3)
   refine bind_e (fun v4 e4 => ?_)
   replace e4 := nf_ (ix_en en96 e4)
   refine go 8 ?_
   refine grs ?_
   refine gr_run ?_
   refine bind_e (fun v5 e5 => gr_call [] (laws_eqNodeType.con e5) ?_)
   clear e5
   refine gr_run ?_
   refine gr_done ?_
   refine bif_e (fun c3 => ?_) (fun c3 => ?_)
   ·refine go 4 ?_
    exact fun h => good_again hl0 (by omega) ⟨_, ⟨by omega, _, rfl, h⟩, frle_, memle_⟩
   ·refine go 3 ?_
    refine ret_e (fun hr_ => ?_)
    subst hr_
    exact ret_ Try.func30 []
  ·refine go 7 ?_
   refine ret_e (fun hr_ => ?_)
   subst hr_
   exact ret_ Try.func30 []
 ·refine go 8 ?_
  refine ret_e (fun hr_ => ?_)
  subst hr_
  exact ret_ Try.func30 []
def laws_eqEdgeType.f (k : Nat) (v0 : S99) (v1 : S99) : Option (Bool) := (bif decide (v0.f0 = v1.f0) then (bif decide (v0.f1 = v1.f1) then (bif decide (v0.f2 = v1.f2) then ((laws_eqRuleS.f k v0.f3 v1.f3).bind fun v2 => (bif v2 then (bif (v0.f4 == v1.f4) then (bif (v0.f5 == v1.f5) then (bif (v0.f6 == v1.f6) then (some true) else (some false)) else (some false)) else (some false)) else (some false))) else (some false)) else (some false)) else (some false))
set_option maxRecDepth 100000 in
set_option maxHeartbeats 4000000 in
theorem laws_eqEdgeType.con {K : Kn} [KOk K] {k : Nat} {v0 : S99} {v1 : S99} {r : Bool} (h : laws_eqEdgeType.f k v0 v1 = some r) : Con K Try.prog 74 [.agg [.p (.str v0.f0), .p (.str v0.f1), .p (.str v0.f2), .p (.lst false (List.map en113 v0.f3)), .p (.int .i64 v0.f4), .p (.int .i64 v0.f5), .p (.int .i64 v0.f6)], .agg [.p (.str v1.f0), .p (.str v1.f1), .p (.str v1.f2), .p (.lst false (List.map en113 v1.f3)), .p (.int .i64 v1.f4), .p (.int .i64 v1.f5), .p (.int .i64 v1.f6)]] [] (.p (.bool r)) [] := by
 rw [laws_eqEdgeType.f] at h
 refine con_intro 41 [] Try.func74 (by kernel_rfl) rfl rfl (by kernel_rfl) fun ι0 w0 hk0 => ?_
 revert h
 refine bif_e (fun c1 => ?_) (fun c1 => ?_)
 ·refine bif_e (fun c2 => ?_) (fun c2 => ?_)
  ·refine bif_e (fun c3 => ?_) (fun c3 => ?_)
   ·refine go 19 ?_
    refine grs ?_
    refine gr_run ?_
    refine bind_e (fun v2 e2 => gr_call [] (laws_eqRuleS.con e2) ?_)
    clear e2
    refine gr_run ?_
    refine gr_done ?_
    refine bif_e (fun c4 => ?_) (fun c4 => ?_)
    ·refine bif_e (fun c5 => ?_) (fun c5 => ?_)
     ·refine bif_e (fun c6 => ?_) (fun c6 => ?_)
      ·refine bif_e (fun c7 => ?_) (fun c7 => ?_)
       ·refine go 19 ?_
        refine ret_e (fun hr_ => ?_)
        subst hr_
        exact ret_ Try.func74 []
       ·refine go 18 ?_
        refine ret_e (fun hr_ => ?_)
        subst hr_
        exact ret_ Try.func74 []
      ·refine go 13 ?_
       refine ret_e (fun hr_ => ?_)
       subst hr_
       exact ret_ Try.func74 []
     ·refine go 8 ?_
      refine ret_e (fun hr_ => ?_)
      subst hr_
      exact ret_ Try.func74 []
    ·refine go 3 ?_
     refine ret_e (fun hr_ => ?_)
     subst hr_
     exact ret_ Try.func74 []
   ·refine go 18 ?_
    refine ret_e (fun hr_ => ?_)
    subst hr_
    exact ret_ Try.func74 []
  ·refine go 13 ?_
   refine ret_e (fun hr_ => ?_)
   subst hr_
   exact ret_ Try.func74 []
 ·refine go 8 ?_
  refine ret_e (fun hr_ => ?_)
  subst hr_
  exact ret_ Try.func74 []
mutual
def laws_eqEdgeTypeS.l0 : Nat → (List S99) → (List S99) → Int → Option (Bool)
 | 0, _, _, _ => none
 | k + 1, v0, v1, v2 => (bif decide (v2 < (v0.length : Int)) then ((ix v0 v2).bind fun v3 => ((ix v1 v2).bind fun v4 => ((laws_eqEdgeType.f k v3 v4).bind fun v5 => (bif v5 then (laws_eqEdgeTypeS.l0 k v0 v1 (IntKind.i64.wrap (v2 + 1))) else (some false))))) else (some true))
def laws_eqEdgeTypeS.f : Nat → (List S99) → (List S99) → Option (Bool)
 | 0, _, _ => none
 | k + 1, v0, v1 => (bif ((v0.length : Int) == (v1.length : Int)) then (laws_eqEdgeTypeS.l0 k v0 v1 0) else (some false))
end
set_option maxRecDepth 100000 in
set_option maxHeartbeats 4000000 in
theorem laws_eqEdgeTypeS.con {K : Kn} [KOk K] {k : Nat} {v0 : (List S99)} {v1 : (List S99)} {r : Bool} (h : laws_eqEdgeTypeS.f k v0 v1 = some r) : Con K Try.prog 31 [.p (.lst false (List.map en99 v0)), .p (.lst false (List.map en99 v1))] [] (.p (.bool r)) [] := by
 cases k with
 | zero => exact absurd h (by simp [laws_eqEdgeTypeS.f])
 | succ k =>
 rw [laws_eqEdgeTypeS.f] at h
 refine con_intro 27 [] Try.func31 (by kernel_rfl) rfl rfl (by kernel_rfl) fun ι0 w0 hk0 => ?_
 revert h
 refine bif_e (fun c1 => ?_) (fun c1 => ?_)
 ·refine go 11 ?_
  refine fun h => good_loop (fun n st => n ≤ k ∧ ∃ (v2 : _), st = ⟨[(0, .p (.lst false (List.map en99 v0))), (1, .p (.lst false (List.map en99 v1))), (5, .p (.int .i64 v2))], []⟩ ∧ laws_eqEdgeTypeS.l0 n v0 v1 v2 = some r) k ⟨_, ⟨Nat.le_refl _, _, rfl, h⟩, frle_, memle_⟩ ?_
  clear c1
  clear h
  rintro n _ ⟨hkl0, v2, rfl, h⟩ hl0
  cases n with
  | zero => exact absurd h (by simp [laws_eqEdgeTypeS.l0])
  | succ kl0 =>
  rw [laws_eqEdgeTypeS.l0] at h
  revert h
  refine bif_e (fun c2 => ?_) (fun c2 => ?_)
  ·refine bind_e (fun v3 e3 => ?_)
   replace e3 := nf_ (ix_en en99 e3)
   refine bind_e (fun v4 e4 => ?_)
   replace e4 := nf_ (ix_en en99 e4)
   refine go 8 ?_
   refine grs ?_
   refine gr_run ?_
   refine bind_e (fun v5 e5 => gr_call [] (laws_eqEdgeType.con e5) ?_)
   clear e5
   refine gr_run ?_
   refine gr_done ?_
   refine bif_e (fun c3 => ?_) (fun c3 => ?_)
   ·refine go 4 ?_
    exact fun h => good_again hl0 (by omega) ⟨_, ⟨by omega, _, rfl, h⟩, frle_, memle_⟩
   ·refine go 3 ?_
    refine ret_e (fun hr_ => ?_)
    subst hr_
    exact ret_ Try.func31 []
  ·refine go 7 ?_
   refine ret_e (fun hr_ => ?_)
   subst hr_
   exact ret_ Try.func31 []
 ·refine go 8 ?_
  refine ret_e (fun hr_ => ?_)
  subst hr_
  exact ret_ Try.func31 []
def laws_eqKey.f (k : Nat) (v0 : S92) (v1 : S92) : Option (Bool) := (bif decide (v0.f0 = v1.f0) then ((laws_eqStringS.f k v0.f1 v1.f1).bind fun v2 => (bif v2 then (some true) else (some false))) else (some false))
set_option maxRecDepth 100000 in
set_option maxHeartbeats 4000000 in
theorem laws_eqKey.con {K : Kn} [KOk K] {k : Nat} {v0 : S92} {v1 : S92} {r : Bool} (h : laws_eqKey.f k v0 v1 = some r) : Con K Try.prog 75 [.agg [.p (.str v0.f0), .p (.lst false (List.map srw v0.f1))], .agg [.p (.str v1.f0), .p (.lst false (List.map srw v1.f1))]] [] (.p (.bool r)) [] := by
 rw [laws_eqKey.f] at h
 refine con_intro 16 [] Try.func75 (by kernel_rfl) rfl rfl (by kernel_rfl) fun ι0 w0 hk0 => ?_
 revert h
 refine bif_e (fun c1 => ?_) (fun c1 => ?_)
 ·refine go 9 ?_
  refine grs ?_
  refine gr_run ?_
  refine bind_e (fun v2 e2 => gr_call [] (laws_eqStringS.con e2) ?_)
  clear e2
  refine gr_run ?_
  refine gr_done ?_
  refine bif_e (fun c2 => ?_) (fun c2 => ?_)
  ·refine go 4 ?_
   refine ret_e (fun hr_ => ?_)
   subst hr_
   exact ret_ Try.func75 []
  ·refine go 3 ?_
   refine ret_e (fun hr_ => ?_)
   subst hr_
   exact ret_ Try.func75 []
 ·refine go 8 ?_
  refine ret_e (fun hr_ => ?_)
  subst hr_
  exact ret_ Try.func75 []
mutual
def laws_eqKeyS.l0 : Nat → (List S92) → (List S92) → Int → Option (Bool)
 | 0, _, _, _ => none
 | k + 1, v0, v1, v2 => (bif decide (v2 < (v0.length : Int)) then ((ix v0 v2).bind fun v3 => ((ix v1 v2).bind fun v4 => ((laws_eqKey.f k v3 v4).bind fun v5 => (bif v5 then (laws_eqKeyS.l0 k v0 v1 (IntKind.i64.wrap (v2 + 1))) else (some false))))) else (some true))
def laws_eqKeyS.f : Nat → (List S92) → (List S92) → Option (Bool)
 | 0, _, _ => none
 | k + 1, v0, v1 => (bif ((v0.length : Int) == (v1.length : Int)) then (laws_eqKeyS.l0 k v0 v1 0) else (some false))
end
set_option maxRecDepth 100000 in
set_option maxHeartbeats 4000000 in
theorem laws_eqKeyS.con {K : Kn} [KOk K] {k : Nat} {v0 : (List S92)} {v1 : (List S92)} {r : Bool} (h : laws_eqKeyS.f k v0 v1 = some r) : Con K Try.prog 32 [.p (.lst false (List.map en92 v0)), .p (.lst false (List.map en92 v1))] [] (.p (.bool r)) [] := by
 cases k with
 | zero => exact absurd h (by simp [laws_eqKeyS.f])
 | succ k =>
 rw [laws_eqKeyS.f] at h
 refine con_intro 27 [] Try.func32 (by kernel_rfl) rfl rfl (by kernel_rfl) fun ι0 w0 hk0 => ?_
 revert h
 refine bif_e (fun c1 => ?_) (fun c1 => ?_)
 ·refine go 11 ?_
  refine fun h => good_loop (fun n st => n ≤ k ∧ ∃ (v2 : _), st = ⟨[(0, .p (.lst false (List.map en92 v0))), (1, .p (.lst false (List.map en92 v1))), (5, .p (.int .i64 v2))], []⟩ ∧ laws_eqKeyS.l0 n v0 v1 v2 = some r) k ⟨_, ⟨Nat.le_refl _, _, rfl, h⟩, frle_, memle_⟩ ?_
  clear c1
  clear h
  rintro n _ ⟨hkl0, v2, rfl, h⟩ hl0
  cases n with
  | zero => exact absurd h (by simp [laws_eqKeyS.l0])
  | succ kl0 =>
  rw [laws_eqKeyS.l0] at h
  revert h
  refine bif_e (fun c2 => ?_) (fun c2 => ?_)
  ·refine bind_e (fun v3 e3 => ?_)
   replace e3 := nf_ (ix_en en92 e3)
   refine bind_e (fun v4 e4 => ?_)
   replace e4 := nf_ (ix_en en92 e4)
   refine go 8 ?_
   refine grs ?_
   refine gr_run ?_
   refine bind_e (fun v5 e5 => gr_call [] (laws_eqKey.con e5) ?_)
   clear e5
   refine gr_run ?_
   refine gr_done ?_
   refine bif_e (fun c3 => ?_) (fun c3 => ?_)
   ·refine go 4 ?_
    exact fun h => good_again hl0 (by omega) ⟨_, ⟨by omega, _, rfl, h⟩, frle_, memle_⟩
   ·refine go 3 ?_
    refine ret_e (fun hr_ => ?_)
    subst hr_
    exact ret_ Try.func32 []
  ·refine go 7 ?_
   refine ret_e (fun hr_ => ?_)
   subst hr_
   exact ret_ Try.func32 []
 ·refine go 8 ?_
  refine ret_e (fun hr_ => ?_)
  subst hr_
  exact ret_ Try.func32 []
def laws_eqSchema.f (k : Nat) (v0 : S33) (v1 : S33) : Option (Bool) := ((laws_eqNodeTypeS.f k v0.f0 v1.f0).bind fun v2 => (bif v2 then ((laws_eqEdgeTypeS.f k v0.f1 v1.f1).bind fun v3 => (bif v3 then ((laws_eqKeyS.f k v0.f2 v1.f2).bind fun v4 => (bif v4 then (bif (v0.f3 == v1.f3) then (some true) else (some false)) else (some false))) else (some false))) else (some false)))
set_option maxRecDepth 100000 in
set_option maxHeartbeats 4000000 in
theorem laws_eqSchema.con {K : Kn} [KOk K] {k : Nat} {v0 : S33} {v1 : S33} {r : Bool} (h : laws_eqSchema.f k v0 v1 = some r) : Con K Try.prog 10 [.agg [.p (.lst false (List.map en96 v0.f0)), .p (.lst false (List.map en99 v0.f1)), .p (.lst false (List.map en92 v0.f2)), .p (.bool v0.f3)], .agg [.p (.lst false (List.map en96 v1.f0)), .p (.lst false (List.map en99 v1.f1)), .p (.lst false (List.map en92 v1.f2)), .p (.bool v1.f3)]] [] (.p (.bool r)) [] := by
 rw [laws_eqSchema.f] at h
 refine con_intro 28 [] Try.func10 (by kernel_rfl) rfl rfl (by kernel_rfl) fun ι0 w0 hk0 => ?_
 revert h
 refine go 4 ?_
 refine grs ?_
 refine gr_run ?_
 refine bind_e (fun v2 e2 => gr_call [] (laws_eqNodeTypeS.con e2) ?_)
 clear e2
 refine gr_run ?_
 refine gr_done ?_
 refine bif_e (fun c1 => ?_) (fun c1 => ?_)
 ·refine go 4 ?_
  refine grs ?_
  refine gr_run ?_
  refine bind_e (fun v3 e3 => gr_call [] (laws_eqEdgeTypeS.con e3) ?_)
  clear e3
  refine gr_run ?_
  refine gr_done ?_
  refine bif_e (fun c2 => ?_) (fun c2 => ?_)
  ·refine go 4 ?_
   refine grs ?_
   refine gr_run ?_
   refine bind_e (fun v4 e4 => gr_call [] (laws_eqKeyS.con e4) ?_)
   clear e4
   refine gr_run ?_
   refine gr_done ?_
   refine bif_e (fun c3 => ?_) (fun c3 => ?_)
   ·refine bif_e (fun c4 => ?_) (fun c4 => ?_)
    ·refine go 9 ?_
     refine ret_e (fun hr_ => ?_)
     subst hr_
     exact ret_ Try.func10 []
    ·refine go 8 ?_
     refine ret_e (fun hr_ => ?_)
     subst hr_
     exact ret_ Try.func10 []
   ·refine go 3 ?_
    refine ret_e (fun hr_ => ?_)
    subst hr_
    exact ret_ Try.func10 []
  ·refine go 3 ?_
   refine ret_e (fun hr_ => ?_)
   subst hr_
   exact ret_ Try.func10 []
 ·refine go 3 ?_
  refine ret_e (fun hr_ => ?_)
  subst hr_
  exact ret_ Try.func10 []
mutual
def laws_markText.l0 : Nat → Int → ByteArray → Option (ByteArray)
 | 0, _, _ => none
 | k + 1, v1, v2 => (bif decide (0 < v1) then ((rem v1 10).bind fun v4 => ((cat (bstr ([(IntKind.u8.wrap (IntKind.i64.wrap (48 + v4)))] : List Int)) v2).bind fun v5 => ((quo .i64 v1 10).bind fun v6 => (laws_markText.l0 k v6 v5)))) else ((cat (⟨#[109]⟩ : ByteArray) v2).bind fun v3 => (some v3)))
def laws_markText.f : Nat → Int → Option (ByteArray)
 | 0, _ => none
 | k + 1, v0 => (bif decide (v0 ≤ 0) then (some (⟨#[109, 48]⟩ : ByteArray)) else (laws_markText.l0 k v0 (⟨#[]⟩ : ByteArray)))
end
set_option maxRecDepth 100000 in
set_option maxHeartbeats 4000000 in
theorem laws_markText.con {K : Kn} [KOk K] {k : Nat} {v0 : Int} {r : ByteArray} (h : laws_markText.f k v0 = some r) : Con K Try.prog 36 [.p (.int .i64 v0)] [] (.p (.str r)) [] := by
 cases k with
 | zero => exact absurd h (by simp [laws_markText.f])
 | succ k =>
 rw [laws_markText.f] at h
 refine con_intro 20 [] Try.func36 (by kernel_rfl) rfl rfl (by kernel_rfl) fun ι0 w0 hk0 => ?_
 revert h
 refine bif_e (fun c1 => ?_) (fun c1 => ?_)
 ·refine go 8 ?_
  refine ret_e (fun hr_ => ?_)
  subst hr_
  exact ret_ Try.func36 []
 ·refine go 11 ?_
  refine fun h => good_loop (fun n st => n ≤ k ∧ ∃ (v1 : _) (v2 : _), st = ⟨[(0, .p (.int .i64 v1)), (3, .p (.str v2))], []⟩ ∧ laws_markText.l0 n v1 v2 = some r) k ⟨_, ⟨Nat.le_refl _, _, _, rfl, h⟩, frle_, memle_⟩ ?_
  clear c1
  clear h
  rintro n _ ⟨hkl0, v1, v2, rfl, h⟩ hl0
  cases n with
  | zero => exact absurd h (by simp [laws_markText.l0])
  | succ kl0 =>
  rw [laws_markText.l0] at h
  revert h
  refine bif_e (fun c2 => ?_) (fun c2 => ?_)
  ·refine bind_e (fun v4 e4 => ?_)
   refine bind_e (fun v5 e5 => ?_)
   refine bind_e (fun v6 e6 => ?_)
   refine go 10 ?_
   exact fun h => good_again hl0 (by omega) ⟨_, ⟨by omega, _, _, rfl, h⟩, frle_, memle_⟩
  ·refine bind_e (fun v3 e3 => ?_)
   refine go 7 ?_
   refine ret_e (fun hr_ => ?_)
   subst hr_
   exact ret_ Try.func36 []
mutual
def laws_markStringS_sv.l0 : Nat → (List ByteArray) → Int → Int → Option (Int)
 | 0, _, _, _ => none
 | k + 1, v0, v2, v3 => (bif decide (v3 < (v0.length : Int)) then ((laws_markText.f k v2).bind fun v4 => ((ix v0 v3).bind fun v5 => (laws_markStringS_sv.l0 k v0 (IntKind.i64.wrap (v2 + 1)) (IntKind.i64.wrap (v3 + 1))))) else (some v2))
def laws_markStringS_sv.f : Nat → (List ByteArray) → Int → Option (Int)
 | 0, _, _ => none
 | k + 1, v0, v1 => (laws_markStringS_sv.l0 k v0 v1 0)
end
set_option maxRecDepth 100000 in
set_option maxHeartbeats 4000000 in
theorem laws_markStringS_sv.con {K : Kn} [KOk K] {k : Nat} {v0 : (List ByteArray)} {v1 : Int} {r : Int} (h : laws_markStringS_sv.f k v0 v1 = some r) : Con K Try.prog 12 [.sh 1000 0 (List.map srw v0), .p (.int .i64 v1)] [(1000, (0, .pool))] (.p (.int .i64 r)) [(1000, (0, .pool))] := by
 cases k with
 | zero => exact absurd h (by simp [laws_markStringS_sv.f])
 | succ k =>
 rw [laws_markStringS_sv.f] at h
 refine con_intro 20 [] Try.func12 (by kernel_rfl) rfl rfl (by kernel_rfl) fun ι0 w0 hk0 => ?_
 revert h
 refine go 6 ?_
 refine fun h => good_loop (fun n st => n ≤ k ∧ ∃ (v2 : _) (v3 : _), st = ⟨[(0, .sh 1000 0 (List.map srw v0)), (1, .p (.int .i64 v2)), (5, .p (.int .i64 v3))], [(1000, (0, .pool))]⟩ ∧ laws_markStringS_sv.l0 n v0 v2 v3 = some r) k ⟨_, ⟨Nat.le_refl _, _, _, rfl, h⟩, frle_, memle_⟩ ?_
 clear h
 rintro n _ ⟨hkl0, v2, v3, rfl, h⟩ hl0
 cases n with
 | zero => exact absurd h (by simp [laws_markStringS_sv.l0])
 | succ kl0 =>
 rw [laws_markStringS_sv.l0] at h
 revert h
 refine bif_e (fun c1 => ?_) (fun c1 => ?_)
 ·refine go 8 ?_
  refine grs ?_
  refine gr_run ?_
  refine bind_e (fun v4 e4 => gr_call [] (laws_markText.con e4) ?_)
  clear e4
  refine bind_e (fun v5 e5 => ?_)
  replace e5 := nf_ (ix_en srw e5)
  refine gr_run ?_
  refine gr_done ?_
  refine go 3 ?_
  exact fun h => good_again hl0 (by omega) ⟨_, ⟨by omega, _, _, rfl, h⟩, frle_, memle_⟩
 ·refine go 7 ?_
  refine ret_e (fun hr_ => ?_)
  subst hr_
  exact ret_ Try.func12 [(1000, (0, 1000, 0))]
mutual
def laws_markRuleS_sv.l0 : Nat → (List S113) → Int → Int → Option (Int)
 | 0, _, _, _ => none
 | k + 1, v0, v2, v3 => (bif decide (v3 < (v0.length : Int)) then ((laws_markText.f k v2).bind fun v4 => ((ix v0 v3).bind fun v5 => ((rem (IntKind.i64.wrap ((IntKind.i64.wrap (v2 + 1)) + 1)) 3).bind fun v7 => (laws_markRuleS_sv.l0 k v0 (IntKind.i64.wrap ((IntKind.i64.wrap ((IntKind.i64.wrap (v2 + 1)) + 1)) + 1)) (IntKind.i64.wrap (v3 + 1)))))) else (some v2))
def laws_markRuleS_sv.f : Nat → (List S113) → Int → Option (Int)
 | 0, _, _ => none
 | k + 1, v0, v1 => (laws_markRuleS_sv.l0 k v0 v1 0)
end
set_option maxRecDepth 100000 in
set_option maxHeartbeats 4000000 in
theorem laws_markRuleS_sv.con {K : Kn} [KOk K] {k : Nat} {v0 : (List S113)} {v1 : Int} {r : Int} (h : laws_markRuleS_sv.f k v0 v1 = some r) : Con K Try.prog 76 [.sh 1000 0 (List.map en113 v0), .p (.int .i64 v1)] [(1000, (0, .pool))] (.p (.int .i64 r)) [(1000, (0, .pool))] := by
 cases k with
 | zero => exact absurd h (by simp [laws_markRuleS_sv.f])
 | succ k =>
 rw [laws_markRuleS_sv.f] at h
 refine con_intro 37 [] Try.func76 (by kernel_rfl) rfl rfl (by kernel_rfl) fun ι0 w0 hk0 => ?_
 revert h
 refine go 6 ?_
 refine fun h => good_loop (fun n st => n ≤ k ∧ ∃ (v2 : _) (v3 : _), st = ⟨[(0, .sh 1000 0 (List.map en113 v0)), (1, .p (.int .i64 v2)), (5, .p (.int .i64 v3))], [(1000, (0, .pool))]⟩ ∧ laws_markRuleS_sv.l0 n v0 v2 v3 = some r) k ⟨_, ⟨Nat.le_refl _, _, _, rfl, h⟩, frle_, memle_⟩ ?_
 clear h
 rintro n _ ⟨hkl0, v2, v3, rfl, h⟩ hl0
 cases n with
 | zero => exact absurd h (by simp [laws_markRuleS_sv.l0])
 | succ kl0 =>
 rw [laws_markRuleS_sv.l0] at h
 revert h
 refine bif_e (fun c1 => ?_) (fun c1 => ?_)
 ·refine go 8 ?_
  refine grs ?_
  refine gr_run ?_
  refine bind_e (fun v4 e4 => gr_call [] (laws_markText.con e4) ?_)
  clear e4
  refine bind_e (fun v5 e5 => ?_)
  replace e5 := nf_ (ix_en en113 e5)
  refine gr_run ?_
  refine gr_done ?_
  refine bind_e (fun v7 e7 => ?_)
  refine go 11 ?_
  exact fun h => good_again hl0 (by omega) ⟨_, ⟨by omega, _, _, rfl, h⟩, frle_, memle_⟩
 ·refine go 7 ?_
  refine ret_e (fun hr_ => ?_)
  subst hr_
  exact ret_ Try.func76 [(1000, (0, 1000, 0))]
mutual
def laws_markNodeTypeS_sv.l0 : Nat → (List S96) → Int → Int → Option (Int)
 | 0, _, _, _ => none
 | k + 1, v0, v2, v3 => (bif decide (v3 < (v0.length : Int)) then ((laws_markText.f k v2).bind fun v4 => ((ix v0 v3).bind fun v5 => ((laws_markStringS_sv.f k v5.f1 (IntKind.i64.wrap (v2 + 1))).bind fun v7 => ((laws_markRuleS_sv.f k v5.f2 v7).bind fun v9 => ((rem v9 3).bind fun v10 => (laws_markNodeTypeS_sv.l0 k v0 (IntKind.i64.wrap (v9 + 1)) (IntKind.i64.wrap (v3 + 1)))))))) else (some v2))
def laws_markNodeTypeS_sv.f : Nat → (List S96) → Int → Option (Int)
 | 0, _, _ => none
 | k + 1, v0, v1 => (laws_markNodeTypeS_sv.l0 k v0 v1 0)
end
set_option maxRecDepth 100000 in
set_option maxHeartbeats 4000000 in
theorem laws_markNodeTypeS_sv.con {K : Kn} [KOk K] {k : Nat} {v0 : (List S96)} {v1 : Int} {r : Int} (h : laws_markNodeTypeS_sv.f k v0 v1 = some r) : Con K Try.prog 33 [.sh 1000 0 (List.map en96 v0), .p (.int .i64 v1)] [(1000, (0, .pool))] (.p (.int .i64 r)) [(1000, (0, .pool))] := by
 cases k with
 | zero => exact absurd h (by simp [laws_markNodeTypeS_sv.f])
 | succ k =>
 rw [laws_markNodeTypeS_sv.f] at h
 refine con_intro 44 [] Try.func33 (by kernel_rfl) rfl rfl (by kernel_rfl) fun ι0 w0 hk0 => ?_
 revert h
 refine go 6 ?_
 refine fun h => good_loop (fun n st => n ≤ k ∧ ∃ (v2 : _) (v3 : _), st = ⟨[(0, .sh 1000 0 (List.map en96 v0)), (1, .p (.int .i64 v2)), (5, .p (.int .i64 v3))], [(1000, (0, .pool))]⟩ ∧ laws_markNodeTypeS_sv.l0 n v0 v2 v3 = some r) k ⟨_, ⟨Nat.le_refl _, _, _, rfl, h⟩, frle_, memle_⟩ ?_
 clear h
 rintro n _ ⟨hkl0, v2, v3, rfl, h⟩ hl0
 cases n with
 | zero => exact absurd h (by simp [laws_markNodeTypeS_sv.l0])
 | succ kl0 =>
 rw [laws_markNodeTypeS_sv.l0] at h
 revert h
 refine bif_e (fun c1 => ?_) (fun c1 => ?_)
 ·refine go 8 ?_
  refine grs ?_
  refine gr_run ?_
  refine bind_e (fun v4 e4 => gr_call [] (laws_markText.con e4) ?_)
  clear e4
  refine bind_e (fun v5 e5 => ?_)
  replace e5 := nf_ (ix_en en96 e5)
  refine gr_run ?_
  refine gr_done ?_
  refine go 3 ?_
  refine grs ?_
  refine gr_run ?_
  refine bind_e (fun v7 e7 => gr_call [(1000, (0, 1000, 0))] (laws_markStringS_sv.con e7) ?_)
  clear e7
  refine gr_run ?_
  refine gr_done ?_
  refine go 1 ?_
  refine grs ?_
  refine gr_run ?_
  refine bind_e (fun v9 e9 => gr_call [(1000, (0, 1000, 0))] (laws_markRuleS_sv.con e9) ?_)
  clear e9
  refine gr_run ?_
  refine gr_done ?_
  refine bind_e (fun v10 e10 => ?_)
  refine go 5 ?_
  exact fun h => good_again hl0 (by omega) ⟨_, ⟨by omega, _, _, rfl, h⟩, frle_, memle_⟩
 ·refine go 7 ?_
  refine ret_e (fun hr_ => ?_)
  subst hr_
  exact ret_ Try.func33 [(1000, (0, 1000, 0))]
mutual
def laws_markEdgeTypeS_sv.l0 : Nat → (List S99) → Int → Int → Option (Int)
 | 0, _, _, _ => none
 | k + 1, v0, v2, v3 => (bif decide (v3 < (v0.length : Int)) then ((laws_markText.f k v2).bind fun v4 => ((ix v0 v3).bind fun v5 => ((laws_markText.f k (IntKind.i64.wrap (v2 + 1))).bind fun v6 => ((laws_markText.f k (IntKind.i64.wrap ((IntKind.i64.wrap (v2 + 1)) + 1))).bind fun v8 => ((laws_markRuleS_sv.f k v5.f3 (IntKind.i64.wrap ((IntKind.i64.wrap ((IntKind.i64.wrap (v2 + 1)) + 1)) + 1))).bind fun v11 => (laws_markEdgeTypeS_sv.l0 k v0 (IntKind.i64.wrap ((IntKind.i64.wrap ((IntKind.i64.wrap (v11 + 1)) + 1)) + 1)) (IntKind.i64.wrap (v3 + 1)))))))) else (some v2))
def laws_markEdgeTypeS_sv.f : Nat → (List S99) → Int → Option (Int)
 | 0, _, _ => none
 | k + 1, v0, v1 => (laws_markEdgeTypeS_sv.l0 k v0 v1 0)
end
set_option maxRecDepth 100000 in
set_option maxHeartbeats 4000000 in
theorem laws_markEdgeTypeS_sv.con {K : Kn} [KOk K] {k : Nat} {v0 : (List S99)} {v1 : Int} {r : Int} (h : laws_markEdgeTypeS_sv.f k v0 v1 = some r) : Con K Try.prog 34 [.sh 1000 0 (List.map en99 v0), .p (.int .i64 v1)] [(1000, (0, .pool))] (.p (.int .i64 r)) [(1000, (0, .pool))] := by
 cases k with
 | zero => exact absurd h (by simp [laws_markEdgeTypeS_sv.f])
 | succ k =>
 rw [laws_markEdgeTypeS_sv.f] at h
 refine con_intro 65 [] Try.func34 (by kernel_rfl) rfl rfl (by kernel_rfl) fun ι0 w0 hk0 => ?_
 revert h
 refine go 6 ?_
 refine fun h => good_loop (fun n st => n ≤ k ∧ ∃ (v2 : _) (v3 : _), st = ⟨[(0, .sh 1000 0 (List.map en99 v0)), (1, .p (.int .i64 v2)), (5, .p (.int .i64 v3))], [(1000, (0, .pool))]⟩ ∧ laws_markEdgeTypeS_sv.l0 n v0 v2 v3 = some r) k ⟨_, ⟨Nat.le_refl _, _, _, rfl, h⟩, frle_, memle_⟩ ?_
 clear h
 rintro n _ ⟨hkl0, v2, v3, rfl, h⟩ hl0
 cases n with
 | zero => exact absurd h (by simp [laws_markEdgeTypeS_sv.l0])
 | succ kl0 =>
 rw [laws_markEdgeTypeS_sv.l0] at h
 revert h
 refine bif_e (fun c1 => ?_) (fun c1 => ?_)
 ·refine go 8 ?_
  refine grs ?_
  refine gr_run ?_
  refine bind_e (fun v4 e4 => gr_call [] (laws_markText.con e4) ?_)
  clear e4
  refine bind_e (fun v5 e5 => ?_)
  replace e5 := nf_ (ix_en en99 e5)
  refine gr_run ?_
  refine gr_done ?_
  refine go 3 ?_
  refine grs ?_
  refine gr_run ?_
  refine bind_e (fun v6 e6 => gr_call [] (laws_markText.con e6) ?_)
  clear e6
  refine gr_run ?_
  refine gr_done ?_
  refine go 3 ?_
  refine grs ?_
  refine gr_run ?_
  refine bind_e (fun v8 e8 => gr_call [] (laws_markText.con e8) ?_)
  clear e8
  refine gr_run ?_
  refine gr_done ?_
  refine go 3 ?_
  refine grs ?_
  refine gr_run ?_
  refine bind_e (fun v11 e11 => gr_call [(1000, (0, 1000, 0))] (laws_markRuleS_sv.con e11) ?_)
  clear e11
  refine gr_run ?_
  refine gr_done ?_
  refine go 13 ?_
  exact fun h => good_again hl0 (by omega) ⟨_, ⟨by omega, _, _, rfl, h⟩, frle_, memle_⟩
 ·refine go 7 ?_
  refine ret_e (fun hr_ => ?_)
  subst hr_
  exact ret_ Try.func34 [(1000, (0, 1000, 0))]
mutual
def laws_markKeyS_sv.l0 : Nat → (List S92) → Int → Int → Option (Int)
 | 0, _, _, _ => none
 | k + 1, v0, v2, v3 => (bif decide (v3 < (v0.length : Int)) then ((laws_markText.f k v2).bind fun v4 => ((ix v0 v3).bind fun v5 => ((laws_markStringS_sv.f k v5.f1 (IntKind.i64.wrap (v2 + 1))).bind fun v7 => (laws_markKeyS_sv.l0 k v0 v7 (IntKind.i64.wrap (v3 + 1)))))) else (some v2))
def laws_markKeyS_sv.f : Nat → (List S92) → Int → Option (Int)
 | 0, _, _ => none
 | k + 1, v0, v1 => (laws_markKeyS_sv.l0 k v0 v1 0)
end
set_option maxRecDepth 100000 in
set_option maxHeartbeats 4000000 in
theorem laws_markKeyS_sv.con {K : Kn} [KOk K] {k : Nat} {v0 : (List S92)} {v1 : Int} {r : Int} (h : laws_markKeyS_sv.f k v0 v1 = some r) : Con K Try.prog 35 [.sh 1000 0 (List.map en92 v0), .p (.int .i64 v1)] [(1000, (0, .pool))] (.p (.int .i64 r)) [(1000, (0, .pool))] := by
 cases k with
 | zero => exact absurd h (by simp [laws_markKeyS_sv.f])
 | succ k =>
 rw [laws_markKeyS_sv.f] at h
 refine con_intro 28 [] Try.func35 (by kernel_rfl) rfl rfl (by kernel_rfl) fun ι0 w0 hk0 => ?_
 revert h
 refine go 6 ?_
 refine fun h => good_loop (fun n st => n ≤ k ∧ ∃ (v2 : _) (v3 : _), st = ⟨[(0, .sh 1000 0 (List.map en92 v0)), (1, .p (.int .i64 v2)), (5, .p (.int .i64 v3))], [(1000, (0, .pool))]⟩ ∧ laws_markKeyS_sv.l0 n v0 v2 v3 = some r) k ⟨_, ⟨Nat.le_refl _, _, _, rfl, h⟩, frle_, memle_⟩ ?_
 clear h
 rintro n _ ⟨hkl0, v2, v3, rfl, h⟩ hl0
 cases n with
 | zero => exact absurd h (by simp [laws_markKeyS_sv.l0])
 | succ kl0 =>
 rw [laws_markKeyS_sv.l0] at h
 revert h
 refine bif_e (fun c1 => ?_) (fun c1 => ?_)
 ·refine go 8 ?_
  refine grs ?_
  refine gr_run ?_
  refine bind_e (fun v4 e4 => gr_call [] (laws_markText.con e4) ?_)
  clear e4
  refine bind_e (fun v5 e5 => ?_)
  replace e5 := nf_ (ix_en en92 e5)
  refine gr_run ?_
  refine gr_done ?_
  refine go 2 ?_
  refine grs ?_
  refine gr_run ?_
  refine bind_e (fun v7 e7 => gr_call [(1000, (0, 1000, 0))] (laws_markStringS_sv.con e7) ?_)
  clear e7
  refine gr_run ?_
  refine gr_done ?_
  refine go 2 ?_
  exact fun h => good_again hl0 (by omega) ⟨_, ⟨by omega, _, _, rfl, h⟩, frle_, memle_⟩
 ·refine go 7 ?_
  refine ret_e (fun hr_ => ?_)
  subst hr_
  exact ret_ Try.func35 [(1000, (0, 1000, 0))]
def laws_markSchema_sv.f (k : Nat) (v0 : (List S96)) (v1 : (List S99)) (v2 : (List S92)) (v3 : Int) : Option (Int) := ((laws_markNodeTypeS_sv.f k v0 v3).bind fun v4 => ((laws_markEdgeTypeS_sv.f k v1 v4).bind fun v5 => ((laws_markKeyS_sv.f k v2 v5).bind fun v6 => (some v6))))
set_option maxRecDepth 100000 in
set_option maxHeartbeats 4000000 in
theorem laws_markSchema_sv.con {K : Kn} [KOk K] {k : Nat} {v0 : (List S96)} {v1 : (List S99)} {v2 : (List S92)} {v3 : Int} {r : Int} (h : laws_markSchema_sv.f k v0 v1 v2 v3 = some r) : Con K Try.prog 11 [.agg [.sh 1000 0 (List.map en96 v0), .sh 1000 0 (List.map en99 v1), .sh 1000 0 (List.map en92 v2), .u], .p (.int .i64 v3)] [(1000, (0, .pool))] (.p (.int .i64 r)) [(1000, (0, .pool))] := by
 rw [laws_markSchema_sv.f] at h
 refine con_intro 18 [] Try.func11 (by kernel_rfl) rfl rfl (by kernel_rfl) fun ι0 w0 hk0 => ?_
 revert h
 refine go 3 ?_
 refine grs ?_
 refine gr_run ?_
 refine bind_e (fun v4 e4 => gr_call [(1000, (0, 1000, 0))] (laws_markNodeTypeS_sv.con e4) ?_)
 clear e4
 refine gr_run ?_
 refine gr_done ?_
 refine go 1 ?_
 refine grs ?_
 refine gr_run ?_
 refine bind_e (fun v5 e5 => gr_call [(1000, (0, 1000, 0))] (laws_markEdgeTypeS_sv.con e5) ?_)
 clear e5
 refine gr_run ?_
 refine gr_done ?_
 refine go 1 ?_
 refine grs ?_
 refine gr_run ?_
 refine bind_e (fun v6 e6 => gr_call [(1000, (0, 1000, 0))] (laws_markKeyS_sv.con e6) ?_)
 clear e6
 refine gr_run ?_
 refine gr_done ?_
 refine go 2 ?_
 refine ret_e (fun hr_ => ?_)
 subst hr_
 exact ret_ Try.func11 [(1000, (0, 1000, 0))]
mutual
def laws_markStringS_bv.l0 : Nat → Nat → Int → Int → (List ByteArray) → Option (Int × (List ByteArray))
 | 0, _, _, _, _ => none
 | k + 1, v0, v3, v4, v5 => (bif decide (v4 < (v0 : Int)) then ((laws_markText.f k v3).bind fun v6 => ((inr v4 v0).bind fun v7 => ((v5[(Int.toNat v4)]?).bind fun v8 => (laws_markStringS_bv.l0 k v0 (IntKind.i64.wrap (v3 + 1)) (IntKind.i64.wrap (v4 + 1)) (setr v5 (Int.toNat v4) v6))))) else (some (v3, v5)))
def laws_markStringS_bv.f : Nat → Nat → Int → (List ByteArray) → Option (Int × (List ByteArray))
 | 0, _, _, _ => none
 | k + 1, v0, v1, v2 => (laws_markStringS_bv.l0 k v0 v1 0 v2)
end
set_option maxRecDepth 100000 in
set_option maxHeartbeats 4000000 in
theorem laws_markStringS_bv.con {K : Kn} [KOk K] {k : Nat} {v0 : Nat} {v1 : Int} {v2 : (List ByteArray)} {r : Int × (List ByteArray)} (h : laws_markStringS_bv.f k v0 v1 v2 = some r) : Con K Try.prog 12 [.buf 1000 0 0 v0, .p (.int .i64 v1)] [(1000, (0, .buf 1 (List.map srw v2)))] (.p (.int .i64 r.1)) [(1000, (0, .buf 1 (List.map srw r.2)))] := by
 cases k with
 | zero => exact absurd h (by simp [laws_markStringS_bv.f])
 | succ k =>
 rw [laws_markStringS_bv.f] at h
 refine con_intro 20 [] Try.func12 (by kernel_rfl) rfl rfl (by kernel_rfl) fun ι0 w0 hk0 => ?_
 revert h
 refine go 6 ?_
 refine fun h => good_loop (fun n st => n ≤ k ∧ ∃ (v3 : _) (v4 : _) (v5 : _), st = ⟨[(0, .buf 1000 0 0 v0), (1, .p (.int .i64 v3)), (5, .p (.int .i64 v4))], [(1000, (0, .buf 1 (List.map srw v5)))]⟩ ∧ laws_markStringS_bv.l0 n v0 v3 v4 v5 = some r) k ⟨_, ⟨Nat.le_refl _, _, _, _, rfl, h⟩, frle_, memle_⟩ ?_
 clear h
 rintro n _ ⟨hkl0, v3, v4, v5, rfl, h⟩ hl0
 cases n with
 | zero => exact absurd h (by simp [laws_markStringS_bv.l0])
 | succ kl0 =>
 rw [laws_markStringS_bv.l0] at h
 revert h
 refine bif_e (fun c1 => ?_) (fun c1 => ?_)
 ·refine go 8 ?_
  refine grs ?_
  refine gr_run ?_
  refine bind_e (fun v6 e6 => gr_call [] (laws_markText.con e6) ?_)
  clear e6
  refine bind_e (fun v7 e7 => ?_)
  refine bind_e (fun v8 e8 => ?_)
  replace e8 := nf_ (gx_en srw e8)
  refine gr_run ?_
  refine gr_done ?_
  refine go 3 ?_
  exact fun h => good_again hl0 (by omega) ⟨_, ⟨by omega, _, _, _, rfl, h⟩, frle_, memle_⟩
 ·refine go 7 ?_
  refine ret_e (fun hr_ => ?_)
  subst hr_
  exact ret_ Try.func12 [(1000, (0, 1000, 0))]
mutual
def laws_heldStringS_bv.l0 : Nat → Nat → Int → Int → (List ByteArray) → Option (Int)
 | 0, _, _, _, _ => none
 | k + 1, v0, v3, v4, v2 => (bif decide (v4 < (v0 : Int)) then ((inr v4 v0).bind fun v5 => ((v2[(Int.toNat v4)]?).bind fun v6 => ((laws_markText.f k v3).bind fun v7 => (bif decide (v6 = v7) then (laws_heldStringS_bv.l0 k v0 (IntKind.i64.wrap (v3 + 1)) (IntKind.i64.wrap (v4 + 1)) v2) else (some (-1)))))) else (some v3))
def laws_heldStringS_bv.f : Nat → Nat → Int → (List ByteArray) → Option (Int)
 | 0, _, _, _ => none
 | k + 1, v0, v1, v2 => (laws_heldStringS_bv.l0 k v0 v1 0 v2)
end
set_option maxRecDepth 100000 in
set_option maxHeartbeats 4000000 in
theorem laws_heldStringS_bv.con {K : Kn} [KOk K] {k : Nat} {v0 : Nat} {v1 : Int} {v2 : (List ByteArray)} {r : Int} (h : laws_heldStringS_bv.f k v0 v1 v2 = some r) : Con K Try.prog 13 [.buf 1000 0 0 v0, .p (.int .i64 v1)] [(1000, (0, .buf 1 (List.map srw v2)))] (.p (.int .i64 r)) [(1000, (0, .buf 1 (List.map srw v2)))] := by
 cases k with
 | zero => exact absurd h (by simp [laws_heldStringS_bv.f])
 | succ k =>
 rw [laws_heldStringS_bv.f] at h
 refine con_intro 22 [] Try.func13 (by kernel_rfl) rfl rfl (by kernel_rfl) fun ι0 w0 hk0 => ?_
 revert h
 refine go 6 ?_
 refine fun h => good_loop (fun n st => n ≤ k ∧ ∃ (v3 : _) (v4 : _), st = ⟨[(0, .buf 1000 0 0 v0), (1, .p (.int .i64 v3)), (5, .p (.int .i64 v4))], [(1000, (0, .buf 1 (List.map srw v2)))]⟩ ∧ laws_heldStringS_bv.l0 n v0 v3 v4 v2 = some r) k ⟨_, ⟨Nat.le_refl _, _, _, rfl, h⟩, frle_, memle_⟩ ?_
 clear h
 rintro n _ ⟨hkl0, v3, v4, rfl, h⟩ hl0
 cases n with
 | zero => exact absurd h (by simp [laws_heldStringS_bv.l0])
 | succ kl0 =>
 rw [laws_heldStringS_bv.l0] at h
 revert h
 refine bif_e (fun c1 => ?_) (fun c1 => ?_)
 ·refine bind_e (fun v5 e5 => ?_)
  refine bind_e (fun v6 e6 => ?_)
  replace e6 := nf_ (gx_en srw e6)
  refine go 9 ?_
  refine grs ?_
  refine gr_run ?_
  refine bind_e (fun v7 e7 => gr_call [] (laws_markText.con e7) ?_)
  clear e7
  refine gr_run ?_
  refine gr_done ?_
  refine bif_e (fun c2 => ?_) (fun c2 => ?_)
  ·refine go 5 ?_
   exact fun h => good_again hl0 (by omega) ⟨_, ⟨by omega, _, _, rfl, h⟩, frle_, memle_⟩
  ·refine go 3 ?_
   refine ret_e (fun hr_ => ?_)
   subst hr_
   exact ret_ Try.func13 [(1000, (0, 1000, 0))]
 ·refine go 7 ?_
  refine ret_e (fun hr_ => ?_)
  subst hr_
  exact ret_ Try.func13 [(1000, (0, 1000, 0))]
def laws_FnExactLineOf.f (k : Nat) (v0 : S25) (v1 : ByteArray) : Option (Bool) := (bif decide (1048576 < (v1.size : Int)) then (some true) else ((laws_szSchema.f k v0 1048576).bind fun v2 => (bif decide (v2 < 0) then (some true) else ((laws_toSchema.f k v0).bind fun v3 => ((spec_LineOf_O.f k v3 v1).bind fun v4 => ((laws_toSchema.f k v0).bind fun v5 => ((impl_LineOf_O.f k v5 v1).bind fun v6 => ((laws_eqStringS_bb.f k v6.length v4.length v6 v4).bind fun v7 => (bif v7 then ((laws_toSchema.f k v0).bind fun v8 => ((laws_eqSchema.f k v5 v8).bind fun v9 => (bif v9 then ((laws_markSchema_sv.f k v5.f0 v5.f1 v5.f2 1).bind fun v10 => (bif decide (v10 < 0) then (some false) else ((laws_eqStringS_bb.f k v6.length v4.length v6 v4).bind fun v11 => (bif v11 then ((laws_markStringS_bv.f k v6.length 1 v6).bind fun v12 => ((laws_heldStringS_bv.f k v6.length 1 v12.2).bind fun v13 => (bif decide (v13 < 0) then (some false) else (bif (v13 == v12.1) then ((laws_toSchema.f k v0).bind fun v14 => ((impl_LineOf_O.f k v14 v1).bind fun v15 => ((laws_eqStringS_bb.f k v15.length v4.length v15 v4).bind fun v16 => (bif v16 then ((laws_heldStringS_bv.f k v6.length 1 v12.2).bind fun v17 => (bif decide (v17 < 0) then (some false) else (bif (v17 == v12.1) then (some true) else (some false)))) else (some false))))) else (some false))))) else (some false))))) else (some false)))) else (some false))))))))))
set_option maxRecDepth 100000 in
set_option maxHeartbeats 4000000 in
theorem laws_FnExactLineOf.con {K : Kn} [KOk K] {k : Nat} {v0 : S25} {v1 : ByteArray} {r : Bool} (h : laws_FnExactLineOf.f k v0 v1 = some r) : ConT K Try.prog 3 [.agg [.od (.lst false (List.map en86 v0.f0)), .od (.lst false (List.map en89 v0.f1)), .od (.lst false (List.map en92 v0.f2)), .p (.bool v0.f3)], .p (.str v1)] [] (.p (.bool r)) [] := by
 rw [laws_FnExactLineOf.f] at h
 refine conT_intro 77 [] Try.func3 (by kernel_rfl) rfl rfl (by kernel_rfl) fun ι0 w0 hN0 hk0 => ?_
 revert h
 refine bif_e (fun c1 => ?_) (fun c1 => ?_)
 ·refine go 8 ?_
  refine ret_e (fun hr_ => ?_)
  subst hr_
  exact ret_ Try.func3 []
 ·refine go 10 ?_
  refine grs ?_
  refine gr_run ?_
  refine bind_e (fun v2 e2 => gr_call [] (laws_szSchema.con e2) ?_)
  clear e2
  refine gr_run ?_
  refine gr_done ?_
  refine bif_e (fun c2 => ?_) (fun c2 => ?_)
  ·refine go 6 ?_
   refine ret_e (fun hr_ => ?_)
   subst hr_
   exact ret_ Try.func3 []
  ·refine go 6 ?_
   refine grs ?_
   refine gr_run ?_
   refine bind_e (fun v3 e3 => gr_call [] (laws_toSchema.con e3) ?_)
   clear e3
   refine gr_run ?_
   refine bind_e (fun v4 e4 => gr_call [(2000, (1, 24, 1))] (spec_LineOf_O.con e4) ?_)
   clear e4
   refine gr_run ?_
   refine gr_done ?_
   refine go 1 ?_
   refine grs ?_
   refine gr_run ?_
   refine bind_e (fun v5 e5 => gr_call [] (laws_toSchema.con e5) ?_)
   clear e5
   refine gr_run ?_
   refine gr_done ?_
   refine go 1 ?_
   refine grs ?_
   refine gr_run ?_
   refine bind_e (fun v6 e6 => gr_call [(2000, (1, 29, 1))] (impl_LineOf_O.con e6) ?_)
   clear e6
   refine gr_run ?_
   refine gr_done ?_
   refine go 2 ?_
   refine grs ?_
   refine gr_run ?_
   refine bind_e (fun v7 e7 => gr_call [(1000, (0, 29, 1)), (1001, (0, 24, 1))] (laws_eqStringS_bb.con e7) ?_)
   clear e7
   refine gr_run ?_
   refine gr_done ?_
   refine bif_e (fun c3 => ?_) (fun c3 => ?_)
   ·refine go 4 ?_
    refine grs ?_
    refine gr_run ?_
    refine bind_e (fun v8 e8 => gr_call [] (laws_toSchema.con e8) ?_)
    clear e8
    refine bind_e (fun v9 e9 => gr_call [] (laws_eqSchema.con e9) ?_)
    clear e9
    refine gr_run ?_
    refine gr_done ?_
    refine bif_e (fun c4 => ?_) (fun c4 => ?_)
    ·refine go 5 ?_
     refine pool_ 900 (⟨[(1, .p (.str v1)), (2, .ptr 2 1 0), (6, .buf 24 1 0 v4.length), (7, .ptr 7 1 0), (8, .buf 29 1 0 v6.length), (9, .p (.int .i64 1))], [(2, (1, .cells [.od (.lst false (List.map en86 v0.f0)), .od (.lst false (List.map en89 v0.f1)), .od (.lst false (List.map en92 v0.f2)), .p (.bool v0.f3)])), (24, (1, .buf 1 (List.map srw v4))), (7, (1, .cells [.nw (.lst false (List.map en96 v5.f0)), .nw (.lst false (List.map en99 v5.f1)), .nw (.lst false (List.map en92 v5.f2)), .p (.bool v5.f3)])), (29, (1, .buf 1 (List.map srw v6)))]⟩) (⟨[(1, .p (.str v1)), (2, .ptr 2 1 0), (6, .buf 24 1 0 v4.length), (7, .ptr 7 1 0), (8, .buf 29 1 0 v6.length), (9, .p (.int .i64 1))], [(900, (1, .pool)), (2, (1, .cells [.od (.lst false (List.map en86 v0.f0)), .od (.lst false (List.map en89 v0.f1)), .od (.lst false (List.map en92 v0.f2)), .p (.bool v0.f3)])), (24, (1, .buf 1 (List.map srw v4))), (7, (1, .cells [.sh 900 1 (List.map en96 v5.f0), .sh 900 1 (List.map en99 v5.f1), .sh 900 1 (List.map en92 v5.f2), .p (.bool v5.f3)])), (29, (1, .buf 1 (List.map srw v6)))]⟩) ?_
     refine grs ?_
     refine gr_run ?_
     refine bind_e (fun v10 e10 => gr_call [(1000, (0, 900, 1))] (laws_markSchema_sv.con e10) ?_)
     clear e10
     refine gr_run ?_
     refine gr_done ?_
     refine bif_e (fun c5 => ?_) (fun c5 => ?_)
     ·refine go 6 ?_
      refine ret_e (fun hr_ => ?_)
      subst hr_
      exact ret_ Try.func3 []
     ·refine go 2 ?_
      refine grs ?_
      refine gr_run ?_
      refine bind_e (fun v11 e11 => gr_call [(1000, (0, 29, 1)), (1001, (0, 24, 1))] (laws_eqStringS_bb.con e11) ?_)
      clear e11
      refine gr_run ?_
      refine gr_done ?_
      refine bif_e (fun c6 => ?_) (fun c6 => ?_)
      ·refine go 5 ?_
       refine grs ?_
       refine gr_run ?_
       refine bind_e (fun v12 e12 => gr_call [(1000, (0, 29, 1))] (laws_markStringS_bv.con e12) ?_)
       clear e12
       refine gr_run ?_
       refine gr_done ?_
       refine go 3 ?_
       refine grs ?_
       refine gr_run ?_
       refine bind_e (fun v13 e13 => gr_call [(1000, (0, 29, 1))] (laws_heldStringS_bv.con e13) ?_)
       clear e13
       refine gr_run ?_
       refine gr_done ?_
       refine bif_e (fun c7 => ?_) (fun c7 => ?_)
       ·refine go 6 ?_
        refine ret_e (fun hr_ => ?_)
        subst hr_
        exact ret_ Try.func3 []
       ·refine bif_e (fun c8 => ?_) (fun c8 => ?_)
        ·refine go 11 ?_
         refine grs ?_
         refine gr_run ?_
         refine bind_e (fun v14 e14 => gr_call [] (laws_toSchema.con e14) ?_)
         clear e14
         refine gr_run ?_
         refine bind_e (fun v15 e15 => gr_call [(2000, (1, 64, 1))] (impl_LineOf_O.con e15) ?_)
         clear e15
         refine gr_run ?_
         refine gr_done ?_
         refine go 2 ?_
         refine grs ?_
         refine gr_run ?_
         refine bind_e (fun v16 e16 => gr_call [(1000, (0, 64, 1)), (1001, (0, 24, 1))] (laws_eqStringS_bb.con e16) ?_)
         clear e16
         refine gr_run ?_
         refine gr_done ?_
         refine bif_e (fun c9 => ?_) (fun c9 => ?_)
         ·refine go 5 ?_
          refine grs ?_
          refine gr_run ?_
          refine bind_e (fun v17 e17 => gr_call [(1000, (0, 29, 1))] (laws_heldStringS_bv.con e17) ?_)
          clear e17
          refine gr_run ?_
          refine gr_done ?_
          refine bif_e (fun c10 => ?_) (fun c10 => ?_)
          ·refine go 6 ?_
           refine ret_e (fun hr_ => ?_)
           subst hr_
           exact ret_ Try.func3 []
          ·refine bif_e (fun c11 => ?_) (fun c11 => ?_)
           ·refine go 12 ?_
            refine ret_e (fun hr_ => ?_)
            subst hr_
            exact ret_ Try.func3 []
           ·refine go 11 ?_
            refine ret_e (fun hr_ => ?_)
            subst hr_
            exact ret_ Try.func3 []
         ·refine go 3 ?_
          refine ret_e (fun hr_ => ?_)
          subst hr_
          exact ret_ Try.func3 []
        ·refine go 11 ?_
         refine ret_e (fun hr_ => ?_)
         subst hr_
         exact ret_ Try.func3 []
      ·refine go 3 ?_
       refine ret_e (fun hr_ => ?_)
       subst hr_
       exact ret_ Try.func3 []
    ·refine go 3 ?_
     refine ret_e (fun hr_ => ?_)
     subst hr_
     exact ret_ Try.func3 []
   ·refine go 3 ?_
    refine ret_e (fun hr_ => ?_)
    subst hr_
    exact ret_ Try.func3 []
end Go.Ab
