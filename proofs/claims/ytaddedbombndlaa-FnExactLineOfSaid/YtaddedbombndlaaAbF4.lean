/- What the functions compute, and their contracts, part 4. No condition beyond KOk. -/
import Derived.Test.YtaddedbombndlaaAbX
namespace Go.Ab
open Go.Proofs
set_option linter.unusedVariables false
set_option linter.unusedSimpArgs false
def impl_isLetter.f (k : Nat) (v0 : Int) : Option (Bool) := (bif decide (97 ≤ v0) then (bif decide (v0 ≤ 122) then (some true) else (bif decide (65 ≤ v0) then (some (decide (v0 ≤ 90))) else (some false))) else (bif decide (65 ≤ v0) then (some (decide (v0 ≤ 90))) else (some false)))
set_option maxRecDepth 100000 in
set_option maxHeartbeats 4000000 in
theorem impl_isLetter.con {K : Kn} [KOk K] {k : Nat} {v0 : Int} {r : Bool} (h : impl_isLetter.f k v0 = some r) : Con K Try.prog 98 [.p (.int .u8 v0)] [] (.p (.bool r)) [] := by
 rw [impl_isLetter.f] at h
 refine con_intro 17 [] Try.func98 (by kernel_rfl) rfl rfl (by kernel_rfl) fun ι0 w0 hk0 => ?_
 revert h
 refine bif_e (fun c1 => ?_) (fun c1 => ?_)
 ·refine bif_e (fun c2 => ?_) (fun c2 => ?_)
  ·refine go 4 ?_
   refine ret_e (fun hr_ => ?_)
   subst hr_
   exact ret_ Try.func98 []
  ·refine bif_e (fun c3 => ?_) (fun c3 => ?_)
   ·refine go 4 ?_
    refine ret_e (fun hr_ => ?_)
    subst hr_
    exact ret_ Try.func98 []
   ·refine go 4 ?_
    refine ret_e (fun hr_ => ?_)
    subst hr_
    exact ret_ Try.func98 []
 ·refine bif_e (fun c4 => ?_) (fun c4 => ?_)
  ·refine go 4 ?_
   refine ret_e (fun hr_ => ?_)
   subst hr_
   exact ret_ Try.func98 []
  ·refine go 4 ?_
   refine ret_e (fun hr_ => ?_)
   subst hr_
   exact ret_ Try.func98 []
def impl_isDigit.f (k : Nat) (v0 : Int) : Option (Bool) := (bif decide (48 ≤ v0) then (some (decide (v0 ≤ 57))) else (some false))
set_option maxRecDepth 100000 in
set_option maxHeartbeats 4000000 in
theorem impl_isDigit.con {K : Kn} [KOk K] {k : Nat} {v0 : Int} {r : Bool} (h : impl_isDigit.f k v0 = some r) : Con K Try.prog 99 [.p (.int .u8 v0)] [] (.p (.bool r)) [] := by
 rw [impl_isDigit.f] at h
 refine con_intro 9 [] Try.func99 (by kernel_rfl) rfl rfl (by kernel_rfl) fun ι0 w0 hk0 => ?_
 revert h
 refine bif_e (fun c1 => ?_) (fun c1 => ?_)
 ·refine go 4 ?_
  refine ret_e (fun hr_ => ?_)
  subst hr_
  exact ret_ Try.func99 []
 ·refine go 4 ?_
  refine ret_e (fun hr_ => ?_)
  subst hr_
  exact ret_ Try.func99 []
mutual
def impl_isName.l0 : Nat → ByteArray → Int → Option (Bool)
 | 0, _, _ => none
 | k + 1, v0, v3 => (bif decide (v3 < (v0.size : Int)) then ((bix v0 v3).bind fun v4 => ((impl_isLetter.f k v4).bind fun v5 => (bif v5 then (impl_isName.l0 k v0 (IntKind.i64.wrap (v3 + 1))) else ((impl_isDigit.f k v4).bind fun v7 => (bif v7 then (impl_isName.l0 k v0 (IntKind.i64.wrap (v3 + 1))) else (bif (v4 == 95) then (impl_isName.l0 k v0 (IntKind.i64.wrap (v3 + 1))) else (some false))))))) else (some true))
def impl_isName.f : Nat → ByteArray → Option (Bool)
 | 0, _ => none
 | k + 1, v0 => (bif decide ((v0.size : Int) < 1) then (some false) else (bif decide (20 < (v0.size : Int)) then (some false) else ((bix v0 0).bind fun v1 => ((impl_isLetter.f k v1).bind fun v2 => (bif v2 then (impl_isName.l0 k v0 0) else (some false))))))
end
set_option maxRecDepth 100000 in
set_option maxHeartbeats 4000000 in
theorem impl_isName.con {K : Kn} [KOk K] {k : Nat} {v0 : ByteArray} {r : Bool} (h : impl_isName.f k v0 = some r) : Con K Try.prog 63 [.p (.str v0)] [] (.p (.bool r)) [] := by
 cases k with
 | zero => exact absurd h (by simp [impl_isName.f])
 | succ k =>
 rw [impl_isName.f] at h
 refine con_intro 42 [] Try.func63 (by kernel_rfl) rfl rfl (by kernel_rfl) fun ι0 w0 hk0 => ?_
 revert h
 refine bif_e (fun c1 => ?_) (fun c1 => ?_)
 ·refine go 8 ?_
  refine ret_e (fun hr_ => ?_)
  subst hr_
  exact ret_ Try.func63 []
 ·refine bif_e (fun c2 => ?_) (fun c2 => ?_)
  ·refine go 8 ?_
   refine ret_e (fun hr_ => ?_)
   subst hr_
   exact ret_ Try.func63 []
  ·refine bind_e (fun v1 e1 => ?_)
   refine go 4 ?_
   refine grs ?_
   refine gr_run ?_
   refine bind_e (fun v2 e2 => gr_call [] (impl_isLetter.con e2) ?_)
   clear e2
   refine gr_run ?_
   refine gr_done ?_
   refine bif_e (fun c3 => ?_) (fun c3 => ?_)
   ·refine go 6 ?_
    refine fun h => good_loop (fun n st => n ≤ k ∧ ∃ (v3 : _), st = ⟨[(0, .p (.str v0)), (19, .p (.int .i64 (v0.size : Int))), (20, .p (.int .i64 v3))], []⟩ ∧ impl_isName.l0 n v0 v3 = some r) k ⟨_, ⟨Nat.le_refl _, _, rfl, h⟩, frle_, memle_⟩ ?_
    clear c1 c2 e1 c3
    clear h
    rintro n _ ⟨hkl0, v3, rfl, h⟩ hl0
    cases n with
    | zero => exact absurd h (by simp [impl_isName.l0])
    | succ kl0 =>
    rw [impl_isName.l0] at h
    revert h
    refine bif_e (fun c4 => ?_) (fun c4 => ?_)
    ·refine bind_e (fun v4 e4 => ?_)
     refine go 10 ?_
     refine grs ?_
     refine gr_run ?_
     refine bind_e (fun v5 e5 => gr_call [] (impl_isLetter.con e5) ?_)
     clear e5
     refine bif_e (fun c5 => ?_) (fun c5 => ?_)
     ·refine gr_run ?_
      refine gr_done ?_
      refine go 4 ?_
      exact fun h => good_again hl0 (by omega) ⟨_, ⟨by omega, _, rfl, h⟩, frle_, memle_⟩
     ·refine gr_run ?_
      refine bind_e (fun v7 e7 => gr_call [] (impl_isDigit.con e7) ?_)
      clear e7
      refine bif_e (fun c6 => ?_) (fun c6 => ?_)
      ·refine gr_run ?_
       refine gr_done ?_
       refine go 4 ?_
       exact fun h => good_again hl0 (by omega) ⟨_, ⟨by omega, _, rfl, h⟩, frle_, memle_⟩
      ·refine gr_run ?_
       refine gr_done ?_
       refine bif_e (fun c7 => ?_) (fun c7 => ?_)
       ·refine go 4 ?_
        exact fun h => good_again hl0 (by omega) ⟨_, ⟨by omega, _, rfl, h⟩, frle_, memle_⟩
       ·refine go 3 ?_
        refine ret_e (fun hr_ => ?_)
        subst hr_
        exact ret_ Try.func63 []
    ·refine go 7 ?_
     refine ret_e (fun hr_ => ?_)
     subst hr_
     exact ret_ Try.func63 []
   ·refine go 3 ?_
    refine ret_e (fun hr_ => ?_)
    subst hr_
    exact ret_ Try.func63 []
mutual
def impl_risingNames.l0 : Nat → (List ByteArray) → Int → Option (Bool)
 | 0, _, _ => none
 | k + 1, v0, v2 => (bif decide (v2 < (v0.length : Int)) then ((ix v0 v2).bind fun v3 => ((impl_isName.f k v3).bind fun v4 => (bif v4 then (bif decide (0 < v2) then ((ix v0 (IntKind.i64.wrap (v2 - 1))).bind fun v5 => (bif slt v5 v3 then (impl_risingNames.l0 k v0 (IntKind.i64.wrap (v2 + 1))) else (some false))) else (impl_risingNames.l0 k v0 (IntKind.i64.wrap (v2 + 1)))) else (some false)))) else (some true))
def impl_risingNames.f : Nat → (List ByteArray) → Int → Option (Bool)
 | 0, _, _ => none
 | k + 1, v0, v1 => (bif decide (v1 < (v0.length : Int)) then (some false) else (impl_risingNames.l0 k v0 0))
end
set_option maxRecDepth 100000 in
set_option maxHeartbeats 4000000 in
theorem impl_risingNames.con {K : Kn} [KOk K] {k : Nat} {v0 : (List ByteArray)} {v1 : Int} {r : Bool} (h : impl_risingNames.f k v0 v1 = some r) : Con K Try.prog 64 [.p (.lst false (List.map srw v0)), .p (.int .i64 v1)] [] (.p (.bool r)) [] := by
 cases k with
 | zero => exact absurd h (by simp [impl_risingNames.f])
 | succ k =>
 rw [impl_risingNames.f] at h
 refine con_intro 35 [] Try.func64 (by kernel_rfl) rfl rfl (by kernel_rfl) fun ι0 w0 hk0 => ?_
 revert h
 refine bif_e (fun c1 => ?_) (fun c1 => ?_)
 ·refine go 8 ?_
  refine ret_e (fun hr_ => ?_)
  subst hr_
  exact ret_ Try.func64 []
 ·refine go 11 ?_
  refine fun h => good_loop (fun n st => n ≤ k ∧ ∃ (v2 : _), st = ⟨[(0, .p (.lst false (List.map srw v0))), (11, .p (.lst false (List.map srw v0))), (12, .p (.int .i64 (v0.length : Int))), (13, .p (.int .i64 v2))], []⟩ ∧ impl_risingNames.l0 n v0 v2 = some r) k ⟨_, ⟨Nat.le_refl _, _, rfl, h⟩, frle_, memle_⟩ ?_
  clear c1
  clear h
  rintro n _ ⟨hkl0, v2, rfl, h⟩ hl0
  cases n with
  | zero => exact absurd h (by simp [impl_risingNames.l0])
  | succ kl0 =>
  rw [impl_risingNames.l0] at h
  revert h
  refine bif_e (fun c2 => ?_) (fun c2 => ?_)
  ·refine bind_e (fun v3 e3 => ?_)
   replace e3 := nf_ (ix_en srw e3)
   refine go 10 ?_
   refine grs ?_
   refine gr_run ?_
   refine bind_e (fun v4 e4 => gr_call [] (impl_isName.con e4) ?_)
   clear e4
   refine bif_e (fun c3 => ?_) (fun c3 => ?_)
   ·refine bif_e (fun c4 => ?_) (fun c4 => ?_)
    ·refine bind_e (fun v5 e5 => ?_)
     replace e5 := nf_ (ix_en srw e5)
     refine gr_run ?_
     refine gr_done ?_
     refine bif_e (fun c5 => ?_) (fun c5 => ?_)
     ·refine go 4 ?_
      exact fun h => good_again hl0 (by omega) ⟨_, ⟨by omega, _, rfl, h⟩, frle_, memle_⟩
     ·refine go 3 ?_
      refine ret_e (fun hr_ => ?_)
      subst hr_
      exact ret_ Try.func64 []
    ·refine gr_run ?_
     refine gr_done ?_
     refine go 4 ?_
     exact fun h => good_again hl0 (by omega) ⟨_, ⟨by omega, _, rfl, h⟩, frle_, memle_⟩
   ·refine gr_run ?_
    refine gr_done ?_
    refine go 3 ?_
    refine ret_e (fun hr_ => ?_)
    subst hr_
    exact ret_ Try.func64 []
  ·refine go 7 ?_
   refine ret_e (fun hr_ => ?_)
   subst hr_
   exact ret_ Try.func64 []
mutual
def impl_rulesOk.l0 : Nat → (List S113) → Int → Option (Bool)
 | 0, _, _ => none
 | k + 1, v0, v1 => (bif decide (v1 < (v0.length : Int)) then ((ix v0 v1).bind fun v3 => ((impl_isName.f k v3.f0).bind fun v4 => (bif v4 then (bif decide (0 < v1) then ((ix v0 (IntKind.i64.wrap (v1 - 1))).bind fun v5 => (bif slt v5.f0 v3.f0 then (bif decide (v3.f1 < 0) then (some false) else (bif decide (7 < v3.f1) then (some false) else (impl_rulesOk.l0 k v0 (IntKind.i64.wrap (v1 + 1))))) else (some false))) else (bif decide (v3.f1 < 0) then (some false) else (bif decide (7 < v3.f1) then (some false) else (impl_rulesOk.l0 k v0 (IntKind.i64.wrap (v1 + 1)))))) else (some false)))) else (some true))
def impl_rulesOk.f : Nat → (List S113) → Option (Bool)
 | 0, _ => none
 | k + 1, v0 => (bif decide (20 < (v0.length : Int)) then (some false) else (impl_rulesOk.l0 k v0 0))
end
set_option maxRecDepth 100000 in
set_option maxHeartbeats 4000000 in
theorem impl_rulesOk.con {K : Kn} [KOk K] {k : Nat} {v0 : (List S113)} {r : Bool} (h : impl_rulesOk.f k v0 = some r) : Con K Try.prog 65 [.p (.lst false (List.map en113 v0))] [] (.p (.bool r)) [] := by
 cases k with
 | zero => exact absurd h (by simp [impl_rulesOk.f])
 | succ k =>
 rw [impl_rulesOk.f] at h
 refine con_intro 45 [] Try.func65 (by kernel_rfl) rfl rfl (by kernel_rfl) fun ι0 w0 hk0 => ?_
 revert h
 refine bif_e (fun c1 => ?_) (fun c1 => ?_)
 ·refine go 8 ?_
  refine ret_e (fun hr_ => ?_)
  subst hr_
  exact ret_ Try.func65 []
 ·refine go 11 ?_
  refine fun h => good_loop (fun n st => n ≤ k ∧ ∃ (v1 : _) (g2 : Nat), st = ⟨[(0, .p (.lst false (List.map en113 v0))), (8, .p (.lst false (List.map en113 v0))), (9, .p (.int .i64 (v0.length : Int))), (10, .p (.int .i64 v1))], [(4, (g2, .gone))]⟩ ∧ impl_rulesOk.l0 n v0 v1 = some r) k ⟨_, ⟨Nat.le_refl _, _, 0, rfl, h⟩, frle_, memle_⟩ ?_
  clear c1
  clear h
  rintro n _ ⟨hkl0, v1, g2, rfl, h⟩ hl0
  cases n with
  | zero => exact absurd h (by simp [impl_rulesOk.l0])
  | succ kl0 =>
  rw [impl_rulesOk.l0] at h
  revert h
  refine bif_e (fun c2 => ?_) (fun c2 => ?_)
  ·refine bind_e (fun v3 e3 => ?_)
   replace e3 := nf_ (ix_en en113 e3)
   refine go 10 ?_
   refine grs ?_
   refine gr_run ?_
   refine bind_e (fun v4 e4 => gr_call [] (impl_isName.con e4) ?_)
   clear e4
   refine bif_e (fun c3 => ?_) (fun c3 => ?_)
   ·refine bif_e (fun c4 => ?_) (fun c4 => ?_)
    ·refine bind_e (fun v5 e5 => ?_)
     replace e5 := nf_ (ix_en en113 e5)
     refine bif_e (fun c5 => ?_) (fun c5 => ?_)
     ·refine bif_e (fun c6 => ?_) (fun c6 => ?_)
      ·refine gr_run ?_
       refine gr_done ?_
       refine go 3 ?_
       refine ret_e (fun hr_ => ?_)
       subst hr_
       exact ret_ Try.func65 []
      ·refine gr_run ?_
       refine gr_done ?_
       refine bif_e (fun c7 => ?_) (fun c7 => ?_)
       ·refine go 3 ?_
        refine ret_e (fun hr_ => ?_)
        subst hr_
        exact ret_ Try.func65 []
       ·refine go 4 ?_
        exact fun h => good_again hl0 (by omega) ⟨_, ⟨by omega, _, g2 + 1, rfl, h⟩, frle_, memle_⟩
     ·refine gr_run ?_
      refine gr_done ?_
      refine go 3 ?_
      refine ret_e (fun hr_ => ?_)
      subst hr_
      exact ret_ Try.func65 []
    ·refine bif_e (fun c8 => ?_) (fun c8 => ?_)
     ·refine gr_run ?_
      refine gr_done ?_
      refine go 3 ?_
      refine ret_e (fun hr_ => ?_)
      subst hr_
      exact ret_ Try.func65 []
     ·refine gr_run ?_
      refine gr_done ?_
      refine bif_e (fun c9 => ?_) (fun c9 => ?_)
      ·refine go 3 ?_
       refine ret_e (fun hr_ => ?_)
       subst hr_
       exact ret_ Try.func65 []
      ·refine go 4 ?_
       exact fun h => good_again hl0 (by omega) ⟨_, ⟨by omega, _, g2 + 1, rfl, h⟩, frle_, memle_⟩
   ·refine gr_run ?_
    refine gr_done ?_
    refine go 3 ?_
    refine ret_e (fun hr_ => ?_)
    subst hr_
    exact ret_ Try.func65 []
  ·refine go 7 ?_
   refine ret_e (fun hr_ => ?_)
   subst hr_
   exact ret_ Try.func65 []
mutual
def impl_typeAt.l0 : Nat → ByteArray → S33 → Int → Option (Int)
 | 0, _, _, _ => none
 | k + 1, v1, v0, v2 => (bif decide (v2 < (v0.f0.length : Int)) then ((ix v0.f0 v2).bind fun v4 => (bif decide (v4.f0 = v1) then (some v2) else (impl_typeAt.l0 k v1 v0 (IntKind.i64.wrap (v2 + 1))))) else (some (-1)))
def impl_typeAt.f : Nat → S33 → ByteArray → Option (Int)
 | 0, _, _ => none
 | k + 1, v0, v1 => (impl_typeAt.l0 k v1 v0 0)
end
set_option maxRecDepth 100000 in
set_option maxHeartbeats 4000000 in
theorem impl_typeAt.con {K : Kn} [KOk K] {k : Nat} {v0 : S33} {v1 : ByteArray} {r : Int} (h : impl_typeAt.f k v0 v1 = some r) : Con K Try.prog 66 [.agg [.p (.lst false (List.map en96 v0.f0)), .p (.lst false (List.map en99 v0.f1)), .p (.lst false (List.map en92 v0.f2)), .p (.bool v0.f3)], .p (.str v1)] [] (.p (.int .i64 r)) [] := by
 cases k with
 | zero => exact absurd h (by simp [impl_typeAt.f])
 | succ k =>
 rw [impl_typeAt.f] at h
 refine con_intro 21 [] Try.func66 (by kernel_rfl) rfl rfl (by kernel_rfl) fun ι0 w0 hk0 => ?_
 revert h
 refine go 6 ?_
 refine fun h => good_loop (fun n st => n ≤ k ∧ ∃ (v2 : _) (g3 : Nat), st = ⟨[(1, .p (.str v1)), (8, .p (.lst false (List.map en96 v0.f0))), (9, .p (.int .i64 (v0.f0.length : Int))), (10, .p (.int .i64 v2))], [(2, (1, .gone)), (6, (g3, .gone))]⟩ ∧ impl_typeAt.l0 n v1 v0 v2 = some r) k ⟨_, ⟨Nat.le_refl _, _, 0, rfl, h⟩, frle_, memle_⟩ ?_
 clear h
 rintro n _ ⟨hkl0, v2, g3, rfl, h⟩ hl0
 cases n with
 | zero => exact absurd h (by simp [impl_typeAt.l0])
 | succ kl0 =>
 rw [impl_typeAt.l0] at h
 revert h
 refine bif_e (fun c1 => ?_) (fun c1 => ?_)
 ·refine bind_e (fun v4 e4 => ?_)
  replace e4 := nf_ (ix_en en96 e4)
  refine bif_e (fun c2 => ?_) (fun c2 => ?_)
  ·refine go 14 ?_
   refine ret_e (fun hr_ => ?_)
   subst hr_
   exact ret_ Try.func66 []
  ·refine go 15 ?_
   exact fun h => good_again hl0 (by omega) ⟨_, ⟨by omega, _, g3 + 1, rfl, h⟩, frle_, memle_⟩
 ·refine go 7 ?_
  refine ret_e (fun hr_ => ?_)
  subst hr_
  exact ret_ Try.func66 []
mutual
def slices_Index_bv.l0 : Nat → Nat → ByteArray → Int → (List ByteArray) → Option (Int)
 | 0, _, _, _, _ => none
 | k + 1, v0, v1, v3, v2 => (bif decide (v3 < (v0 : Int)) then ((inr v3 v0).bind fun v4 => ((v2[(Int.toNat v3)]?).bind fun v5 => (bif decide (v1 = v5) then (some v3) else (slices_Index_bv.l0 k v0 v1 (IntKind.i64.wrap (v3 + 1)) v2)))) else (some (-1)))
def slices_Index_bv.f : Nat → Nat → ByteArray → (List ByteArray) → Option (Int)
 | 0, _, _, _ => none
 | k + 1, v0, v1, v2 => (slices_Index_bv.l0 k v0 v1 0 v2)
end
set_option maxRecDepth 100000 in
set_option maxHeartbeats 4000000 in
theorem slices_Index_bv.con {K : Kn} [KOk K] {k : Nat} {v0 : Nat} {v1 : ByteArray} {v2 : (List ByteArray)} {r : Int} (h : slices_Index_bv.f k v0 v1 v2 = some r) : Con K Try.prog 100 [.buf 1000 0 0 v0, .p (.str v1)] [(1000, (0, .buf 1 (List.map srw v2)))] (.p (.int .i64 r)) [(1000, (0, .buf 1 (List.map srw v2)))] := by
 cases k with
 | zero => exact absurd h (by simp [slices_Index_bv.f])
 | succ k =>
 rw [slices_Index_bv.f] at h
 refine con_intro 19 [] Try.func100 (by kernel_rfl) rfl rfl (by kernel_rfl) fun ι0 w0 hk0 => ?_
 revert h
 refine go 6 ?_
 refine fun h => good_loop (fun n st => n ≤ k ∧ ∃ (v3 : _), st = ⟨[(0, .buf 1000 0 0 v0), (1, .p (.str v1)), (7, .p (.int .i64 (v0 : Int))), (8, .p (.int .i64 v3))], [(1000, (0, .buf 1 (List.map srw v2)))]⟩ ∧ slices_Index_bv.l0 n v0 v1 v3 v2 = some r) k ⟨_, ⟨Nat.le_refl _, _, rfl, h⟩, frle_, memle_⟩ ?_
 clear h
 rintro n _ ⟨hkl0, v3, rfl, h⟩ hl0
 cases n with
 | zero => exact absurd h (by simp [slices_Index_bv.l0])
 | succ kl0 =>
 rw [slices_Index_bv.l0] at h
 revert h
 refine bif_e (fun c1 => ?_) (fun c1 => ?_)
 ·refine bind_e (fun v4 e4 => ?_)
  refine bind_e (fun v5 e5 => ?_)
  replace e5 := nf_ (gx_en srw e5)
  refine bif_e (fun c2 => ?_) (fun c2 => ?_)
  ·refine go 14 ?_
   refine ret_e (fun hr_ => ?_)
   subst hr_
   exact ret_ Try.func100 [(1000, (0, 1000, 0))]
  ·refine go 15 ?_
   exact fun h => good_again hl0 (by omega) ⟨_, ⟨by omega, _, rfl, h⟩, frle_, memle_⟩
 ·refine go 7 ?_
  refine ret_e (fun hr_ => ?_)
  subst hr_
  exact ret_ Try.func100 [(1000, (0, 1000, 0))]
def slices_Contains_bv.f (k : Nat) (v0 : Nat) (v1 : ByteArray) (v2 : (List ByteArray)) : Option (Bool) := ((slices_Index_bv.f k v0 v1 v2).bind fun v3 => (some (decide (0 ≤ v3))))
set_option maxRecDepth 100000 in
set_option maxHeartbeats 4000000 in
theorem slices_Contains_bv.con {K : Kn} [KOk K] {k : Nat} {v0 : Nat} {v1 : ByteArray} {v2 : (List ByteArray)} {r : Bool} (h : slices_Contains_bv.f k v0 v1 v2 = some r) : Con K Try.prog 68 [.buf 1000 0 0 v0, .p (.str v1)] [(1000, (0, .buf 1 (List.map srw v2)))] (.p (.bool r)) [(1000, (0, .buf 1 (List.map srw v2)))] := by
 rw [slices_Contains_bv.f] at h
 refine con_intro 9 [] Try.func68 (by kernel_rfl) rfl rfl (by kernel_rfl) fun ι0 w0 hk0 => ?_
 revert h
 refine go 3 ?_
 refine grs ?_
 refine gr_run ?_
 refine bind_e (fun v3 e3 => gr_call [(1000, (0, 1000, 0))] (slices_Index_bv.con e3) ?_)
 clear e3
 refine gr_run ?_
 refine gr_done ?_
 refine ret_e (fun hr_ => ?_)
 subst hr_
 exact ret_ Try.func68 [(1000, (0, 1000, 0))]
mutual
def impl_insert_bv_O.j1 : Nat → (List ByteArray) → ByteArray → Int → Option ((List ByteArray))
 | 0, _, _, _ => none
 | k + 1, v1, v0, v2 => ((mks (⟨#[]⟩ : ByteArray) 0 (IntKind.i64.wrap ((v1.length : Int) + 1))).bind fun v7 => ((lsub v1 0 v2).bind fun v8 => ((app v7 v8).bind fun v9 => ((app v9 ([v0] : List ByteArray)).bind fun v10 => ((lsub v1 v2 (v1.length : Int)).bind fun v11 => ((app v10 v11).bind fun v12 => (some v12)))))))
def impl_insert_bv_O.j0 : Nat → (List ByteArray) → ByteArray → Int → Option ((List ByteArray))
 | 0, _, _, _ => none
 | k + 1, v1, v0, v2 => (bif decide (v2 < (v1.length : Int)) then ((inr v2 v1.length).bind fun v5 => ((v1[(Int.toNat v2)]?).bind fun v6 => (bif decide (v6 = v0) then (some v1) else (impl_insert_bv_O.j1 k v1 v0 v2)))) else (impl_insert_bv_O.j1 k v1 v0 v2))
def impl_insert_bv_O.l0 : Nat → (List ByteArray) → ByteArray → Int → Option ((List ByteArray))
 | 0, _, _, _ => none
 | k + 1, v1, v0, v2 => (bif decide (v2 < (v1.length : Int)) then ((inr v2 v1.length).bind fun v3 => ((v1[(Int.toNat v2)]?).bind fun v4 => (bif slt v4 v0 then (impl_insert_bv_O.l0 k v1 v0 (IntKind.i64.wrap (v2 + 1))) else (impl_insert_bv_O.j0 k v1 v0 v2)))) else (impl_insert_bv_O.j0 k v1 v0 v2))
def impl_insert_bv_O.f : Nat → ByteArray → (List ByteArray) → Option ((List ByteArray))
 | 0, _, _ => none
 | k + 1, v0, v1 => (impl_insert_bv_O.l0 k v1 v0 0)
end
set_option maxRecDepth 100000 in
set_option maxHeartbeats 4000000 in
theorem impl_insert_bv_O.con {K : Kn} [KOk K] {k : Nat} {v0 : ByteArray} {v1 : (List ByteArray)} {r : (List ByteArray)} (h : impl_insert_bv_O.f k v0 v1 = some r) : Con K Try.prog 67 [.buf 1000 0 0 v1.length, .p (.str v0)] [(1000, (0, .buf 1 (List.map srw v1)))] (.buf 2000 1 0 r.length) [(2000, (1, .buf 1 (List.map srw r))), (1000, (0, .gone))] := by
 cases k with
 | zero => exact absurd h (by simp [impl_insert_bv_O.f])
 | succ k =>
 rw [impl_insert_bv_O.f] at h
 refine con_intro 52 [42, 46, 51] Try.func67 (by kernel_rfl) rfl rfl (by kernel_rfl) fun ι0 w0 hk0 => ?_
 revert h
 refine go 6 ?_
 refine fun h => good_loop (fun n st => n ≤ k ∧ ∃ (v2 : _), st = ⟨[(0, .buf 1000 0 0 v1.length), (1, .p (.str v0)), (5, .p (.int .i64 v2))], [(1000, (0, .buf 1 (List.map srw v1)))]⟩ ∧ impl_insert_bv_O.l0 n v1 v0 v2 = some r) k ⟨_, ⟨Nat.le_refl _, _, rfl, h⟩, frle_, memle_⟩ ?_
 clear h
 rintro n _ ⟨hkl0, v2, rfl, h⟩ hl0
 cases n with
 | zero => exact absurd h (by simp [impl_insert_bv_O.l0])
 | succ kl0 =>
 rw [impl_insert_bv_O.l0] at h
 revert h
 refine go 2 ?_
 refine good_cut_f (fun st => ∃ (q_ : Nat), q_ ≤ kl0 ∧ st = ⟨[(0, .buf 1000 0 0 v1.length), (1, .p (.str v0)), (5, .p (.int .i64 v2))], [(1000, (0, .buf 1 (List.map srw v1)))]⟩ ∧ impl_insert_bv_O.j0 q_ v1 v0 v2 = some r) ?_ (fun hj0 => ?_)
 ·skip
  rintro _ ⟨q_, hqj0, rfl, h⟩
  cases q_ with
  | zero => exact absurd h (by simp [impl_insert_bv_O.j0])
  | succ kj0 =>
  rw [impl_insert_bv_O.j0] at h
  revert h
  refine go 3 ?_
  refine good_cut_f (fun st => ∃ (q_ : Nat), q_ ≤ kj0 ∧ st = ⟨[(0, .buf 1000 0 0 v1.length), (1, .p (.str v0)), (5, .p (.int .i64 v2))], [(1000, (0, .buf 1 (List.map srw v1)))]⟩ ∧ impl_insert_bv_O.j1 q_ v1 v0 v2 = some r) ?_ (fun hj1 => ?_)
  ·skip
   rintro _ ⟨q_, hqj1, rfl, h⟩
   cases q_ with
   | zero => exact absurd h (by simp [impl_insert_bv_O.j1])
   | succ kj1 =>
   rw [impl_insert_bv_O.j1] at h
   revert h
   refine go 2 ?_
   refine freeze_ 0 ?_
   refine bind_e (fun v7 e7 => ?_)
   replace e7 := nf_ (mks_en srw e7)
   refine bind_e (fun v8 e8 => ?_)
   replace e8 := nf_ (lsub_en srw e8)
   refine bind_e (fun v9 e9 => ?_)
   replace e9 := nf_ (app_en srw e9)
   refine bind_e (fun v10 e10 => ?_)
   replace e10 := nf_ (app_en srw e10)
   refine bind_e (fun v11 e11 => ?_)
   replace e11 := nf_ (lsub_en srw e11)
   refine bind_e (fun v12 e12 => ?_)
   replace e12 := nf_ (app_en srw e12)
   refine go 7 ?_
   refine ret_e (fun hr_ => ?_)
   subst hr_
   exact ret_ Try.func67 [(2000, (1, 37, 4)), (1000, (0, 1000, 0))]
  ·refine bif_e (fun c1 => ?_) (fun c1 => ?_)
   ·refine bind_e (fun v5 e5 => ?_)
    refine bind_e (fun v6 e6 => ?_)
    replace e6 := nf_ (gx_en srw e6)
    refine bif_e (fun c2 => ?_) (fun c2 => ?_)
    ·refine go 4 ?_
     refine moveB_ 4 2504 1000 ?_
     refine ret_e (fun hr_ => ?_)
     subst hr_
     exact ret_ Try.func67 [(2000, (1, 2504, 1)), (1000, (0, 1000, 0))]
    ·refine go 2 ?_
     exact fun h => good_jump hj1 ⟨_, ⟨_, by omega, rfl, h⟩, frle_, memle_⟩
   ·refine go 2 ?_
    exact fun h => good_jump hj1 ⟨_, ⟨_, by omega, rfl, h⟩, frle_, memle_⟩
 ·refine bif_e (fun c3 => ?_) (fun c3 => ?_)
  ·refine bind_e (fun v3 e3 => ?_)
   refine bind_e (fun v4 e4 => ?_)
   replace e4 := nf_ (gx_en srw e4)
   refine bif_e (fun c4 => ?_) (fun c4 => ?_)
   ·refine go 6 ?_
    exact fun h => good_again hl0 (by omega) ⟨_, ⟨by omega, _, rfl, h⟩, frle_, memle_⟩
   ·refine go 2 ?_
    exact fun h => good_jump hj0 ⟨_, ⟨_, by omega, rfl, h⟩, frle_, memle_⟩
  ·refine go 2 ?_
   exact fun h => good_jump hj0 ⟨_, ⟨_, by omega, rfl, h⟩, frle_, memle_⟩
mutual
def impl_line_1.l0 : Nat → S96 → Int → (List S96) → (List S99) → (List S92) → Bool → (List ByteArray) → Option (S33 × (List ByteArray))
 | 0, _, _, _, _, _, _, _ => none
 | k + 1, v6, v7, v8, v9, v10, v11, v13 => (bif decide (v7 < (v6.f1.length : Int)) then ((ix v6.f1 v7).bind fun v15 => ((impl_line_1.f k v15 (⟨v8, v9, v10, v11⟩ : S33) v13).bind fun v16 => (impl_line_1.l0 k v6 (IntKind.i64.wrap (v7 + 1)) v16.1.f0 v16.1.f1 v16.1.f2 v16.1.f3 v16.2))) else (some ((⟨v8, v9, v10, v11⟩ : S33), v13)))
def impl_line_1.f : Nat → ByteArray → S33 → (List ByteArray) → Option (S33 × (List ByteArray))
 | 0, _, _, _ => none
 | k + 1, v0, v1, v2 => ((impl_typeAt.f k v1 v0).bind fun v3 => (bif decide (v3 < 0) then (some (v1, v2)) else ((slices_Contains_bv.f k v2.length v0 v2).bind fun v4 => (bif v4 then (some (v1, v2)) else ((impl_insert_bv_O.f k v0 v2).bind fun v5 => ((ix v1.f0 v3).bind fun v6 => (impl_line_1.l0 k v6 0 v1.f0 v1.f1 v1.f2 v1.f3 v5)))))))
end
def impl_line_1.C (K : Kn) (k : Nat) : Prop := ∀ (v0 : ByteArray) (v1 : S33) (v2 : (List ByteArray)) (r : S33 × (List ByteArray)), impl_line_1.f k v0 v1 v2 = some r → Con K Try.prog 72 [.p (.str v0), .ptr 1000 0 0, .ptr 1001 0 0, .ptr 1002 0 0] [(1000, (0, .cells [.p (.lst false (List.map en96 v1.f0)), .p (.lst false (List.map en99 v1.f1)), .p (.lst false (List.map en92 v1.f2)), .p (.bool v1.f3)])), (1001, (0, .cells [.buf 1501 0 0 v2.length])), (1501, (0, .buf 1 (List.map srw v2))), (1002, (0, .cells [.clo 72 [] [.ptr 1000 0 0, .ptr 1001 0 0, .ptr 1002 0 0]]))] (.tup []) [(1000, (0, .cells [.p (.lst false (List.map en96 r.1.f0)), .p (.lst false (List.map en99 r.1.f1)), .p (.lst false (List.map en92 r.1.f2)), .p (.bool r.1.f3)])), (1001, (0, .cells [.buf 1701 1 0 r.2.length])), (1501, (0, .gone)), (1701, (1, .buf 1 (List.map srw r.2))), (1002, (0, .cells [.clo 72 [] [.ptr 1000 0 0, .ptr 1001 0 0, .ptr 1002 0 0]]))]
set_option maxRecDepth 100000 in
set_option maxHeartbeats 4000000 in
theorem impl_line_1.con1 {K : Kn} [KOk K] (k : Nat) (impl_line_1_ih : ∀ m, m < k → impl_line_1.C K m) : impl_line_1.C K k := by
 intro v0 v1 v2 r h
 cases k with
 | zero => exact absurd h (by simp [impl_line_1.f])
 | succ k =>
 rw [impl_line_1.f] at h
 refine con_intro 36 [] Try.func72 (by kernel_rfl) rfl rfl (by kernel_rfl) fun ι0 w0 hk0 => ?_
 revert h
 refine go 1 ?_
 refine grs ?_
 refine gr_run ?_
 refine bind_e (fun v3 e3 => gr_call [] (impl_typeAt.con e3) ?_)
 clear e3
 refine gr_run ?_
 refine gr_done ?_
 refine bif_e (fun c1 => ?_) (fun c1 => ?_)
 ·refine go 4 ?_
  refine moveBc_ 1001 0 8001 1501 ?_
  refine ret_e (fun hr_ => ?_)
  subst hr_
  exact ret_ Try.func72 [(1000, (0, 1000, 0)), (1001, (0, 1001, 0)), (1501, (0, 1501, 0)), (1701, (1, 8001, 1)), (1002, (0, 1002, 0))]
 ·refine go 2 ?_
  refine grs ?_
  refine gr_run ?_
  refine bind_e (fun v4 e4 => gr_call [(1000, (0, 1501, 0))] (slices_Contains_bv.con e4) ?_)
  clear e4
  refine gr_run ?_
  refine gr_done ?_
  refine bif_e (fun c2 => ?_) (fun c2 => ?_)
  ·refine go 1 ?_
   refine moveBc_ 1001 0 8001 1501 ?_
   refine ret_e (fun hr_ => ?_)
   subst hr_
   exact ret_ Try.func72 [(1000, (0, 1000, 0)), (1001, (0, 1001, 0)), (1501, (0, 1501, 0)), (1701, (1, 8001, 1)), (1002, (0, 1002, 0))]
  ·refine go 3 ?_
   refine grs ?_
   refine gr_run ?_
   refine bind_e (fun v5 e5 => gr_call [(2000, (1, 20, 1)), (1000, (0, 1501, 0))] (impl_insert_bv_O.con e5) ?_)
   clear e5
   refine gr_run ?_
   refine gr_done ?_
   refine moveBc_ 1001 0 8001 20 ?_
   refine bind_e (fun v6 e6 => ?_)
   replace e6 := nf_ (ix_en en96 e6)
   refine go 3 ?_
   refine fun h => good_loop (fun n st => n ≤ k ∧ ∃ (v7 : _) (v8 : _) (v9 : _) (v10 : _) (v11 : _) (v13 : _) (g12 : Nat) (g14 : Nat), st = ⟨[(3, .ptr 1002 0 0), (26, .p (.lst false (List.map srw v6.f1))), (27, .p (.int .i64 (v6.f1.length : Int))), (28, .p (.int .i64 v7))], [(1000, (0, .cells [.p (.lst false (List.map en96 v8)), .p (.lst false (List.map en99 v9)), .p (.lst false (List.map en92 v10)), .p (.bool v11)])), (1001, (0, .cells [.buf 8001 g12 0 v13.length])), (1501, (0, .gone)), (1002, (0, .cells [.clo 72 [] [.ptr 1000 0 0, .ptr 1001 0 0, .ptr 1002 0 0]])), (20, (1, .gone)), (8001, (g12, .buf 1 (List.map srw v13))), (12401, (g14, .gone))]⟩ ∧ impl_line_1.l0 n v6 v7 v8 v9 v10 v11 v13 = some r) k ⟨_, ⟨Nat.le_refl _, _, _, _, _, _, _, 1, 0, rfl, h⟩, frle_, memle_⟩ ?_
   clear c1 c2 e6
   clear h
   rintro n _ ⟨hkl0, v7, v8, v9, v10, v11, v13, g12, g14, rfl, h⟩ hl0
   cases n with
   | zero => exact absurd h (by simp [impl_line_1.l0])
   | succ kl0 =>
   rw [impl_line_1.l0] at h
   revert h
   refine bif_e (fun c3 => ?_) (fun c3 => ?_)
   ·refine bind_e (fun v15 e15 => ?_)
    replace e15 := nf_ (ix_en srw e15)
    refine go 9 ?_
    refine grs ?_
    refine gr_run ?_
    refine bind_e (fun v16 e16 => gr_call [(1501, (0, 8001, g12)), (1701, (1, 12401, g14 + 1)), (1000, (0, 1000, 0)), (1001, (0, 1001, 0)), (1002, (0, 1002, 0))] (impl_line_1_ih _ (by omega) _ _ _ _ e16) ?_)
    clear e16
    refine gr_done ?_
    refine moveBc_ 1001 0 8001 12401 ?_
    refine go 2 ?_
    exact fun h => good_again hl0 (by omega) ⟨_, ⟨by omega, _, _, _, _, _, _, g12 + 1, g14 + 1, rfl, h⟩, frle_, memle_⟩
   ·refine go 5 ?_
    refine ret_e (fun hr_ => ?_)
    subst hr_
    exact end_ Try.func72 [(1000, (0, 1000, 0)), (1001, (0, 1001, 0)), (1501, (0, 1501, 0)), (1701, (1, 8001, g12)), (1002, (0, 1002, 0))]
theorem impl_line_1.all {K : Kn} [KOk K] (k : Nat) : impl_line_1.C K k := by
 induction k using Nat.strongRecOn with
 | _ k ih => exact impl_line_1.con1 k ih
theorem impl_line_1.con {K : Kn} [KOk K] {k : Nat} {v0 : ByteArray} {v1 : S33} {v2 : (List ByteArray)} {r : S33 × (List ByteArray)} (h : impl_line_1.f k v0 v1 v2 = some r) : Con K Try.prog 72 [.p (.str v0), .ptr 1000 0 0, .ptr 1001 0 0, .ptr 1002 0 0] [(1000, (0, .cells [.p (.lst false (List.map en96 v1.f0)), .p (.lst false (List.map en99 v1.f1)), .p (.lst false (List.map en92 v1.f2)), .p (.bool v1.f3)])), (1001, (0, .cells [.buf 1501 0 0 v2.length])), (1501, (0, .buf 1 (List.map srw v2))), (1002, (0, .cells [.clo 72 [] [.ptr 1000 0 0, .ptr 1001 0 0, .ptr 1002 0 0]]))] (.tup []) [(1000, (0, .cells [.p (.lst false (List.map en96 r.1.f0)), .p (.lst false (List.map en99 r.1.f1)), .p (.lst false (List.map en92 r.1.f2)), .p (.bool r.1.f3)])), (1001, (0, .cells [.buf 1701 1 0 r.2.length])), (1501, (0, .gone)), (1701, (1, .buf 1 (List.map srw r.2))), (1002, (0, .cells [.clo 72 [] [.ptr 1000 0 0, .ptr 1001 0 0, .ptr 1002 0 0]]))] := (impl_line_1.all k) _ _ _ r h
def impl_line.f (k : Nat) (v0 : S33) (v1 : ByteArray) : Option ((List ByteArray)) := ((impl_line_1.f k v1 v0 ([] : List ByteArray)).bind fun v2 => (some v2.2))
set_option maxRecDepth 100000 in
set_option maxHeartbeats 4000000 in
theorem impl_line.con {K : Kn} [KOk K] {k : Nat} {v0 : S33} {v1 : ByteArray} {r : (List ByteArray)} (h : impl_line.f k v0 v1 = some r) : Con K Try.prog 29 [.agg [.p (.lst false (List.map en96 v0.f0)), .p (.lst false (List.map en99 v0.f1)), .p (.lst false (List.map en92 v0.f2)), .p (.bool v0.f3)], .p (.str v1)] [] (.p (.lst false (List.map srw r))) [] := by
 rw [impl_line.f] at h
 refine con_intro 12 [] Try.func29 (by kernel_rfl) rfl rfl (by kernel_rfl) fun ι0 w0 hk0 => ?_
 revert h
 refine go 4 ?_
 refine adoptBc_ 5 0 7005 1 ?_
 refine go 5 ?_
 refine grs ?_
 refine gr_run ?_
 refine bind_e (fun v2 e2 => gr_call [(1501, (0, 7005, 1)), (1701, (1, 10001, 1)), (1000, (0, 2, 1)), (1001, (0, 5, 1)), (1002, (0, 6, 1))] (impl_line_1.con e2) ?_)
 clear e2
 refine gr_done ?_
 refine moveBc_ 5 0 7005 10001 ?_
 refine go 2 ?_
 refine freeze_ 4 ?_
 refine ret_e (fun hr_ => ?_)
 subst hr_
 exact ret_ Try.func29 []
mutual
def impl_insert.j1 : Nat → (List ByteArray) → ByteArray → Int → Option ((List ByteArray))
 | 0, _, _, _ => none
 | k + 1, v0, v1, v2 => ((mks (⟨#[]⟩ : ByteArray) 0 (IntKind.i64.wrap ((v0.length : Int) + 1))).bind fun v5 => ((lsub v0 0 v2).bind fun v6 => ((app v5 v6).bind fun v7 => ((app v7 ([v1] : List ByteArray)).bind fun v8 => ((lsub v0 v2 (v0.length : Int)).bind fun v9 => ((app v8 v9).bind fun v10 => (some v10)))))))
def impl_insert.j0 : Nat → (List ByteArray) → ByteArray → Int → Option ((List ByteArray))
 | 0, _, _, _ => none
 | k + 1, v0, v1, v2 => (bif decide (v2 < (v0.length : Int)) then ((ix v0 v2).bind fun v4 => (bif decide (v4 = v1) then (some v0) else (impl_insert.j1 k v0 v1 v2))) else (impl_insert.j1 k v0 v1 v2))
def impl_insert.l0 : Nat → (List ByteArray) → ByteArray → Int → Option ((List ByteArray))
 | 0, _, _, _ => none
 | k + 1, v0, v1, v2 => (bif decide (v2 < (v0.length : Int)) then ((ix v0 v2).bind fun v3 => (bif slt v3 v1 then (impl_insert.l0 k v0 v1 (IntKind.i64.wrap (v2 + 1))) else (impl_insert.j0 k v0 v1 v2))) else (impl_insert.j0 k v0 v1 v2))
def impl_insert.f : Nat → (List ByteArray) → ByteArray → Option ((List ByteArray))
 | 0, _, _ => none
 | k + 1, v0, v1 => (impl_insert.l0 k v0 v1 0)
end
set_option maxRecDepth 100000 in
set_option maxHeartbeats 4000000 in
theorem impl_insert.con {K : Kn} [KOk K] {k : Nat} {v0 : (List ByteArray)} {v1 : ByteArray} {r : (List ByteArray)} (h : impl_insert.f k v0 v1 = some r) : Con K Try.prog 67 [.p (.lst false (List.map srw v0)), .p (.str v1)] [] (.p (.lst false (List.map srw r))) [] := by
 cases k with
 | zero => exact absurd h (by simp [impl_insert.f])
 | succ k =>
 rw [impl_insert.f] at h
 refine con_intro 52 [42, 46, 51] Try.func67 (by kernel_rfl) rfl rfl (by kernel_rfl) fun ι0 w0 hk0 => ?_
 revert h
 refine go 6 ?_
 refine fun h => good_loop (fun n st => n ≤ k ∧ ∃ (v2 : _), st = ⟨[(0, .p (.lst false (List.map srw v0))), (1, .p (.str v1)), (5, .p (.int .i64 v2))], []⟩ ∧ impl_insert.l0 n v0 v1 v2 = some r) k ⟨_, ⟨Nat.le_refl _, _, rfl, h⟩, frle_, memle_⟩ ?_
 clear h
 rintro n _ ⟨hkl0, v2, rfl, h⟩ hl0
 cases n with
 | zero => exact absurd h (by simp [impl_insert.l0])
 | succ kl0 =>
 rw [impl_insert.l0] at h
 revert h
 refine go 2 ?_
 refine good_cut_f (fun st => ∃ (q_ : Nat), q_ ≤ kl0 ∧ st = ⟨[(0, .p (.lst false (List.map srw v0))), (1, .p (.str v1)), (5, .p (.int .i64 v2))], []⟩ ∧ impl_insert.j0 q_ v0 v1 v2 = some r) ?_ (fun hj0 => ?_)
 ·skip
  rintro _ ⟨q_, hqj0, rfl, h⟩
  cases q_ with
  | zero => exact absurd h (by simp [impl_insert.j0])
  | succ kj0 =>
  rw [impl_insert.j0] at h
  revert h
  refine go 3 ?_
  refine good_cut_f (fun st => ∃ (q_ : Nat), q_ ≤ kj0 ∧ st = ⟨[(0, .p (.lst false (List.map srw v0))), (1, .p (.str v1)), (5, .p (.int .i64 v2))], []⟩ ∧ impl_insert.j1 q_ v0 v1 v2 = some r) ?_ (fun hj1 => ?_)
  ·skip
   rintro _ ⟨q_, hqj1, rfl, h⟩
   cases q_ with
   | zero => exact absurd h (by simp [impl_insert.j1])
   | succ kj1 =>
   rw [impl_insert.j1] at h
   revert h
   refine bind_e (fun v5 e5 => ?_)
   replace e5 := nf_ (mks_en srw e5)
   refine bind_e (fun v6 e6 => ?_)
   replace e6 := nf_ (lsub_en srw e6)
   refine bind_e (fun v7 e7 => ?_)
   replace e7 := nf_ (app_en srw e7)
   refine bind_e (fun v8 e8 => ?_)
   replace e8 := nf_ (app_en srw e8)
   refine bind_e (fun v9 e9 => ?_)
   replace e9 := nf_ (lsub_en srw e9)
   refine bind_e (fun v10 e10 => ?_)
   replace e10 := nf_ (app_en srw e10)
   refine go 9 ?_
   refine freeze_ 4 ?_
   refine ret_e (fun hr_ => ?_)
   subst hr_
   exact ret_ Try.func67 []
  ·refine bif_e (fun c1 => ?_) (fun c1 => ?_)
   ·refine bind_e (fun v4 e4 => ?_)
    replace e4 := nf_ (ix_en srw e4)
    refine bif_e (fun c2 => ?_) (fun c2 => ?_)
    ·refine go 4 ?_
     refine ret_e (fun hr_ => ?_)
     subst hr_
     exact ret_ Try.func67 []
    ·refine go 2 ?_
     exact fun h => good_jump hj1 ⟨_, ⟨_, by omega, rfl, h⟩, frle_, memle_⟩
   ·refine go 2 ?_
    exact fun h => good_jump hj1 ⟨_, ⟨_, by omega, rfl, h⟩, frle_, memle_⟩
 ·refine bif_e (fun c3 => ?_) (fun c3 => ?_)
  ·refine bind_e (fun v3 e3 => ?_)
   replace e3 := nf_ (ix_en srw e3)
   refine bif_e (fun c4 => ?_) (fun c4 => ?_)
   ·refine go 6 ?_
    exact fun h => good_again hl0 (by omega) ⟨_, ⟨by omega, _, rfl, h⟩, frle_, memle_⟩
   ·refine go 2 ?_
    exact fun h => good_jump hj0 ⟨_, ⟨_, by omega, rfl, h⟩, frle_, memle_⟩
  ·refine go 2 ?_
   exact fun h => good_jump hj0 ⟨_, ⟨_, by omega, rfl, h⟩, frle_, memle_⟩
mutual
def slices_Index.l0 : Nat → (List ByteArray) → ByteArray → Int → Option (Int)
 | 0, _, _, _ => none
 | k + 1, v0, v1, v2 => (bif decide (v2 < (v0.length : Int)) then ((ix v0 v2).bind fun v3 => (bif decide (v1 = v3) then (some v2) else (slices_Index.l0 k v0 v1 (IntKind.i64.wrap (v2 + 1))))) else (some (-1)))
def slices_Index.f : Nat → (List ByteArray) → ByteArray → Option (Int)
 | 0, _, _ => none
 | k + 1, v0, v1 => (slices_Index.l0 k v0 v1 0)
end
set_option maxRecDepth 100000 in
set_option maxHeartbeats 4000000 in
theorem slices_Index.con {K : Kn} [KOk K] {k : Nat} {v0 : (List ByteArray)} {v1 : ByteArray} {r : Int} (h : slices_Index.f k v0 v1 = some r) : Con K Try.prog 100 [.p (.lst false (List.map srw v0)), .p (.str v1)] [] (.p (.int .i64 r)) [] := by
 cases k with
 | zero => exact absurd h (by simp [slices_Index.f])
 | succ k =>
 rw [slices_Index.f] at h
 refine con_intro 19 [] Try.func100 (by kernel_rfl) rfl rfl (by kernel_rfl) fun ι0 w0 hk0 => ?_
 revert h
 refine go 6 ?_
 refine fun h => good_loop (fun n st => n ≤ k ∧ ∃ (v2 : _), st = ⟨[(0, .p (.lst false (List.map srw v0))), (1, .p (.str v1)), (7, .p (.int .i64 (v0.length : Int))), (8, .p (.int .i64 v2))], []⟩ ∧ slices_Index.l0 n v0 v1 v2 = some r) k ⟨_, ⟨Nat.le_refl _, _, rfl, h⟩, frle_, memle_⟩ ?_
 clear h
 rintro n _ ⟨hkl0, v2, rfl, h⟩ hl0
 cases n with
 | zero => exact absurd h (by simp [slices_Index.l0])
 | succ kl0 =>
 rw [slices_Index.l0] at h
 revert h
 refine bif_e (fun c1 => ?_) (fun c1 => ?_)
 ·refine bind_e (fun v3 e3 => ?_)
  replace e3 := nf_ (ix_en srw e3)
  refine bif_e (fun c2 => ?_) (fun c2 => ?_)
  ·refine go 14 ?_
   refine ret_e (fun hr_ => ?_)
   subst hr_
   exact ret_ Try.func100 []
  ·refine go 15 ?_
   exact fun h => good_again hl0 (by omega) ⟨_, ⟨by omega, _, rfl, h⟩, frle_, memle_⟩
 ·refine go 7 ?_
  refine ret_e (fun hr_ => ?_)
  subst hr_
  exact ret_ Try.func100 []
def slices_Contains.f (k : Nat) (v0 : (List ByteArray)) (v1 : ByteArray) : Option (Bool) := ((slices_Index.f k v0 v1).bind fun v2 => (some (decide (0 ≤ v2))))
set_option maxRecDepth 100000 in
set_option maxHeartbeats 4000000 in
theorem slices_Contains.con {K : Kn} [KOk K] {k : Nat} {v0 : (List ByteArray)} {v1 : ByteArray} {r : Bool} (h : slices_Contains.f k v0 v1 = some r) : Con K Try.prog 68 [.p (.lst false (List.map srw v0)), .p (.str v1)] [] (.p (.bool r)) [] := by
 rw [slices_Contains.f] at h
 refine con_intro 9 [] Try.func68 (by kernel_rfl) rfl rfl (by kernel_rfl) fun ι0 w0 hk0 => ?_
 revert h
 refine go 3 ?_
 refine grs ?_
 refine gr_run ?_
 refine bind_e (fun v2 e2 => gr_call [] (slices_Index.con e2) ?_)
 clear e2
 refine gr_run ?_
 refine gr_done ?_
 refine ret_e (fun hr_ => ?_)
 subst hr_
 exact ret_ Try.func68 []
mutual
def impl_ruleOf.l0 : Nat → ByteArray → (List S113) → Int → Option (Int)
 | 0, _, _, _ => none
 | k + 1, v1, v0, v2 => (bif decide (v2 < (v0.length : Int)) then ((ix v0 v2).bind fun v4 => (bif decide (v4.f0 = v1) then (some v2) else (impl_ruleOf.l0 k v1 v0 (IntKind.i64.wrap (v2 + 1))))) else (some (-1)))
def impl_ruleOf.f : Nat → (List S113) → ByteArray → Option (Int)
 | 0, _, _ => none
 | k + 1, v0, v1 => (impl_ruleOf.l0 k v1 v0 0)
end
set_option maxRecDepth 100000 in
set_option maxHeartbeats 4000000 in
theorem impl_ruleOf.con {K : Kn} [KOk K] {k : Nat} {v0 : (List S113)} {v1 : ByteArray} {r : Int} (h : impl_ruleOf.f k v0 v1 = some r) : Con K Try.prog 69 [.p (.lst false (List.map en113 v0)), .p (.str v1)] [] (.p (.int .i64 r)) [] := by
 cases k with
 | zero => exact absurd h (by simp [impl_ruleOf.f])
 | succ k =>
 rw [impl_ruleOf.f] at h
 refine con_intro 20 [] Try.func69 (by kernel_rfl) rfl rfl (by kernel_rfl) fun ι0 w0 hk0 => ?_
 revert h
 refine go 6 ?_
 refine fun h => good_loop (fun n st => n ≤ k ∧ ∃ (v2 : _) (g3 : Nat), st = ⟨[(1, .p (.str v1)), (7, .p (.lst false (List.map en113 v0))), (8, .p (.int .i64 (v0.length : Int))), (9, .p (.int .i64 v2))], [(6, (g3, .gone))]⟩ ∧ impl_ruleOf.l0 n v1 v0 v2 = some r) k ⟨_, ⟨Nat.le_refl _, _, 0, rfl, h⟩, frle_, memle_⟩ ?_
 clear h
 rintro n _ ⟨hkl0, v2, g3, rfl, h⟩ hl0
 cases n with
 | zero => exact absurd h (by simp [impl_ruleOf.l0])
 | succ kl0 =>
 rw [impl_ruleOf.l0] at h
 revert h
 refine bif_e (fun c1 => ?_) (fun c1 => ?_)
 ·refine bind_e (fun v4 e4 => ?_)
  replace e4 := nf_ (ix_en en113 e4)
  refine bif_e (fun c2 => ?_) (fun c2 => ?_)
  ·refine go 14 ?_
   refine ret_e (fun hr_ => ?_)
   subst hr_
   exact ret_ Try.func69 []
  ·refine go 15 ?_
   exact fun h => good_again hl0 (by omega) ⟨_, ⟨by omega, _, g3 + 1, rfl, h⟩, frle_, memle_⟩
 ·refine go 7 ?_
  refine ret_e (fun hr_ => ?_)
  subst hr_
  exact ret_ Try.func69 []
def impl_countOk.f (k : Nat) (v0 : Int) : Option (Bool) := (bif decide (0 ≤ v0) then (some (decide (v0 ≤ 400))) else (some false))
set_option maxRecDepth 100000 in
set_option maxHeartbeats 4000000 in
theorem impl_countOk.con {K : Kn} [KOk K] {k : Nat} {v0 : Int} {r : Bool} (h : impl_countOk.f k v0 = some r) : Con K Try.prog 70 [.p (.int .i64 v0)] [] (.p (.bool r)) [] := by
 rw [impl_countOk.f] at h
 refine con_intro 9 [] Try.func70 (by kernel_rfl) rfl rfl (by kernel_rfl) fun ι0 w0 hk0 => ?_
 revert h
 refine bif_e (fun c1 => ?_) (fun c1 => ?_)
 ·refine go 4 ?_
  refine ret_e (fun hr_ => ?_)
  subst hr_
  exact ret_ Try.func70 []
 ·refine go 4 ?_
  refine ret_e (fun hr_ => ?_)
  subst hr_
  exact ret_ Try.func70 []
def cmp_isNaN.f (k : Nat) (v0 : ByteArray) : Option (Bool) := (some (!decide (v0 = v0)))
set_option maxRecDepth 100000 in
set_option maxHeartbeats 4000000 in
theorem cmp_isNaN.con {K : Kn} [KOk K] {k : Nat} {v0 : ByteArray} {r : Bool} (h : cmp_isNaN.f k v0 = some r) : Con K Try.prog 110 [.p (.str v0)] [] (.p (.bool r)) [] := by
 rw [cmp_isNaN.f] at h
 refine con_intro 6 [] Try.func110 (by kernel_rfl) rfl rfl (by kernel_rfl) fun ι0 w0 hk0 => ?_
 revert h
 refine go 4 ?_
 refine ret_e (fun hr_ => ?_)
 subst hr_
 exact ret_ Try.func110 []
def cmp_Compare.f (k : Nat) (v0 : ByteArray) (v1 : ByteArray) : Option (Int) := ((cmp_isNaN.f k v0).bind fun v2 => ((cmp_isNaN.f k v1).bind fun v3 => (bif v2 then (bif v3 then (some 0) else (some (-1))) else (bif v3 then (some 1) else (bif slt v0 v1 then (some (-1)) else (bif slt v1 v0 then (some 1) else (some 0)))))))
set_option maxRecDepth 100000 in
set_option maxHeartbeats 4000000 in
theorem cmp_Compare.con {K : Kn} [KOk K] {k : Nat} {v0 : ByteArray} {v1 : ByteArray} {r : Int} (h : cmp_Compare.f k v0 v1 = some r) : Con K Try.prog 101 [.p (.str v0), .p (.str v1)] [] (.p (.int .i64 r)) [] := by
 rw [cmp_Compare.f] at h
 refine con_intro 20 [] Try.func101 (by kernel_rfl) rfl rfl (by kernel_rfl) fun ι0 w0 hk0 => ?_
 revert h
 refine go 3 ?_
 refine grs ?_
 refine gr_run ?_
 refine bind_e (fun v2 e2 => gr_call [] (cmp_isNaN.con e2) ?_)
 clear e2
 refine gr_run ?_
 refine gr_done ?_
 refine go 1 ?_
 refine grs ?_
 refine gr_run ?_
 refine bind_e (fun v3 e3 => gr_call [] (cmp_isNaN.con e3) ?_)
 clear e3
 refine gr_run ?_
 refine gr_done ?_
 refine bif_e (fun c1 => ?_) (fun c1 => ?_)
 ·refine bif_e (fun c2 => ?_) (fun c2 => ?_)
  ·refine go 10 ?_
   refine ret_e (fun hr_ => ?_)
   subst hr_
   exact ret_ Try.func101 []
  ·refine go 11 ?_
   refine ret_e (fun hr_ => ?_)
   subst hr_
   exact ret_ Try.func101 []
 ·refine bif_e (fun c3 => ?_) (fun c3 => ?_)
  ·refine go 11 ?_
   refine ret_e (fun hr_ => ?_)
   subst hr_
   exact ret_ Try.func101 []
  ·refine bif_e (fun c4 => ?_) (fun c4 => ?_)
   ·refine go 16 ?_
    refine ret_e (fun hr_ => ?_)
    subst hr_
    exact ret_ Try.func101 []
   ·refine bif_e (fun c5 => ?_) (fun c5 => ?_)
    ·refine go 21 ?_
     refine ret_e (fun hr_ => ?_)
     subst hr_
     exact ret_ Try.func101 []
    ·refine go 22 ?_
     refine ret_e (fun hr_ => ?_)
     subst hr_
     exact ret_ Try.func101 []
mutual
def slices_Compare.l0 : Nat → (List ByteArray) → (List ByteArray) → Int → Option (Int)
 | 0, _, _, _ => none
 | k + 1, v0, v1, v2 => (bif decide (v2 < (v0.length : Int)) then ((ix v0 v2).bind fun v3 => (bif decide ((v1.length : Int) ≤ v2) then (some 1) else ((ix v1 v2).bind fun v4 => ((cmp_Compare.f k v3 v4).bind fun v5 => (bif (v5 == 0) then (slices_Compare.l0 k v0 v1 (IntKind.i64.wrap (v2 + 1))) else (some v5)))))) else (bif decide ((v0.length : Int) < (v1.length : Int)) then (some (-1)) else (some 0)))
def slices_Compare.f : Nat → (List ByteArray) → (List ByteArray) → Option (Int)
 | 0, _, _ => none
 | k + 1, v0, v1 => (slices_Compare.l0 k v0 v1 0)
end
set_option maxRecDepth 100000 in
set_option maxHeartbeats 4000000 in
theorem slices_Compare.con {K : Kn} [KOk K] {k : Nat} {v0 : (List ByteArray)} {v1 : (List ByteArray)} {r : Int} (h : slices_Compare.f k v0 v1 = some r) : Con K Try.prog 71 [.p (.lst false (List.map srw v0)), .p (.lst false (List.map srw v1))] [] (.p (.int .i64 r)) [] := by
 cases k with
 | zero => exact absurd h (by simp [slices_Compare.f])
 | succ k =>
 rw [slices_Compare.f] at h
 refine con_intro 36 [] Try.func71 (by kernel_rfl) rfl rfl (by kernel_rfl) fun ι0 w0 hk0 => ?_
 revert h
 refine go 6 ?_
 refine fun h => good_loop (fun n st => n ≤ k ∧ ∃ (v2 : _), st = ⟨[(0, .p (.lst false (List.map srw v0))), (1, .p (.lst false (List.map srw v1))), (9, .p (.lst false (List.map srw v0))), (10, .p (.int .i64 (v0.length : Int))), (11, .p (.int .i64 v2))], []⟩ ∧ slices_Compare.l0 n v0 v1 v2 = some r) k ⟨_, ⟨Nat.le_refl _, _, rfl, h⟩, frle_, memle_⟩ ?_
 clear h
 rintro n _ ⟨hkl0, v2, rfl, h⟩ hl0
 cases n with
 | zero => exact absurd h (by simp [slices_Compare.l0])
 | succ kl0 =>
 rw [slices_Compare.l0] at h
 revert h
 refine bif_e (fun c1 => ?_) (fun c1 => ?_)
 ·refine bind_e (fun v3 e3 => ?_)
  replace e3 := nf_ (ix_en srw e3)
  refine bif_e (fun c2 => ?_) (fun c2 => ?_)
  ·refine go 15 ?_
   refine ret_e (fun hr_ => ?_)
   subst hr_
   exact ret_ Try.func71 []
  ·refine bind_e (fun v4 e4 => ?_)
   replace e4 := nf_ (ix_en srw e4)
   refine go 17 ?_
   refine grs ?_
   refine gr_run ?_
   refine bind_e (fun v5 e5 => gr_call [] (cmp_Compare.con e5) ?_)
   clear e5
   refine gr_run ?_
   refine gr_done ?_
   refine bif_e (fun c3 => ?_) (fun c3 => ?_)
   ·refine go 6 ?_
    exact fun h => good_again hl0 (by omega) ⟨_, ⟨by omega, _, rfl, h⟩, frle_, memle_⟩
   ·refine go 5 ?_
    refine ret_e (fun hr_ => ?_)
    subst hr_
    exact ret_ Try.func71 []
 ·refine bif_e (fun c4 => ?_) (fun c4 => ?_)
  ·refine go 11 ?_
   refine ret_e (fun hr_ => ?_)
   subst hr_
   exact ret_ Try.func71 []
  ·refine go 12 ?_
   refine ret_e (fun hr_ => ?_)
   subst hr_
   exact ret_ Try.func71 []
end Go.Ab
