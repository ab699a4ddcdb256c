/- What the functions compute, and their contracts, part 2. No condition beyond KOk. -/
import Derived.Test.YtaddedbombndlaaAbX
namespace Go.Ab
open Go.Proofs
set_option linter.unusedVariables false
set_option linter.unusedSimpArgs false
def spec_l01Letter.f (k : Nat) (v0 : Int) : Option (Bool) := (bif decide (97 ≤ v0) then (bif decide (v0 ≤ 122) then (some true) else (bif decide (65 ≤ v0) then (some (decide (v0 ≤ 90))) else (some false))) else (bif decide (65 ≤ v0) then (some (decide (v0 ≤ 90))) else (some false)))
set_option maxRecDepth 100000 in
set_option maxHeartbeats 4000000 in
theorem spec_l01Letter.con {K : Kn} [KOk K] {k : Nat} {v0 : Int} {r : Bool} (h : spec_l01Letter.f k v0 = some r) : Con K Try.prog 94 [.p (.int .u8 v0)] [] (.p (.bool r)) [] := by
 rw [spec_l01Letter.f] at h
 refine con_intro 17 [] Try.func94 (by kernel_rfl) rfl rfl (by kernel_rfl) fun ι0 w0 hk0 => ?_
 revert h
 refine bif_e (fun c1 => ?_) (fun c1 => ?_)
 ·refine bif_e (fun c2 => ?_) (fun c2 => ?_)
  ·refine go 4 ?_
   refine ret_e (fun hr_ => ?_)
   subst hr_
   exact ret_ Try.func94 []
  ·refine bif_e (fun c3 => ?_) (fun c3 => ?_)
   ·refine go 4 ?_
    refine ret_e (fun hr_ => ?_)
    subst hr_
    exact ret_ Try.func94 []
   ·refine go 4 ?_
    refine ret_e (fun hr_ => ?_)
    subst hr_
    exact ret_ Try.func94 []
 ·refine bif_e (fun c4 => ?_) (fun c4 => ?_)
  ·refine go 4 ?_
   refine ret_e (fun hr_ => ?_)
   subst hr_
   exact ret_ Try.func94 []
  ·refine go 4 ?_
   refine ret_e (fun hr_ => ?_)
   subst hr_
   exact ret_ Try.func94 []
def spec_l01Digit.f (k : Nat) (v0 : Int) : Option (Bool) := (bif decide (48 ≤ v0) then (some (decide (v0 ≤ 57))) else (some false))
set_option maxRecDepth 100000 in
set_option maxHeartbeats 4000000 in
theorem spec_l01Digit.con {K : Kn} [KOk K] {k : Nat} {v0 : Int} {r : Bool} (h : spec_l01Digit.f k v0 = some r) : Con K Try.prog 95 [.p (.int .u8 v0)] [] (.p (.bool r)) [] := by
 rw [spec_l01Digit.f] at h
 refine con_intro 9 [] Try.func95 (by kernel_rfl) rfl rfl (by kernel_rfl) fun ι0 w0 hk0 => ?_
 revert h
 refine bif_e (fun c1 => ?_) (fun c1 => ?_)
 ·refine go 4 ?_
  refine ret_e (fun hr_ => ?_)
  subst hr_
  exact ret_ Try.func95 []
 ·refine go 4 ?_
  refine ret_e (fun hr_ => ?_)
  subst hr_
  exact ret_ Try.func95 []
mutual
def spec_l01Name.l0 : Nat → ByteArray → Int → Option (Bool)
 | 0, _, _ => none
 | k + 1, v0, v3 => (bif decide (v3 < (v0.size : Int)) then ((bix v0 v3).bind fun v4 => ((spec_l01Letter.f k v4).bind fun v5 => (bif v5 then (spec_l01Name.l0 k v0 (IntKind.i64.wrap (v3 + 1))) else ((spec_l01Digit.f k v4).bind fun v7 => (bif v7 then (spec_l01Name.l0 k v0 (IntKind.i64.wrap (v3 + 1))) else (bif (v4 == 95) then (spec_l01Name.l0 k v0 (IntKind.i64.wrap (v3 + 1))) else (some false))))))) else (some true))
def spec_l01Name.f : Nat → ByteArray → Option (Bool)
 | 0, _ => none
 | k + 1, v0 => (bif decide ((v0.size : Int) < 1) then (some false) else (bif decide (20 < (v0.size : Int)) then (some false) else ((bix v0 0).bind fun v1 => ((spec_l01Letter.f k v1).bind fun v2 => (bif v2 then (spec_l01Name.l0 k v0 1) else (some false))))))
end
set_option maxRecDepth 100000 in
set_option maxHeartbeats 4000000 in
theorem spec_l01Name.con {K : Kn} [KOk K] {k : Nat} {v0 : ByteArray} {r : Bool} (h : spec_l01Name.f k v0 = some r) : Con K Try.prog 58 [.p (.str v0)] [] (.p (.bool r)) [] := by
 cases k with
 | zero => exact absurd h (by simp [spec_l01Name.f])
 | succ k =>
 rw [spec_l01Name.f] at h
 refine con_intro 42 [] Try.func58 (by kernel_rfl) rfl rfl (by kernel_rfl) fun ι0 w0 hk0 => ?_
 revert h
 refine bif_e (fun c1 => ?_) (fun c1 => ?_)
 ·refine go 8 ?_
  refine ret_e (fun hr_ => ?_)
  subst hr_
  exact ret_ Try.func58 []
 ·refine bif_e (fun c2 => ?_) (fun c2 => ?_)
  ·refine go 8 ?_
   refine ret_e (fun hr_ => ?_)
   subst hr_
   exact ret_ Try.func58 []
  ·refine bind_e (fun v1 e1 => ?_)
   refine go 4 ?_
   refine grs ?_
   refine gr_run ?_
   refine bind_e (fun v2 e2 => gr_call [] (spec_l01Letter.con e2) ?_)
   clear e2
   refine gr_run ?_
   refine gr_done ?_
   refine bif_e (fun c3 => ?_) (fun c3 => ?_)
   ·refine go 6 ?_
    refine fun h => good_loop (fun n st => n ≤ k ∧ ∃ (v3 : _), st = ⟨[(0, .p (.str v0)), (3, .p (.int .i64 v3))], []⟩ ∧ spec_l01Name.l0 n v0 v3 = some r) k ⟨_, ⟨Nat.le_refl _, _, rfl, h⟩, frle_, memle_⟩ ?_
    clear c1 c2 e1 c3
    clear h
    rintro n _ ⟨hkl0, v3, rfl, h⟩ hl0
    cases n with
    | zero => exact absurd h (by simp [spec_l01Name.l0])
    | succ kl0 =>
    rw [spec_l01Name.l0] at h
    revert h
    refine bif_e (fun c4 => ?_) (fun c4 => ?_)
    ·refine bind_e (fun v4 e4 => ?_)
     refine go 8 ?_
     refine grs ?_
     refine gr_run ?_
     refine bind_e (fun v5 e5 => gr_call [] (spec_l01Letter.con e5) ?_)
     clear e5
     refine bif_e (fun c5 => ?_) (fun c5 => ?_)
     ·refine gr_run ?_
      refine gr_done ?_
      refine go 4 ?_
      exact fun h => good_again hl0 (by omega) ⟨_, ⟨by omega, _, rfl, h⟩, frle_, memle_⟩
     ·refine gr_run ?_
      refine bind_e (fun v7 e7 => gr_call [] (spec_l01Digit.con e7) ?_)
      clear e7
      refine bif_e (fun c6 => ?_) (fun c6 => ?_)
      ·refine gr_run ?_
       refine gr_done ?_
       refine go 4 ?_
       exact fun h => good_again hl0 (by omega) ⟨_, ⟨by omega, _, rfl, h⟩, frle_, memle_⟩
      ·refine gr_run ?_
       refine gr_done ?_
       refine bif_e (fun c7 => ?_) (fun c7 => ?_)
       ·refine go 4 ?_
        exact fun h => good_again hl0 (by omega) ⟨_, ⟨by omega, _, rfl, h⟩, frle_, memle_⟩
       ·refine go 3 ?_
        refine ret_e (fun hr_ => ?_)
        subst hr_
        exact ret_ Try.func58 []
    ·refine go 7 ?_
     refine ret_e (fun hr_ => ?_)
     subst hr_
     exact ret_ Try.func58 []
   ·refine go 3 ?_
    refine ret_e (fun hr_ => ?_)
    subst hr_
    exact ret_ Try.func58 []
mutual
def spec_l01Rising.l0 : Nat → (List ByteArray) → Int → Option (Bool)
 | 0, _, _ => none
 | k + 1, v0, v1 => (bif decide (v1 < (v0.length : Int)) then ((ix v0 (IntKind.i64.wrap (v1 - 1))).bind fun v2 => ((ix v0 v1).bind fun v3 => (bif slt v2 v3 then (spec_l01Rising.l0 k v0 (IntKind.i64.wrap (v1 + 1))) else (some false)))) else (some true))
def spec_l01Rising.f : Nat → (List ByteArray) → Option (Bool)
 | 0, _ => none
 | k + 1, v0 => (spec_l01Rising.l0 k v0 1)
end
set_option maxRecDepth 100000 in
set_option maxHeartbeats 4000000 in
theorem spec_l01Rising.con {K : Kn} [KOk K] {k : Nat} {v0 : (List ByteArray)} {r : Bool} (h : spec_l01Rising.f k v0 = some r) : Con K Try.prog 57 [.p (.lst false (List.map srw v0))] [] (.p (.bool r)) [] := by
 cases k with
 | zero => exact absurd h (by simp [spec_l01Rising.f])
 | succ k =>
 rw [spec_l01Rising.f] at h
 refine con_intro 20 [] Try.func57 (by kernel_rfl) rfl rfl (by kernel_rfl) fun ι0 w0 hk0 => ?_
 revert h
 refine go 6 ?_
 refine fun h => good_loop (fun n st => n ≤ k ∧ ∃ (v1 : _), st = ⟨[(0, .p (.lst false (List.map srw v0))), (3, .p (.int .i64 v1))], []⟩ ∧ spec_l01Rising.l0 n v0 v1 = some r) k ⟨_, ⟨Nat.le_refl _, _, rfl, h⟩, frle_, memle_⟩ ?_
 clear h
 rintro n _ ⟨hkl0, v1, rfl, h⟩ hl0
 cases n with
 | zero => exact absurd h (by simp [spec_l01Rising.l0])
 | succ kl0 =>
 rw [spec_l01Rising.l0] at h
 revert h
 refine bif_e (fun c1 => ?_) (fun c1 => ?_)
 ·refine bind_e (fun v2 e2 => ?_)
  replace e2 := nf_ (ix_en srw e2)
  refine bind_e (fun v3 e3 => ?_)
  replace e3 := nf_ (ix_en srw e3)
  refine go 8 ?_
  refine grs ?_
  refine gr_run ?_
  refine gr_done ?_
  refine bif_e (fun c2 => ?_) (fun c2 => ?_)
  ·refine go 4 ?_
   exact fun h => good_again hl0 (by omega) ⟨_, ⟨by omega, _, rfl, h⟩, frle_, memle_⟩
  ·refine go 3 ?_
   refine ret_e (fun hr_ => ?_)
   subst hr_
   exact ret_ Try.func57 []
 ·refine go 7 ?_
  refine ret_e (fun hr_ => ?_)
  subst hr_
  exact ret_ Try.func57 []
mutual
def spec_l03Rules.l0 : Nat → (List S113) → Int → Option (Bool)
 | 0, _, _ => none
 | k + 1, v0, v1 => (bif decide (v1 < (v0.length : Int)) then ((ix v0 v1).bind fun v2 => ((spec_l01Name.f k v2.f0).bind fun v3 => (bif v3 then (bif decide (0 < v1) then ((ix v0 (IntKind.i64.wrap (v1 - 1))).bind fun v4 => (bif slt v4.f0 v2.f0 then (bif decide (v2.f1 < 0) then (some false) else (bif decide (7 < v2.f1) then (some false) else (spec_l03Rules.l0 k v0 (IntKind.i64.wrap (v1 + 1))))) else (some false))) else (bif decide (v2.f1 < 0) then (some false) else (bif decide (7 < v2.f1) then (some false) else (spec_l03Rules.l0 k v0 (IntKind.i64.wrap (v1 + 1)))))) else (some false)))) else (some true))
def spec_l03Rules.f : Nat → (List S113) → Option (Bool)
 | 0, _ => none
 | k + 1, v0 => (bif decide (20 < (v0.length : Int)) then (some false) else (spec_l03Rules.l0 k v0 0))
end
set_option maxRecDepth 100000 in
set_option maxHeartbeats 4000000 in
theorem spec_l03Rules.con {K : Kn} [KOk K] {k : Nat} {v0 : (List S113)} {r : Bool} (h : spec_l03Rules.f k v0 = some r) : Con K Try.prog 92 [.p (.lst false (List.map en113 v0))] [] (.p (.bool r)) [] := by
 cases k with
 | zero => exact absurd h (by simp [spec_l03Rules.f])
 | succ k =>
 rw [spec_l03Rules.f] at h
 refine con_intro 54 [] Try.func92 (by kernel_rfl) rfl rfl (by kernel_rfl) fun ι0 w0 hk0 => ?_
 revert h
 refine bif_e (fun c1 => ?_) (fun c1 => ?_)
 ·refine go 8 ?_
  refine ret_e (fun hr_ => ?_)
  subst hr_
  exact ret_ Try.func92 []
 ·refine go 11 ?_
  refine fun h => good_loop (fun n st => n ≤ k ∧ ∃ (v1 : _), st = ⟨[(0, .p (.lst false (List.map en113 v0))), (3, .p (.int .i64 v1))], []⟩ ∧ spec_l03Rules.l0 n v0 v1 = some r) k ⟨_, ⟨Nat.le_refl _, _, rfl, h⟩, frle_, memle_⟩ ?_
  clear c1
  clear h
  rintro n _ ⟨hkl0, v1, rfl, h⟩ hl0
  cases n with
  | zero => exact absurd h (by simp [spec_l03Rules.l0])
  | succ kl0 =>
  rw [spec_l03Rules.l0] at h
  revert h
  refine bif_e (fun c2 => ?_) (fun c2 => ?_)
  ·refine bind_e (fun v2 e2 => ?_)
   replace e2 := nf_ (ix_en en113 e2)
   refine go 8 ?_
   refine grs ?_
   refine gr_run ?_
   refine bind_e (fun v3 e3 => gr_call [] (spec_l01Name.con e3) ?_)
   clear e3
   refine bif_e (fun c3 => ?_) (fun c3 => ?_)
   ·refine bif_e (fun c4 => ?_) (fun c4 => ?_)
    ·refine bind_e (fun v4 e4 => ?_)
     replace e4 := nf_ (ix_en en113 e4)
     refine bif_e (fun c5 => ?_) (fun c5 => ?_)
     ·refine bif_e (fun c6 => ?_) (fun c6 => ?_)
      ·refine gr_run ?_
       refine gr_done ?_
       refine go 3 ?_
       refine ret_e (fun hr_ => ?_)
       subst hr_
       exact ret_ Try.func92 []
      ·refine gr_run ?_
       refine gr_done ?_
       refine bif_e (fun c7 => ?_) (fun c7 => ?_)
       ·refine go 3 ?_
        refine ret_e (fun hr_ => ?_)
        subst hr_
        exact ret_ Try.func92 []
       ·refine go 4 ?_
        exact fun h => good_again hl0 (by omega) ⟨_, ⟨by omega, _, rfl, h⟩, frle_, memle_⟩
     ·refine gr_run ?_
      refine gr_done ?_
      refine go 3 ?_
      refine ret_e (fun hr_ => ?_)
      subst hr_
      exact ret_ Try.func92 []
    ·refine bif_e (fun c8 => ?_) (fun c8 => ?_)
     ·refine gr_run ?_
      refine gr_done ?_
      refine go 3 ?_
      refine ret_e (fun hr_ => ?_)
      subst hr_
      exact ret_ Try.func92 []
     ·refine gr_run ?_
      refine gr_done ?_
      refine bif_e (fun c9 => ?_) (fun c9 => ?_)
      ·refine go 3 ?_
       refine ret_e (fun hr_ => ?_)
       subst hr_
       exact ret_ Try.func92 []
      ·refine go 4 ?_
       exact fun h => good_again hl0 (by omega) ⟨_, ⟨by omega, _, rfl, h⟩, frle_, memle_⟩
   ·refine gr_run ?_
    refine gr_done ?_
    refine go 3 ?_
    refine ret_e (fun hr_ => ?_)
    subst hr_
    exact ret_ Try.func92 []
  ·refine go 7 ?_
   refine ret_e (fun hr_ => ?_)
   subst hr_
   exact ret_ Try.func92 []
mutual
def spec_l03Type.l0 : Nat → ByteArray → Int → S33 → Option (Int)
 | 0, _, _, _ => none
 | k + 1, v1, v2, v0 => (bif decide (v2 < (v0.f0.length : Int)) then ((ix v0.f0 v2).bind fun v3 => (bif decide (v3.f0 = v1) then (some v2) else (spec_l03Type.l0 k v1 (IntKind.i64.wrap (v2 + 1)) v0))) else (some (-1)))
def spec_l03Type.f : Nat → S33 → ByteArray → Option (Int)
 | 0, _, _ => none
 | k + 1, v0, v1 => (spec_l03Type.l0 k v1 0 v0)
end
set_option maxRecDepth 100000 in
set_option maxHeartbeats 4000000 in
theorem spec_l03Type.con {K : Kn} [KOk K] {k : Nat} {v0 : S33} {v1 : ByteArray} {r : Int} (h : spec_l03Type.f k v0 v1 = some r) : Con K Try.prog 56 [.agg [.p (.lst false (List.map en96 v0.f0)), .p (.lst false (List.map en99 v0.f1)), .p (.lst false (List.map en92 v0.f2)), .p (.bool v0.f3)], .p (.str v1)] [] (.p (.int .i64 r)) [] := by
 cases k with
 | zero => exact absurd h (by simp [spec_l03Type.f])
 | succ k =>
 rw [spec_l03Type.f] at h
 refine con_intro 22 [] Try.func56 (by kernel_rfl) rfl rfl (by kernel_rfl) fun ι0 w0 hk0 => ?_
 revert h
 refine go 6 ?_
 refine fun h => good_loop (fun n st => n ≤ k ∧ ∃ (v2 : _), st = ⟨[(1, .p (.str v1)), (2, .ptr 2 1 0), (5, .p (.int .i64 v2))], [(2, (1, .cells [.p (.lst false (List.map en96 v0.f0)), .p (.lst false (List.map en99 v0.f1)), .p (.lst false (List.map en92 v0.f2)), .p (.bool v0.f3)]))]⟩ ∧ spec_l03Type.l0 n v1 v2 v0 = some r) k ⟨_, ⟨Nat.le_refl _, _, rfl, h⟩, frle_, memle_⟩ ?_
 clear h
 rintro n _ ⟨hkl0, v2, rfl, h⟩ hl0
 cases n with
 | zero => exact absurd h (by simp [spec_l03Type.l0])
 | succ kl0 =>
 rw [spec_l03Type.l0] at h
 revert h
 refine bif_e (fun c1 => ?_) (fun c1 => ?_)
 ·refine bind_e (fun v3 e3 => ?_)
  replace e3 := nf_ (ix_en en96 e3)
  refine bif_e (fun c2 => ?_) (fun c2 => ?_)
  ·refine go 12 ?_
   refine ret_e (fun hr_ => ?_)
   subst hr_
   exact ret_ Try.func56 []
  ·refine go 13 ?_
   exact fun h => good_again hl0 (by omega) ⟨_, ⟨by omega, _, rfl, h⟩, frle_, memle_⟩
 ·refine go 7 ?_
  refine ret_e (fun hr_ => ?_)
  subst hr_
  exact ret_ Try.func56 []
def spec_l01Texts_O.f (k : Nat) (v0 : (List ByteArray)) : Option ((List ByteArray)) := ((app ([] : List ByteArray) v0).bind fun v1 => (some v1))
set_option maxRecDepth 100000 in
set_option maxHeartbeats 4000000 in
theorem spec_l01Texts_O.con {K : Kn} [KOk K] {k : Nat} {v0 : (List ByteArray)} {r : (List ByteArray)} (h : spec_l01Texts_O.f k v0 = some r) : Con K Try.prog 82 [.p (.lst false (List.map srw v0))] [] (.buf 2000 1 0 r.length) [(2000, (1, .buf 1 (List.map srw r)))] := by
 rw [spec_l01Texts_O.f] at h
 refine con_intro 6 [5] Try.func82 (by kernel_rfl) rfl rfl (by kernel_rfl) fun ι0 w0 hk0 => ?_
 revert h
 refine bind_e (fun v1 e1 => ?_)
 replace e1 := nf_ (app_en srw e1)
 refine go 4 ?_
 refine ret_e (fun hr_ => ?_)
 subst hr_
 exact ret_ Try.func82 [(2000, (1, 5, 1))]
def spec_l01Texts_b.f (k : Nat) (v0 : Nat) (v1 : Nat) (v2 : (List ByteArray)) : Option ((List ByteArray)) := spec_l01Texts_O.f k ((v2.drop v1).take v0)
theorem spec_l01Texts_b.con {K : Kn} [KOk K] {k : Nat} {v0 : Nat} {v1 : Nat} {v2 : (List ByteArray)} {r : (List ByteArray)} (h : spec_l01Texts_b.f k v0 v1 v2 = some r) : Con K Try.prog 82 [.buf 1000 0 v1 v0] [(1000, (0, .buf 1 (List.map srw v2)))] (.p (.lst false (List.map srw r))) [(1000, (0, .buf 1 (List.map srw v2)))] := by
 rw [spec_l01Texts_b.f] at h
 have h1 := spec_l01Texts_O.con (K := K) h
 rw [List.map_take, List.map_drop] at h1
 refine con_lend (r := List.map srw r) (fun row hr c hc => ?_) (by rw [List.length_map]; exact h1)
 obtain ⟨x, _, rfl⟩ := List.mem_map.1 hr
 simp [srw, irow, brw] at hc
 subst hc
 rfl
mutual
def spec_l03Sort.j1 : Nat → (List ByteArray) → Nat → Int → Int → (List ByteArray) → Option ((List ByteArray))
 | 0, _, _, _, _, _ => none
 | k + 1, v0, v1, v2, v5, v4 => ((bnd v5 (v1 : Int) (v1 : Int)).bind fun v12 => ((spec_l01Texts_b.f k (v1 - Int.toNat v5) (Int.toNat v5) v4).bind fun v13 => ((bnd 0 v5 (v1 : Int)).bind fun v14 => ((ix v0 v2).bind fun v15 => ((app (List.take (Int.toNat v5) v4) ([v15] : List ByteArray)).bind fun v16 => ((app v16 v13).bind fun v17 => (spec_l03Sort.l0 k v0 v17.length (IntKind.i64.wrap (v2 + 1)) v17)))))))
def spec_l03Sort.j0 : Nat → (List ByteArray) → Nat → Int → Int → (List ByteArray) → Option ((List ByteArray))
 | 0, _, _, _, _, _ => none
 | k + 1, v0, v1, v2, v5, v4 => (bif decide (0 < v5) then ((inr (IntKind.i64.wrap (v5 - 1)) v1).bind fun v9 => ((v4[(Int.toNat (IntKind.i64.wrap (v5 - 1)))]?).bind fun v10 => ((ix v0 v2).bind fun v11 => (bif decide (v10 = v11) then (spec_l03Sort.l0 k v0 v1 (IntKind.i64.wrap (v2 + 1)) v4) else (spec_l03Sort.j1 k v0 v1 v2 v5 v4))))) else (spec_l03Sort.j1 k v0 v1 v2 v5 v4))
def spec_l03Sort.l1 : Nat → (List ByteArray) → Nat → Int → Int → (List ByteArray) → Option ((List ByteArray))
 | 0, _, _, _, _, _ => none
 | k + 1, v0, v1, v2, v5, v4 => (bif decide (0 < v5) then ((inr (IntKind.i64.wrap (v5 - 1)) v1).bind fun v6 => ((v4[(Int.toNat (IntKind.i64.wrap (v5 - 1)))]?).bind fun v7 => ((ix v0 v2).bind fun v8 => (bif slt v8 v7 then (spec_l03Sort.l1 k v0 v1 v2 (IntKind.i64.wrap (v5 - 1)) v4) else (spec_l03Sort.j0 k v0 v1 v2 v5 v4))))) else (spec_l03Sort.j0 k v0 v1 v2 v5 v4))
def spec_l03Sort.l0 : Nat → (List ByteArray) → Nat → Int → (List ByteArray) → Option ((List ByteArray))
 | 0, _, _, _, _ => none
 | k + 1, v0, v1, v2, v4 => (bif decide (v2 < (v0.length : Int)) then (spec_l03Sort.l1 k v0 v1 v2 (v1 : Int) v4) else (some (List.take v1 v4)))
def spec_l03Sort.f : Nat → (List ByteArray) → Option ((List ByteArray))
 | 0, _ => none
 | k + 1, v0 => (spec_l03Sort.l0 k v0 0 0 ([] : List ByteArray))
end
set_option maxRecDepth 100000 in
set_option maxHeartbeats 4000000 in
theorem spec_l03Sort.con {K : Kn} [KOk K] {k : Nat} {v0 : (List ByteArray)} {r : (List ByteArray)} (h : spec_l03Sort.f k v0 = some r) : Con K Try.prog 41 [.p (.lst false (List.map srw v0))] [] (.p (.lst false (List.map srw r))) [] := by
 cases k with
 | zero => exact absurd h (by simp [spec_l03Sort.f])
 | succ k =>
 rw [spec_l03Sort.f] at h
 refine con_intro 62 [58, 60] Try.func41 (by kernel_rfl) rfl rfl (by kernel_rfl) fun ι0 w0 hk0 => ?_
 revert h
 refine go 8 ?_
 refine adoptB_ 3 2603 1 ?_
 refine fun h => good_loop (fun n st => n ≤ k ∧ ∃ (v1 : _) (v2 : _) (v4 : _) (g3 : Nat), st = ⟨[(0, .p (.lst false (List.map srw v0))), (3, .buf 2603 g3 0 v1), (4, .p (.int .i64 v2))], [(2603, (g3, .buf 1 (List.map srw v4)))]⟩ ∧ spec_l03Sort.l0 n v0 v1 v2 v4 = some r) k ⟨_, ⟨Nat.le_refl _, _, _, _, 1, rfl, h⟩, frle_, memle_⟩ ?_
 clear h
 rintro n _ ⟨hkl0, v1, v2, v4, g3, rfl, h⟩ hl0
 cases n with
 | zero => exact absurd h (by simp [spec_l03Sort.l0])
 | succ kl0 =>
 rw [spec_l03Sort.l0] at h
 revert h
 refine bif_e (fun c1 => ?_) (fun c1 => ?_)
 ·refine go 11 ?_
  refine fun h => good_loop (fun n st => n ≤ kl0 ∧ ∃ (v5 : _), st = ⟨[(0, .p (.lst false (List.map srw v0))), (3, .buf 2603 g3 0 v1), (4, .p (.int .i64 v2)), (5, .p (.int .i64 v5))], [(2603, (g3, .buf 1 (List.map srw v4)))]⟩ ∧ spec_l03Sort.l1 n v0 v1 v2 v5 v4 = some r) kl0 ⟨_, ⟨Nat.le_refl _, _, rfl, h⟩, frle_, memle_⟩ ?_
  clear c1
  clear h
  rintro n _ ⟨hkl1, v5, rfl, h⟩ hl1
  cases n with
  | zero => exact absurd h (by simp [spec_l03Sort.l1])
  | succ kl1 =>
  rw [spec_l03Sort.l1] at h
  revert h
  refine go 2 ?_
  refine good_cut_f (fun st => ∃ (q_ : Nat), q_ ≤ kl1 ∧ st = ⟨[(0, .p (.lst false (List.map srw v0))), (3, .buf 2603 g3 0 v1), (4, .p (.int .i64 v2)), (5, .p (.int .i64 v5))], [(2603, (g3, .buf 1 (List.map srw v4)))]⟩ ∧ spec_l03Sort.j0 q_ v0 v1 v2 v5 v4 = some r) ?_ (fun hj0 => ?_)
  ·skip
   rintro _ ⟨q_, hqj0, rfl, h⟩
   cases q_ with
   | zero => exact absurd h (by simp [spec_l03Sort.j0])
   | succ kj0 =>
   rw [spec_l03Sort.j0] at h
   revert h
   refine go 3 ?_
   refine good_cut_f (fun st => ∃ (q_ : Nat), q_ ≤ kj0 ∧ st = ⟨[(0, .p (.lst false (List.map srw v0))), (3, .buf 2603 g3 0 v1), (4, .p (.int .i64 v2)), (5, .p (.int .i64 v5))], [(2603, (g3, .buf 1 (List.map srw v4)))]⟩ ∧ spec_l03Sort.j1 q_ v0 v1 v2 v5 v4 = some r) ?_ (fun hj1 => ?_)
   ·skip
    rintro _ ⟨q_, hqj1, rfl, h⟩
    cases q_ with
    | zero => exact absurd h (by simp [spec_l03Sort.j1])
    | succ kj1 =>
    rw [spec_l03Sort.j1] at h
    revert h
    refine bind_e (fun v12 e12 => ?_)
    refine go 2 ?_
    refine grs ?_
    refine gr_run ?_
    refine bind_e (fun v13 e13 => gr_call [(1000, (0, 2603, g3))] (spec_l01Texts_b.con e13) ?_)
    clear e13
    refine gr_run ?_
    refine gr_done ?_
    refine bind_e (fun v14 e14 => ?_)
    refine bind_e (fun v15 e15 => ?_)
    replace e15 := nf_ (ix_en srw e15)
    refine bind_e (fun v16 e16 => ?_)
    replace e16 := nf_ (app_en srw e16)
    refine bind_e (fun v17 e17 => ?_)
    replace e17 := nf_ (app_en srw e17)
    refine grs ?_
    refine gr_run ?_
    refine gr_done ?_
    refine go 2 ?_
    exact fun h => good_again hl0 (by omega) ⟨_, ⟨by omega, _, _, _, g3 + 2, rfl, h⟩, frle_, memle_⟩
   ·refine bif_e (fun c2 => ?_) (fun c2 => ?_)
    ·refine bind_e (fun v9 e9 => ?_)
     refine bind_e (fun v10 e10 => ?_)
     replace e10 := nf_ (gx_en srw e10)
     refine bind_e (fun v11 e11 => ?_)
     replace e11 := nf_ (ix_en srw e11)
     refine grs ?_
     refine gr_run ?_
     refine gr_done ?_
     refine bif_e (fun c3 => ?_) (fun c3 => ?_)
     ·refine go 3 ?_
      exact fun h => good_again hl0 (by omega) ⟨_, ⟨by omega, _, _, _, g3, rfl, h⟩, frle_, memle_⟩
     ·refine go 1 ?_
      exact fun h => good_jump hj1 ⟨_, ⟨_, by omega, rfl, h⟩, frle_, memle_⟩
    ·refine grs ?_
     refine gr_run ?_
     refine gr_done ?_
     refine go 1 ?_
     exact fun h => good_jump hj1 ⟨_, ⟨_, by omega, rfl, h⟩, frle_, memle_⟩
  ·refine bif_e (fun c4 => ?_) (fun c4 => ?_)
   ·refine bind_e (fun v6 e6 => ?_)
    refine bind_e (fun v7 e7 => ?_)
    replace e7 := nf_ (gx_en srw e7)
    refine bind_e (fun v8 e8 => ?_)
    replace e8 := nf_ (ix_en srw e8)
    refine grs ?_
    refine gr_run ?_
    refine gr_done ?_
    refine bif_e (fun c5 => ?_) (fun c5 => ?_)
    ·refine go 5 ?_
     exact fun h => good_again hl1 (by omega) ⟨_, ⟨by omega, _, rfl, h⟩, frle_, memle_⟩
    ·refine go 1 ?_
     exact fun h => good_jump hj0 ⟨_, ⟨_, by omega, rfl, h⟩, frle_, memle_⟩
   ·refine grs ?_
    refine gr_run ?_
    refine gr_done ?_
    refine go 1 ?_
    exact fun h => good_jump hj0 ⟨_, ⟨_, by omega, rfl, h⟩, frle_, memle_⟩
 ·refine go 7 ?_
  refine freeze_ 2 ?_
  refine ret_e (fun hr_ => ?_)
  subst hr_
  exact ret_ Try.func41 []
mutual
def spec_l01InTexts.l0 : Nat → (List ByteArray) → ByteArray → Int → Option (Bool)
 | 0, _, _, _ => none
 | k + 1, v0, v1, v2 => (bif decide (v2 < (v0.length : Int)) then ((ix v0 v2).bind fun v3 => (bif decide (v3 = v1) then (some true) else (spec_l01InTexts.l0 k v0 v1 (IntKind.i64.wrap (v2 + 1))))) else (some false))
def spec_l01InTexts.f : Nat → (List ByteArray) → ByteArray → Option (Bool)
 | 0, _, _ => none
 | k + 1, v0, v1 => (spec_l01InTexts.l0 k v0 v1 0)
end
set_option maxRecDepth 100000 in
set_option maxHeartbeats 4000000 in
theorem spec_l01InTexts.con {K : Kn} [KOk K] {k : Nat} {v0 : (List ByteArray)} {v1 : ByteArray} {r : Bool} (h : spec_l01InTexts.f k v0 v1 = some r) : Con K Try.prog 59 [.p (.lst false (List.map srw v0)), .p (.str v1)] [] (.p (.bool r)) [] := by
 cases k with
 | zero => exact absurd h (by simp [spec_l01InTexts.f])
 | succ k =>
 rw [spec_l01InTexts.f] at h
 refine con_intro 18 [] Try.func59 (by kernel_rfl) rfl rfl (by kernel_rfl) fun ι0 w0 hk0 => ?_
 revert h
 refine go 6 ?_
 refine fun h => good_loop (fun n st => n ≤ k ∧ ∃ (v2 : _), st = ⟨[(0, .p (.lst false (List.map srw v0))), (1, .p (.str v1)), (5, .p (.int .i64 v2))], []⟩ ∧ spec_l01InTexts.l0 n v0 v1 v2 = some r) k ⟨_, ⟨Nat.le_refl _, _, rfl, h⟩, frle_, memle_⟩ ?_
 clear h
 rintro n _ ⟨hkl0, v2, rfl, h⟩ hl0
 cases n with
 | zero => exact absurd h (by simp [spec_l01InTexts.l0])
 | succ kl0 =>
 rw [spec_l01InTexts.l0] at h
 revert h
 refine bif_e (fun c1 => ?_) (fun c1 => ?_)
 ·refine bind_e (fun v3 e3 => ?_)
  replace e3 := nf_ (ix_en srw e3)
  refine bif_e (fun c2 => ?_) (fun c2 => ?_)
  ·refine go 12 ?_
   refine ret_e (fun hr_ => ?_)
   subst hr_
   exact ret_ Try.func59 []
  ·refine go 13 ?_
   exact fun h => good_again hl0 (by omega) ⟨_, ⟨by omega, _, rfl, h⟩, frle_, memle_⟩
 ·refine go 7 ?_
  refine ret_e (fun hr_ => ?_)
  subst hr_
  exact ret_ Try.func59 []
mutual
def spec_l03Line.j0 : Nat → (List ByteArray) → Option ((List ByteArray))
 | 0, _ => none
 | k + 1, v4 => ((spec_l03Sort.f k v4).bind fun v6 => (some v6))
def spec_l03Line.l1 : Nat → (List ByteArray) → Int → Int → Int → S33 → Option ((List ByteArray))
 | 0, _, _, _, _, _ => none
 | k + 1, v9, v5, v8, v10, v0 => ((ix v0.f0 v8).bind fun v11 => (bif decide (v10 < (v11.f1.length : Int)) then ((ix v11.f1 v10).bind fun v13 => ((spec_l01InTexts.f k v9 v13).bind fun v14 => (bif v14 then (spec_l03Line.l1 k v9 v5 v8 (IntKind.i64.wrap (v10 + 1)) v0) else ((app v9 ([v13] : List ByteArray)).bind fun v17 => (spec_l03Line.l1 k v17 v5 v8 (IntKind.i64.wrap (v10 + 1)) v0))))) else (spec_l03Line.l0 k v9 (IntKind.i64.wrap (v5 + 1)) v0)))
def spec_l03Line.l0 : Nat → (List ByteArray) → Int → S33 → Option ((List ByteArray))
 | 0, _, _, _ => none
 | k + 1, v4, v5, v0 => (bif decide (v5 < (v4.length : Int)) then (bif decide (v5 ≤ 20) then ((ix v4 v5).bind fun v7 => ((spec_l03Type.f k v0 v7).bind fun v8 => (bif decide (v8 < 0) then (spec_l03Line.l0 k v4 (IntKind.i64.wrap (v5 + 1)) v0) else (spec_l03Line.l1 k v4 v5 v8 0 v0)))) else (spec_l03Line.j0 k v4)) else (spec_l03Line.j0 k v4))
def spec_l03Line.f : Nat → S33 → ByteArray → Option ((List ByteArray))
 | 0, _, _ => none
 | k + 1, v0, v1 => ((spec_l03Type.f k v0 v1).bind fun v2 => (bif decide (v2 < 0) then (some ([] : List ByteArray)) else ((app ([] : List ByteArray) ([v1] : List ByteArray)).bind fun v3 => (spec_l03Line.l0 k v3 0 v0))))
end
set_option maxRecDepth 100000 in
set_option maxHeartbeats 4000000 in
theorem spec_l03Line.con {K : Kn} [KOk K] {k : Nat} {v0 : S33} {v1 : ByteArray} {r : (List ByteArray)} (h : spec_l03Line.f k v0 v1 = some r) : Con K Try.prog 24 [.agg [.p (.lst false (List.map en96 v0.f0)), .p (.lst false (List.map en99 v0.f1)), .p (.lst false (List.map en92 v0.f2)), .p (.bool v0.f3)], .p (.str v1)] [] (.p (.lst false (List.map srw r))) [] := by
 cases k with
 | zero => exact absurd h (by simp [spec_l03Line.f])
 | succ k =>
 rw [spec_l03Line.f] at h
 refine con_intro 74 [] Try.func24 (by kernel_rfl) rfl rfl (by kernel_rfl) fun ι0 w0 hk0 => ?_
 revert h
 refine go 6 ?_
 refine grs ?_
 refine gr_run ?_
 refine bind_e (fun v2 e2 => gr_call [] (spec_l03Type.con e2) ?_)
 clear e2
 refine gr_run ?_
 refine gr_done ?_
 refine bif_e (fun c1 => ?_) (fun c1 => ?_)
 ·refine go 3 ?_
  refine ret_e (fun hr_ => ?_)
  subst hr_
  exact ret_ Try.func24 []
 ·refine bind_e (fun v3 e3 => ?_)
  replace e3 := nf_ (app_en srw e3)
  refine go 8 ?_
  refine fun h => good_loop (fun n st => n ≤ k ∧ ∃ (v4 : _) (v5 : _), st = ⟨[(2, .ptr 2 1 0), (5, .tip 18 1 (List.map srw v4)), (6, .p (.int .i64 v5))], [(2, (1, .cells [.p (.lst false (List.map en96 v0.f0)), .p (.lst false (List.map en99 v0.f1)), .p (.lst false (List.map en92 v0.f2)), .p (.bool v0.f3)])), (18, (1, .tip 1 (v4).length))]⟩ ∧ spec_l03Line.l0 n v4 v5 v0 = some r) k ⟨_, ⟨Nat.le_refl _, _, _, rfl, h⟩, frle_, memle_⟩ ?_
  clear c1 e3
  clear h
  rintro n _ ⟨hkl0, v4, v5, rfl, h⟩ hl0
  cases n with
  | zero => exact absurd h (by simp [spec_l03Line.l0])
  | succ kl0 =>
  rw [spec_l03Line.l0] at h
  revert h
  refine go 2 ?_
  refine good_cut_f (fun st => ∃ (q_ : Nat), q_ ≤ kl0 ∧ st = ⟨[(5, .tip 18 1 (List.map srw v4))], [(2, (1, .gone)), (18, (1, .tip 1 (v4).length))]⟩ ∧ spec_l03Line.j0 q_ v4 = some r) ?_ (fun hj0 => ?_)
  ·skip
   rintro _ ⟨q_, hqj0, rfl, h⟩
   cases q_ with
   | zero => exact absurd h (by simp [spec_l03Line.j0])
   | succ kj0 =>
   rw [spec_l03Line.j0] at h
   revert h
   refine go 2 ?_
   refine grs ?_
   refine gr_run ?_
   refine bind_e (fun v6 e6 => gr_call [] (spec_l03Sort.con e6) ?_)
   clear e6
   refine gr_run ?_
   refine gr_done ?_
   refine ret_e (fun hr_ => ?_)
   subst hr_
   exact ret_ Try.func24 []
  ·refine bif_e (fun c2 => ?_) (fun c2 => ?_)
   ·refine bif_e (fun c3 => ?_) (fun c3 => ?_)
    ·refine bind_e (fun v7 e7 => ?_)
     replace e7 := nf_ (ix_en srw e7)
     refine go 6 ?_
     refine grs ?_
     refine gr_run ?_
     refine bind_e (fun v8 e8 => gr_call [] (spec_l03Type.con e8) ?_)
     clear e8
     refine gr_run ?_
     refine gr_done ?_
     refine bif_e (fun c4 => ?_) (fun c4 => ?_)
     ·refine go 6 ?_
      exact fun h => good_again hl0 (by omega) ⟨_, ⟨by omega, _, _, rfl, h⟩, frle_, memle_⟩
     ·refine go 8 ?_
      refine fun h => good_loop (fun n st => n ≤ kl0 ∧ ∃ (v9 : _) (v10 : _), st = ⟨[(2, .ptr 2 1 0), (5, .tip 18 1 (List.map srw v9)), (6, .p (.int .i64 v5)), (7, .p (.int .i64 v8)), (8, .p (.int .i64 v10))], [(2, (1, .cells [.p (.lst false (List.map en96 v0.f0)), .p (.lst false (List.map en99 v0.f1)), .p (.lst false (List.map en92 v0.f2)), .p (.bool v0.f3)])), (18, (1, .tip 1 (v9).length))]⟩ ∧ spec_l03Line.l1 n v9 v5 v8 v10 v0 = some r) kl0 ⟨_, ⟨Nat.le_refl _, _, _, rfl, h⟩, frle_, memle_⟩ ?_
      clear c2 c3 e7 c4
      clear h
      rintro n _ ⟨hkl1, v9, v10, rfl, h⟩ hl1
      cases n with
      | zero => exact absurd h (by simp [spec_l03Line.l1])
      | succ kl1 =>
      rw [spec_l03Line.l1] at h
      revert h
      refine bind_e (fun v11 e11 => ?_)
      replace e11 := nf_ (ix_en en96 e11)
      refine bif_e (fun c5 => ?_) (fun c5 => ?_)
      ·refine bind_e (fun v13 e13 => ?_)
       replace e13 := nf_ (ix_en srw e13)
       refine go 8 ?_
       refine grs ?_
       refine gr_run ?_
       refine bind_e (fun v14 e14 => gr_call [] (spec_l01InTexts.con e14) ?_)
       clear e14
       refine gr_run ?_
       refine gr_done ?_
       refine bif_e (fun c6 => ?_) (fun c6 => ?_)
       ·refine go 4 ?_
        exact fun h => good_again hl1 (by omega) ⟨_, ⟨by omega, _, _, rfl, h⟩, frle_, memle_⟩
       ·refine bind_e (fun v17 e17 => ?_)
        replace e17 := nf_ (app_en srw e17)
        refine go 4 ?_
        exact fun h => good_again hl1 (by omega) ⟨_, ⟨by omega, _, _, rfl, h⟩, frle_, memle_⟩
      ·refine go 7 ?_
       exact fun h => good_again hl0 (by omega) ⟨_, ⟨by omega, _, _, rfl, h⟩, frle_, memle_⟩
    ·refine go 2 ?_
     exact fun h => good_jump hj0 ⟨_, ⟨_, by omega, rfl, h⟩, frle_, memle_⟩
   ·refine go 2 ?_
    exact fun h => good_jump hj0 ⟨_, ⟨_, by omega, rfl, h⟩, frle_, memle_⟩
mutual
def spec_l03Rule.l0 : Nat → (List S113) → ByteArray → Int → Option (Int)
 | 0, _, _, _ => none
 | k + 1, v0, v1, v2 => (bif decide (v2 < (v0.length : Int)) then ((ix v0 v2).bind fun v3 => (bif decide (v3.f0 = v1) then (some v2) else (spec_l03Rule.l0 k v0 v1 (IntKind.i64.wrap (v2 + 1))))) else (some (-1)))
def spec_l03Rule.f : Nat → (List S113) → ByteArray → Option (Int)
 | 0, _, _ => none
 | k + 1, v0, v1 => (spec_l03Rule.l0 k v0 v1 0)
end
set_option maxRecDepth 100000 in
set_option maxHeartbeats 4000000 in
theorem spec_l03Rule.con {K : Kn} [KOk K] {k : Nat} {v0 : (List S113)} {v1 : ByteArray} {r : Int} (h : spec_l03Rule.f k v0 v1 = some r) : Con K Try.prog 108 [.p (.lst false (List.map en113 v0)), .p (.str v1)] [] (.p (.int .i64 r)) [] := by
 cases k with
 | zero => exact absurd h (by simp [spec_l03Rule.f])
 | succ k =>
 rw [spec_l03Rule.f] at h
 refine con_intro 20 [] Try.func108 (by kernel_rfl) rfl rfl (by kernel_rfl) fun ι0 w0 hk0 => ?_
 revert h
 refine go 6 ?_
 refine fun h => good_loop (fun n st => n ≤ k ∧ ∃ (v2 : _), st = ⟨[(0, .p (.lst false (List.map en113 v0))), (1, .p (.str v1)), (5, .p (.int .i64 v2))], []⟩ ∧ spec_l03Rule.l0 n v0 v1 v2 = some r) k ⟨_, ⟨Nat.le_refl _, _, rfl, h⟩, frle_, memle_⟩ ?_
 clear h
 rintro n _ ⟨hkl0, v2, rfl, h⟩ hl0
 cases n with
 | zero => exact absurd h (by simp [spec_l03Rule.l0])
 | succ kl0 =>
 rw [spec_l03Rule.l0] at h
 revert h
 refine bif_e (fun c1 => ?_) (fun c1 => ?_)
 ·refine bind_e (fun v3 e3 => ?_)
  replace e3 := nf_ (ix_en en113 e3)
  refine bif_e (fun c2 => ?_) (fun c2 => ?_)
  ·refine go 12 ?_
   refine ret_e (fun hr_ => ?_)
   subst hr_
   exact ret_ Try.func108 []
  ·refine go 13 ?_
   exact fun h => good_again hl0 (by omega) ⟨_, ⟨by omega, _, rfl, h⟩, frle_, memle_⟩
 ·refine go 7 ?_
  refine ret_e (fun hr_ => ?_)
  subst hr_
  exact ret_ Try.func108 []
mutual
def spec_l03Refines.l0 : Nat → (List S113) → (List S113) → Int → Option (Bool)
 | 0, _, _, _ => none
 | k + 1, v0, v1, v2 => (bif decide (v2 < (v0.length : Int)) then ((ix v0 v2).bind fun v3 => ((spec_l03Rule.f k v1 v3.f0).bind fun v4 => (bif decide (0 ≤ v4) then ((ix v1 v4).bind fun v5 => (bif (v5.f1 == 0) then (bif v5.f2 then (bif v3.f2 then (spec_l03Refines.l0 k v0 v1 (IntKind.i64.wrap (v2 + 1))) else (some false)) else (spec_l03Refines.l0 k v0 v1 (IntKind.i64.wrap (v2 + 1)))) else (bif (v5.f1 == v3.f1) then (bif v5.f2 then (bif v3.f2 then (spec_l03Refines.l0 k v0 v1 (IntKind.i64.wrap (v2 + 1))) else (some false)) else (spec_l03Refines.l0 k v0 v1 (IntKind.i64.wrap (v2 + 1)))) else (some false)))) else (spec_l03Refines.l0 k v0 v1 (IntKind.i64.wrap (v2 + 1)))))) else (some true))
def spec_l03Refines.f : Nat → (List S113) → (List S113) → Option (Bool)
 | 0, _, _ => none
 | k + 1, v0, v1 => (spec_l03Refines.l0 k v0 v1 0)
end
set_option maxRecDepth 100000 in
set_option maxHeartbeats 4000000 in
theorem spec_l03Refines.con {K : Kn} [KOk K] {k : Nat} {v0 : (List S113)} {v1 : (List S113)} {r : Bool} (h : spec_l03Refines.f k v0 v1 = some r) : Con K Try.prog 93 [.p (.lst false (List.map en113 v0)), .p (.lst false (List.map en113 v1))] [] (.p (.bool r)) [] := by
 cases k with
 | zero => exact absurd h (by simp [spec_l03Refines.f])
 | succ k =>
 rw [spec_l03Refines.f] at h
 refine con_intro 58 [] Try.func93 (by kernel_rfl) rfl rfl (by kernel_rfl) fun ι0 w0 hk0 => ?_
 revert h
 refine go 6 ?_
 refine fun h => good_loop (fun n st => n ≤ k ∧ ∃ (v2 : _), st = ⟨[(0, .p (.lst false (List.map en113 v0))), (1, .p (.lst false (List.map en113 v1))), (5, .p (.int .i64 v2))], []⟩ ∧ spec_l03Refines.l0 n v0 v1 v2 = some r) k ⟨_, ⟨Nat.le_refl _, _, rfl, h⟩, frle_, memle_⟩ ?_
 clear h
 rintro n _ ⟨hkl0, v2, rfl, h⟩ hl0
 cases n with
 | zero => exact absurd h (by simp [spec_l03Refines.l0])
 | succ kl0 =>
 rw [spec_l03Refines.l0] at h
 revert h
 refine bif_e (fun c1 => ?_) (fun c1 => ?_)
 ·refine bind_e (fun v3 e3 => ?_)
  replace e3 := nf_ (ix_en en113 e3)
  refine go 8 ?_
  refine grs ?_
  refine gr_run ?_
  refine bind_e (fun v4 e4 => gr_call [] (spec_l03Rule.con e4) ?_)
  clear e4
  refine gr_run ?_
  refine gr_done ?_
  refine bif_e (fun c2 => ?_) (fun c2 => ?_)
  ·refine bind_e (fun v5 e5 => ?_)
   replace e5 := nf_ (ix_en en113 e5)
   refine bif_e (fun c3 => ?_) (fun c3 => ?_)
   ·refine bif_e (fun c4 => ?_) (fun c4 => ?_)
    ·refine go 1 ?_
     refine grs ?_
     refine gr_run ?_
     refine gr_done ?_
     refine bif_e (fun c5 => ?_) (fun c5 => ?_)
     ·refine go 4 ?_
      exact fun h => good_again hl0 (by omega) ⟨_, ⟨by omega, _, rfl, h⟩, frle_, memle_⟩
     ·refine go 3 ?_
      refine ret_e (fun hr_ => ?_)
      subst hr_
      exact ret_ Try.func93 []
    ·refine go 1 ?_
     refine grs ?_
     refine gr_run ?_
     refine gr_done ?_
     refine go 4 ?_
     exact fun h => good_again hl0 (by omega) ⟨_, ⟨by omega, _, rfl, h⟩, frle_, memle_⟩
   ·refine bif_e (fun c6 => ?_) (fun c6 => ?_)
    ·refine bif_e (fun c7 => ?_) (fun c7 => ?_)
     ·refine go 1 ?_
      refine grs ?_
      refine gr_run ?_
      refine gr_done ?_
      refine bif_e (fun c8 => ?_) (fun c8 => ?_)
      ·refine go 4 ?_
       exact fun h => good_again hl0 (by omega) ⟨_, ⟨by omega, _, rfl, h⟩, frle_, memle_⟩
      ·refine go 3 ?_
       refine ret_e (fun hr_ => ?_)
       subst hr_
       exact ret_ Try.func93 []
     ·refine go 1 ?_
      refine grs ?_
      refine gr_run ?_
      refine gr_done ?_
      refine go 4 ?_
      exact fun h => good_again hl0 (by omega) ⟨_, ⟨by omega, _, rfl, h⟩, frle_, memle_⟩
    ·refine go 1 ?_
     refine grs ?_
     refine gr_run ?_
     refine gr_done ?_
     refine go 3 ?_
     refine ret_e (fun hr_ => ?_)
     subst hr_
     exact ret_ Try.func93 []
  ·refine go 1 ?_
   refine grs ?_
   refine gr_run ?_
   refine gr_done ?_
   refine go 4 ?_
   exact fun h => good_again hl0 (by omega) ⟨_, ⟨by omega, _, rfl, h⟩, frle_, memle_⟩
 ·refine go 7 ?_
  refine ret_e (fun hr_ => ?_)
  subst hr_
  exact ret_ Try.func93 []
mutual
def spec_l03NodeType.l1 : Nat → (List ByteArray) → Int → S33 → S96 → Option (Bool)
 | 0, _, _, _, _ => none
 | k + 1, v11, v12, v0, v1 => (bif decide (v12 < (v11.length : Int)) then ((ix v11 v12).bind fun v13 => ((spec_l03Type.f k v0 v13).bind fun v14 => (bif decide (v14 < 0) then (some false) else (bif decide (v13 = v1.f0) then (spec_l03NodeType.l1 k v11 (IntKind.i64.wrap (v12 + 1)) v0 v1) else ((ix v0.f0 v14).bind fun v16 => ((spec_l03Refines.f k v1.f2 v16.f2).bind fun v17 => (bif v17 then (spec_l03NodeType.l1 k v11 (IntKind.i64.wrap (v12 + 1)) v0 v1) else (some false)))))))) else (some true))
def spec_l03NodeType.l0 : Nat → Int → S33 → S96 → Option (Bool)
 | 0, _, _, _ => none
 | k + 1, v5, v0, v1 => (bif decide (v5 < (v1.f1.length : Int)) then ((ix v1.f1 v5).bind fun v6 => ((spec_l03Type.f k v0 v6).bind fun v7 => (bif decide (v7 < 0) then (some false) else ((spec_l03Line.f k v0 v6).bind fun v9 => ((spec_l01InTexts.f k v9 v1.f0).bind fun v10 => (bif v10 then (some false) else (spec_l03NodeType.l0 k (IntKind.i64.wrap (v5 + 1)) v0 v1))))))) else ((spec_l03Line.f k v0 v1.f0).bind fun v11 => (spec_l03NodeType.l1 k v11 0 v0 v1)))
def spec_l03NodeType.f : Nat → S33 → S96 → Option (Bool)
 | 0, _, _ => none
 | k + 1, v0, v1 => ((spec_l01Name.f k v1.f0).bind fun v2 => (bif v2 then (bif decide (5 < (v1.f1.length : Int)) then (some false) else ((spec_l01Rising.f k v1.f1).bind fun v3 => (bif v3 then ((spec_l03Rules.f k v1.f2).bind fun v4 => (bif v4 then (spec_l03NodeType.l0 k 0 v0 v1) else (some false))) else (some false)))) else (some false)))
end
set_option maxRecDepth 100000 in
set_option maxHeartbeats 4000000 in
theorem spec_l03NodeType.con {K : Kn} [KOk K] {k : Nat} {v0 : S33} {v1 : S96} {r : Bool} (h : spec_l03NodeType.f k v0 v1 = some r) : Con K Try.prog 53 [.agg [.p (.lst false (List.map en96 v0.f0)), .p (.lst false (List.map en99 v0.f1)), .p (.lst false (List.map en92 v0.f2)), .p (.bool v0.f3)], .agg [.p (.str v1.f0), .p (.lst false (List.map srw v1.f1)), .p (.lst false (List.map en113 v1.f2)), .p (.bool v1.f3)]] [] (.p (.bool r)) [] := by
 cases k with
 | zero => exact absurd h (by simp [spec_l03NodeType.f])
 | succ k =>
 rw [spec_l03NodeType.f] at h
 refine con_intro 97 [] Try.func53 (by kernel_rfl) rfl rfl (by kernel_rfl) fun ι0 w0 hk0 => ?_
 revert h
 refine go 4 ?_
 refine grs ?_
 refine gr_run ?_
 refine bind_e (fun v2 e2 => gr_call [] (spec_l01Name.con e2) ?_)
 clear e2
 refine bif_e (fun c1 => ?_) (fun c1 => ?_)
 ·refine bif_e (fun c2 => ?_) (fun c2 => ?_)
  ·refine gr_run ?_
   refine gr_done ?_
   refine go 3 ?_
   refine ret_e (fun hr_ => ?_)
   subst hr_
   exact ret_ Try.func53 []
  ·refine gr_run ?_
   refine bind_e (fun v3 e3 => gr_call [] (spec_l01Rising.con e3) ?_)
   clear e3
   refine bif_e (fun c3 => ?_) (fun c3 => ?_)
   ·refine gr_run ?_
    refine bind_e (fun v4 e4 => gr_call [] (spec_l03Rules.con e4) ?_)
    clear e4
    refine gr_run ?_
    refine gr_done ?_
    refine bif_e (fun c4 => ?_) (fun c4 => ?_)
    ·refine go 6 ?_
     refine fun h => good_loop (fun n st => n ≤ k ∧ ∃ (v5 : _), st = ⟨[(2, .ptr 2 1 0), (3, .ptr 3 1 0), (5, .p (.int .i64 v5))], [(2, (1, .cells [.p (.lst false (List.map en96 v0.f0)), .p (.lst false (List.map en99 v0.f1)), .p (.lst false (List.map en92 v0.f2)), .p (.bool v0.f3)])), (3, (1, .cells [.p (.str v1.f0), .p (.lst false (List.map srw v1.f1)), .p (.lst false (List.map en113 v1.f2)), .p (.bool v1.f3)]))]⟩ ∧ spec_l03NodeType.l0 n v5 v0 v1 = some r) k ⟨_, ⟨Nat.le_refl _, _, rfl, h⟩, frle_, memle_⟩ ?_
     clear c1 c2 c3 c4
     clear h
     rintro n _ ⟨hkl0, v5, rfl, h⟩ hl0
     cases n with
     | zero => exact absurd h (by simp [spec_l03NodeType.l0])
     | succ kl0 =>
     rw [spec_l03NodeType.l0] at h
     revert h
     refine bif_e (fun c5 => ?_) (fun c5 => ?_)
     ·refine bind_e (fun v6 e6 => ?_)
      replace e6 := nf_ (ix_en srw e6)
      refine go 8 ?_
      refine grs ?_
      refine gr_run ?_
      refine bind_e (fun v7 e7 => gr_call [] (spec_l03Type.con e7) ?_)
      clear e7
      refine bif_e (fun c6 => ?_) (fun c6 => ?_)
      ·refine gr_run ?_
       refine gr_done ?_
       refine go 3 ?_
       refine ret_e (fun hr_ => ?_)
       subst hr_
       exact ret_ Try.func53 []
      ·refine gr_run ?_
       refine bind_e (fun v9 e9 => gr_call [] (spec_l03Line.con e9) ?_)
       clear e9
       refine gr_run ?_
       refine bind_e (fun v10 e10 => gr_call [] (spec_l01InTexts.con e10) ?_)
       clear e10
       refine gr_run ?_
       refine gr_done ?_
       refine bif_e (fun c7 => ?_) (fun c7 => ?_)
       ·refine go 3 ?_
        refine ret_e (fun hr_ => ?_)
        subst hr_
        exact ret_ Try.func53 []
       ·refine go 4 ?_
        exact fun h => good_again hl0 (by omega) ⟨_, ⟨by omega, _, rfl, h⟩, frle_, memle_⟩
     ·refine go 6 ?_
      refine grs ?_
      refine gr_run ?_
      refine bind_e (fun v11 e11 => gr_call [] (spec_l03Line.con e11) ?_)
      clear e11
      refine gr_run ?_
      refine gr_done ?_
      refine go 4 ?_
      refine fun h => good_loop (fun n st => n ≤ kl0 ∧ ∃ (v12 : _), st = ⟨[(2, .ptr 2 1 0), (3, .ptr 3 1 0), (6, .p (.lst false (List.map srw v11))), (7, .p (.int .i64 v12))], [(2, (1, .cells [.p (.lst false (List.map en96 v0.f0)), .p (.lst false (List.map en99 v0.f1)), .p (.lst false (List.map en92 v0.f2)), .p (.bool v0.f3)])), (3, (1, .cells [.p (.str v1.f0), .p (.lst false (List.map srw v1.f1)), .p (.lst false (List.map en113 v1.f2)), .p (.bool v1.f3)]))]⟩ ∧ spec_l03NodeType.l1 n v11 v12 v0 v1 = some r) kl0 ⟨_, ⟨Nat.le_refl _, _, rfl, h⟩, frle_, memle_⟩ ?_
      clear c5
      clear h
      rintro n _ ⟨hkl1, v12, rfl, h⟩ hl1
      cases n with
      | zero => exact absurd h (by simp [spec_l03NodeType.l1])
      | succ kl1 =>
      rw [spec_l03NodeType.l1] at h
      revert h
      refine bif_e (fun c8 => ?_) (fun c8 => ?_)
      ·refine bind_e (fun v13 e13 => ?_)
       replace e13 := nf_ (ix_en srw e13)
       refine go 8 ?_
       refine grs ?_
       refine gr_run ?_
       refine bind_e (fun v14 e14 => gr_call [] (spec_l03Type.con e14) ?_)
       clear e14
       refine gr_run ?_
       refine gr_done ?_
       refine bif_e (fun c9 => ?_) (fun c9 => ?_)
       ·refine go 1 ?_
        refine grs ?_
        refine gr_run ?_
        refine gr_done ?_
        refine go 3 ?_
        refine ret_e (fun hr_ => ?_)
        subst hr_
        exact ret_ Try.func53 []
       ·refine bif_e (fun c10 => ?_) (fun c10 => ?_)
        ·refine go 1 ?_
         refine grs ?_
         refine gr_run ?_
         refine gr_done ?_
         refine go 4 ?_
         exact fun h => good_again hl1 (by omega) ⟨_, ⟨by omega, _, rfl, h⟩, frle_, memle_⟩
        ·refine bind_e (fun v16 e16 => ?_)
         replace e16 := nf_ (ix_en en96 e16)
         refine go 1 ?_
         refine grs ?_
         refine gr_run ?_
         refine bind_e (fun v17 e17 => gr_call [] (spec_l03Refines.con e17) ?_)
         clear e17
         refine gr_run ?_
         refine gr_done ?_
         refine bif_e (fun c11 => ?_) (fun c11 => ?_)
         ·refine go 4 ?_
          exact fun h => good_again hl1 (by omega) ⟨_, ⟨by omega, _, rfl, h⟩, frle_, memle_⟩
         ·refine go 3 ?_
          refine ret_e (fun hr_ => ?_)
          subst hr_
          exact ret_ Try.func53 []
      ·refine go 7 ?_
       refine ret_e (fun hr_ => ?_)
       subst hr_
       exact ret_ Try.func53 []
    ·refine go 3 ?_
     refine ret_e (fun hr_ => ?_)
     subst hr_
     exact ret_ Try.func53 []
   ·refine gr_run ?_
    refine gr_done ?_
    refine go 3 ?_
    refine ret_e (fun hr_ => ?_)
    subst hr_
    exact ret_ Try.func53 []
 ·refine gr_run ?_
  refine gr_done ?_
  refine go 3 ?_
  refine ret_e (fun hr_ => ?_)
  subst hr_
  exact ret_ Try.func53 []
def spec_l03EdgeType.f (k : Nat) (v0 : S33) (v1 : S99) : Option (Bool) := ((spec_l01Name.f k v1.f0).bind fun v2 => (bif v2 then ((spec_l03Type.f k v0 v1.f1).bind fun v3 => (bif decide (v3 < 0) then (some false) else ((spec_l03Type.f k v0 v1.f2).bind fun v4 => (bif decide (v4 < 0) then (some false) else ((spec_l03Rules.f k v1.f3).bind fun v5 => (bif v5 then (bif decide (0 ≤ v1.f4) then (bif decide (v1.f4 ≤ 400) then (bif decide (0 ≤ v1.f5) then (bif decide (v1.f5 ≤ 400) then (bif decide (0 ≤ v1.f6) then (bif decide (v1.f6 ≤ 400) then (bif (v1.f4 == 0) then (some true) else (some (decide (v1.f5 ≤ v1.f4)))) else (some false)) else (some false)) else (some false)) else (some false)) else (some false)) else (some false)) else (some false))))))) else (some false)))
set_option maxRecDepth 100000 in
set_option maxHeartbeats 4000000 in
theorem spec_l03EdgeType.con {K : Kn} [KOk K] {k : Nat} {v0 : S33} {v1 : S99} {r : Bool} (h : spec_l03EdgeType.f k v0 v1 = some r) : Con K Try.prog 54 [.agg [.p (.lst false (List.map en96 v0.f0)), .p (.lst false (List.map en99 v0.f1)), .p (.lst false (List.map en92 v0.f2)), .p (.bool v0.f3)], .agg [.p (.str v1.f0), .p (.str v1.f1), .p (.str v1.f2), .p (.lst false (List.map en113 v1.f3)), .p (.int .i64 v1.f4), .p (.int .i64 v1.f5), .p (.int .i64 v1.f6)]] [] (.p (.bool r)) [] := by
 rw [spec_l03EdgeType.f] at h
 refine con_intro 69 [] Try.func54 (by kernel_rfl) rfl rfl (by kernel_rfl) fun ι0 w0 hk0 => ?_
 revert h
 refine go 4 ?_
 refine grs ?_
 refine gr_run ?_
 refine bind_e (fun v2 e2 => gr_call [] (spec_l01Name.con e2) ?_)
 clear e2
 refine bif_e (fun c1 => ?_) (fun c1 => ?_)
 ·refine gr_run ?_
  refine bind_e (fun v3 e3 => gr_call [] (spec_l03Type.con e3) ?_)
  clear e3
  refine bif_e (fun c2 => ?_) (fun c2 => ?_)
  ·refine gr_run ?_
   refine gr_done ?_
   refine go 3 ?_
   refine ret_e (fun hr_ => ?_)
   subst hr_
   exact ret_ Try.func54 []
  ·refine gr_run ?_
   refine bind_e (fun v4 e4 => gr_call [] (spec_l03Type.con e4) ?_)
   clear e4
   refine bif_e (fun c3 => ?_) (fun c3 => ?_)
   ·refine gr_run ?_
    refine gr_done ?_
    refine go 3 ?_
    refine ret_e (fun hr_ => ?_)
    subst hr_
    exact ret_ Try.func54 []
   ·refine gr_run ?_
    refine bind_e (fun v5 e5 => gr_call [] (spec_l03Rules.con e5) ?_)
    clear e5
    refine gr_run ?_
    refine gr_done ?_
    refine bif_e (fun c4 => ?_) (fun c4 => ?_)
    ·refine bif_e (fun c5 => ?_) (fun c5 => ?_)
     ·refine bif_e (fun c6 => ?_) (fun c6 => ?_)
      ·refine bif_e (fun c7 => ?_) (fun c7 => ?_)
       ·refine bif_e (fun c8 => ?_) (fun c8 => ?_)
        ·refine bif_e (fun c9 => ?_) (fun c9 => ?_)
         ·refine bif_e (fun c10 => ?_) (fun c10 => ?_)
          ·refine bif_e (fun c11 => ?_) (fun c11 => ?_)
           ·refine go 4 ?_
            refine ret_e (fun hr_ => ?_)
            subst hr_
            exact ret_ Try.func54 []
           ·refine go 4 ?_
            refine ret_e (fun hr_ => ?_)
            subst hr_
            exact ret_ Try.func54 []
          ·refine go 4 ?_
           refine ret_e (fun hr_ => ?_)
           subst hr_
           exact ret_ Try.func54 []
         ·refine go 4 ?_
          refine ret_e (fun hr_ => ?_)
          subst hr_
          exact ret_ Try.func54 []
        ·refine go 4 ?_
         refine ret_e (fun hr_ => ?_)
         subst hr_
         exact ret_ Try.func54 []
       ·refine go 4 ?_
        refine ret_e (fun hr_ => ?_)
        subst hr_
        exact ret_ Try.func54 []
      ·refine go 4 ?_
       refine ret_e (fun hr_ => ?_)
       subst hr_
       exact ret_ Try.func54 []
     ·refine go 4 ?_
      refine ret_e (fun hr_ => ?_)
      subst hr_
      exact ret_ Try.func54 []
    ·refine go 3 ?_
     refine ret_e (fun hr_ => ?_)
     subst hr_
     exact ret_ Try.func54 []
 ·refine gr_run ?_
  refine gr_done ?_
  refine go 3 ?_
  refine ret_e (fun hr_ => ?_)
  subst hr_
  exact ret_ Try.func54 []
end Go.Ab
