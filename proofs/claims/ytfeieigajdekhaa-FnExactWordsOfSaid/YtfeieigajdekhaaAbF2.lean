/- What the functions compute, and their contracts, part 2. No condition beyond KOk. -/
import Derived.Test.YtfeieigajdekhaaAbX
namespace Go.Ab
open Go.Proofs
set_option linter.unusedVariables false
set_option linter.unusedSimpArgs false
def spec_l01Letter.f (k : Nat) (v0 : Int) : Option (Bool) := (bif decide (97 ≤ v0) then (bif decide (v0 ≤ 122) then (some true) else (bif decide (65 ≤ v0) then (some (decide (v0 ≤ 90))) else (some false))) else (bif decide (65 ≤ v0) then (some (decide (v0 ≤ 90))) else (some false)))
set_option maxRecDepth 100000 in
set_option maxHeartbeats 4000000 in
theorem spec_l01Letter.con {K : Kn} [KOk K] {k : Nat} {v0 : Int} {r : Bool} (h : spec_l01Letter.f k v0 = some r) : Con K Try.prog 48 [.p (.int .u8 v0)] [] (.p (.bool r)) [] := by
 rw [spec_l01Letter.f] at h
 refine con_intro 17 [] Try.func48 (by kernel_rfl) rfl rfl (by kernel_rfl) fun ι0 w0 hk0 => ?_
 revert h
 refine bif_e (fun c1 => ?_) (fun c1 => ?_)
 ·refine bif_e (fun c2 => ?_) (fun c2 => ?_)
  ·refine go 4 ?_
   refine ret_e (fun hr_ => ?_)
   subst hr_
   exact ret_ Try.func48 []
  ·refine bif_e (fun c3 => ?_) (fun c3 => ?_)
   ·refine go 4 ?_
    refine ret_e (fun hr_ => ?_)
    subst hr_
    exact ret_ Try.func48 []
   ·refine go 4 ?_
    refine ret_e (fun hr_ => ?_)
    subst hr_
    exact ret_ Try.func48 []
 ·refine bif_e (fun c4 => ?_) (fun c4 => ?_)
  ·refine go 4 ?_
   refine ret_e (fun hr_ => ?_)
   subst hr_
   exact ret_ Try.func48 []
  ·refine go 4 ?_
   refine ret_e (fun hr_ => ?_)
   subst hr_
   exact ret_ Try.func48 []
def spec_l01Digit.f (k : Nat) (v0 : Int) : Option (Bool) := (bif decide (48 ≤ v0) then (some (decide (v0 ≤ 57))) else (some false))
set_option maxRecDepth 100000 in
set_option maxHeartbeats 4000000 in
theorem spec_l01Digit.con {K : Kn} [KOk K] {k : Nat} {v0 : Int} {r : Bool} (h : spec_l01Digit.f k v0 = some r) : Con K Try.prog 49 [.p (.int .u8 v0)] [] (.p (.bool r)) [] := by
 rw [spec_l01Digit.f] at h
 refine con_intro 9 [] Try.func49 (by kernel_rfl) rfl rfl (by kernel_rfl) fun ι0 w0 hk0 => ?_
 revert h
 refine bif_e (fun c1 => ?_) (fun c1 => ?_)
 ·refine go 4 ?_
  refine ret_e (fun hr_ => ?_)
  subst hr_
  exact ret_ Try.func49 []
 ·refine go 4 ?_
  refine ret_e (fun hr_ => ?_)
  subst hr_
  exact ret_ Try.func49 []
mutual
def spec_l05Runs.j2 : Nat → ByteArray → (List ByteArray) → (List Int) → Int → Int → Option ((List ByteArray))
 | 0, _, _, _, _, _ => none
 | k + 1, v0, v1, v2, v3, v11 => ((app v2 ([v11] : List Int)).bind fun v12 => (spec_l05Runs.l0 k v0 v1 v12 (IntKind.i64.wrap (v3 + 1))))
def spec_l05Runs.j1 : Nat → ByteArray → (List ByteArray) → (List Int) → Int → Int → Option ((List ByteArray))
 | 0, _, _, _, _, _ => none
 | k + 1, v0, v1, v2, v3, v10 => (spec_l05Runs.j2 k v0 v1 v2 v3 v10)
def spec_l05Runs.j0 : Nat → ByteArray → (List ByteArray) → (List Int) → Int → Option ((List ByteArray))
 | 0, _, _, _, _ => none
 | k + 1, v0, v1, v2, v3 => ((bix v0 v3).bind fun v10 => (bif decide (65 ≤ v10) then (bif decide (v10 ≤ 90) then (spec_l05Runs.j2 k v0 v1 v2 v3 (IntKind.u8.wrap (v10 + 32))) else (spec_l05Runs.j1 k v0 v1 v2 v3 v10)) else (spec_l05Runs.j1 k v0 v1 v2 v3 v10)))
def spec_l05Runs.j3 : Nat → ByteArray → (List ByteArray) → (List Int) → Int → Option ((List ByteArray))
 | 0, _, _, _, _ => none
 | k + 1, v0, v1, v2, v3 => (bif decide (0 < (v2.length : Int)) then ((app v1 ([(bstr v2)] : List ByteArray)).bind fun v13 => (spec_l05Runs.l0 k v0 v13 ([] : List Int) (IntKind.i64.wrap (v3 + 1)))) else (spec_l05Runs.l0 k v0 v1 v2 (IntKind.i64.wrap (v3 + 1))))
def spec_l05Runs.l0 : Nat → ByteArray → (List ByteArray) → (List Int) → Int → Option ((List ByteArray))
 | 0, _, _, _, _ => none
 | k + 1, v0, v1, v2, v3 => (bif decide (v3 ≤ (v0.size : Int)) then (bif decide (v3 < (v0.size : Int)) then ((bix v0 v3).bind fun v6 => ((spec_l01Letter.f k v6).bind fun v7 => (bif v7 then (spec_l05Runs.j0 k v0 v1 v2 v3) else ((spec_l01Digit.f k v6).bind fun v9 => (bif v9 then (spec_l05Runs.j0 k v0 v1 v2 v3) else (spec_l05Runs.j3 k v0 v1 v2 v3)))))) else (spec_l05Runs.j3 k v0 v1 v2 v3)) else (some v1))
def spec_l05Runs.f : Nat → ByteArray → Option ((List ByteArray))
 | 0, _ => none
 | k + 1, v0 => (spec_l05Runs.l0 k v0 ([] : List ByteArray) ([] : List Int) 0)
end
set_option maxRecDepth 100000 in
set_option maxHeartbeats 4000000 in
theorem spec_l05Runs.con {K : Kn} [KOk K] {k : Nat} {v0 : ByteArray} {r : (List ByteArray)} (h : spec_l05Runs.f k v0 = some r) : Con K Try.prog 32 [.p (.str v0)] [] (.p (.lst false (List.map srw r))) [] := by
 cases k with
 | zero => exact absurd h (by simp [spec_l05Runs.f])
 | succ k =>
 rw [spec_l05Runs.f] at h
 refine con_intro 56 [] Try.func32 (by kernel_rfl) rfl rfl (by kernel_rfl) fun ι0 w0 hk0 => ?_
 revert h
 refine go 10 ?_
 refine adoptF_ 4 45 1 ?_
 refine adoptF_ 3 53 1 ?_
 refine fun h => good_loop (fun n st => n ≤ k ∧ ∃ (v1 : _) (v2 : _) (v3 : _) (g4 : Nat) (g5 : Nat), st = ⟨[(0, .p (.str v0)), (3, .tip 53 g5 (List.map srw v1)), (4, .tip 45 g4 (List.map (irow .u8) v2)), (5, .p (.int .i64 v3))], [(45, (g4, .tip 1 (v2).length)), (53, (g5, .tip 1 (v1).length))]⟩ ∧ spec_l05Runs.l0 n v0 v1 v2 v3 = some r) k ⟨_, ⟨Nat.le_refl _, _, _, _, 1, 1, rfl, h⟩, frle_, memle_⟩ ?_
 clear h
 rintro n _ ⟨hkl0, v1, v2, v3, g4, g5, rfl, h⟩ hl0
 cases n with
 | zero => exact absurd h (by simp [spec_l05Runs.l0])
 | succ kl0 =>
 rw [spec_l05Runs.l0] at h
 revert h
 refine bif_e (fun c1 => ?_) (fun c1 => ?_)
 ·refine go 9 ?_
  refine good_cut_t (fun st => ∃ (q_ : Nat), q_ ≤ kl0 ∧ st = ⟨[(0, .p (.str v0)), (3, .tip 53 g5 (List.map srw v1)), (4, .tip 45 g4 (List.map (irow .u8) v2)), (5, .p (.int .i64 v3))], [(45, (g4, .tip 1 (v2).length)), (53, (g5, .tip 1 (v1).length))]⟩ ∧ spec_l05Runs.j0 q_ v0 v1 v2 v3 = some r) ?_ (fun hj0 => ?_)
  ·clear c1
   rintro _ ⟨q_, hqj0, rfl, h⟩
   cases q_ with
   | zero => exact absurd h (by simp [spec_l05Runs.j0])
   | succ kj0 =>
   rw [spec_l05Runs.j0] at h
   revert h
   refine bind_e (fun v10 e10 => ?_)
   refine go 3 ?_
   refine good_cut (fun st => ∃ (v11 : _) (q_ : Nat), q_ ≤ kj0 ∧ st = ⟨[(0, .p (.str v0)), (3, .tip 53 g5 (List.map srw v1)), (4, .tip 45 g4 (List.map (irow .u8) v2)), (5, .p (.int .i64 v3)), (6, .p (.int .u8 v11))], [(45, (g4, .tip 1 (v2).length)), (53, (g5, .tip 1 (v1).length))]⟩ ∧ spec_l05Runs.j2 q_ v0 v1 v2 v3 v11 = some r) ?_ (fun hj2 => ?_)
   ·clear e10
    rintro _ ⟨v11, q_, hqj2, rfl, h⟩
    cases q_ with
    | zero => exact absurd h (by simp [spec_l05Runs.j2])
    | succ kj2 =>
    rw [spec_l05Runs.j2] at h
    revert h
    refine bind_e (fun v12 e12 => ?_)
    replace e12 := nf_ (app_en (irow .u8) e12)
    refine go 4 ?_
    exact fun h => good_again hl0 (by omega) ⟨_, ⟨by omega, _, _, _, g4, g5, rfl, h⟩, frle_, memle_⟩
   ·refine go 1 ?_
    refine good_cut_f (fun st => ∃ (q_ : Nat), q_ ≤ kj0 ∧ st = ⟨[(0, .p (.str v0)), (3, .tip 53 g5 (List.map srw v1)), (4, .tip 45 g4 (List.map (irow .u8) v2)), (5, .p (.int .i64 v3)), (6, .p (.int .u8 v10))], [(45, (g4, .tip 1 (v2).length)), (53, (g5, .tip 1 (v1).length))]⟩ ∧ spec_l05Runs.j1 q_ v0 v1 v2 v3 v10 = some r) ?_ (fun hj1 => ?_)
    ·clear e10
     rintro _ ⟨q_, hqj1, rfl, h⟩
     cases q_ with
     | zero => exact absurd h (by simp [spec_l05Runs.j1])
     | succ kj1 =>
     rw [spec_l05Runs.j1] at h
     revert h
     refine go 1 ?_
     exact fun h => good_jump hj2 ⟨_, ⟨_, _, by omega, rfl, h⟩, frle_, memle_⟩
    ·refine bif_e (fun c2 => ?_) (fun c2 => ?_)
     ·refine bif_e (fun c3 => ?_) (fun c3 => ?_)
      ·refine go 3 ?_
       exact fun h => good_jump hj2 ⟨_, ⟨_, _, by omega, rfl, h⟩, frle_, memle_⟩
      ·refine go 2 ?_
       exact fun h => good_jump hj1 ⟨_, ⟨_, by omega, rfl, h⟩, frle_, memle_⟩
     ·refine go 2 ?_
      exact fun h => good_jump hj1 ⟨_, ⟨_, by omega, rfl, h⟩, frle_, memle_⟩
  ·refine good_cut_f (fun st => ∃ (q_ : Nat), q_ ≤ kl0 ∧ st = ⟨[(0, .p (.str v0)), (3, .tip 53 g5 (List.map srw v1)), (4, .tip 45 g4 (List.map (irow .u8) v2)), (5, .p (.int .i64 v3))], [(45, (g4, .tip 1 (v2).length)), (53, (g5, .tip 1 (v1).length))]⟩ ∧ spec_l05Runs.j3 q_ v0 v1 v2 v3 = some r) ?_ (fun hj3 => ?_)
   ·clear c1
    rintro _ ⟨q_, hqj3, rfl, h⟩
    cases q_ with
    | zero => exact absurd h (by simp [spec_l05Runs.j3])
    | succ kj3 =>
    rw [spec_l05Runs.j3] at h
    revert h
    refine bif_e (fun c4 => ?_) (fun c4 => ?_)
    ·refine bind_e (fun v13 e13 => ?_)
     replace e13 := nf_ (app_en srw e13)
     refine go 9 ?_
     refine adoptF_ 4 45 1 ?_
     exact fun h => good_again hl0 (by omega) ⟨_, ⟨by omega, _, _, _, (g4 + 1), g5, rfl, h⟩, frle_, memle_⟩
    ·refine go 7 ?_
     exact fun h => good_again hl0 (by omega) ⟨_, ⟨by omega, _, _, _, g4, g5, rfl, h⟩, frle_, memle_⟩
   ·refine bif_e (fun c5 => ?_) (fun c5 => ?_)
    ·refine bind_e (fun v6 e6 => ?_)
     refine grs ?_
     refine gr_run ?_
     refine bind_e (fun v7 e7 => gr_call [] (spec_l01Letter.con e7) ?_)
     clear e7
     refine bif_e (fun c6 => ?_) (fun c6 => ?_)
     ·refine gr_run ?_
      refine gr_done ?_
      refine go 1 ?_
      exact fun h => good_jump hj0 ⟨_, ⟨_, by omega, rfl, h⟩, frle_, memle_⟩
     ·refine gr_run ?_
      refine bind_e (fun v9 e9 => gr_call [] (spec_l01Digit.con e9) ?_)
      clear e9
      refine gr_run ?_
      refine gr_done ?_
      refine bif_e (fun c7 => ?_) (fun c7 => ?_)
      ·refine go 1 ?_
       exact fun h => good_jump hj0 ⟨_, ⟨_, by omega, rfl, h⟩, frle_, memle_⟩
      ·refine go 1 ?_
       exact fun h => good_jump hj3 ⟨_, ⟨_, by omega, rfl, h⟩, frle_, memle_⟩
    ·refine go 2 ?_
     exact fun h => good_jump hj3 ⟨_, ⟨_, by omega, rfl, h⟩, frle_, memle_⟩
 ·refine go 7 ?_
  refine ret_e (fun hr_ => ?_)
  subst hr_
  exact ret_ Try.func32 []
def spec_l01Texts_O.f (k : Nat) (v0 : (List ByteArray)) : Option ((List ByteArray)) := ((app ([] : List ByteArray) v0).bind fun v1 => (some v1))
set_option maxRecDepth 100000 in
set_option maxHeartbeats 4000000 in
theorem spec_l01Texts_O.con {K : Kn} [KOk K] {k : Nat} {v0 : (List ByteArray)} {r : (List ByteArray)} (h : spec_l01Texts_O.f k v0 = some r) : Con K Try.prog 59 [.p (.lst false (List.map srw v0))] [] (.buf 2000 1 0 r.length) [(2000, (1, .buf 1 (List.map srw r)))] := by
 rw [spec_l01Texts_O.f] at h
 refine con_intro 6 [5] Try.func59 (by kernel_rfl) rfl rfl (by kernel_rfl) fun ι0 w0 hk0 => ?_
 revert h
 refine bind_e (fun v1 e1 => ?_)
 replace e1 := nf_ (app_en srw e1)
 refine go 4 ?_
 refine ret_e (fun hr_ => ?_)
 subst hr_
 exact ret_ Try.func59 [(2000, (1, 5, 1))]
def spec_l01Texts_b.f (k : Nat) (v0 : Nat) (v1 : Nat) (v2 : (List ByteArray)) : Option ((List ByteArray)) := spec_l01Texts_O.f k ((v2.drop v1).take v0)
theorem spec_l01Texts_b.con {K : Kn} [KOk K] {k : Nat} {v0 : Nat} {v1 : Nat} {v2 : (List ByteArray)} {r : (List ByteArray)} (h : spec_l01Texts_b.f k v0 v1 v2 = some r) : Con K Try.prog 59 [.buf 1000 0 v1 v0] [(1000, (0, .buf 1 (List.map srw v2)))] (.p (.lst false (List.map srw r))) [(1000, (0, .buf 1 (List.map srw v2)))] := by
 rw [spec_l01Texts_b.f] at h
 have h1 := spec_l01Texts_O.con (K := K) h
 rw [List.map_take, List.map_drop] at h1
 refine con_lend (r := List.map srw r) (fun row hr c hc => ?_) (by rw [List.length_map]; exact h1)
 obtain ⟨x, _, rfl⟩ := List.mem_map.1 hr
 simp [srw, irow, brw] at hc
 subst hc
 rfl
mutual
def spec_l03Sort_O.j1 : Nat → (List ByteArray) → (List ByteArray) → Int → Int → Option ((List ByteArray))
 | 0, _, _, _, _ => none
 | k + 1, v0, v3, v1, v4 => ((bnd v4 (v3.length : Int) (v3.length : Int)).bind fun v11 => ((spec_l01Texts_b.f k (v3.length - Int.toNat v4) (Int.toNat v4) v3).bind fun v12 => ((bnd 0 v4 (v3.length : Int)).bind fun v13 => ((ix v0 v1).bind fun v14 => ((app (List.take (Int.toNat v4) v3) ([v14] : List ByteArray)).bind fun v15 => ((app v15 v12).bind fun v16 => (spec_l03Sort_O.l0 k v0 v16 (IntKind.i64.wrap (v1 + 1)))))))))
def spec_l03Sort_O.j0 : Nat → (List ByteArray) → (List ByteArray) → Int → Int → Option ((List ByteArray))
 | 0, _, _, _, _ => none
 | k + 1, v0, v3, v1, v4 => (bif decide (0 < v4) then ((inr (IntKind.i64.wrap (v4 - 1)) v3.length).bind fun v8 => ((v3[(Int.toNat (IntKind.i64.wrap (v4 - 1)))]?).bind fun v9 => ((ix v0 v1).bind fun v10 => (bif decide (v9 = v10) then (spec_l03Sort_O.l0 k v0 v3 (IntKind.i64.wrap (v1 + 1))) else (spec_l03Sort_O.j1 k v0 v3 v1 v4))))) else (spec_l03Sort_O.j1 k v0 v3 v1 v4))
def spec_l03Sort_O.l1 : Nat → (List ByteArray) → (List ByteArray) → Int → Int → Option ((List ByteArray))
 | 0, _, _, _, _ => none
 | k + 1, v0, v3, v1, v4 => (bif decide (0 < v4) then ((inr (IntKind.i64.wrap (v4 - 1)) v3.length).bind fun v5 => ((v3[(Int.toNat (IntKind.i64.wrap (v4 - 1)))]?).bind fun v6 => ((ix v0 v1).bind fun v7 => (bif slt v7 v6 then (spec_l03Sort_O.l1 k v0 v3 v1 (IntKind.i64.wrap (v4 - 1))) else (spec_l03Sort_O.j0 k v0 v3 v1 v4))))) else (spec_l03Sort_O.j0 k v0 v3 v1 v4))
def spec_l03Sort_O.l0 : Nat → (List ByteArray) → (List ByteArray) → Int → Option ((List ByteArray))
 | 0, _, _, _ => none
 | k + 1, v0, v3, v1 => (bif decide (v1 < (v0.length : Int)) then (spec_l03Sort_O.l1 k v0 v3 v1 (v3.length : Int)) else (some v3))
def spec_l03Sort_O.f : Nat → (List ByteArray) → Option ((List ByteArray))
 | 0, _ => none
 | k + 1, v0 => (spec_l03Sort_O.l0 k v0 ([] : List ByteArray) 0)
end
set_option maxRecDepth 100000 in
set_option maxHeartbeats 4000000 in
theorem spec_l03Sort_O.con {K : Kn} [KOk K] {k : Nat} {v0 : (List ByteArray)} {r : (List ByteArray)} (h : spec_l03Sort_O.f k v0 = some r) : Con K Try.prog 31 [.p (.lst false (List.map srw v0))] [] (.buf 2000 1 0 r.length) [(2000, (1, .buf 1 (List.map srw r)))] := by
 cases k with
 | zero => exact absurd h (by simp [spec_l03Sort_O.f])
 | succ k =>
 rw [spec_l03Sort_O.f] at h
 refine con_intro 62 [58, 60] Try.func31 (by kernel_rfl) rfl rfl (by kernel_rfl) fun ι0 w0 hk0 => ?_
 revert h
 refine go 8 ?_
 refine adoptB_ 3 2603 1 ?_
 refine fun h => good_loop (fun n st => n ≤ k ∧ ∃ (v1 : _) (v3 : _) (g2 : Nat), st = ⟨[(0, .p (.lst false (List.map srw v0))), (3, .buf 2603 g2 0 v3.length), (4, .p (.int .i64 v1))], [(2603, (g2, .buf 1 (List.map srw v3)))]⟩ ∧ spec_l03Sort_O.l0 n v0 v3 v1 = some r) k ⟨_, ⟨Nat.le_refl _, _, _, 1, rfl, h⟩, frle_, memle_⟩ ?_
 clear h
 rintro n _ ⟨hkl0, v1, v3, g2, rfl, h⟩ hl0
 cases n with
 | zero => exact absurd h (by simp [spec_l03Sort_O.l0])
 | succ kl0 =>
 rw [spec_l03Sort_O.l0] at h
 revert h
 refine bif_e (fun c1 => ?_) (fun c1 => ?_)
 ·refine go 11 ?_
  refine fun h => good_loop (fun n st => n ≤ kl0 ∧ ∃ (v4 : _), st = ⟨[(0, .p (.lst false (List.map srw v0))), (3, .buf 2603 g2 0 v3.length), (4, .p (.int .i64 v1)), (5, .p (.int .i64 v4))], [(2603, (g2, .buf 1 (List.map srw v3)))]⟩ ∧ spec_l03Sort_O.l1 n v0 v3 v1 v4 = some r) kl0 ⟨_, ⟨Nat.le_refl _, _, rfl, h⟩, frle_, memle_⟩ ?_
  clear c1
  clear h
  rintro n _ ⟨hkl1, v4, rfl, h⟩ hl1
  cases n with
  | zero => exact absurd h (by simp [spec_l03Sort_O.l1])
  | succ kl1 =>
  rw [spec_l03Sort_O.l1] at h
  revert h
  refine go 2 ?_
  refine good_cut_f (fun st => ∃ (q_ : Nat), q_ ≤ kl1 ∧ st = ⟨[(0, .p (.lst false (List.map srw v0))), (3, .buf 2603 g2 0 v3.length), (4, .p (.int .i64 v1)), (5, .p (.int .i64 v4))], [(2603, (g2, .buf 1 (List.map srw v3)))]⟩ ∧ spec_l03Sort_O.j0 q_ v0 v3 v1 v4 = some r) ?_ (fun hj0 => ?_)
  ·skip
   rintro _ ⟨q_, hqj0, rfl, h⟩
   cases q_ with
   | zero => exact absurd h (by simp [spec_l03Sort_O.j0])
   | succ kj0 =>
   rw [spec_l03Sort_O.j0] at h
   revert h
   refine go 3 ?_
   refine good_cut_f (fun st => ∃ (q_ : Nat), q_ ≤ kj0 ∧ st = ⟨[(0, .p (.lst false (List.map srw v0))), (3, .buf 2603 g2 0 v3.length), (4, .p (.int .i64 v1)), (5, .p (.int .i64 v4))], [(2603, (g2, .buf 1 (List.map srw v3)))]⟩ ∧ spec_l03Sort_O.j1 q_ v0 v3 v1 v4 = some r) ?_ (fun hj1 => ?_)
   ·skip
    rintro _ ⟨q_, hqj1, rfl, h⟩
    cases q_ with
    | zero => exact absurd h (by simp [spec_l03Sort_O.j1])
    | succ kj1 =>
    rw [spec_l03Sort_O.j1] at h
    revert h
    refine bind_e (fun v11 e11 => ?_)
    refine go 2 ?_
    refine grs ?_
    refine gr_run ?_
    refine bind_e (fun v12 e12 => gr_call [(1000, (0, 2603, g2))] (spec_l01Texts_b.con e12) ?_)
    clear e12
    refine gr_run ?_
    refine gr_done ?_
    refine bind_e (fun v13 e13 => ?_)
    refine bind_e (fun v14 e14 => ?_)
    replace e14 := nf_ (ix_en srw e14)
    refine bind_e (fun v15 e15 => ?_)
    replace e15 := nf_ (app_en srw e15)
    refine bind_e (fun v16 e16 => ?_)
    replace e16 := nf_ (app_en srw e16)
    refine grs ?_
    refine gr_run ?_
    refine gr_done ?_
    refine go 2 ?_
    exact fun h => good_again hl0 (by omega) ⟨_, ⟨by omega, _, _, g2 + 2, rfl, h⟩, frle_, memle_⟩
   ·refine bif_e (fun c2 => ?_) (fun c2 => ?_)
    ·refine bind_e (fun v8 e8 => ?_)
     refine bind_e (fun v9 e9 => ?_)
     replace e9 := nf_ (gx_en srw e9)
     refine bind_e (fun v10 e10 => ?_)
     replace e10 := nf_ (ix_en srw e10)
     refine grs ?_
     refine gr_run ?_
     refine gr_done ?_
     refine bif_e (fun c3 => ?_) (fun c3 => ?_)
     ·refine go 3 ?_
      exact fun h => good_again hl0 (by omega) ⟨_, ⟨by omega, _, _, g2, rfl, h⟩, frle_, memle_⟩
     ·refine go 1 ?_
      exact fun h => good_jump hj1 ⟨_, ⟨_, by omega, rfl, h⟩, frle_, memle_⟩
    ·refine grs ?_
     refine gr_run ?_
     refine gr_done ?_
     refine go 1 ?_
     exact fun h => good_jump hj1 ⟨_, ⟨_, by omega, rfl, h⟩, frle_, memle_⟩
  ·refine bif_e (fun c4 => ?_) (fun c4 => ?_)
   ·refine bind_e (fun v5 e5 => ?_)
    refine bind_e (fun v6 e6 => ?_)
    replace e6 := nf_ (gx_en srw e6)
    refine bind_e (fun v7 e7 => ?_)
    replace e7 := nf_ (ix_en srw e7)
    refine grs ?_
    refine gr_run ?_
    refine gr_done ?_
    refine bif_e (fun c5 => ?_) (fun c5 => ?_)
    ·refine go 5 ?_
     exact fun h => good_again hl1 (by omega) ⟨_, ⟨by omega, _, rfl, h⟩, frle_, memle_⟩
    ·refine go 1 ?_
     exact fun h => good_jump hj0 ⟨_, ⟨_, by omega, rfl, h⟩, frle_, memle_⟩
   ·refine grs ?_
    refine gr_run ?_
    refine gr_done ?_
    refine go 1 ?_
    exact fun h => good_jump hj0 ⟨_, ⟨_, by omega, rfl, h⟩, frle_, memle_⟩
 ·refine go 7 ?_
  refine ret_e (fun hr_ => ?_)
  subst hr_
  exact ret_ Try.func31 [(2000, (1, 2603, g2))]
def spec_WordsOf_O.f (k : Nat) (v0 : ByteArray) : Option ((List ByteArray)) := (bif decide (65536 < (v0.size : Int)) then (some ([] : List ByteArray)) else ((spec_l05Runs.f k v0).bind fun v1 => ((spec_l03Sort_O.f k v1).bind fun v2 => (bif decide (100 < (v2.length : Int)) then ((bnd 0 100 (v2.length : Int)).bind fun v3 => (some (List.take (Int.toNat 100) v2))) else (some v2)))))
set_option maxRecDepth 100000 in
set_option maxHeartbeats 4000000 in
theorem spec_WordsOf_O.con {K : Kn} [KOk K] {k : Nat} {v0 : ByteArray} {r : (List ByteArray)} (h : spec_WordsOf_O.f k v0 = some r) : Con K Try.prog 11 [.p (.str v0)] [] (.buf 2000 1 0 r.length) [(2000, (1, .buf 1 (List.map srw r)))] := by
 rw [spec_WordsOf_O.f] at h
 refine con_intro 17 [] Try.func11 (by kernel_rfl) rfl rfl (by kernel_rfl) fun ι0 w0 hk0 => ?_
 revert h
 refine bif_e (fun c1 => ?_) (fun c1 => ?_)
 ·refine go 8 ?_
  refine adoptB_ 2 2502 1 ?_
  refine ret_e (fun hr_ => ?_)
  subst hr_
  exact ret_ Try.func11 [(2000, (1, 2502, 1))]
 ·refine go 8 ?_
  refine grs ?_
  refine gr_run ?_
  refine bind_e (fun v1 e1 => gr_call [] (spec_l05Runs.con e1) ?_)
  clear e1
  refine bind_e (fun v2 e2 => gr_call [(2000, (1, 10, 1))] (spec_l03Sort_O.con e2) ?_)
  clear e2
  refine gr_run ?_
  refine gr_done ?_
  refine bif_e (fun c2 => ?_) (fun c2 => ?_)
  ·refine bind_e (fun v3 e3 => ?_)
   refine go 7 ?_
   refine moveT_ 2 2602 10 (List.map srw (List.take (Int.toNat 100) v2)) (List.take (Int.toNat 100) v2).length ?_
   refine ret_e (fun hr_ => ?_)
   subst hr_
   exact ret_ Try.func11 [(2000, (1, 2602, 1))]
  ·refine go 7 ?_
   refine ret_e (fun hr_ => ?_)
   subst hr_
   exact ret_ Try.func11 [(2000, (1, 10, 1))]
end Go.Ab
