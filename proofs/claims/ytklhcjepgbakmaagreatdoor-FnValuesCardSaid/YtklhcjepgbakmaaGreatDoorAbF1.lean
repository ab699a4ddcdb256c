/- What the functions compute, and their contracts, part 1. No condition beyond KOk. -/
import Derived.Test.YtklhcjepgbakmaaGreatDoorAbX
namespace Go.Ab
open Go.Proofs
set_option linter.unusedVariables false
set_option linter.unusedSimpArgs false
mutual
def spec_l01Source.j0 : Nat → (List Int) → Int → Option (((List Int) × Int × Int × Int))
 | 0, _, _ => none
 | k + 1, v0, v2 => ((quo .i64 (v0.length : Int) 20).bind fun v4 => (bif decide (12 < v4) then (some (v0, 0, v2, 12)) else (some (v0, 0, v2, v4))))
def spec_l01Source.l0 : Nat → (List Int) → Int → Int → Option (((List Int) × Int × Int × Int))
 | 0, _, _, _ => none
 | k + 1, v0, v1, v2 => (bif decide (v1 < (v0.length : Int)) then (bif decide (v1 < 64) then ((ix v0 v1).bind fun v3 => (spec_l01Source.l0 k v0 (IntKind.i64.wrap (v1 + 1)) (IntKind.u64.wrap ((bxor .u64 v2 (IntKind.u64.wrap v3)) * 1099511628211)))) else (spec_l01Source.j0 k v0 v2)) else (spec_l01Source.j0 k v0 v2))
def spec_l01Source.f : Nat → (List Int) → Option (((List Int) × Int × Int × Int))
 | 0, _ => none
 | k + 1, v0 => (spec_l01Source.l0 k v0 0 88172645463325252)
end
set_option maxRecDepth 100000 in
set_option maxHeartbeats 4000000 in
theorem spec_l01Source.con {K : Kn} [KOk K] {k : Nat} {v0 : (List Int)} {r : ((List Int) × Int × Int × Int)} (h : spec_l01Source.f k v0 = some r) : Con K Tryz.prog 28 [.p (.lst false (List.map (irow .u8) v0))] [] (.ptr 2000 1 0) [(2000, (1, .cells [.p (.lst false (List.map (irow .u8) r.1)), .p (.int .i64 r.2.1), .p (.int .u64 r.2.2.1), .p (.int .i64 r.2.2.2)]))] := by
 cases k with
 | zero => exact absurd h (by simp [spec_l01Source.f])
 | succ k =>
 rw [spec_l01Source.f] at h
 refine con_intro 47 [] Tryz.func28 (by kernel_rfl) rfl rfl (by kernel_rfl) fun ι0 w0 hk0 => ?_
 revert h
 refine go 8 ?_
 refine fun h => good_loop (fun n st => n ≤ k ∧ ∃ (v1 : _) (v2 : _), st = ⟨[(0, .p (.lst false (List.map (irow .u8) v0))), (3, .ptr 7 1 0), (4, .p (.int .i64 v1))], [(7, (1, .cells [.p (.lst false (List.map (irow .u8) v0)), .p (.int .i64 0), .p (.int .u64 v2), .p (.int .i64 0)]))]⟩ ∧ spec_l01Source.l0 n v0 v1 v2 = some r) k ⟨_, ⟨Nat.le_refl _, _, _, rfl, h⟩, frle_, memle_⟩ ?_
 clear h
 rintro n _ ⟨hkl0, v1, v2, rfl, h⟩ hl0
 cases n with
 | zero => exact absurd h (by simp [spec_l01Source.l0])
 | succ kl0 =>
 rw [spec_l01Source.l0] at h
 revert h
 refine go 2 ?_
 refine good_cut_f (fun st => ∃ (q_ : Nat), q_ ≤ kl0 ∧ st = ⟨[(0, .p (.lst false (List.map (irow .u8) v0))), (3, .ptr 7 1 0)], [(7, (1, .cells [.p (.lst false (List.map (irow .u8) v0)), .p (.int .i64 0), .p (.int .u64 v2), .p (.int .i64 0)]))]⟩ ∧ spec_l01Source.j0 q_ v0 v2 = some r) ?_ (fun hj0 => ?_)
 ·skip
  rintro _ ⟨q_, hqj0, rfl, h⟩
  cases q_ with
  | zero => exact absurd h (by simp [spec_l01Source.j0])
  | succ kj0 =>
  rw [spec_l01Source.j0] at h
  revert h
  refine bind_e (fun v4 e4 => ?_)
  refine bif_e (fun c1 => ?_) (fun c1 => ?_)
  ·refine go 10 ?_
   refine ret_e (fun hr_ => ?_)
   subst hr_
   exact ret_ Tryz.func28 [(2000, (1, 7, 1))]
  ·refine go 10 ?_
   refine ret_e (fun hr_ => ?_)
   subst hr_
   exact ret_ Tryz.func28 [(2000, (1, 7, 1))]
 ·refine bif_e (fun c2 => ?_) (fun c2 => ?_)
  ·refine bif_e (fun c3 => ?_) (fun c3 => ?_)
   ·refine bind_e (fun v3 e3 => ?_)
    replace e3 := nf_ (ix_en (irow .u8) e3)
    refine go 5 ?_
    refine grs ?_
    refine gr_run ?_
    refine gr_done ?_
    refine go 2 ?_
    exact fun h => good_again hl0 (by omega) ⟨_, ⟨by omega, _, _, rfl, h⟩, frle_, memle_⟩
   ·refine go 2 ?_
    exact fun h => good_jump hj0 ⟨_, ⟨_, by omega, rfl, h⟩, frle_, memle_⟩
  ·refine go 2 ?_
   exact fun h => good_jump hj0 ⟨_, ⟨_, by omega, rfl, h⟩, frle_, memle_⟩
mutual
def spec_l01Src_n.j0 : Nat → Int → Int → S65 → Int → Option (Int × S65)
 | 0, _, _, _, _ => none
 | k + 1, v0, v3, v1, v4 => ((bshl .u64 v1.f2 13).bind fun v5 => ((bshr .u64 (bxor .u64 v1.f2 v5) 7).bind fun v6 => ((bshl .u64 (bxor .u64 (bxor .u64 v1.f2 v5) v6) 17).bind fun v7 => ((bshr .u64 (bxor .u64 (bxor .u64 (bxor .u64 v1.f2 v5) v6) v7) 20).bind fun v8 => ((rem (IntKind.u64.wrap (v3 + v8)) (IntKind.u64.wrap v0)).bind fun v9 => (some ((IntKind.i64.wrap v9), (⟨v1.f0, v4, (bxor .u64 (bxor .u64 (bxor .u64 v1.f2 v5) v6) v7), v1.f3⟩ : S65))))))))
def spec_l01Src_n.f : Nat → Int → S65 → Option (Int × S65)
 | 0, _, _ => none
 | k + 1, v0, v1 => (bif decide (v0 ≤ 1) then (some (0, v1)) else (bif decide (v1.f1 < (v1.f0.length : Int)) then ((ix v1.f0 v1.f1).bind fun v2 => (spec_l01Src_n.j0 k v0 (IntKind.u64.wrap v2) v1 (IntKind.i64.wrap (v1.f1 + 1)))) else (spec_l01Src_n.j0 k v0 0 v1 v1.f1)))
end
set_option maxRecDepth 100000 in
set_option maxHeartbeats 4000000 in
theorem spec_l01Src_n.con {K : Kn} [KOk K] {k : Nat} {v0 : Int} {v1 : S65} {r : Int × S65} (h : spec_l01Src_n.f k v0 v1 = some r) : Con K Tryz.prog 53 [.ptr 1000 0 0, .p (.int .i64 v0)] [(1000, (0, .cells [.p (.lst false (List.map (irow .u8) v1.f0)), .p (.int .i64 v1.f1), .p (.int .u64 v1.f2), .p (.int .i64 v1.f3)]))] (.p (.int .i64 r.1)) [(1000, (0, .cells [.p (.lst false (List.map (irow .u8) r.2.f0)), .p (.int .i64 r.2.f1), .p (.int .u64 r.2.f2), .p (.int .i64 r.2.f3)]))] := by
 cases k with
 | zero => exact absurd h (by simp [spec_l01Src_n.f])
 | succ k =>
 rw [spec_l01Src_n.f] at h
 refine con_intro 87 [] Tryz.func53 (by kernel_rfl) rfl rfl (by kernel_rfl) fun ι0 w0 hk0 => ?_
 revert h
 refine bif_e (fun c1 => ?_) (fun c1 => ?_)
 ·refine go 8 ?_
  refine ret_e (fun hr_ => ?_)
  subst hr_
  exact ret_ Tryz.func53 [(1000, (0, 1000, 0))]
 ·refine go 10 ?_
  refine good_cut (fun st => ∃ (v3 : _) (v4 : _) (q_ : Nat), q_ ≤ k ∧ st = ⟨[(0, .ptr 1000 0 0), (1, .p (.int .i64 v0)), (5, .p (.int .u64 v3))], [(1000, (0, .cells [.p (.lst false (List.map (irow .u8) v1.f0)), .p (.int .i64 v4), .p (.int .u64 v1.f2), .p (.int .i64 v1.f3)]))]⟩ ∧ spec_l01Src_n.j0 q_ v0 v3 v1 v4 = some r) ?_ (fun hj0 => ?_)
  ·clear c1
   rintro _ ⟨v3, v4, q_, hqj0, rfl, h⟩
   cases q_ with
   | zero => exact absurd h (by simp [spec_l01Src_n.j0])
   | succ kj0 =>
   rw [spec_l01Src_n.j0] at h
   revert h
   refine bind_e (fun v5 e5 => ?_)
   refine go 1 ?_
   refine grs ?_
   refine gr_run ?_
   refine gr_done ?_
   refine bind_e (fun v6 e6 => ?_)
   refine go 1 ?_
   refine grs ?_
   refine gr_run ?_
   refine gr_done ?_
   refine bind_e (fun v7 e7 => ?_)
   refine go 1 ?_
   refine grs ?_
   refine gr_run ?_
   refine gr_done ?_
   refine bind_e (fun v8 e8 => ?_)
   refine bind_e (fun v9 e9 => ?_)
   refine go 2 ?_
   refine ret_e (fun hr_ => ?_)
   subst hr_
   exact ret_ Tryz.func53 [(1000, (0, 1000, 0))]
  ·refine go 1 ?_
   refine grs ?_
   refine gr_run ?_
   refine gr_done ?_
   refine bif_e (fun c2 => ?_) (fun c2 => ?_)
   ·refine bind_e (fun v2 e2 => ?_)
    replace e2 := nf_ (ix_en (irow .u8) e2)
    refine go 2 ?_
    refine grs ?_
    refine gr_run ?_
    refine gr_done ?_
    refine go 1 ?_
    exact fun h => good_jump hj0 ⟨_, ⟨_, _, _, by omega, rfl, h⟩, frle_, memle_⟩
   ·refine go 2 ?_
    exact fun h => good_jump hj0 ⟨_, ⟨_, _, _, by omega, rfl, h⟩, frle_, memle_⟩
def spec_l01Src_one.f (k : Nat) (v0 : Int) (v1 : S65) : Option (Bool × S65) := ((spec_l01Src_n.f k v0 v1).bind fun v2 => (some ((v2.1 == 0), v2.2)))
set_option maxRecDepth 100000 in
set_option maxHeartbeats 4000000 in
theorem spec_l01Src_one.con {K : Kn} [KOk K] {k : Nat} {v0 : Int} {v1 : S65} {r : Bool × S65} (h : spec_l01Src_one.f k v0 v1 = some r) : Con K Tryz.prog 49 [.ptr 1000 0 0, .p (.int .i64 v0)] [(1000, (0, .cells [.p (.lst false (List.map (irow .u8) v1.f0)), .p (.int .i64 v1.f1), .p (.int .u64 v1.f2), .p (.int .i64 v1.f3)]))] (.p (.bool r.1)) [(1000, (0, .cells [.p (.lst false (List.map (irow .u8) r.2.f0)), .p (.int .i64 r.2.f1), .p (.int .u64 r.2.f2), .p (.int .i64 r.2.f3)]))] := by
 rw [spec_l01Src_one.f] at h
 refine con_intro 9 [] Tryz.func49 (by kernel_rfl) rfl rfl (by kernel_rfl) fun ι0 w0 hk0 => ?_
 revert h
 refine go 3 ?_
 refine grs ?_
 refine gr_run ?_
 refine bind_e (fun v2 e2 => gr_call [(1000, (0, 1000, 0))] (spec_l01Src_n.con e2) ?_)
 clear e2
 refine gr_run ?_
 refine gr_done ?_
 refine ret_e (fun hr_ => ?_)
 subst hr_
 exact ret_ Tryz.func49 [(1000, (0, 1000, 0))]
def spec_l01Dec.f : Nat → Int → Option (ByteArray)
 | 0, _ => none
 | k + 1, v0 => (bif decide (v0 < 0) then (bif decide ((-10) < v0) then ((spec_l01Dec.f k (IntKind.i64.wrap (0 - v0))).bind fun v1 => ((cat (⟨#[45]⟩ : ByteArray) v1).bind fun v2 => (some v2))) else ((quo .i64 v0 10).bind fun v3 => ((spec_l01Dec.f k v3).bind fun v4 => ((rem v0 10).bind fun v5 => ((cat v4 (bstr ([(IntKind.u8.wrap (IntKind.i64.wrap (48 - v5)))] : List Int))).bind fun v6 => (some v6)))))) else (bif decide (v0 < 10) then (some (bstr ([(IntKind.u8.wrap (IntKind.i64.wrap (48 + v0)))] : List Int))) else ((quo .i64 v0 10).bind fun v7 => ((spec_l01Dec.f k v7).bind fun v8 => ((rem v0 10).bind fun v9 => ((cat v8 (bstr ([(IntKind.u8.wrap (IntKind.i64.wrap (48 + v9)))] : List Int))).bind fun v10 => (some v10)))))))
def spec_l01Dec.C (K : Kn) (k : Nat) : Prop := ∀ (v0 : Int) (r : ByteArray), spec_l01Dec.f k v0 = some r → Con K Tryz.prog 76 [.p (.int .i64 v0)] [] (.p (.str r)) []
set_option maxRecDepth 100000 in
set_option maxHeartbeats 4000000 in
theorem spec_l01Dec.con1 {K : Kn} [KOk K] (k : Nat) (spec_l01Dec_ih : ∀ m, m < k → spec_l01Dec.C K m) : spec_l01Dec.C K k := by
 intro v0 r h
 cases k with
 | zero => exact absurd h (by simp [spec_l01Dec.f])
 | succ k =>
 rw [spec_l01Dec.f] at h
 refine con_intro 38 [] Tryz.func76 (by kernel_rfl) rfl rfl (by kernel_rfl) fun ι0 w0 hk0 => ?_
 revert h
 refine bif_e (fun c1 => ?_) (fun c1 => ?_)
 ·refine bif_e (fun c2 => ?_) (fun c2 => ?_)
  ·refine go 11 ?_
   refine grs ?_
   refine gr_run ?_
   refine bind_e (fun v1 e1 => gr_call [] (spec_l01Dec_ih _ (by omega) _ _ e1) ?_)
   clear e1
   refine bind_e (fun v2 e2 => ?_)
   refine gr_run ?_
   refine gr_done ?_
   refine ret_e (fun hr_ => ?_)
   subst hr_
   exact ret_ Tryz.func76 []
  ·refine bind_e (fun v3 e3 => ?_)
   refine go 12 ?_
   refine grs ?_
   refine gr_run ?_
   refine bind_e (fun v4 e4 => gr_call [] (spec_l01Dec_ih _ (by omega) _ _ e4) ?_)
   clear e4
   refine bind_e (fun v5 e5 => ?_)
   refine bind_e (fun v6 e6 => ?_)
   refine gr_run ?_
   refine gr_done ?_
   refine ret_e (fun hr_ => ?_)
   subst hr_
   exact ret_ Tryz.func76 []
 ·refine bif_e (fun c3 => ?_) (fun c3 => ?_)
  ·refine go 13 ?_
   refine ret_e (fun hr_ => ?_)
   subst hr_
   exact ret_ Tryz.func76 []
  ·refine bind_e (fun v7 e7 => ?_)
   refine go 13 ?_
   refine grs ?_
   refine gr_run ?_
   refine bind_e (fun v8 e8 => gr_call [] (spec_l01Dec_ih _ (by omega) _ _ e8) ?_)
   clear e8
   refine bind_e (fun v9 e9 => ?_)
   refine bind_e (fun v10 e10 => ?_)
   refine gr_run ?_
   refine gr_done ?_
   refine ret_e (fun hr_ => ?_)
   subst hr_
   exact ret_ Tryz.func76 []
theorem spec_l01Dec.all {K : Kn} [KOk K] (k : Nat) : spec_l01Dec.C K k := by
 induction k using Nat.strongRecOn with
 | _ k ih => exact spec_l01Dec.con1 k ih
theorem spec_l01Dec.con {K : Kn} [KOk K] {k : Nat} {v0 : Int} {r : ByteArray} (h : spec_l01Dec.f k v0 = some r) : Con K Tryz.prog 76 [.p (.int .i64 v0)] [] (.p (.str r)) [] := (spec_l01Dec.all k) _ r h
mutual
def spec_l01Quote.j0 : Nat → ByteArray → (List Int) → Int → Bool → Option (ByteArray)
 | 0, _, _, _, _ => none
 | k + 1, v0, v1, v2, v9 => (bif v9 then ((bix v0 v2).bind fun v10 => ((app v1 ([92, v10] : List Int)).bind fun v11 => (spec_l01Quote.l0 k v0 v11 (IntKind.i64.wrap (v2 + 1))))) else ((bix v0 v2).bind fun v12 => ((app v1 ([v12] : List Int)).bind fun v13 => (spec_l01Quote.l0 k v0 v13 (IntKind.i64.wrap (v2 + 1))))))
def spec_l01Quote.l0 : Nat → ByteArray → (List Int) → Int → Option (ByteArray)
 | 0, _, _, _ => none
 | k + 1, v0, v1, v2 => (bif decide (v2 < (v0.size : Int)) then ((bix v0 v2).bind fun v7 => (bif (v7 == 10) then ((app v1 ([92, 110] : List Int)).bind fun v8 => (spec_l01Quote.l0 k v0 v8 (IntKind.i64.wrap (v2 + 1)))) else (bif (v7 == 34) then (spec_l01Quote.j0 k v0 v1 v2 true) else (spec_l01Quote.j0 k v0 v1 v2 (v7 == 92))))) else ((app v1 ([34] : List Int)).bind fun v6 => (some (bstr v6))))
def spec_l01Quote.f : Nat → ByteArray → Option (ByteArray)
 | 0, _ => none
 | k + 1, v0 => (spec_l01Quote.l0 k v0 ([34] : List Int) 0)
end
set_option maxRecDepth 100000 in
set_option maxHeartbeats 4000000 in
theorem spec_l01Quote.con {K : Kn} [KOk K] {k : Nat} {v0 : ByteArray} {r : ByteArray} (h : spec_l01Quote.f k v0 = some r) : Con K Tryz.prog 62 [.p (.str v0)] [] (.p (.str r)) [] := by
 cases k with
 | zero => exact absurd h (by simp [spec_l01Quote.f])
 | succ k =>
 rw [spec_l01Quote.f] at h
 refine con_intro 39 [] Tryz.func62 (by kernel_rfl) rfl rfl (by kernel_rfl) fun ι0 w0 hk0 => ?_
 revert h
 refine go 8 ?_
 refine adoptF_ 3 20 1 ?_
 refine fun h => good_loop (fun n st => n ≤ k ∧ ∃ (v1 : _) (v2 : _) (g3 : Nat) (g4 : Nat) (g5 : Nat), st = ⟨[(0, .p (.str v0)), (3, .tip 20 g5 (List.map (irow .u8) v1)), (4, .p (.int .i64 v2))], [(25, (g3, .gone)), (34, (g4, .gone)), (20, (g5, .tip 1 (v1).length))]⟩ ∧ spec_l01Quote.l0 n v0 v1 v2 = some r) k ⟨_, ⟨Nat.le_refl _, _, _, 0, 0, 1, rfl, h⟩, frle_, memle_⟩ ?_
 clear h
 rintro n _ ⟨hkl0, v1, v2, g3, g4, g5, rfl, h⟩ hl0
 cases n with
 | zero => exact absurd h (by simp [spec_l01Quote.l0])
 | succ kl0 =>
 rw [spec_l01Quote.l0] at h
 revert h
 refine bif_e (fun c1 => ?_) (fun c1 => ?_)
 ·refine bind_e (fun v7 e7 => ?_)
  refine bif_e (fun c2 => ?_) (fun c2 => ?_)
  ·refine bind_e (fun v8 e8 => ?_)
   replace e8 := nf_ (app_en (irow .u8) e8)
   refine go 17 ?_
   exact fun h => good_again hl0 (by omega) ⟨_, ⟨by omega, _, _, g3, g4, g5, rfl, h⟩, frle_, memle_⟩
  ·refine go 14 ?_
   refine good_cut (fun st => ∃ (v9 : _) (q_ : Nat), q_ ≤ kl0 ∧ st = ⟨[(0, .p (.str v0)), (3, .tip 20 g5 (List.map (irow .u8) v1)), (4, .p (.int .i64 v2)), (26, .p (.bool v9))], [(25, (g3, .gone)), (34, (g4, .gone)), (20, (g5, .tip 1 (v1).length))]⟩ ∧ spec_l01Quote.j0 q_ v0 v1 v2 v9 = some r) ?_ (fun hj0 => ?_)
   ·clear c1 e7 c2
    rintro _ ⟨v9, q_, hqj0, rfl, h⟩
    cases q_ with
    | zero => exact absurd h (by simp [spec_l01Quote.j0])
    | succ kj0 =>
    rw [spec_l01Quote.j0] at h
    revert h
    refine bif_e (fun c3 => ?_) (fun c3 => ?_)
    ·refine bind_e (fun v10 e10 => ?_)
     refine bind_e (fun v11 e11 => ?_)
     replace e11 := nf_ (app_en (irow .u8) e11)
     refine go 5 ?_
     exact fun h => good_again hl0 (by omega) ⟨_, ⟨by omega, _, _, g3, g4, g5, rfl, h⟩, frle_, memle_⟩
    ·refine bind_e (fun v12 e12 => ?_)
     refine bind_e (fun v13 e13 => ?_)
     replace e13 := nf_ (app_en (irow .u8) e13)
     refine go 5 ?_
     exact fun h => good_again hl0 (by omega) ⟨_, ⟨by omega, _, _, g3, g4, g5, rfl, h⟩, frle_, memle_⟩
   ·refine bif_e (fun c4 => ?_) (fun c4 => ?_)
    ·refine go 4 ?_
     exact fun h => good_jump hj0 ⟨_, ⟨_, _, by omega, rfl, h⟩, frle_, memle_⟩
    ·refine go 4 ?_
     exact fun h => good_jump hj0 ⟨_, ⟨_, _, by omega, rfl, h⟩, frle_, memle_⟩
 ·refine bind_e (fun v6 e6 => ?_)
  replace e6 := nf_ (app_en (irow .u8) e6)
  refine go 7 ?_
  refine ret_e (fun hr_ => ?_)
  subst hr_
  exact ret_ Tryz.func62 []
def spec_l01Days.f (k : Nat) (v0 : Int) : Option (Int) := ((quo .i64 (IntKind.i64.wrap (v0 - 1)) 4).bind fun v1 => ((quo .i64 (IntKind.i64.wrap (v0 - 1)) 100).bind fun v2 => ((quo .i64 (IntKind.i64.wrap (v0 - 1)) 400).bind fun v3 => (some (IntKind.i64.wrap ((IntKind.i64.wrap ((IntKind.i64.wrap ((IntKind.i64.wrap ((IntKind.i64.wrap (v0 - 1)) * 365)) + v1)) - v2)) + v3))))))
set_option maxRecDepth 100000 in
set_option maxHeartbeats 4000000 in
theorem spec_l01Days.con {K : Kn} [KOk K] {k : Nat} {v0 : Int} {r : Int} (h : spec_l01Days.f k v0 = some r) : Con K Tryz.prog 78 [.p (.int .i64 v0)] [] (.p (.int .i64 r)) [] := by
 rw [spec_l01Days.f] at h
 refine con_intro 16 [] Tryz.func78 (by kernel_rfl) rfl rfl (by kernel_rfl) fun ι0 w0 hk0 => ?_
 revert h
 refine bind_e (fun v1 e1 => ?_)
 refine bind_e (fun v2 e2 => ?_)
 refine bind_e (fun v3 e3 => ?_)
 refine go 6 ?_
 refine ret_e (fun hr_ => ?_)
 subst hr_
 exact ret_ Tryz.func78 []
def spec_l01Leap.f (k : Nat) (v0 : Int) : Option (Bool) := ((rem v0 4).bind fun v1 => (bif (v1 == 0) then ((rem v0 100).bind fun v2 => (bif (v2 == 0) then ((rem v0 400).bind fun v3 => (some (v3 == 0))) else (some true))) else (some false)))
set_option maxRecDepth 100000 in
set_option maxHeartbeats 4000000 in
theorem spec_l01Leap.con {K : Kn} [KOk K] {k : Nat} {v0 : Int} {r : Bool} (h : spec_l01Leap.f k v0 = some r) : Con K Tryz.prog 129 [.p (.int .i64 v0)] [] (.p (.bool r)) [] := by
 rw [spec_l01Leap.f] at h
 refine con_intro 16 [] Tryz.func129 (by kernel_rfl) rfl rfl (by kernel_rfl) fun ι0 w0 hk0 => ?_
 revert h
 refine bind_e (fun v1 e1 => ?_)
 refine bif_e (fun c1 => ?_) (fun c1 => ?_)
 ·refine bind_e (fun v2 e2 => ?_)
  refine bif_e (fun c2 => ?_) (fun c2 => ?_)
  ·refine bind_e (fun v3 e3 => ?_)
   refine go 4 ?_
   refine ret_e (fun hr_ => ?_)
   subst hr_
   exact ret_ Tryz.func129 []
  ·refine go 4 ?_
   refine ret_e (fun hr_ => ?_)
   subst hr_
   exact ret_ Tryz.func129 []
 ·refine go 4 ?_
  refine ret_e (fun hr_ => ?_)
  subst hr_
  exact ret_ Tryz.func129 []
def spec_l01Month.f (k : Nat) (v0 : Int) (v1 : Int) : Option (Int) := (bif (v1 == 2) then ((spec_l01Leap.f k v0).bind fun v2 => (bif v2 then (some 29) else ((ix ([31, 28, 31, 30, 31, 30, 31, 31, 30, 31, 30, 31] : List Int) (IntKind.i64.wrap (v1 - 1))).bind fun v3 => (some v3)))) else ((ix ([31, 28, 31, 30, 31, 30, 31, 31, 30, 31, 30, 31] : List Int) (IntKind.i64.wrap (v1 - 1))).bind fun v4 => (some v4)))
set_option maxRecDepth 100000 in
set_option maxHeartbeats 4000000 in
theorem spec_l01Month.con {K : Kn} [KOk K] {k : Nat} {v0 : Int} {v1 : Int} {r : Int} (h : spec_l01Month.f k v0 v1 = some r) : Con K Tryz.prog 110 [.p (.int .i64 v0), .p (.int .i64 v1)] [] (.p (.int .i64 r)) [] := by
 rw [spec_l01Month.f] at h
 refine con_intro 16 [] Tryz.func110 (by kernel_rfl) rfl rfl (by kernel_rfl) fun ι0 w0 hk0 => ?_
 revert h
 refine bif_e (fun c1 => ?_) (fun c1 => ?_)
 ·refine go 4 ?_
  refine grs ?_
  refine gr_run ?_
  refine bind_e (fun v2 e2 => gr_call [] (spec_l01Leap.con e2) ?_)
  clear e2
  refine gr_run ?_
  refine gr_done ?_
  refine bif_e (fun c2 => ?_) (fun c2 => ?_)
  ·refine go 3 ?_
   refine ret_e (fun hr_ => ?_)
   subst hr_
   exact ret_ Tryz.func110 []
  ·refine bind_e (fun v3 e3 => ?_)
   replace e3 := nf_ (ix_en (irow .i64) e3)
   refine go 4 ?_
   refine ret_e (fun hr_ => ?_)
   subst hr_
   exact ret_ Tryz.func110 []
 ·refine bind_e (fun v4 e4 => ?_)
  replace e4 := nf_ (ix_en (irow .i64) e4)
  refine go 9 ?_
  refine ret_e (fun hr_ => ?_)
  subst hr_
  exact ret_ Tryz.func110 []
def spec_l01Two.f (k : Nat) (v0 : Int) : Option (ByteArray) := (bif decide (v0 < 10) then ((spec_l01Dec.f k v0).bind fun v1 => ((cat (⟨#[48]⟩ : ByteArray) v1).bind fun v2 => (some v2))) else ((spec_l01Dec.f k v0).bind fun v3 => (some v3)))
set_option maxRecDepth 100000 in
set_option maxHeartbeats 4000000 in
theorem spec_l01Two.con {K : Kn} [KOk K] {k : Nat} {v0 : Int} {r : ByteArray} (h : spec_l01Two.f k v0 = some r) : Con K Tryz.prog 111 [.p (.int .i64 v0)] [] (.p (.str r)) [] := by
 rw [spec_l01Two.f] at h
 refine con_intro 10 [] Tryz.func111 (by kernel_rfl) rfl rfl (by kernel_rfl) fun ι0 w0 hk0 => ?_
 revert h
 refine bif_e (fun c1 => ?_) (fun c1 => ?_)
 ·refine go 7 ?_
  refine grs ?_
  refine gr_run ?_
  refine bind_e (fun v1 e1 => gr_call [] (spec_l01Dec.con e1) ?_)
  clear e1
  refine bind_e (fun v2 e2 => ?_)
  refine gr_run ?_
  refine gr_done ?_
  refine ret_e (fun hr_ => ?_)
  subst hr_
  exact ret_ Tryz.func111 []
 ·refine go 8 ?_
  refine grs ?_
  refine gr_run ?_
  refine bind_e (fun v3 e3 => gr_call [] (spec_l01Dec.con e3) ?_)
  clear e3
  refine gr_run ?_
  refine gr_done ?_
  refine ret_e (fun hr_ => ?_)
  subst hr_
  exact ret_ Tryz.func111 []
mutual
def spec_l01Date.l2 : Nat → Int → Int → ByteArray → Option (ByteArray)
 | 0, _, _, _ => none
 | k + 1, v5, v6, v10 => (bif decide ((v10.size : Int) < 4) then ((cat (⟨#[48]⟩ : ByteArray) v10).bind fun v11 => (spec_l01Date.l2 k v5 v6 v11)) else ((cat (⟨#[64]⟩ : ByteArray) v10).bind fun v12 => ((cat v12 (⟨#[45]⟩ : ByteArray)).bind fun v13 => ((spec_l01Two.f k v6).bind fun v14 => ((cat v13 v14).bind fun v15 => ((cat v15 (⟨#[45]⟩ : ByteArray)).bind fun v16 => ((spec_l01Two.f k (IntKind.i64.wrap (v5 + 1))).bind fun v17 => ((cat v16 v17).bind fun v18 => (some v18)))))))))
def spec_l01Date.l1 : Nat → Int → Int → Int → Option (ByteArray)
 | 0, _, _, _ => none
 | k + 1, v5, v2, v6 => ((spec_l01Month.f k v2 v6).bind fun v7 => (bif decide (v7 ≤ v5) then ((spec_l01Month.f k v2 v6).bind fun v8 => (spec_l01Date.l1 k (IntKind.i64.wrap (v5 - v8)) v2 (IntKind.i64.wrap (v6 + 1)))) else ((spec_l01Dec.f k v2).bind fun v9 => (spec_l01Date.l2 k v5 v6 v9))))
def spec_l01Date.l0 : Nat → Int → Int → Option (ByteArray)
 | 0, _, _ => none
 | k + 1, v0, v2 => ((spec_l01Days.f k (IntKind.i64.wrap (v2 + 1))).bind fun v3 => (bif decide (v3 ≤ v0) then (spec_l01Date.l0 k v0 (IntKind.i64.wrap (v2 + 1))) else ((spec_l01Days.f k v2).bind fun v4 => (spec_l01Date.l1 k (IntKind.i64.wrap (v0 - v4)) v2 1))))
def spec_l01Date.f : Nat → Int → Option (ByteArray)
 | 0, _ => none
 | k + 1, v0 => ((quo .i64 v0 366).bind fun v1 => (spec_l01Date.l0 k v0 (IntKind.i64.wrap (v1 + 1))))
end
set_option maxRecDepth 100000 in
set_option maxHeartbeats 4000000 in
theorem spec_l01Date.con {K : Kn} [KOk K] {k : Nat} {v0 : Int} {r : ByteArray} (h : spec_l01Date.f k v0 = some r) : Con K Tryz.prog 77 [.p (.int .i64 v0)] [] (.p (.str r)) [] := by
 cases k with
 | zero => exact absurd h (by simp [spec_l01Date.f])
 | succ k =>
 rw [spec_l01Date.f] at h
 refine con_intro 50 [] Tryz.func77 (by kernel_rfl) rfl rfl (by kernel_rfl) fun ι0 w0 hk0 => ?_
 revert h
 refine bind_e (fun v1 e1 => ?_)
 refine go 6 ?_
 refine fun h => good_loop (fun n st => n ≤ k ∧ ∃ (v2 : _), st = ⟨[(0, .p (.int .i64 v0)), (3, .p (.int .i64 v2))], []⟩ ∧ spec_l01Date.l0 n v0 v2 = some r) k ⟨_, ⟨Nat.le_refl _, _, rfl, h⟩, frle_, memle_⟩ ?_
 clear e1
 clear h
 rintro n _ ⟨hkl0, v2, rfl, h⟩ hl0
 cases n with
 | zero => exact absurd h (by simp [spec_l01Date.l0])
 | succ kl0 =>
 rw [spec_l01Date.l0] at h
 revert h
 refine go 2 ?_
 refine grs ?_
 refine gr_run ?_
 refine bind_e (fun v3 e3 => gr_call [] (spec_l01Days.con e3) ?_)
 clear e3
 refine gr_run ?_
 refine gr_done ?_
 refine bif_e (fun c1 => ?_) (fun c1 => ?_)
 ·refine go 5 ?_
  exact fun h => good_again hl0 (by omega) ⟨_, ⟨by omega, _, rfl, h⟩, frle_, memle_⟩
 ·refine go 3 ?_
  refine grs ?_
  refine gr_run ?_
  refine bind_e (fun v4 e4 => gr_call [] (spec_l01Days.con e4) ?_)
  clear e4
  refine gr_run ?_
  refine gr_done ?_
  refine go 4 ?_
  refine fun h => good_loop (fun n st => n ≤ kl0 ∧ ∃ (v5 : _) (v6 : _), st = ⟨[(0, .p (.int .i64 v5)), (3, .p (.int .i64 v2)), (4, .p (.int .i64 v6))], []⟩ ∧ spec_l01Date.l1 n v5 v2 v6 = some r) kl0 ⟨_, ⟨Nat.le_refl _, _, _, rfl, h⟩, frle_, memle_⟩ ?_
  clear c1
  clear h
  rintro n _ ⟨hkl1, v5, v6, rfl, h⟩ hl1
  cases n with
  | zero => exact absurd h (by simp [spec_l01Date.l1])
  | succ kl1 =>
  rw [spec_l01Date.l1] at h
  revert h
  refine go 2 ?_
  refine grs ?_
  refine gr_run ?_
  refine bind_e (fun v7 e7 => gr_call [] (spec_l01Month.con e7) ?_)
  clear e7
  refine gr_run ?_
  refine gr_done ?_
  refine bif_e (fun c2 => ?_) (fun c2 => ?_)
  ·refine go 4 ?_
   refine grs ?_
   refine gr_run ?_
   refine bind_e (fun v8 e8 => gr_call [] (spec_l01Month.con e8) ?_)
   clear e8
   refine gr_run ?_
   refine gr_done ?_
   refine go 2 ?_
   exact fun h => good_again hl1 (by omega) ⟨_, ⟨by omega, _, _, rfl, h⟩, frle_, memle_⟩
  ·refine go 3 ?_
   refine grs ?_
   refine gr_run ?_
   refine bind_e (fun v9 e9 => gr_call [] (spec_l01Dec.con e9) ?_)
   clear e9
   refine gr_run ?_
   refine gr_done ?_
   refine go 2 ?_
   refine fun h => good_loop (fun n st => n ≤ kl1 ∧ ∃ (v10 : _), st = ⟨[(0, .p (.int .i64 v5)), (4, .p (.int .i64 v6)), (5, .p (.str v10))], []⟩ ∧ spec_l01Date.l2 n v5 v6 v10 = some r) kl1 ⟨_, ⟨Nat.le_refl _, _, rfl, h⟩, frle_, memle_⟩ ?_
   clear c2
   clear h
   rintro n _ ⟨hkl2, v10, rfl, h⟩ hl2
   cases n with
   | zero => exact absurd h (by simp [spec_l01Date.l2])
   | succ kl2 =>
   rw [spec_l01Date.l2] at h
   revert h
   refine bif_e (fun c3 => ?_) (fun c3 => ?_)
   ·refine bind_e (fun v11 e11 => ?_)
    refine go 8 ?_
    exact fun h => good_again hl2 (by omega) ⟨_, ⟨by omega, _, rfl, h⟩, frle_, memle_⟩
   ·refine bind_e (fun v12 e12 => ?_)
    refine bind_e (fun v13 e13 => ?_)
    refine go 6 ?_
    refine grs ?_
    refine gr_run ?_
    refine bind_e (fun v14 e14 => gr_call [] (spec_l01Two.con e14) ?_)
    clear e14
    refine bind_e (fun v15 e15 => ?_)
    refine bind_e (fun v16 e16 => ?_)
    refine gr_run ?_
    refine bind_e (fun v17 e17 => gr_call [] (spec_l01Two.con e17) ?_)
    clear e17
    refine bind_e (fun v18 e18 => ?_)
    refine gr_run ?_
    refine gr_done ?_
    refine ret_e (fun hr_ => ?_)
    subst hr_
    exact ret_ Tryz.func77 []
mutual
def spec_l01Src_scalar.j1 : Nat → (Int × S65) → Bool → Option (ByteArray × S65)
 | 0, _, _ => none
 | k + 1, v1, v11 => (bif v11 then ((spec_l01Src_n.f k 10 v1.2).bind fun v12 => ((ix ([(⟨#[97]⟩ : ByteArray), (⟨#[98]⟩ : ByteArray), (⟨#[97, 98]⟩ : ByteArray), (⟨#[]⟩ : ByteArray), (⟨#[97, 32, 98]⟩ : ByteArray), (⟨#[120, 34, 121]⟩ : ByteArray), (⟨#[92]⟩ : ByteArray), (⟨#[122, 10]⟩ : ByteArray), (⟨#[195, 169]⟩ : ByteArray), (⟨#[97, 98, 99, 32, 100, 101, 102, 32, 97, 98]⟩ : ByteArray)] : List ByteArray) v12.1).bind fun v13 => ((spec_l01Quote.f k v13).bind fun v14 => (some (v14, v12.2))))) else (bif (v1.1 == 6) then ((spec_l01Src_n.f k 800 v1.2).bind fun v15 => ((spec_l01Days.f k 10000).bind fun v16 => ((spec_l01Src_n.f k 6 v15.2).bind fun v17 => ((ix ([0, 59, 36523, (IntKind.i64.wrap (730484 + v15.1)), 146096, (IntKind.i64.wrap (v16 - 1))] : List Int) v17.1).bind fun v18 => ((spec_l01Date.f k v18).bind fun v19 => (some (v19, v17.2))))))) else (bif (v1.1 == 7) then ((spec_l01Src_n.f k 9 v1.2).bind fun v20 => ((spec_l01Dec.f k (IntKind.i64.wrap (v20.1 - 4))).bind fun v21 => ((cat (⟨#[40]⟩ : ByteArray) v21).bind fun v22 => ((cat v22 (⟨#[32]⟩ : ByteArray)).bind fun v23 => ((spec_l01Src_n.f k 9 v20.2).bind fun v24 => ((spec_l01Dec.f k (IntKind.i64.wrap (v24.1 - 4))).bind fun v25 => ((cat v23 v25).bind fun v26 => ((cat v26 (⟨#[41]⟩ : ByteArray)).bind fun v27 => (some (v27, v24.2)))))))))) else ((spec_l01Src_n.f k 8 v1.2).bind fun v28 => ((ix ([(⟨#[110, 49]⟩ : ByteArray), (⟨#[110, 50]⟩ : ByteArray), (⟨#[110, 49, 50]⟩ : ByteArray), (⟨#[101, 49]⟩ : ByteArray), (⟨#[101, 51]⟩ : ByteArray), (⟨#[60, 110, 49, 62]⟩ : ByteArray), (⟨#[60, 110, 49, 32, 101, 50, 32, 110, 51, 62]⟩ : ByteArray), (⟨#[60, 110, 49, 32, 101, 50, 32, 110, 51, 32, 101, 50, 32, 110, 49, 62]⟩ : ByteArray)] : List ByteArray) v28.1).bind fun v29 => (some (v29, v28.2)))))))
def spec_l01Src_scalar.j0 : Nat → (Int × S65) → Bool → Option (ByteArray × S65)
 | 0, _, _ => none
 | k + 1, v1, v4 => (bif v4 then ((spec_l01Src_n.f k 5 v1.2).bind fun v5 => ((spec_l01Src_n.f k 5 v5.2).bind fun v6 => ((spec_l01Src_n.f k 100 v6.2).bind fun v7 => ((spec_l01Src_n.f k 6 v7.2).bind fun v8 => ((ix ([v5.1, v6.1, (IntKind.i64.wrap (v7.1 - 50)), 9223372036854775807, (-9223372036854775808), 1099511627776] : List Int) v8.1).bind fun v9 => ((spec_l01Dec.f k v9).bind fun v10 => (some (v10, v8.2)))))))) else (bif (v1.1 == 4) then (spec_l01Src_scalar.j1 k v1 true) else (spec_l01Src_scalar.j1 k v1 (v1.1 == 5))))
def spec_l01Src_scalar.f : Nat → S65 → Option (ByteArray × S65)
 | 0, _ => none
 | k + 1, v0 => ((spec_l01Src_n.f k 9 v0).bind fun v1 => (bif (v1.1 == 0) then (some ((⟨#[110, 117, 108, 108]⟩ : ByteArray), v1.2)) else (bif (v1.1 == 1) then ((spec_l01Src_n.f k 2 v1.2).bind fun v2 => ((ix ([(⟨#[116, 114, 117, 101]⟩ : ByteArray), (⟨#[102, 97, 108, 115, 101]⟩ : ByteArray)] : List ByteArray) v2.1).bind fun v3 => (some (v3, v2.2)))) else (bif (v1.1 == 2) then (spec_l01Src_scalar.j0 k v1 true) else (spec_l01Src_scalar.j0 k v1 (v1.1 == 3))))))
end
set_option maxRecDepth 100000 in
set_option maxHeartbeats 4000000 in
theorem spec_l01Src_scalar.con {K : Kn} [KOk K] {k : Nat} {v0 : S65} {r : ByteArray × S65} (h : spec_l01Src_scalar.f k v0 = some r) : Con K Tryz.prog 51 [.ptr 1000 0 0] [(1000, (0, .cells [.p (.lst false (List.map (irow .u8) v0.f0)), .p (.int .i64 v0.f1), .p (.int .u64 v0.f2), .p (.int .i64 v0.f3)]))] (.p (.str r.1)) [(1000, (0, .cells [.p (.lst false (List.map (irow .u8) r.2.f0)), .p (.int .i64 r.2.f1), .p (.int .u64 r.2.f2), .p (.int .i64 r.2.f3)]))] := by
 cases k with
 | zero => exact absurd h (by simp [spec_l01Src_scalar.f])
 | succ k =>
 rw [spec_l01Src_scalar.f] at h
 refine con_intro 71 [] Tryz.func51 (by kernel_rfl) rfl rfl (by kernel_rfl) fun ι0 w0 hk0 => ?_
 revert h
 refine go 4 ?_
 refine grs ?_
 refine gr_run ?_
 refine bind_e (fun v1 e1 => gr_call [(1000, (0, 1000, 0))] (spec_l01Src_n.con e1) ?_)
 clear e1
 refine gr_done ?_
 refine bif_e (fun c1 => ?_) (fun c1 => ?_)
 ·refine go 6 ?_
  refine ret_e (fun hr_ => ?_)
  subst hr_
  exact ret_ Tryz.func51 [(1000, (0, 1000, 0))]
 ·refine bif_e (fun c2 => ?_) (fun c2 => ?_)
  ·refine go 8 ?_
   refine grs ?_
   refine gr_run ?_
   refine bind_e (fun v2 e2 => gr_call [(1000, (0, 1000, 0))] (spec_l01Src_n.con e2) ?_)
   clear e2
   refine bind_e (fun v3 e3 => ?_)
   replace e3 := nf_ (ix_en srw e3)
   refine gr_run ?_
   refine gr_done ?_
   refine ret_e (fun hr_ => ?_)
   subst hr_
   exact ret_ Tryz.func51 [(1000, (0, 1000, 0))]
  ·refine go 8 ?_
   refine good_cut (fun st => ∃ (v4 : _) (q_ : Nat), q_ ≤ k ∧ st = ⟨[(0, .ptr 1000 0 0), (4, .p (.int .i64 v1.1)), (14, .p (.bool v4))], [(1000, (0, .cells [.p (.lst false (List.map (irow .u8) v1.2.f0)), .p (.int .i64 v1.2.f1), .p (.int .u64 v1.2.f2), .p (.int .i64 v1.2.f3)]))]⟩ ∧ spec_l01Src_scalar.j0 q_ v1 v4 = some r) ?_ (fun hj0 => ?_)
   ·clear c1 c2
    rintro _ ⟨v4, q_, hqj0, rfl, h⟩
    cases q_ with
    | zero => exact absurd h (by simp [spec_l01Src_scalar.j0])
    | succ kj0 =>
    rw [spec_l01Src_scalar.j0] at h
    revert h
    refine bif_e (fun c3 => ?_) (fun c3 => ?_)
    ·refine go 2 ?_
     refine grs ?_
     refine gr_run ?_
     refine bind_e (fun v5 e5 => gr_call [(1000, (0, 1000, 0))] (spec_l01Src_n.con e5) ?_)
     clear e5
     refine gr_run ?_
     refine bind_e (fun v6 e6 => gr_call [(1000, (0, 1000, 0))] (spec_l01Src_n.con e6) ?_)
     clear e6
     refine gr_run ?_
     refine bind_e (fun v7 e7 => gr_call [(1000, (0, 1000, 0))] (spec_l01Src_n.con e7) ?_)
     clear e7
     refine gr_run ?_
     refine bind_e (fun v8 e8 => gr_call [(1000, (0, 1000, 0))] (spec_l01Src_n.con e8) ?_)
     clear e8
     refine bind_e (fun v9 e9 => ?_)
     replace e9 := nf_ (ix_en (irow .i64) e9)
     refine gr_run ?_
     refine bind_e (fun v10 e10 => gr_call [] (spec_l01Dec.con e10) ?_)
     clear e10
     refine gr_run ?_
     refine gr_done ?_
     refine ret_e (fun hr_ => ?_)
     subst hr_
     exact ret_ Tryz.func51 [(1000, (0, 1000, 0))]
    ·refine go 2 ?_
     refine good_cut (fun st => ∃ (v11 : _) (q_ : Nat), q_ ≤ kj0 ∧ st = ⟨[(0, .ptr 1000 0 0), (4, .p (.int .i64 v1.1)), (30, .p (.bool v11))], [(1000, (0, .cells [.p (.lst false (List.map (irow .u8) v1.2.f0)), .p (.int .i64 v1.2.f1), .p (.int .u64 v1.2.f2), .p (.int .i64 v1.2.f3)]))]⟩ ∧ spec_l01Src_scalar.j1 q_ v1 v11 = some r) ?_ (fun hj1 => ?_)
     ·clear c3
      rintro _ ⟨v11, q_, hqj1, rfl, h⟩
      cases q_ with
      | zero => exact absurd h (by simp [spec_l01Src_scalar.j1])
      | succ kj1 =>
      rw [spec_l01Src_scalar.j1] at h
      revert h
      refine bif_e (fun c4 => ?_) (fun c4 => ?_)
      ·refine go 2 ?_
       refine grs ?_
       refine gr_run ?_
       refine bind_e (fun v12 e12 => gr_call [(1000, (0, 1000, 0))] (spec_l01Src_n.con e12) ?_)
       clear e12
       refine bind_e (fun v13 e13 => ?_)
       replace e13 := nf_ (ix_en srw e13)
       refine gr_run ?_
       refine bind_e (fun v14 e14 => gr_call [] (spec_l01Quote.con e14) ?_)
       clear e14
       refine gr_run ?_
       refine gr_done ?_
       refine ret_e (fun hr_ => ?_)
       subst hr_
       exact ret_ Tryz.func51 [(1000, (0, 1000, 0))]
      ·refine bif_e (fun c5 => ?_) (fun c5 => ?_)
       ·refine go 5 ?_
        refine grs ?_
        refine gr_run ?_
        refine bind_e (fun v15 e15 => gr_call [(1000, (0, 1000, 0))] (spec_l01Src_n.con e15) ?_)
        clear e15
        refine gr_run ?_
        refine bind_e (fun v16 e16 => gr_call [] (spec_l01Days.con e16) ?_)
        clear e16
        refine gr_run ?_
        refine bind_e (fun v17 e17 => gr_call [(1000, (0, 1000, 0))] (spec_l01Src_n.con e17) ?_)
        clear e17
        refine bind_e (fun v18 e18 => ?_)
        replace e18 := nf_ (ix_en (irow .i64) e18)
        refine gr_run ?_
        refine bind_e (fun v19 e19 => gr_call [] (spec_l01Date.con e19) ?_)
        clear e19
        refine gr_run ?_
        refine gr_done ?_
        refine ret_e (fun hr_ => ?_)
        subst hr_
        exact ret_ Tryz.func51 [(1000, (0, 1000, 0))]
       ·refine bif_e (fun c6 => ?_) (fun c6 => ?_)
        ·refine go 8 ?_
         refine grs ?_
         refine gr_run ?_
         refine bind_e (fun v20 e20 => gr_call [(1000, (0, 1000, 0))] (spec_l01Src_n.con e20) ?_)
         clear e20
         refine gr_run ?_
         refine bind_e (fun v21 e21 => gr_call [] (spec_l01Dec.con e21) ?_)
         clear e21
         refine bind_e (fun v22 e22 => ?_)
         refine bind_e (fun v23 e23 => ?_)
         refine gr_run ?_
         refine bind_e (fun v24 e24 => gr_call [(1000, (0, 1000, 0))] (spec_l01Src_n.con e24) ?_)
         clear e24
         refine gr_run ?_
         refine bind_e (fun v25 e25 => gr_call [] (spec_l01Dec.con e25) ?_)
         clear e25
         refine bind_e (fun v26 e26 => ?_)
         refine bind_e (fun v27 e27 => ?_)
         refine gr_run ?_
         refine gr_done ?_
         refine ret_e (fun hr_ => ?_)
         subst hr_
         exact ret_ Tryz.func51 [(1000, (0, 1000, 0))]
        ·refine go 10 ?_
         refine grs ?_
         refine gr_run ?_
         refine bind_e (fun v28 e28 => gr_call [(1000, (0, 1000, 0))] (spec_l01Src_n.con e28) ?_)
         clear e28
         refine bind_e (fun v29 e29 => ?_)
         replace e29 := nf_ (ix_en srw e29)
         refine gr_run ?_
         refine gr_done ?_
         refine ret_e (fun hr_ => ?_)
         subst hr_
         exact ret_ Tryz.func51 [(1000, (0, 1000, 0))]
     ·refine bif_e (fun c7 => ?_) (fun c7 => ?_)
      ·refine go 4 ?_
       exact fun h => good_jump hj1 ⟨_, ⟨_, _, by omega, rfl, h⟩, frle_, memle_⟩
      ·refine go 4 ?_
       exact fun h => good_jump hj1 ⟨_, ⟨_, _, by omega, rfl, h⟩, frle_, memle_⟩
   ·refine bif_e (fun c8 => ?_) (fun c8 => ?_)
    ·refine go 4 ?_
     exact fun h => good_jump hj0 ⟨_, ⟨_, _, by omega, rfl, h⟩, frle_, memle_⟩
    ·refine go 4 ?_
     exact fun h => good_jump hj0 ⟨_, ⟨_, _, by omega, rfl, h⟩, frle_, memle_⟩
def spec_l01Reader_fail.f (k : Nat) (v0 : S70) : Option (S42 × S70) := (some ((⟨(-1), 0, 0, (⟨#[]⟩ : ByteArray), ([] : (List S42)), ([] : (List ByteArray))⟩ : S42), (⟨v0.f0, v0.f1, true⟩ : S70)))
set_option maxRecDepth 100000 in
set_option maxHeartbeats 4000000 in
theorem spec_l01Reader_fail.con {K : Kn} [KOk K] {k : Nat} {v0 : S70} {r : S42 × S70} (h : spec_l01Reader_fail.f k v0 = some r) : Con K Tryz.prog 81 [.ptr 1000 0 0] [(1000, (0, .cells [.p (.str v0.f0), .p (.int .i64 v0.f1), .p (.bool v0.f2)]))] (.agg [.p (.int .i64 r.1.f0), .p (.int .i64 r.1.f1), .p (.int .i64 r.1.f2), .p (.str r.1.f3), .p (.lst false (List.map en42 r.1.f4)), .p (.lst false (List.map srw r.1.f5))]) [(1000, (0, .cells [.p (.str r.2.f0), .p (.int .i64 r.2.f1), .p (.bool r.2.f2)]))] := by
 rw [spec_l01Reader_fail.f] at h
 refine con_intro 7 [] Tryz.func81 (by kernel_rfl) rfl rfl (by kernel_rfl) fun ι0 w0 hk0 => ?_
 revert h
 refine go 6 ?_
 refine ret_e (fun hr_ => ?_)
 subst hr_
 exact ret_ Tryz.func81 [(1000, (0, 1000, 0))]
def spec_l01Begins.f (k : Nat) (v0 : ByteArray) (v1 : ByteArray) : Option (Bool) := (bif decide ((v1.size : Int) ≤ (v0.size : Int)) then ((sub v0 0 (v1.size : Int)).bind fun v2 => (some (decide (v2 = v1)))) else (some false))
set_option maxRecDepth 100000 in
set_option maxHeartbeats 4000000 in
theorem spec_l01Begins.con {K : Kn} [KOk K] {k : Nat} {v0 : ByteArray} {v1 : ByteArray} {r : Bool} (h : spec_l01Begins.f k v0 v1 = some r) : Con K Tryz.prog 114 [.p (.str v0), .p (.str v1)] [] (.p (.bool r)) [] := by
 rw [spec_l01Begins.f] at h
 refine con_intro 18 [] Tryz.func114 (by kernel_rfl) rfl rfl (by kernel_rfl) fun ι0 w0 hk0 => ?_
 revert h
 refine bif_e (fun c1 => ?_) (fun c1 => ?_)
 ·refine bind_e (fun v2 e2 => ?_)
  refine go 4 ?_
  refine ret_e (fun hr_ => ?_)
  subst hr_
  exact ret_ Tryz.func114 []
 ·refine go 4 ?_
  refine ret_e (fun hr_ => ?_)
  subst hr_
  exact ret_ Tryz.func114 []
def spec_l01Reader_takes.f (k : Nat) (v0 : ByteArray) (v1 : S70) : Option (Bool × S70) := (bif v1.f2 then (some (false, v1)) else ((sub v1.f0 v1.f1 (v1.f0.size : Int)).bind fun v2 => ((spec_l01Begins.f k v2 v0).bind fun v3 => (bif v3 then (some (true, (⟨v1.f0, (IntKind.i64.wrap (v1.f1 + (v0.size : Int))), v1.f2⟩ : S70))) else (some (false, v1))))))
set_option maxRecDepth 100000 in
set_option maxHeartbeats 4000000 in
theorem spec_l01Reader_takes.con {K : Kn} [KOk K] {k : Nat} {v0 : ByteArray} {v1 : S70} {r : Bool × S70} (h : spec_l01Reader_takes.f k v0 v1 = some r) : Con K Tryz.prog 82 [.ptr 1000 0 0, .p (.str v0)] [(1000, (0, .cells [.p (.str v1.f0), .p (.int .i64 v1.f1), .p (.bool v1.f2)]))] (.p (.bool r.1)) [(1000, (0, .cells [.p (.str r.2.f0), .p (.int .i64 r.2.f1), .p (.bool r.2.f2)]))] := by
 rw [spec_l01Reader_takes.f] at h
 refine con_intro 33 [] Tryz.func82 (by kernel_rfl) rfl rfl (by kernel_rfl) fun ι0 w0 hk0 => ?_
 revert h
 refine bif_e (fun c1 => ?_) (fun c1 => ?_)
 ·refine go 4 ?_
  refine grs ?_
  refine gr_run ?_
  refine gr_done ?_
  refine go 4 ?_
  refine ret_e (fun hr_ => ?_)
  subst hr_
  exact ret_ Tryz.func82 [(1000, (0, 1000, 0))]
 ·refine bind_e (fun v2 e2 => ?_)
  refine go 4 ?_
  refine grs ?_
  refine gr_run ?_
  refine bind_e (fun v3 e3 => gr_call [] (spec_l01Begins.con e3) ?_)
  clear e3
  refine gr_run ?_
  refine gr_done ?_
  refine bif_e (fun c2 => ?_) (fun c2 => ?_)
  ·refine go 5 ?_
   refine ret_e (fun hr_ => ?_)
   subst hr_
   exact ret_ Tryz.func82 [(1000, (0, 1000, 0))]
  ·refine go 4 ?_
   refine ret_e (fun hr_ => ?_)
   subst hr_
   exact ret_ Tryz.func82 [(1000, (0, 1000, 0))]
mutual
def spec_l01Reader_quoted.j1 : Nat → (List Int) → Int → S70 → Int → Option (ByteArray × S70)
 | 0, _, _, _, _ => none
 | k + 1, v1, v9, v0, v2 => ((app v1 ([v9] : List Int)).bind fun v10 => (spec_l01Reader_quoted.l0 k v10 v0 (IntKind.i64.wrap ((IntKind.i64.wrap (v2 + 1)) + 1))))
def spec_l01Reader_quoted.j0 : Nat → (List Int) → S70 → Int → Option (ByteArray × S70)
 | 0, _, _, _ => none
 | k + 1, v1, v0, v2 => ((bix v0.f0 (IntKind.i64.wrap (v2 + 1))).bind fun v8 => (bif (v8 == 110) then (spec_l01Reader_quoted.j1 k v1 10 v0 v2) else (spec_l01Reader_quoted.j1 k v1 v8 v0 v2)))
def spec_l01Reader_quoted.l0 : Nat → (List Int) → S70 → Int → Option (ByteArray × S70)
 | 0, _, _, _ => none
 | k + 1, v1, v0, v2 => (bif decide (v2 < (v0.f0.size : Int)) then ((bix v0.f0 v2).bind fun v4 => (bif (v4 == 34) then (some ((bstr v1), (⟨v0.f0, (IntKind.i64.wrap (v2 + 1)), v0.f2⟩ : S70))) else (bif decide (v4 < 32) then (some ((⟨#[]⟩ : ByteArray), (⟨v0.f0, (IntKind.i64.wrap (v2 + 1)), true⟩ : S70))) else (bif (v4 == 92) then (bif decide ((v0.f0.size : Int) ≤ (IntKind.i64.wrap (v2 + 1))) then (some ((⟨#[]⟩ : ByteArray), (⟨v0.f0, (IntKind.i64.wrap (v2 + 1)), true⟩ : S70))) else ((bix v0.f0 (IntKind.i64.wrap (v2 + 1))).bind fun v5 => (bif (v5 == 34) then (spec_l01Reader_quoted.j0 k v1 v0 v2) else (bif (v5 == 92) then (spec_l01Reader_quoted.j0 k v1 v0 v2) else (bif (v5 == 110) then (spec_l01Reader_quoted.j0 k v1 v0 v2) else (some ((⟨#[]⟩ : ByteArray), (⟨v0.f0, (IntKind.i64.wrap (v2 + 1)), true⟩ : S70)))))))) else ((app v1 ([v4] : List Int)).bind fun v11 => (spec_l01Reader_quoted.l0 k v11 v0 (IntKind.i64.wrap (v2 + 1)))))))) else (some ((⟨#[]⟩ : ByteArray), (⟨v0.f0, v2, true⟩ : S70))))
def spec_l01Reader_quoted.f : Nat → S70 → Option (ByteArray × S70)
 | 0, _ => none
 | k + 1, v0 => (spec_l01Reader_quoted.l0 k ([] : List Int) v0 v0.f1)
end
set_option maxRecDepth 100000 in
set_option maxHeartbeats 4000000 in
theorem spec_l01Reader_quoted.con {K : Kn} [KOk K] {k : Nat} {v0 : S70} {r : ByteArray × S70} (h : spec_l01Reader_quoted.f k v0 = some r) : Con K Tryz.prog 83 [.ptr 1000 0 0] [(1000, (0, .cells [.p (.str v0.f0), .p (.int .i64 v0.f1), .p (.bool v0.f2)]))] (.p (.str r.1)) [(1000, (0, .cells [.p (.str r.2.f0), .p (.int .i64 r.2.f1), .p (.bool r.2.f2)]))] := by
 cases k with
 | zero => exact absurd h (by simp [spec_l01Reader_quoted.f])
 | succ k =>
 rw [spec_l01Reader_quoted.f] at h
 refine con_intro 122 [] Tryz.func83 (by kernel_rfl) rfl rfl (by kernel_rfl) fun ι0 w0 hk0 => ?_
 revert h
 refine go 6 ?_
 refine adoptF_ 3 118 1 ?_
 refine fun h => good_loop (fun n st => n ≤ k ∧ ∃ (v1 : _) (v2 : _) (g3 : Nat), st = ⟨[(0, .ptr 1000 0 0), (3, .tip 118 g3 (List.map (irow .u8) v1))], [(1000, (0, .cells [.p (.str v0.f0), .p (.int .i64 v2), .p (.bool v0.f2)])), (118, (g3, .tip 1 (v1).length))]⟩ ∧ spec_l01Reader_quoted.l0 n v1 v0 v2 = some r) k ⟨_, ⟨Nat.le_refl _, _, _, 1, rfl, h⟩, frle_, memle_⟩ ?_
 clear h
 rintro n _ ⟨hkl0, v1, v2, g3, rfl, h⟩ hl0
 cases n with
 | zero => exact absurd h (by simp [spec_l01Reader_quoted.l0])
 | succ kl0 =>
 rw [spec_l01Reader_quoted.l0] at h
 revert h
 refine go 2 ?_
 refine grs ?_
 refine gr_run ?_
 refine gr_done ?_
 refine bif_e (fun c1 => ?_) (fun c1 => ?_)
 ·refine bind_e (fun v4 e4 => ?_)
  refine go 4 ?_
  refine grs ?_
  refine gr_run ?_
  refine gr_done ?_
  refine bif_e (fun c2 => ?_) (fun c2 => ?_)
  ·refine go 9 ?_
   refine ret_e (fun hr_ => ?_)
   subst hr_
   exact ret_ Tryz.func83 [(1000, (0, 1000, 0))]
  ·refine bif_e (fun c3 => ?_) (fun c3 => ?_)
   ·refine go 14 ?_
    refine ret_e (fun hr_ => ?_)
    subst hr_
    exact ret_ Tryz.func83 [(1000, (0, 1000, 0))]
   ·refine bif_e (fun c4 => ?_) (fun c4 => ?_)
    ·refine go 15 ?_
     refine good_cut_f (fun st => ∃ (q_ : Nat), q_ ≤ kl0 ∧ st = ⟨[(0, .ptr 1000 0 0), (3, .tip 118 g3 (List.map (irow .u8) v1))], [(1000, (0, .cells [.p (.str v0.f0), .p (.int .i64 (IntKind.i64.wrap (v2 + 1))), .p (.bool v0.f2)])), (118, (g3, .tip 1 (v1).length))]⟩ ∧ spec_l01Reader_quoted.j0 q_ v1 v0 v2 = some r) ?_ (fun hj0 => ?_)
     ·clear c1 e4 c2 c3 c4
      rintro _ ⟨q_, hqj0, rfl, h⟩
      cases q_ with
      | zero => exact absurd h (by simp [spec_l01Reader_quoted.j0])
      | succ kj0 =>
      rw [spec_l01Reader_quoted.j0] at h
      revert h
      refine bind_e (fun v8 e8 => ?_)
      refine go 2 ?_
      refine grs ?_
      refine gr_run ?_
      refine gr_done ?_
      refine go 1 ?_
      refine good_cut (fun st => ∃ (v9 : _) (q_ : Nat), q_ ≤ kj0 ∧ st = ⟨[(0, .ptr 1000 0 0), (3, .tip 118 g3 (List.map (irow .u8) v1)), (4, .p (.int .u8 v9))], [(1000, (0, .cells [.p (.str v0.f0), .p (.int .i64 (IntKind.i64.wrap (v2 + 1))), .p (.bool v0.f2)])), (118, (g3, .tip 1 (v1).length))]⟩ ∧ spec_l01Reader_quoted.j1 q_ v1 v9 v0 v2 = some r) ?_ (fun hj1 => ?_)
      ·clear e8
       rintro _ ⟨v9, q_, hqj1, rfl, h⟩
       cases q_ with
       | zero => exact absurd h (by simp [spec_l01Reader_quoted.j1])
       | succ kj1 =>
       rw [spec_l01Reader_quoted.j1] at h
       revert h
       refine bind_e (fun v10 e10 => ?_)
       replace e10 := nf_ (app_en (irow .u8) e10)
       refine go 4 ?_
       exact fun h => good_again hl0 (by omega) ⟨_, ⟨by omega, _, _, g3, rfl, h⟩, frle_, memle_⟩
      ·refine bif_e (fun c5 => ?_) (fun c5 => ?_)
       ·refine go 4 ?_
        exact fun h => good_jump hj1 ⟨_, ⟨_, _, by omega, rfl, h⟩, frle_, memle_⟩
       ·refine go 4 ?_
        exact fun h => good_jump hj1 ⟨_, ⟨_, _, by omega, rfl, h⟩, frle_, memle_⟩
     ·refine bif_e (fun c6 => ?_) (fun c6 => ?_)
      ·refine grs ?_
       refine gr_run ?_
       refine gr_done ?_
       refine go 5 ?_
       refine ret_e (fun hr_ => ?_)
       subst hr_
       exact ret_ Tryz.func83 [(1000, (0, 1000, 0))]
      ·refine bind_e (fun v5 e5 => ?_)
       refine bif_e (fun c7 => ?_) (fun c7 => ?_)
       ·refine grs ?_
        refine gr_run ?_
        refine gr_done ?_
        refine go 1 ?_
        exact fun h => good_jump hj0 ⟨_, ⟨_, by omega, rfl, h⟩, frle_, memle_⟩
       ·refine bif_e (fun c8 => ?_) (fun c8 => ?_)
        ·refine grs ?_
         refine gr_run ?_
         refine gr_done ?_
         refine go 1 ?_
         exact fun h => good_jump hj0 ⟨_, ⟨_, by omega, rfl, h⟩, frle_, memle_⟩
        ·refine grs ?_
         refine gr_run ?_
         refine gr_done ?_
         refine bif_e (fun c9 => ?_) (fun c9 => ?_)
         ·refine go 1 ?_
          exact fun h => good_jump hj0 ⟨_, ⟨_, by omega, rfl, h⟩, frle_, memle_⟩
         ·refine go 5 ?_
          refine ret_e (fun hr_ => ?_)
          subst hr_
          exact ret_ Tryz.func83 [(1000, (0, 1000, 0))]
    ·refine bind_e (fun v11 e11 => ?_)
     replace e11 := nf_ (app_en (irow .u8) e11)
     refine go 17 ?_
     exact fun h => good_again hl0 (by omega) ⟨_, ⟨by omega, _, _, g3, rfl, h⟩, frle_, memle_⟩
 ·refine go 6 ?_
  refine ret_e (fun hr_ => ?_)
  subst hr_
  exact ret_ Tryz.func83 [(1000, (0, 1000, 0))]
end Go.Ab
