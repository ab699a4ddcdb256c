/- What the functions compute, and their contracts, part 3. No condition beyond KOk. -/
import Derived.Test.YtklhcjepgbakmaaGreatDoorAbX
import Derived.Test.YtklhcjepgbakmaaGreatDoorAbF1
import Derived.Test.YtklhcjepgbakmaaGreatDoorAbF2
namespace Go.Ab
open Go.Proofs
set_option linter.unusedVariables false
set_option linter.unusedSimpArgs false
def spec_l01Read.f (k : Nat) (v0 : ByteArray) : Option (S42) := (bif decide (2000 < (v0.size : Int)) then (some (⟨(-1), 0, 0, (⟨#[]⟩ : ByteArray), ([] : (List S42)), ([] : (List ByteArray))⟩ : S42)) else ((spec_l01Reader_value.f k 0 (⟨v0, 0, false⟩ : S70)).bind fun v1 => (bif v1.2.f2 then (some (⟨(-1), 0, 0, (⟨#[]⟩ : ByteArray), ([] : (List S42)), ([] : (List ByteArray))⟩ : S42)) else (bif (v1.2.f1 == (v0.size : Int)) then (some v1.1) else (some (⟨(-1), 0, 0, (⟨#[]⟩ : ByteArray), ([] : (List S42)), ([] : (List ByteArray))⟩ : S42))))))
set_option maxRecDepth 100000 in
set_option maxHeartbeats 4000000 in
theorem spec_l01Read.con {K : Kn} [KOk K] {k : Nat} {v0 : ByteArray} {r : S42} (h : spec_l01Read.f k v0 = some r) : Con K Tryz.prog 30 [.p (.str v0)] [] (.agg [.p (.int .i64 r.f0), .p (.int .i64 r.f1), .p (.int .i64 r.f2), .p (.str r.f3), .p (.lst false (List.map en42 r.f4)), .p (.lst false (List.map srw r.f5))]) [] := by
 rw [spec_l01Read.f] at h
 refine con_intro 29 [] Tryz.func30 (by kernel_rfl) rfl rfl (by kernel_rfl) fun ι0 w0 hk0 => ?_
 revert h
 refine bif_e (fun c1 => ?_) (fun c1 => ?_)
 ·refine go 8 ?_
  refine ret_e (fun hr_ => ?_)
  subst hr_
  exact ret_ Tryz.func30 []
 ·refine go 10 ?_
  refine grs ?_
  refine gr_run ?_
  refine bind_e (fun v1 e1 => gr_call [(1000, (0, 11, 1))] (spec_l01Reader_value.con e1) ?_)
  clear e1
  refine gr_run ?_
  refine gr_done ?_
  refine bif_e (fun c2 => ?_) (fun c2 => ?_)
  ·refine go 6 ?_
   refine ret_e (fun hr_ => ?_)
   subst hr_
   exact ret_ Tryz.func30 []
  ·refine bif_e (fun c3 => ?_) (fun c3 => ?_)
   ·refine go 7 ?_
    refine ret_e (fun hr_ => ?_)
    subst hr_
    exact ret_ Tryz.func30 []
   ·refine go 6 ?_
    refine ret_e (fun hr_ => ?_)
    subst hr_
    exact ret_ Tryz.func30 []
def spec_l01Keep.f (k : Nat) (v0 : ByteArray) : Option (ByteArray) := ((spec_l01Read.f k v0).bind fun v1 => (bif decide (v1.f0 < 0) then (some (⟨#[]⟩ : ByteArray)) else (some v0)))
set_option maxRecDepth 100000 in
set_option maxHeartbeats 4000000 in
theorem spec_l01Keep.con {K : Kn} [KOk K] {k : Nat} {v0 : ByteArray} {r : ByteArray} (h : spec_l01Keep.f k v0 = some r) : Con K Tryz.prog 75 [.p (.str v0)] [] (.p (.str r)) [] := by
 rw [spec_l01Keep.f] at h
 refine con_intro 8 [] Tryz.func75 (by kernel_rfl) rfl rfl (by kernel_rfl) fun ι0 w0 hk0 => ?_
 revert h
 refine go 4 ?_
 refine grs ?_
 refine gr_run ?_
 refine bind_e (fun v1 e1 => gr_call [] (spec_l01Read.con e1) ?_)
 clear e1
 refine gr_run ?_
 refine gr_done ?_
 refine bif_e (fun c1 => ?_) (fun c1 => ?_)
 ·refine go 3 ?_
  refine ret_e (fun hr_ => ?_)
  subst hr_
  exact ret_ Tryz.func75 []
 ·refine go 4 ?_
  refine ret_e (fun hr_ => ?_)
  subst hr_
  exact ret_ Tryz.func75 []
mutual
def spec_ListOf.j0 : Nat → (List ByteArray) → ByteArray → Int → Option (ByteArray)
 | 0, _, _, _ => none
 | k + 1, v0, v7, v2 => ((ix v0 v2).bind fun v8 => ((spec_l01Read.f k v8).bind fun v9 => (bif decide (v9.f0 < 0) then (some (⟨#[]⟩ : ByteArray)) else ((cat v7 v8).bind fun v11 => (bif decide (2000 < (v11.size : Int)) then (some (⟨#[]⟩ : ByteArray)) else (spec_ListOf.l0 k v0 v11 (IntKind.i64.wrap (v2 + 1))))))))
def spec_ListOf.l0 : Nat → (List ByteArray) → ByteArray → Int → Option (ByteArray)
 | 0, _, _, _ => none
 | k + 1, v0, v1, v2 => (bif decide (v2 < (v0.length : Int)) then (bif decide (0 < v2) then ((cat v1 (⟨#[44]⟩ : ByteArray)).bind fun v6 => (spec_ListOf.j0 k v0 v6 v2)) else (spec_ListOf.j0 k v0 v1 v2)) else ((cat (⟨#[91]⟩ : ByteArray) v1).bind fun v3 => ((cat v3 (⟨#[93]⟩ : ByteArray)).bind fun v4 => ((spec_l01Keep.f k v4).bind fun v5 => (some v5)))))
def spec_ListOf.f : Nat → (List ByteArray) → Option (ByteArray)
 | 0, _ => none
 | k + 1, v0 => (bif decide (1000 < (v0.length : Int)) then (some (⟨#[]⟩ : ByteArray)) else (spec_ListOf.l0 k v0 (⟨#[]⟩ : ByteArray) 0))
end
set_option maxRecDepth 100000 in
set_option maxHeartbeats 4000000 in
theorem spec_ListOf.con {K : Kn} [KOk K] {k : Nat} {v0 : (List ByteArray)} {r : ByteArray} (h : spec_ListOf.f k v0 = some r) : Con K Tryz.prog 50 [.p (.lst false (List.map srw v0))] [] (.p (.str r)) [] := by
 cases k with
 | zero => exact absurd h (by simp [spec_ListOf.f])
 | succ k =>
 rw [spec_ListOf.f] at h
 refine con_intro 38 [] Tryz.func50 (by kernel_rfl) rfl rfl (by kernel_rfl) fun ι0 w0 hk0 => ?_
 revert h
 refine bif_e (fun c1 => ?_) (fun c1 => ?_)
 ·refine go 8 ?_
  refine ret_e (fun hr_ => ?_)
  subst hr_
  exact ret_ Tryz.func50 []
 ·refine go 13 ?_
  refine fun h => good_loop (fun n st => n ≤ k ∧ ∃ (v1 : _) (v2 : _), st = ⟨[(0, .p (.lst false (List.map srw v0))), (3, .p (.str v1)), (4, .p (.int .i64 v2))], []⟩ ∧ spec_ListOf.l0 n v0 v1 v2 = some r) k ⟨_, ⟨Nat.le_refl _, _, _, rfl, h⟩, frle_, memle_⟩ ?_
  clear c1
  clear h
  rintro n _ ⟨hkl0, v1, v2, rfl, h⟩ hl0
  cases n with
  | zero => exact absurd h (by simp [spec_ListOf.l0])
  | succ kl0 =>
  rw [spec_ListOf.l0] at h
  revert h
  refine bif_e (fun c2 => ?_) (fun c2 => ?_)
  ·refine go 8 ?_
   refine good_cut (fun st => ∃ (v7 : _) (q_ : Nat), q_ ≤ kl0 ∧ st = ⟨[(0, .p (.lst false (List.map srw v0))), (3, .p (.str v7)), (4, .p (.int .i64 v2))], []⟩ ∧ spec_ListOf.j0 q_ v0 v7 v2 = some r) ?_ (fun hj0 => ?_)
   ·clear c2
    rintro _ ⟨v7, q_, hqj0, rfl, h⟩
    cases q_ with
    | zero => exact absurd h (by simp [spec_ListOf.j0])
    | succ kj0 =>
    rw [spec_ListOf.j0] at h
    revert h
    refine bind_e (fun v8 e8 => ?_)
    replace e8 := nf_ (ix_en srw e8)
    refine go 2 ?_
    refine grs ?_
    refine gr_run ?_
    refine bind_e (fun v9 e9 => gr_call [] (spec_l01Read.con e9) ?_)
    clear e9
    refine gr_run ?_
    refine gr_done ?_
    refine bif_e (fun c3 => ?_) (fun c3 => ?_)
    ·refine go 3 ?_
     refine ret_e (fun hr_ => ?_)
     subst hr_
     exact ret_ Tryz.func50 []
    ·refine bind_e (fun v11 e11 => ?_)
     refine bif_e (fun c4 => ?_) (fun c4 => ?_)
     ·refine go 9 ?_
      refine ret_e (fun hr_ => ?_)
      subst hr_
      exact ret_ Tryz.func50 []
     ·refine go 10 ?_
      exact fun h => good_again hl0 (by omega) ⟨_, ⟨by omega, _, _, rfl, h⟩, frle_, memle_⟩
   ·refine bif_e (fun c5 => ?_) (fun c5 => ?_)
    ·refine bind_e (fun v6 e6 => ?_)
     refine go 4 ?_
     exact fun h => good_jump hj0 ⟨_, ⟨_, _, by omega, rfl, h⟩, frle_, memle_⟩
    ·refine go 4 ?_
     exact fun h => good_jump hj0 ⟨_, ⟨_, _, by omega, rfl, h⟩, frle_, memle_⟩
  ·refine bind_e (fun v3 e3 => ?_)
   refine bind_e (fun v4 e4 => ?_)
   refine go 6 ?_
   refine grs ?_
   refine gr_run ?_
   refine bind_e (fun v5 e5 => gr_call [] (spec_l01Keep.con e5) ?_)
   clear e5
   refine gr_run ?_
   refine gr_done ?_
   refine ret_e (fun hr_ => ?_)
   subst hr_
   exact ret_ Tryz.func50 []
mutual
def spec_l01Sorted.j0 : Nat → (List S58) → Nat → Int → Int → (List S58) → Option ((List S58))
 | 0, _, _, _, _, _ => none
 | k + 1, v0, v1, v2, v5, v4 => ((bnd v5 (v1 : Int) (v1 : Int)).bind fun v9 => ((app ([] : List S58) (List.take (v1 - Int.toNat v5) (List.drop (Int.toNat v5) v4))).bind fun v10 => ((bnd 0 v5 (v1 : Int)).bind fun v11 => ((ix v0 v2).bind fun v12 => ((app (List.take (Int.toNat v5) v4) ([v12] : List S58)).bind fun v13 => ((app v13 v10).bind fun v14 => (spec_l01Sorted.l0 k v0 v14.length (IntKind.i64.wrap (v2 + 1)) v14)))))))
def spec_l01Sorted.l1 : Nat → (List S58) → Nat → Int → Int → (List S58) → Option ((List S58))
 | 0, _, _, _, _, _ => none
 | k + 1, v0, v1, v2, v5, v4 => (bif decide (0 < v5) then ((inr (IntKind.i64.wrap (v5 - 1)) v1).bind fun v6 => ((v4[(Int.toNat (IntKind.i64.wrap (v5 - 1)))]?).bind fun v7 => ((ix v0 v2).bind fun v8 => (bif slt v8.f0 v7.f0 then (spec_l01Sorted.l1 k v0 v1 v2 (IntKind.i64.wrap (v5 - 1)) v4) else (spec_l01Sorted.j0 k v0 v1 v2 v5 v4))))) else (spec_l01Sorted.j0 k v0 v1 v2 v5 v4))
def spec_l01Sorted.l0 : Nat → (List S58) → Nat → Int → (List S58) → Option ((List S58))
 | 0, _, _, _, _ => none
 | k + 1, v0, v1, v2, v4 => (bif decide (v2 < (v0.length : Int)) then (spec_l01Sorted.l1 k v0 v1 v2 (v1 : Int) v4) else (some (List.take v1 v4)))
def spec_l01Sorted.f : Nat → (List S58) → Option ((List S58))
 | 0, _ => none
 | k + 1, v0 => (spec_l01Sorted.l0 k v0 0 0 ([] : List S58))
end
set_option maxRecDepth 100000 in
set_option maxHeartbeats 4000000 in
theorem spec_l01Sorted.con {K : Kn} [KOk K] {k : Nat} {v0 : (List S58)} {r : (List S58)} (h : spec_l01Sorted.f k v0 = some r) : Con K Tryz.prog 79 [.p (.lst false (List.map en58 v0))] [] (.p (.lst false (List.map en58 r))) [] := by
 cases k with
 | zero => exact absurd h (by simp [spec_l01Sorted.f])
 | succ k =>
 rw [spec_l01Sorted.f] at h
 refine con_intro 51 [38, 47, 49] Tryz.func79 (by kernel_rfl) rfl rfl (by kernel_rfl) fun ι0 w0 hk0 => ?_
 revert h
 refine go 8 ?_
 refine adoptB_ 3 2603 2 ?_
 refine fun h => good_loop (fun n st => n ≤ k ∧ ∃ (v1 : _) (v2 : _) (v4 : _) (g3 : Nat), st = ⟨[(0, .p (.lst false (List.map en58 v0))), (3, .buf 2603 g3 0 v1), (4, .p (.int .i64 v2))], [(2603, (g3, .buf 2 (List.map en58 v4)))]⟩ ∧ spec_l01Sorted.l0 n v0 v1 v2 v4 = some r) k ⟨_, ⟨Nat.le_refl _, _, _, _, 1, rfl, h⟩, frle_, memle_⟩ ?_
 clear h
 rintro n _ ⟨hkl0, v1, v2, v4, g3, rfl, h⟩ hl0
 cases n with
 | zero => exact absurd h (by simp [spec_l01Sorted.l0])
 | succ kl0 =>
 rw [spec_l01Sorted.l0] at h
 revert h
 refine bif_e (fun c1 => ?_) (fun c1 => ?_)
 ·refine go 11 ?_
  refine fun h => good_loop (fun n st => n ≤ kl0 ∧ ∃ (v5 : _), st = ⟨[(0, .p (.lst false (List.map en58 v0))), (3, .buf 2603 g3 0 v1), (4, .p (.int .i64 v2)), (5, .p (.int .i64 v5))], [(2603, (g3, .buf 2 (List.map en58 v4)))]⟩ ∧ spec_l01Sorted.l1 n v0 v1 v2 v5 v4 = some r) kl0 ⟨_, ⟨Nat.le_refl _, _, rfl, h⟩, frle_, memle_⟩ ?_
  clear c1
  clear h
  rintro n _ ⟨hkl1, v5, rfl, h⟩ hl1
  cases n with
  | zero => exact absurd h (by simp [spec_l01Sorted.l1])
  | succ kl1 =>
  rw [spec_l01Sorted.l1] at h
  revert h
  refine go 2 ?_
  refine good_cut_f (fun st => ∃ (q_ : Nat), q_ ≤ kl1 ∧ st = ⟨[(0, .p (.lst false (List.map en58 v0))), (3, .buf 2603 g3 0 v1), (4, .p (.int .i64 v2)), (5, .p (.int .i64 v5))], [(2603, (g3, .buf 2 (List.map en58 v4)))]⟩ ∧ spec_l01Sorted.j0 q_ v0 v1 v2 v5 v4 = some r) ?_ (fun hj0 => ?_)
  ·skip
   rintro _ ⟨q_, hqj0, rfl, h⟩
   cases q_ with
   | zero => exact absurd h (by simp [spec_l01Sorted.j0])
   | succ kj0 =>
   rw [spec_l01Sorted.j0] at h
   revert h
   refine bind_e (fun v9 e9 => ?_)
   refine bind_e (fun v10 e10 => ?_)
   replace e10 := nf_ (app_en en58 e10)
   refine bind_e (fun v11 e11 => ?_)
   refine bind_e (fun v12 e12 => ?_)
   replace e12 := nf_ (ix_en en58 e12)
   refine bind_e (fun v13 e13 => ?_)
   replace e13 := nf_ (app_en en58 e13)
   refine bind_e (fun v14 e14 => ?_)
   replace e14 := nf_ (app_en en58 e14)
   refine go 3 ?_
   refine grs ?_
   refine gr_run ?_
   refine gr_done ?_
   refine go 2 ?_
   exact fun h => good_again hl0 (by omega) ⟨_, ⟨by omega, _, _, _, g3 + 2, rfl, h⟩, frle_, memle_⟩
  ·refine bif_e (fun c2 => ?_) (fun c2 => ?_)
   ·refine bind_e (fun v6 e6 => ?_)
    refine bind_e (fun v7 e7 => ?_)
    replace e7 := nf_ (gx_en en58 e7)
    refine bind_e (fun v8 e8 => ?_)
    replace e8 := nf_ (ix_en en58 e8)
    refine grs ?_
    refine gr_run ?_
    refine gr_done ?_
    refine bif_e (fun c3 => ?_) (fun c3 => ?_)
    ·refine go 5 ?_
     exact fun h => good_again hl1 (by omega) ⟨_, ⟨by omega, _, rfl, h⟩, frle_, memle_⟩
    ·refine go 1 ?_
     exact fun h => good_jump hj0 ⟨_, ⟨_, by omega, rfl, h⟩, frle_, memle_⟩
   ·refine grs ?_
    refine gr_run ?_
    refine gr_done ?_
    refine go 1 ?_
    exact fun h => good_jump hj0 ⟨_, ⟨_, by omega, rfl, h⟩, frle_, memle_⟩
 ·refine go 7 ?_
  refine freeze_ 2 ?_
  refine ret_e (fun hr_ => ?_)
  subst hr_
  exact ret_ Tryz.func79 []
mutual
def spec_MapOf.j0 : Nat → ByteArray → (List S58) → Int → Option (ByteArray)
 | 0, _, _, _ => none
 | k + 1, v8, v1, v3 => ((ix v1 v3).bind fun v9 => ((spec_l01Name.f k v9.f0).bind fun v10 => (bif v10 then ((spec_l01Read.f k v9.f1).bind fun v12 => (bif decide (v12.f0 < 0) then (some (⟨#[]⟩ : ByteArray)) else ((cat v8 v9.f0).bind fun v14 => ((cat v14 (⟨#[58]⟩ : ByteArray)).bind fun v15 => ((cat v15 v9.f1).bind fun v17 => (bif decide (2000 < (v17.size : Int)) then (some (⟨#[]⟩ : ByteArray)) else (spec_MapOf.l0 k v17 v1 (IntKind.i64.wrap (v3 + 1))))))))) else (some (⟨#[]⟩ : ByteArray)))))
def spec_MapOf.l0 : Nat → ByteArray → (List S58) → Int → Option (ByteArray)
 | 0, _, _, _ => none
 | k + 1, v2, v1, v3 => (bif decide (v3 < (v1.length : Int)) then (bif decide (0 < v3) then ((cat v2 (⟨#[44]⟩ : ByteArray)).bind fun v7 => (spec_MapOf.j0 k v7 v1 v3)) else (spec_MapOf.j0 k v2 v1 v3)) else ((cat (⟨#[123]⟩ : ByteArray) v2).bind fun v4 => ((cat v4 (⟨#[125]⟩ : ByteArray)).bind fun v5 => ((spec_l01Keep.f k v5).bind fun v6 => (some v6)))))
def spec_MapOf.f : Nat → (List S58) → Option (ByteArray)
 | 0, _ => none
 | k + 1, v0 => (bif decide (1000 < (v0.length : Int)) then (some (⟨#[]⟩ : ByteArray)) else ((spec_l01Sorted.f k v0).bind fun v1 => (spec_MapOf.l0 k (⟨#[]⟩ : ByteArray) v1 0)))
end
set_option maxRecDepth 100000 in
set_option maxHeartbeats 4000000 in
theorem spec_MapOf.con {K : Kn} [KOk K] {k : Nat} {v0 : (List S58)} {r : ByteArray} (h : spec_MapOf.f k v0 = some r) : Con K Tryz.prog 52 [.p (.lst false (List.map en58 v0))] [] (.p (.str r)) [] := by
 cases k with
 | zero => exact absurd h (by simp [spec_MapOf.f])
 | succ k =>
 rw [spec_MapOf.f] at h
 refine con_intro 59 [] Tryz.func52 (by kernel_rfl) rfl rfl (by kernel_rfl) fun ι0 w0 hk0 => ?_
 revert h
 refine bif_e (fun c1 => ?_) (fun c1 => ?_)
 ·refine go 8 ?_
  refine ret_e (fun hr_ => ?_)
  subst hr_
  exact ret_ Tryz.func52 []
 ·refine go 10 ?_
  refine grs ?_
  refine gr_run ?_
  refine bind_e (fun v1 e1 => gr_call [] (spec_l01Sorted.con e1) ?_)
  clear e1
  refine gr_run ?_
  refine gr_done ?_
  refine go 4 ?_
  refine fun h => good_loop (fun n st => n ≤ k ∧ ∃ (v2 : _) (v3 : _), st = ⟨[(3, .p (.str v2)), (4, .p (.lst false (List.map en58 v1))), (5, .p (.int .i64 v3))], []⟩ ∧ spec_MapOf.l0 n v2 v1 v3 = some r) k ⟨_, ⟨Nat.le_refl _, _, _, rfl, h⟩, frle_, memle_⟩ ?_
  clear c1
  clear h
  rintro n _ ⟨hkl0, v2, v3, rfl, h⟩ hl0
  cases n with
  | zero => exact absurd h (by simp [spec_MapOf.l0])
  | succ kl0 =>
  rw [spec_MapOf.l0] at h
  revert h
  refine bif_e (fun c2 => ?_) (fun c2 => ?_)
  ·refine go 8 ?_
   refine good_cut (fun st => ∃ (v8 : _) (q_ : Nat), q_ ≤ kl0 ∧ st = ⟨[(3, .p (.str v8)), (4, .p (.lst false (List.map en58 v1))), (5, .p (.int .i64 v3))], []⟩ ∧ spec_MapOf.j0 q_ v8 v1 v3 = some r) ?_ (fun hj0 => ?_)
   ·clear c2
    rintro _ ⟨v8, q_, hqj0, rfl, h⟩
    cases q_ with
    | zero => exact absurd h (by simp [spec_MapOf.j0])
    | succ kj0 =>
    rw [spec_MapOf.j0] at h
    revert h
    refine bind_e (fun v9 e9 => ?_)
    replace e9 := nf_ (ix_en en58 e9)
    refine go 2 ?_
    refine grs ?_
    refine gr_run ?_
    refine bind_e (fun v10 e10 => gr_call [] (spec_l01Name.con e10) ?_)
    clear e10
    refine bif_e (fun c3 => ?_) (fun c3 => ?_)
    ·refine gr_run ?_
     refine bind_e (fun v12 e12 => gr_call [] (spec_l01Read.con e12) ?_)
     clear e12
     refine gr_run ?_
     refine gr_done ?_
     refine bif_e (fun c4 => ?_) (fun c4 => ?_)
     ·refine go 3 ?_
      refine ret_e (fun hr_ => ?_)
      subst hr_
      exact ret_ Tryz.func52 []
     ·refine bind_e (fun v14 e14 => ?_)
      refine bind_e (fun v15 e15 => ?_)
      refine bind_e (fun v17 e17 => ?_)
      refine go 3 ?_
      refine grs ?_
      refine gr_run ?_
      refine gr_done ?_
      refine bif_e (fun c5 => ?_) (fun c5 => ?_)
      ·refine go 5 ?_
       refine ret_e (fun hr_ => ?_)
       subst hr_
       exact ret_ Tryz.func52 []
      ·refine go 6 ?_
       exact fun h => good_again hl0 (by omega) ⟨_, ⟨by omega, _, _, rfl, h⟩, frle_, memle_⟩
    ·refine gr_run ?_
     refine gr_done ?_
     refine go 3 ?_
     refine ret_e (fun hr_ => ?_)
     subst hr_
     exact ret_ Tryz.func52 []
   ·refine bif_e (fun c6 => ?_) (fun c6 => ?_)
    ·refine bind_e (fun v7 e7 => ?_)
     refine go 4 ?_
     exact fun h => good_jump hj0 ⟨_, ⟨_, _, by omega, rfl, h⟩, frle_, memle_⟩
    ·refine go 4 ?_
     exact fun h => good_jump hj0 ⟨_, ⟨_, _, by omega, rfl, h⟩, frle_, memle_⟩
  ·refine bind_e (fun v4 e4 => ?_)
   refine bind_e (fun v5 e5 => ?_)
   refine go 6 ?_
   refine grs ?_
   refine gr_run ?_
   refine bind_e (fun v6 e6 => gr_call [] (spec_l01Keep.con e6) ?_)
   clear e6
   refine gr_run ?_
   refine gr_done ?_
   refine ret_e (fun hr_ => ?_)
   subst hr_
   exact ret_ Tryz.func52 []
mutual
def spec_l01Src_value.l0 : Nat → Int → (List ByteArray) → Int → (List Int) → Int → Int → Int → Option (ByteArray × S65)
 | 0, _, _, _, _, _, _, _ => none
 | k + 1, v0, v7, v8, v9, v10, v11, v12 => (bif decide (0 < v8) then ((spec_l01Src_value.f k (IntKind.i64.wrap (v0 - 1)) (⟨v9, v10, v11, v12⟩ : S65)).bind fun v15 => ((app v7 ([v15.1] : List ByteArray)).bind fun v16 => (spec_l01Src_value.l0 k v0 v16 (IntKind.i64.wrap (v8 - 1)) v15.2.f0 v15.2.f1 v15.2.f2 v15.2.f3))) else ((spec_ListOf.f k v7).bind fun v14 => (some (v14, (⟨v9, v10, v11, v12⟩ : S65)))))
def spec_l01Src_value.l1 : Nat → Int → (List S58) → Int → (List Int) → Int → Int → Int → Option (ByteArray × S65)
 | 0, _, _, _, _, _, _, _ => none
 | k + 1, v0, v17, v18, v19, v20, v21, v22 => (bif decide (v18 < 4) then ((spec_l01Src_one.f k 2 (⟨v19, v20, v21, v22⟩ : S65)).bind fun v25 => (bif v25.1 then ((ix ([(⟨#[97]⟩ : ByteArray), (⟨#[98]⟩ : ByteArray), (⟨#[99]⟩ : ByteArray), (⟨#[100, 100]⟩ : ByteArray)] : List ByteArray) v18).bind fun v26 => ((spec_l01Src_value.f k (IntKind.i64.wrap (v0 - 1)) v25.2).bind fun v27 => ((app v17 ([(⟨v26, v27.1⟩ : S58)] : List S58)).bind fun v28 => (spec_l01Src_value.l1 k v0 v28 (IntKind.i64.wrap (v18 + 1)) v27.2.f0 v27.2.f1 v27.2.f2 v27.2.f3)))) else (spec_l01Src_value.l1 k v0 v17 (IntKind.i64.wrap (v18 + 1)) v25.2.f0 v25.2.f1 v25.2.f2 v25.2.f3))) else ((spec_MapOf.f k v17).bind fun v24 => (some (v24, (⟨v19, v20, v21, v22⟩ : S65)))))
def spec_l01Src_value.f : Nat → Int → S65 → Option (ByteArray × S65)
 | 0, _, _ => none
 | k + 1, v0, v1 => (bif (v0 == 0) then ((spec_l01Src_scalar.f k v1).bind fun v3 => (some (v3.1, v3.2))) else ((spec_l01Src_one.f k 2 v1).bind fun v2 => (bif v2.1 then ((spec_l01Src_scalar.f k v2.2).bind fun v4 => (some (v4.1, v4.2))) else ((spec_l01Src_one.f k 2 v2.2).bind fun v5 => (bif v5.1 then ((spec_l01Src_n.f k 4 v5.2).bind fun v6 => (spec_l01Src_value.l0 k v0 ([] : List ByteArray) v6.1 v6.2.f0 v6.2.f1 v6.2.f2 v6.2.f3)) else (spec_l01Src_value.l1 k v0 ([] : List S58) 0 v5.2.f0 v5.2.f1 v5.2.f2 v5.2.f3))))))
end
def spec_l01Src_value.C (K : Kn) (k : Nat) : Prop := ∀ (v0 : Int) (v1 : S65) (r : ByteArray × S65), spec_l01Src_value.f k v0 v1 = some r → Con K Tryz.prog 48 [.ptr 1000 0 0, .p (.int .i64 v0)] [(1000, (0, .cells [.p (.lst false (List.map (irow .u8) v1.f0)), .p (.int .i64 v1.f1), .p (.int .u64 v1.f2), .p (.int .i64 v1.f3)]))] (.p (.str r.1)) [(1000, (0, .cells [.p (.lst false (List.map (irow .u8) r.2.f0)), .p (.int .i64 r.2.f1), .p (.int .u64 r.2.f2), .p (.int .i64 r.2.f3)]))]
set_option maxRecDepth 100000 in
set_option maxHeartbeats 4000000 in
theorem spec_l01Src_value.con1 {K : Kn} [KOk K] (k : Nat) (spec_l01Src_value_ih : ∀ m, m < k → spec_l01Src_value.C K m) : spec_l01Src_value.C K k := by
 intro v0 v1 r h
 cases k with
 | zero => exact absurd h (by simp [spec_l01Src_value.f])
 | succ k =>
 rw [spec_l01Src_value.f] at h
 refine con_intro 58 [] Tryz.func48 (by kernel_rfl) rfl rfl (by kernel_rfl) fun ι0 w0 hk0 => ?_
 revert h
 refine bif_e (fun c1 => ?_) (fun c1 => ?_)
 ·refine go 7 ?_
  refine grs ?_
  refine gr_run ?_
  refine bind_e (fun v3 e3 => gr_call [(1000, (0, 1000, 0))] (spec_l01Src_scalar.con e3) ?_)
  clear e3
  refine gr_run ?_
  refine gr_done ?_
  refine ret_e (fun hr_ => ?_)
  subst hr_
  exact ret_ Tryz.func48 [(1000, (0, 1000, 0))]
 ·refine go 4 ?_
  refine grs ?_
  refine gr_run ?_
  refine bind_e (fun v2 e2 => gr_call [(1000, (0, 1000, 0))] (spec_l01Src_one.con e2) ?_)
  clear e2
  refine gr_run ?_
  refine gr_done ?_
  refine bif_e (fun c2 => ?_) (fun c2 => ?_)
  ·refine go 2 ?_
   refine grs ?_
   refine gr_run ?_
   refine bind_e (fun v4 e4 => gr_call [(1000, (0, 1000, 0))] (spec_l01Src_scalar.con e4) ?_)
   clear e4
   refine gr_run ?_
   refine gr_done ?_
   refine ret_e (fun hr_ => ?_)
   subst hr_
   exact ret_ Tryz.func48 [(1000, (0, 1000, 0))]
  ·refine go 4 ?_
   refine grs ?_
   refine gr_run ?_
   refine bind_e (fun v5 e5 => gr_call [(1000, (0, 1000, 0))] (spec_l01Src_one.con e5) ?_)
   clear e5
   refine gr_done ?_
   refine bif_e (fun c3 => ?_) (fun c3 => ?_)
   ·refine go 5 ?_
    refine grs ?_
    refine gr_run ?_
    refine bind_e (fun v6 e6 => gr_call [(1000, (0, 1000, 0))] (spec_l01Src_n.con e6) ?_)
    clear e6
    refine gr_run ?_
    refine gr_done ?_
    refine go 1 ?_
    refine adoptF_ 5 33 1 ?_
    refine fun h => good_loop (fun n st => n ≤ k ∧ ∃ (v7 : _) (v8 : _) (v9 : _) (v10 : _) (v11 : _) (v12 : _) (g13 : Nat), st = ⟨[(0, .ptr 1000 0 0), (1, .p (.int .i64 v0)), (5, .tip 33 g13 (List.map srw v7)), (6, .p (.int .i64 v8))], [(1000, (0, .cells [.p (.lst false (List.map (irow .u8) v9)), .p (.int .i64 v10), .p (.int .u64 v11), .p (.int .i64 v12)])), (33, (g13, .tip 1 (v7).length))]⟩ ∧ spec_l01Src_value.l0 n v0 v7 v8 v9 v10 v11 v12 = some r) k ⟨_, ⟨Nat.le_refl _, _, _, _, _, _, _, 1, rfl, h⟩, frle_, memle_⟩ ?_
    clear c1 c2 c3
    clear h
    rintro n _ ⟨hkl0, v7, v8, v9, v10, v11, v12, g13, rfl, h⟩ hl0
    cases n with
    | zero => exact absurd h (by simp [spec_l01Src_value.l0])
    | succ kl0 =>
    rw [spec_l01Src_value.l0] at h
    revert h
    refine bif_e (fun c4 => ?_) (fun c4 => ?_)
    ·refine go 7 ?_
     refine grs ?_
     refine gr_run ?_
     refine bind_e (fun v15 e15 => gr_call [(1000, (0, 1000, 0))] (spec_l01Src_value_ih _ (by omega) _ _ _ e15) ?_)
     clear e15
     refine bind_e (fun v16 e16 => ?_)
     replace e16 := nf_ (app_en srw e16)
     refine gr_run ?_
     refine gr_done ?_
     refine go 2 ?_
     exact fun h => good_again hl0 (by omega) ⟨_, ⟨by omega, _, _, _, _, _, _, g13, rfl, h⟩, frle_, memle_⟩
    ·refine go 6 ?_
     refine grs ?_
     refine gr_run ?_
     refine bind_e (fun v14 e14 => gr_call [] (spec_ListOf.con e14) ?_)
     clear e14
     refine gr_run ?_
     refine gr_done ?_
     refine ret_e (fun hr_ => ?_)
     subst hr_
     exact ret_ Tryz.func48 [(1000, (0, 1000, 0))]
   ·refine go 10 ?_
    refine adoptF_ 7 55 2 ?_
    refine fun h => good_loop (fun n st => n ≤ k ∧ ∃ (v17 : _) (v18 : _) (v19 : _) (v20 : _) (v21 : _) (v22 : _) (g23 : Nat), st = ⟨[(0, .ptr 1000 0 0), (1, .p (.int .i64 v0)), (7, .tip 55 g23 (List.map en58 v17)), (8, .p (.lst true (List.map srw ([(⟨#[97]⟩ : ByteArray), (⟨#[98]⟩ : ByteArray), (⟨#[99]⟩ : ByteArray), (⟨#[100, 100]⟩ : ByteArray)] : List ByteArray)))), (9, .p (.int .i64 v18))], [(1000, (0, .cells [.p (.lst false (List.map (irow .u8) v19)), .p (.int .i64 v20), .p (.int .u64 v21), .p (.int .i64 v22)])), (55, (g23, .tip 2 (v17).length))]⟩ ∧ spec_l01Src_value.l1 n v0 v17 v18 v19 v20 v21 v22 = some r) k ⟨_, ⟨Nat.le_refl _, _, _, _, _, _, _, 1, rfl, h⟩, frle_, memle_⟩ ?_
    clear c1 c2 c3
    clear h
    rintro n _ ⟨hkl1, v17, v18, v19, v20, v21, v22, g23, rfl, h⟩ hl1
    cases n with
    | zero => exact absurd h (by simp [spec_l01Src_value.l1])
    | succ kl1 =>
    rw [spec_l01Src_value.l1] at h
    revert h
    refine bif_e (fun c5 => ?_) (fun c5 => ?_)
    ·refine go 8 ?_
     refine grs ?_
     refine gr_run ?_
     refine bind_e (fun v25 e25 => gr_call [(1000, (0, 1000, 0))] (spec_l01Src_one.con e25) ?_)
     clear e25
     refine gr_done ?_
     refine bif_e (fun c6 => ?_) (fun c6 => ?_)
     ·refine bind_e (fun v26 e26 => ?_)
      replace e26 := nf_ (ix_en srw e26)
      refine go 1 ?_
      refine grs ?_
      refine gr_run ?_
      refine bind_e (fun v27 e27 => gr_call [(1000, (0, 1000, 0))] (spec_l01Src_value_ih _ (by omega) _ _ _ e27) ?_)
      clear e27
      refine bind_e (fun v28 e28 => ?_)
      replace e28 := nf_ (app_en en58 e28)
      refine gr_run ?_
      refine gr_done ?_
      refine go 2 ?_
      exact fun h => good_again hl1 (by omega) ⟨_, ⟨by omega, _, _, _, _, _, _, g23, rfl, h⟩, frle_, memle_⟩
     ·refine go 4 ?_
      exact fun h => good_again hl1 (by omega) ⟨_, ⟨by omega, _, _, _, _, _, _, g23, rfl, h⟩, frle_, memle_⟩
    ·refine go 6 ?_
     refine grs ?_
     refine gr_run ?_
     refine bind_e (fun v24 e24 => gr_call [] (spec_MapOf.con e24) ?_)
     clear e24
     refine gr_run ?_
     refine gr_done ?_
     refine ret_e (fun hr_ => ?_)
     subst hr_
     exact ret_ Tryz.func48 [(1000, (0, 1000, 0))]
theorem spec_l01Src_value.all {K : Kn} [KOk K] (k : Nat) : spec_l01Src_value.C K k := by
 induction k using Nat.strongRecOn with
 | _ k ih => exact spec_l01Src_value.con1 k ih
theorem spec_l01Src_value.con {K : Kn} [KOk K] {k : Nat} {v0 : Int} {v1 : S65} {r : ByteArray × S65} (h : spec_l01Src_value.f k v0 v1 = some r) : Con K Tryz.prog 48 [.ptr 1000 0 0, .p (.int .i64 v0)] [(1000, (0, .cells [.p (.lst false (List.map (irow .u8) v1.f0)), .p (.int .i64 v1.f1), .p (.int .u64 v1.f2), .p (.int .i64 v1.f3)]))] (.p (.str r.1)) [(1000, (0, .cells [.p (.lst false (List.map (irow .u8) r.2.f0)), .p (.int .i64 r.2.f1), .p (.int .u64 r.2.f2), .p (.int .i64 r.2.f3)]))] := (spec_l01Src_value.all k) _ _ r h
def spec_l01Src_spoil.f (k : Nat) (v0 : ByteArray) (v1 : S65) : Option (ByteArray × S65) := ((spec_l01Src_n.f k (IntKind.i64.wrap ((v0.size : Int) + 1)) v1).bind fun v2 => ((spec_l01Src_n.f k 14 v2.2).bind fun v3 => ((bix (⟨#[32, 10, 48, 97, 45, 110, 44, 58, 93, 255, 40, 64, 34, 49]⟩ : ByteArray) v3.1).bind fun v4 => (bif (v2.1 == (v0.size : Int)) then ((sub v0 0 v2.1).bind fun v6 => ((cat v6 (bstr ([v4] : List Int))).bind fun v7 => ((sub v0 v2.1 (v0.size : Int)).bind fun v8 => ((cat v7 v8).bind fun v9 => (some (v9, v3.2)))))) else ((spec_l01Src_one.f k 3 v3.2).bind fun v5 => (bif v5.1 then ((sub v0 0 v2.1).bind fun v10 => ((cat v10 (bstr ([v4] : List Int))).bind fun v11 => ((sub v0 v2.1 (v0.size : Int)).bind fun v12 => ((cat v11 v12).bind fun v13 => (some (v13, v5.2)))))) else ((spec_l01Src_one.f k 2 v5.2).bind fun v14 => (bif v14.1 then ((sub v0 0 v2.1).bind fun v15 => ((sub v0 (IntKind.i64.wrap (v2.1 + 1)) (v0.size : Int)).bind fun v16 => ((cat v15 v16).bind fun v17 => (some (v17, v14.2))))) else ((sub v0 0 v2.1).bind fun v18 => ((cat v18 (bstr ([v4] : List Int))).bind fun v19 => ((sub v0 (IntKind.i64.wrap (v2.1 + 1)) (v0.size : Int)).bind fun v20 => ((cat v19 v20).bind fun v21 => (some (v21, v14.2))))))))))))))
set_option maxRecDepth 100000 in
set_option maxHeartbeats 4000000 in
theorem spec_l01Src_spoil.con {K : Kn} [KOk K] {k : Nat} {v0 : ByteArray} {v1 : S65} {r : ByteArray × S65} (h : spec_l01Src_spoil.f k v0 v1 = some r) : Con K Tryz.prog 61 [.ptr 1000 0 0, .p (.str v0)] [(1000, (0, .cells [.p (.lst false (List.map (irow .u8) v1.f0)), .p (.int .i64 v1.f1), .p (.int .u64 v1.f2), .p (.int .i64 v1.f3)]))] (.p (.str r.1)) [(1000, (0, .cells [.p (.lst false (List.map (irow .u8) r.2.f0)), .p (.int .i64 r.2.f1), .p (.int .u64 r.2.f2), .p (.int .i64 r.2.f3)]))] := by
 rw [spec_l01Src_spoil.f] at h
 refine con_intro 54 [] Tryz.func61 (by kernel_rfl) rfl rfl (by kernel_rfl) fun ι0 w0 hk0 => ?_
 revert h
 refine go 3 ?_
 refine grs ?_
 refine gr_run ?_
 refine bind_e (fun v2 e2 => gr_call [(1000, (0, 1000, 0))] (spec_l01Src_n.con e2) ?_)
 clear e2
 refine gr_run ?_
 refine gr_done ?_
 refine go 1 ?_
 refine grs ?_
 refine gr_run ?_
 refine bind_e (fun v3 e3 => gr_call [(1000, (0, 1000, 0))] (spec_l01Src_n.con e3) ?_)
 clear e3
 refine bind_e (fun v4 e4 => ?_)
 refine gr_run ?_
 refine gr_done ?_
 refine bif_e (fun c1 => ?_) (fun c1 => ?_)
 ·refine bind_e (fun v6 e6 => ?_)
  refine bind_e (fun v7 e7 => ?_)
  refine bind_e (fun v8 e8 => ?_)
  refine bind_e (fun v9 e9 => ?_)
  refine go 5 ?_
  refine grs ?_
  refine gr_run ?_
  refine gr_done ?_
  refine ret_e (fun hr_ => ?_)
  subst hr_
  exact ret_ Tryz.func61 [(1000, (0, 1000, 0))]
 ·refine go 2 ?_
  refine grs ?_
  refine gr_run ?_
  refine bind_e (fun v5 e5 => gr_call [(1000, (0, 1000, 0))] (spec_l01Src_one.con e5) ?_)
  clear e5
  refine gr_run ?_
  refine gr_done ?_
  refine bif_e (fun c2 => ?_) (fun c2 => ?_)
  ·refine bind_e (fun v10 e10 => ?_)
   refine bind_e (fun v11 e11 => ?_)
   refine bind_e (fun v12 e12 => ?_)
   refine bind_e (fun v13 e13 => ?_)
   refine go 2 ?_
   refine grs ?_
   refine gr_run ?_
   refine gr_done ?_
   refine ret_e (fun hr_ => ?_)
   subst hr_
   exact ret_ Tryz.func61 [(1000, (0, 1000, 0))]
  ·refine go 4 ?_
   refine grs ?_
   refine gr_run ?_
   refine bind_e (fun v14 e14 => gr_call [(1000, (0, 1000, 0))] (spec_l01Src_one.con e14) ?_)
   clear e14
   refine gr_done ?_
   refine bif_e (fun c3 => ?_) (fun c3 => ?_)
   ·refine bind_e (fun v15 e15 => ?_)
    refine bind_e (fun v16 e16 => ?_)
    refine bind_e (fun v17 e17 => ?_)
    refine go 2 ?_
    refine grs ?_
    refine gr_run ?_
    refine gr_done ?_
    refine ret_e (fun hr_ => ?_)
    subst hr_
    exact ret_ Tryz.func61 [(1000, (0, 1000, 0))]
   ·refine bind_e (fun v18 e18 => ?_)
    refine bind_e (fun v19 e19 => ?_)
    refine bind_e (fun v20 e20 => ?_)
    refine bind_e (fun v21 e21 => ?_)
    refine go 3 ?_
    refine grs ?_
    refine gr_run ?_
    refine gr_done ?_
    refine ret_e (fun hr_ => ?_)
    subst hr_
    exact ret_ Tryz.func61 [(1000, (0, 1000, 0))]
mutual
def spec_l01Src_long.l0 : Nat → ByteArray → Int → (List Int) → S65 → Option (ByteArray × S65)
 | 0, _, _, _, _ => none
 | k + 1, v0, v1, v3, v2 => (bif decide ((v3.length : Int) < v1) then ((app v3 (bytesI v0)).bind fun v5 => (spec_l01Src_long.l0 k v0 v1 v5 v2)) else ((lsub v3 0 v1).bind fun v6 => (some ((bstr v6), v2))))
def spec_l01Src_long.f : Nat → ByteArray → Int → S65 → Option (ByteArray × S65)
 | 0, _, _, _ => none
 | k + 1, v0, v1, v2 => (spec_l01Src_long.l0 k v0 v1 ([] : List Int) v2)
end
set_option maxRecDepth 100000 in
set_option maxHeartbeats 4000000 in
theorem spec_l01Src_long.con {K : Kn} [KOk K] {k : Nat} {v0 : ByteArray} {v1 : Int} {v2 : S65} {r : ByteArray × S65} (h : spec_l01Src_long.f k v0 v1 v2 = some r) : Con K Tryz.prog 63 [.ptr 1000 0 0, .p (.str v0), .p (.int .i64 v1)] [(1000, (0, .cells [.p (.lst false (List.map (irow .u8) v2.f0)), .p (.int .i64 v2.f1), .p (.int .u64 v2.f2), .p (.int .i64 v2.f3)]))] (.p (.str r.1)) [(1000, (0, .cells [.p (.lst false (List.map (irow .u8) r.2.f0)), .p (.int .i64 r.2.f1), .p (.int .u64 r.2.f2), .p (.int .i64 r.2.f3)]))] := by
 cases k with
 | zero => exact absurd h (by simp [spec_l01Src_long.f])
 | succ k =>
 rw [spec_l01Src_long.f] at h
 refine con_intro 20 [] Tryz.func63 (by kernel_rfl) rfl rfl (by kernel_rfl) fun ι0 w0 hk0 => ?_
 revert h
 refine go 6 ?_
 refine adoptF_ 7 15 1 ?_
 refine fun h => good_loop (fun n st => n ≤ k ∧ ∃ (v3 : _) (g4 : Nat), st = ⟨[(1, .p (.str v0)), (2, .p (.int .i64 v1)), (7, .tip 15 g4 (List.map (irow .u8) v3))], [(1000, (0, .cells [.p (.lst false (List.map (irow .u8) v2.f0)), .p (.int .i64 v2.f1), .p (.int .u64 v2.f2), .p (.int .i64 v2.f3)])), (15, (g4, .tip 1 (v3).length))]⟩ ∧ spec_l01Src_long.l0 n v0 v1 v3 v2 = some r) k ⟨_, ⟨Nat.le_refl _, _, 1, rfl, h⟩, frle_, memle_⟩ ?_
 clear h
 rintro n _ ⟨hkl0, v3, g4, rfl, h⟩ hl0
 cases n with
 | zero => exact absurd h (by simp [spec_l01Src_long.l0])
 | succ kl0 =>
 rw [spec_l01Src_long.l0] at h
 revert h
 refine bif_e (fun c1 => ?_) (fun c1 => ?_)
 ·refine bind_e (fun v5 e5 => ?_)
  replace e5 := nf_ (app_en (irow .u8) e5)
  refine go 8 ?_
  exact fun h => good_again hl0 (by omega) ⟨_, ⟨by omega, _, g4, rfl, h⟩, frle_, memle_⟩
 ·refine bind_e (fun v6 e6 => ?_)
  replace e6 := nf_ (lsub_en (irow .u8) e6)
  refine go 7 ?_
  refine ret_e (fun hr_ => ?_)
  subst hr_
  exact ret_ Tryz.func63 [(1000, (0, 1000, 0))]
mutual
def spec_l01Src_anyValue.j0 : Nat → (ByteArray × S65) → (Int × S65) → Bool → Option (ByteArray × S65)
 | 0, _, _, _ => none
 | k + 1, v1, v2, v3 => (bif v3 then ((spec_l01Src_spoil.f k v1.1 v2.2).bind fun v4 => (some (v4.1, v4.2))) else (bif (v2.1 == 2) then ((spec_l01Src_n.f k 29 v2.2).bind fun v5 => ((ix ([(⟨#[]⟩ : ByteArray), (⟨#[48, 48]⟩ : ByteArray), (⟨#[45, 48]⟩ : ByteArray), (⟨#[43, 49]⟩ : ByteArray), (⟨#[57, 50, 50, 51, 51, 55, 50, 48, 51, 54, 56, 53, 52, 55, 55, 53, 56, 48, 56]⟩ : ByteArray), (⟨#[64, 50, 48, 50, 51, 45, 48, 50, 45, 50, 57]⟩ : ByteArray), (⟨#[64, 50, 48, 48, 48, 45, 48, 50, 45, 50, 57]⟩ : ByteArray), (⟨#[64, 48, 48, 48, 48, 45, 48, 49, 45, 48, 49]⟩ : ByteArray), (⟨#[64, 49, 57, 48, 48, 45, 48, 50, 45, 50, 57]⟩ : ByteArray), (⟨#[40, 49, 32, 50]⟩ : ByteArray), (⟨#[40, 49, 32, 32, 50, 41]⟩ : ByteArray), (⟨#[40, 49, 48, 48, 48, 48, 48, 48, 32, 48, 41]⟩ : ByteArray), (⟨#[40, 49, 48, 48, 48, 48, 48, 49, 32, 48, 41]⟩ : ByteArray), (⟨#[123, 98, 58, 49, 44, 97, 58, 50, 125]⟩ : ByteArray), (⟨#[123, 97, 58, 49, 44, 97, 58, 50, 125]⟩ : ByteArray), (⟨#[91, 49, 44, 32, 50, 93]⟩ : ByteArray), (⟨#[110, 48]⟩ : ByteArray), (⟨#[110, 49, 48, 48, 48, 48, 48, 48, 48, 48, 48, 48, 48, 48]⟩ : ByteArray), (⟨#[110, 49, 48, 48, 48, 48, 48, 48, 48, 48, 48, 48, 48, 49]⟩ : ByteArray), (⟨#[60, 101, 49, 62]⟩ : ByteArray), (⟨#[60, 110, 49, 32, 101, 50, 62]⟩ : ByteArray), (⟨#[34, 97, 10, 98, 34]⟩ : ByteArray), (⟨#[34, 92, 120, 34]⟩ : ByteArray), (⟨#[91, 91, 91, 91, 91, 93, 93, 93, 93, 93]⟩ : ByteArray), (⟨#[91, 91, 91, 91, 91, 91, 93, 93, 93, 93, 93, 93]⟩ : ByteArray), (⟨#[110, 117, 108]⟩ : ByteArray), (⟨#[116, 114, 117, 101, 102, 97, 108, 115, 101]⟩ : ByteArray), (⟨#[123, 49, 97, 58, 50, 125]⟩ : ByteArray), (⟨#[91, 49, 44, 93]⟩ : ByteArray)] : List ByteArray) v5.1).bind fun v6 => (some (v6, v5.2)))) else (bif (v2.1 == 3) then ((spec_l01Src_n.f k 4 v2.2).bind fun v7 => ((spec_l01Src_long.f k (⟨#[97]⟩ : ByteArray) (IntKind.i64.wrap (1996 + v7.1)) v7.2).bind fun v8 => ((spec_l01Quote.f k v8.1).bind fun v9 => (some (v9, v8.2))))) else (some (v1.1, v2.2)))))
def spec_l01Src_anyValue.f : Nat → S65 → Option (ByteArray × S65)
 | 0, _ => none
 | k + 1, v0 => ((spec_l01Src_value.f k 2 v0).bind fun v1 => ((spec_l01Src_n.f k 24 v1.2).bind fun v2 => (bif (v2.1 == 0) then (spec_l01Src_anyValue.j0 k v1 v2 true) else (spec_l01Src_anyValue.j0 k v1 v2 (v2.1 == 1)))))
end
set_option maxRecDepth 100000 in
set_option maxHeartbeats 4000000 in
theorem spec_l01Src_anyValue.con {K : Kn} [KOk K] {k : Nat} {v0 : S65} {r : ByteArray × S65} (h : spec_l01Src_anyValue.f k v0 = some r) : Con K Tryz.prog 38 [.ptr 1000 0 0] [(1000, (0, .cells [.p (.lst false (List.map (irow .u8) v0.f0)), .p (.int .i64 v0.f1), .p (.int .u64 v0.f2), .p (.int .i64 v0.f3)]))] (.p (.str r.1)) [(1000, (0, .cells [.p (.lst false (List.map (irow .u8) r.2.f0)), .p (.int .i64 r.2.f1), .p (.int .u64 r.2.f2), .p (.int .i64 r.2.f3)]))] := by
 cases k with
 | zero => exact absurd h (by simp [spec_l01Src_anyValue.f])
 | succ k =>
 rw [spec_l01Src_anyValue.f] at h
 refine con_intro 30 [] Tryz.func38 (by kernel_rfl) rfl rfl (by kernel_rfl) fun ι0 w0 hk0 => ?_
 revert h
 refine go 3 ?_
 refine grs ?_
 refine gr_run ?_
 refine bind_e (fun v1 e1 => gr_call [(1000, (0, 1000, 0))] (spec_l01Src_value.con e1) ?_)
 clear e1
 refine gr_run ?_
 refine gr_done ?_
 refine go 2 ?_
 refine grs ?_
 refine gr_run ?_
 refine bind_e (fun v2 e2 => gr_call [(1000, (0, 1000, 0))] (spec_l01Src_n.con e2) ?_)
 clear e2
 refine gr_done ?_
 refine go 2 ?_
 refine good_cut (fun st => ∃ (v3 : _) (q_ : Nat), q_ ≤ k ∧ st = ⟨[(0, .ptr 1000 0 0), (3, .p (.str v1.1)), (7, .p (.int .i64 v2.1)), (8, .p (.bool v3))], [(1000, (0, .cells [.p (.lst false (List.map (irow .u8) v2.2.f0)), .p (.int .i64 v2.2.f1), .p (.int .u64 v2.2.f2), .p (.int .i64 v2.2.f3)]))]⟩ ∧ spec_l01Src_anyValue.j0 q_ v1 v2 v3 = some r) ?_ (fun hj0 => ?_)
 ·skip
  rintro _ ⟨v3, q_, hqj0, rfl, h⟩
  cases q_ with
  | zero => exact absurd h (by simp [spec_l01Src_anyValue.j0])
  | succ kj0 =>
  rw [spec_l01Src_anyValue.j0] at h
  revert h
  refine bif_e (fun c1 => ?_) (fun c1 => ?_)
  ·refine go 2 ?_
   refine grs ?_
   refine gr_run ?_
   refine bind_e (fun v4 e4 => gr_call [(1000, (0, 1000, 0))] (spec_l01Src_spoil.con e4) ?_)
   clear e4
   refine gr_run ?_
   refine gr_done ?_
   refine ret_e (fun hr_ => ?_)
   subst hr_
   exact ret_ Tryz.func38 [(1000, (0, 1000, 0))]
  ·refine bif_e (fun c2 => ?_) (fun c2 => ?_)
   ·refine go 5 ?_
    refine grs ?_
    refine gr_run ?_
    refine bind_e (fun v5 e5 => gr_call [(1000, (0, 1000, 0))] (spec_l01Src_n.con e5) ?_)
    clear e5
    refine bind_e (fun v6 e6 => ?_)
    replace e6 := nf_ (ix_en srw e6)
    refine gr_run ?_
    refine gr_done ?_
    refine ret_e (fun hr_ => ?_)
    subst hr_
    exact ret_ Tryz.func38 [(1000, (0, 1000, 0))]
   ·refine bif_e (fun c3 => ?_) (fun c3 => ?_)
    ·refine go 8 ?_
     refine grs ?_
     refine gr_run ?_
     refine bind_e (fun v7 e7 => gr_call [(1000, (0, 1000, 0))] (spec_l01Src_n.con e7) ?_)
     clear e7
     refine gr_run ?_
     refine bind_e (fun v8 e8 => gr_call [(1000, (0, 1000, 0))] (spec_l01Src_long.con e8) ?_)
     clear e8
     refine bind_e (fun v9 e9 => gr_call [] (spec_l01Quote.con e9) ?_)
     clear e9
     refine gr_run ?_
     refine gr_done ?_
     refine ret_e (fun hr_ => ?_)
     subst hr_
     exact ret_ Tryz.func38 [(1000, (0, 1000, 0))]
    ·refine go 11 ?_
     refine ret_e (fun hr_ => ?_)
     subst hr_
     exact ret_ Tryz.func38 [(1000, (0, 1000, 0))]
 ·refine bif_e (fun c4 => ?_) (fun c4 => ?_)
  ·refine go 4 ?_
   exact fun h => good_jump hj0 ⟨_, ⟨_, _, by omega, rfl, h⟩, frle_, memle_⟩
  ·refine go 4 ?_
   exact fun h => good_jump hj0 ⟨_, ⟨_, _, by omega, rfl, h⟩, frle_, memle_⟩
def spec_DrawValueFault.f (k : Nat) (v0 : (List Int)) : Option (ByteArray) := ((spec_l01Source.f k v0).bind fun v1 => ((spec_l01Src_anyValue.f k (⟨v1.1, v1.2.1, v1.2.2.1, v1.2.2.2⟩ : S65)).bind fun v2 => (some v2.1)))
set_option maxRecDepth 100000 in
set_option maxHeartbeats 4000000 in
theorem spec_DrawValueFault.con {K : Kn} [KOk K] {k : Nat} {v0 : (List Int)} {r : ByteArray} (h : spec_DrawValueFault.f k v0 = some r) : Con K Tryz.prog 15 [.p (.lst false (List.map (irow .u8) v0))] [] (.p (.str r)) [] := by
 rw [spec_DrawValueFault.f] at h
 refine con_intro 6 [] Tryz.func15 (by kernel_rfl) rfl rfl (by kernel_rfl) fun ι0 w0 hk0 => ?_
 revert h
 refine go 3 ?_
 refine grs ?_
 refine gr_run ?_
 refine bind_e (fun v1 e1 => gr_call [(2000, (1, 4, 1))] (spec_l01Source.con e1) ?_)
 clear e1
 refine bind_e (fun v2 e2 => gr_call [(1000, (0, 4, 1))] (spec_l01Src_anyValue.con e2) ?_)
 clear e2
 refine gr_run ?_
 refine gr_done ?_
 refine ret_e (fun hr_ => ?_)
 subst hr_
 exact ret_ Tryz.func15 []
def spec_ValueFault.f (k : Nat) (v0 : ByteArray) : Option (Int) := ((spec_l01Read.f k v0).bind fun v1 => (bif decide (v1.f0 < 0) then (some 1) else (some 0)))
set_option maxRecDepth 100000 in
set_option maxHeartbeats 4000000 in
theorem spec_ValueFault.con {K : Kn} [KOk K] {k : Nat} {v0 : ByteArray} {r : Int} (h : spec_ValueFault.f k v0 = some r) : Con K Tryz.prog 7 [.p (.str v0)] [] (.p (.int .i64 r)) [] := by
 rw [spec_ValueFault.f] at h
 refine con_intro 7 [] Tryz.func7 (by kernel_rfl) rfl rfl (by kernel_rfl) fun ι0 w0 hk0 => ?_
 revert h
 refine go 4 ?_
 refine grs ?_
 refine gr_run ?_
 refine bind_e (fun v1 e1 => gr_call [] (spec_l01Read.con e1) ?_)
 clear e1
 refine gr_run ?_
 refine gr_done ?_
 refine bif_e (fun c1 => ?_) (fun c1 => ?_)
 ·refine go 3 ?_
  refine ret_e (fun hr_ => ?_)
  subst hr_
  exact ret_ Tryz.func7 []
 ·refine go 4 ?_
  refine ret_e (fun hr_ => ?_)
  subst hr_
  exact ret_ Tryz.func7 []
def spec_KindOf.f (k : Nat) (v0 : ByteArray) : Option (Int) := ((spec_l01Read.f k v0).bind fun v1 => (some v1.f0))
set_option maxRecDepth 100000 in
set_option maxHeartbeats 4000000 in
theorem spec_KindOf.con {K : Kn} [KOk K] {k : Nat} {v0 : ByteArray} {r : Int} (h : spec_KindOf.f k v0 = some r) : Con K Tryz.prog 18 [.p (.str v0)] [] (.p (.int .i64 r)) [] := by
 rw [spec_KindOf.f] at h
 refine con_intro 6 [] Tryz.func18 (by kernel_rfl) rfl rfl (by kernel_rfl) fun ι0 w0 hk0 => ?_
 revert h
 refine go 3 ?_
 refine grs ?_
 refine gr_run ?_
 refine bind_e (fun v1 e1 => gr_call [] (spec_l01Read.con e1) ?_)
 clear e1
 refine gr_run ?_
 refine gr_done ?_
 refine ret_e (fun hr_ => ?_)
 subst hr_
 exact ret_ Tryz.func18 []
mutual
def spec_l01Show.j1 : Nat → ByteArray → Int → S42 → Option (ByteArray)
 | 0, _, _, _ => none
 | k + 1, v22, v15, v0 => ((ix v0.f4 v15).bind fun v23 => ((spec_l01Show.f k v23).bind fun v24 => ((cat v22 v24).bind fun v25 => (spec_l01Show.l0 k v25 (IntKind.i64.wrap (v15 + 1)) v0))))
def spec_l01Show.j0 : Nat → ByteArray → Int → S42 → Option (ByteArray)
 | 0, _, _, _ => none
 | k + 1, v18, v15, v0 => (bif (v0.f0 == 7) then ((ix v0.f5 v15).bind fun v19 => ((cat v18 v19).bind fun v20 => ((cat v20 (⟨#[58]⟩ : ByteArray)).bind fun v21 => (spec_l01Show.j1 k v21 v15 v0)))) else (spec_l01Show.j1 k v18 v15 v0))
def spec_l01Show.l0 : Nat → ByteArray → Int → S42 → Option (ByteArray)
 | 0, _, _, _ => none
 | k + 1, v14, v15, v0 => (bif decide (v15 < (v0.f4.length : Int)) then (bif decide (0 < v15) then (bif (v0.f0 == 10) then ((cat v14 (⟨#[32]⟩ : ByteArray)).bind fun v16 => (spec_l01Show.j0 k v16 v15 v0)) else ((cat v14 (⟨#[44]⟩ : ByteArray)).bind fun v17 => (spec_l01Show.j0 k v17 v15 v0))) else (spec_l01Show.j0 k v14 v15 v0)) else (bif (v0.f0 == 10) then ((cat (⟨#[60]⟩ : ByteArray) v14).bind fun v26 => ((cat v26 (⟨#[62]⟩ : ByteArray)).bind fun v27 => (some v27))) else (bif (v0.f0 == 7) then ((cat (⟨#[123]⟩ : ByteArray) v14).bind fun v28 => ((cat v28 (⟨#[125]⟩ : ByteArray)).bind fun v29 => (some v29))) else ((cat (⟨#[91]⟩ : ByteArray) v14).bind fun v30 => ((cat v30 (⟨#[93]⟩ : ByteArray)).bind fun v31 => (some v31))))))
def spec_l01Show.f : Nat → S42 → Option (ByteArray)
 | 0, _ => none
 | k + 1, v0 => (bif (v0.f0 == 0) then (some (⟨#[110, 117, 108, 108]⟩ : ByteArray)) else (bif (v0.f0 == 1) then (bif (v0.f1 == 1) then (some (⟨#[116, 114, 117, 101]⟩ : ByteArray)) else (some (⟨#[102, 97, 108, 115, 101]⟩ : ByteArray))) else (bif (v0.f0 == 2) then ((spec_l01Dec.f k v0.f1).bind fun v1 => (some v1)) else (bif (v0.f0 == 3) then ((spec_l01Quote.f k v0.f3).bind fun v2 => (some v2)) else (bif (v0.f0 == 4) then ((spec_l01Date.f k v0.f1).bind fun v3 => (some v3)) else (bif (v0.f0 == 5) then ((spec_l01Dec.f k v0.f1).bind fun v4 => ((cat (⟨#[40]⟩ : ByteArray) v4).bind fun v5 => ((cat v5 (⟨#[32]⟩ : ByteArray)).bind fun v6 => ((spec_l01Dec.f k v0.f2).bind fun v7 => ((cat v6 v7).bind fun v8 => ((cat v8 (⟨#[41]⟩ : ByteArray)).bind fun v9 => (some v9))))))) else (bif (v0.f0 == 8) then ((spec_l01Dec.f k v0.f1).bind fun v10 => ((cat (⟨#[110]⟩ : ByteArray) v10).bind fun v11 => (some v11))) else (bif (v0.f0 == 9) then ((spec_l01Dec.f k v0.f1).bind fun v12 => ((cat (⟨#[101]⟩ : ByteArray) v12).bind fun v13 => (some v13))) else (spec_l01Show.l0 k (⟨#[]⟩ : ByteArray) 0 v0)))))))))
end
def spec_l01Show.C (K : Kn) (k : Nat) : Prop := ∀ (v0 : S42) (r : ByteArray), spec_l01Show.f k v0 = some r → Con K Tryz.prog 74 [.agg [.p (.int .i64 v0.f0), .p (.int .i64 v0.f1), .p (.int .i64 v0.f2), .p (.str v0.f3), .p (.lst false (List.map en42 v0.f4)), .p (.lst false (List.map srw v0.f5))]] [] (.p (.str r)) []
set_option maxRecDepth 100000 in
set_option maxHeartbeats 4000000 in
theorem spec_l01Show.con1 {K : Kn} [KOk K] (k : Nat) (spec_l01Show_ih : ∀ m, m < k → spec_l01Show.C K m) : spec_l01Show.C K k := by
 intro v0 r h
 cases k with
 | zero => exact absurd h (by simp [spec_l01Show.f])
 | succ k =>
 rw [spec_l01Show.f] at h
 refine con_intro 103 [] Tryz.func74 (by kernel_rfl) rfl rfl (by kernel_rfl) fun ι0 w0 hk0 => ?_
 revert h
 refine bif_e (fun c1 => ?_) (fun c1 => ?_)
 ·refine go 13 ?_
  refine ret_e (fun hr_ => ?_)
  subst hr_
  exact ret_ Tryz.func74 []
 ·refine bif_e (fun c2 => ?_) (fun c2 => ?_)
  ·refine bif_e (fun c3 => ?_) (fun c3 => ?_)
   ·refine go 20 ?_
    refine ret_e (fun hr_ => ?_)
    subst hr_
    exact ret_ Tryz.func74 []
   ·refine go 21 ?_
    refine ret_e (fun hr_ => ?_)
    subst hr_
    exact ret_ Tryz.func74 []
  ·refine bif_e (fun c4 => ?_) (fun c4 => ?_)
   ·refine go 18 ?_
    refine grs ?_
    refine gr_run ?_
    refine bind_e (fun v1 e1 => gr_call [] (spec_l01Dec.con e1) ?_)
    clear e1
    refine gr_run ?_
    refine gr_done ?_
    refine ret_e (fun hr_ => ?_)
    subst hr_
    exact ret_ Tryz.func74 []
   ·refine bif_e (fun c5 => ?_) (fun c5 => ?_)
    ·refine go 21 ?_
     refine grs ?_
     refine gr_run ?_
     refine bind_e (fun v2 e2 => gr_call [] (spec_l01Quote.con e2) ?_)
     clear e2
     refine gr_run ?_
     refine gr_done ?_
     refine ret_e (fun hr_ => ?_)
     subst hr_
     exact ret_ Tryz.func74 []
    ·refine bif_e (fun c6 => ?_) (fun c6 => ?_)
     ·refine go 24 ?_
      refine grs ?_
      refine gr_run ?_
      refine bind_e (fun v3 e3 => gr_call [] (spec_l01Date.con e3) ?_)
      clear e3
      refine gr_run ?_
      refine gr_done ?_
      refine ret_e (fun hr_ => ?_)
      subst hr_
      exact ret_ Tryz.func74 []
     ·refine bif_e (fun c7 => ?_) (fun c7 => ?_)
      ·refine go 27 ?_
       refine grs ?_
       refine gr_run ?_
       refine bind_e (fun v4 e4 => gr_call [] (spec_l01Dec.con e4) ?_)
       clear e4
       refine bind_e (fun v5 e5 => ?_)
       refine bind_e (fun v6 e6 => ?_)
       refine gr_run ?_
       refine bind_e (fun v7 e7 => gr_call [] (spec_l01Dec.con e7) ?_)
       clear e7
       refine bind_e (fun v8 e8 => ?_)
       refine bind_e (fun v9 e9 => ?_)
       refine gr_run ?_
       refine gr_done ?_
       refine ret_e (fun hr_ => ?_)
       subst hr_
       exact ret_ Tryz.func74 []
      ·refine bif_e (fun c8 => ?_) (fun c8 => ?_)
       ·refine go 30 ?_
        refine grs ?_
        refine gr_run ?_
        refine bind_e (fun v10 e10 => gr_call [] (spec_l01Dec.con e10) ?_)
        clear e10
        refine bind_e (fun v11 e11 => ?_)
        refine gr_run ?_
        refine gr_done ?_
        refine ret_e (fun hr_ => ?_)
        subst hr_
        exact ret_ Tryz.func74 []
       ·refine bif_e (fun c9 => ?_) (fun c9 => ?_)
        ·refine go 33 ?_
         refine grs ?_
         refine gr_run ?_
         refine bind_e (fun v12 e12 => gr_call [] (spec_l01Dec.con e12) ?_)
         clear e12
         refine bind_e (fun v13 e13 => ?_)
         refine gr_run ?_
         refine gr_done ?_
         refine ret_e (fun hr_ => ?_)
         subst hr_
         exact ret_ Tryz.func74 []
        ·refine go 38 ?_
         refine fun h => good_loop (fun n st => n ≤ k ∧ ∃ (v14 : _) (v15 : _), st = ⟨[(1, .ptr 1 1 0), (3, .p (.str v14)), (4, .p (.int .i64 v15))], [(1, (1, .cells [.p (.int .i64 v0.f0), .p (.int .i64 v0.f1), .p (.int .i64 v0.f2), .p (.str v0.f3), .p (.lst false (List.map en42 v0.f4)), .p (.lst false (List.map srw v0.f5))]))]⟩ ∧ spec_l01Show.l0 n v14 v15 v0 = some r) k ⟨_, ⟨Nat.le_refl _, _, _, rfl, h⟩, frle_, memle_⟩ ?_
         clear c1 c2 c4 c5 c6 c7 c8 c9
         clear h
         rintro n _ ⟨hkl0, v14, v15, rfl, h⟩ hl0
         cases n with
         | zero => exact absurd h (by simp [spec_l01Show.l0])
         | succ kl0 =>
         rw [spec_l01Show.l0] at h
         revert h
         refine bif_e (fun c10 => ?_) (fun c10 => ?_)
         ·refine go 8 ?_
          refine good_cut (fun st => ∃ (v18 : _) (q_ : Nat), q_ ≤ kl0 ∧ st = ⟨[(1, .ptr 1 1 0), (3, .p (.str v18)), (4, .p (.int .i64 v15))], [(1, (1, .cells [.p (.int .i64 v0.f0), .p (.int .i64 v0.f1), .p (.int .i64 v0.f2), .p (.str v0.f3), .p (.lst false (List.map en42 v0.f4)), .p (.lst false (List.map srw v0.f5))]))]⟩ ∧ spec_l01Show.j0 q_ v18 v15 v0 = some r) ?_ (fun hj0 => ?_)
          ·clear c10
           rintro _ ⟨v18, q_, hqj0, rfl, h⟩
           cases q_ with
           | zero => exact absurd h (by simp [spec_l01Show.j0])
           | succ kj0 =>
           rw [spec_l01Show.j0] at h
           revert h
           refine go 1 ?_
           refine good_cut (fun st => ∃ (v22 : _) (q_ : Nat), q_ ≤ kj0 ∧ st = ⟨[(1, .ptr 1 1 0), (3, .p (.str v22)), (4, .p (.int .i64 v15))], [(1, (1, .cells [.p (.int .i64 v0.f0), .p (.int .i64 v0.f1), .p (.int .i64 v0.f2), .p (.str v0.f3), .p (.lst false (List.map en42 v0.f4)), .p (.lst false (List.map srw v0.f5))]))]⟩ ∧ spec_l01Show.j1 q_ v22 v15 v0 = some r) ?_ (fun hj1 => ?_)
           ·skip
            rintro _ ⟨v22, q_, hqj1, rfl, h⟩
            cases q_ with
            | zero => exact absurd h (by simp [spec_l01Show.j1])
            | succ kj1 =>
            rw [spec_l01Show.j1] at h
            revert h
            refine bind_e (fun v23 e23 => ?_)
            replace e23 := nf_ (ix_en en42 e23)
            refine grs ?_
            refine gr_run ?_
            refine bind_e (fun v24 e24 => gr_call [] (spec_l01Show_ih _ (by omega) _ _ e24) ?_)
            clear e24
            refine bind_e (fun v25 e25 => ?_)
            refine gr_run ?_
            refine gr_done ?_
            refine go 2 ?_
            exact fun h => good_again hl0 (by omega) ⟨_, ⟨by omega, _, _, rfl, h⟩, frle_, memle_⟩
           ·refine bif_e (fun c11 => ?_) (fun c11 => ?_)
            ·refine bind_e (fun v19 e19 => ?_)
             replace e19 := nf_ (ix_en srw e19)
             refine bind_e (fun v20 e20 => ?_)
             refine bind_e (fun v21 e21 => ?_)
             refine go 4 ?_
             exact fun h => good_jump hj1 ⟨_, ⟨_, _, by omega, rfl, h⟩, frle_, memle_⟩
            ·refine go 4 ?_
             exact fun h => good_jump hj1 ⟨_, ⟨_, _, by omega, rfl, h⟩, frle_, memle_⟩
          ·refine bif_e (fun c12 => ?_) (fun c12 => ?_)
           ·refine bif_e (fun c13 => ?_) (fun c13 => ?_)
            ·refine bind_e (fun v16 e16 => ?_)
             refine go 7 ?_
             exact fun h => good_jump hj0 ⟨_, ⟨_, _, by omega, rfl, h⟩, frle_, memle_⟩
            ·refine bind_e (fun v17 e17 => ?_)
             refine go 7 ?_
             exact fun h => good_jump hj0 ⟨_, ⟨_, _, by omega, rfl, h⟩, frle_, memle_⟩
           ·refine go 4 ?_
            exact fun h => good_jump hj0 ⟨_, ⟨_, _, by omega, rfl, h⟩, frle_, memle_⟩
         ·refine bif_e (fun c14 => ?_) (fun c14 => ?_)
          ·refine bind_e (fun v26 e26 => ?_)
           refine bind_e (fun v27 e27 => ?_)
           refine go 14 ?_
           refine ret_e (fun hr_ => ?_)
           subst hr_
           exact ret_ Tryz.func74 []
          ·refine bif_e (fun c15 => ?_) (fun c15 => ?_)
           ·refine bind_e (fun v28 e28 => ?_)
            refine bind_e (fun v29 e29 => ?_)
            refine go 17 ?_
            refine ret_e (fun hr_ => ?_)
            subst hr_
            exact ret_ Tryz.func74 []
           ·refine bind_e (fun v30 e30 => ?_)
            refine bind_e (fun v31 e31 => ?_)
            refine go 19 ?_
            refine ret_e (fun hr_ => ?_)
            subst hr_
            exact ret_ Tryz.func74 []
theorem spec_l01Show.all {K : Kn} [KOk K] (k : Nat) : spec_l01Show.C K k := by
 induction k using Nat.strongRecOn with
 | _ k ih => exact spec_l01Show.con1 k ih
theorem spec_l01Show.con {K : Kn} [KOk K] {k : Nat} {v0 : S42} {r : ByteArray} (h : spec_l01Show.f k v0 = some r) : Con K Tryz.prog 74 [.agg [.p (.int .i64 v0.f0), .p (.int .i64 v0.f1), .p (.int .i64 v0.f2), .p (.str v0.f3), .p (.lst false (List.map en42 v0.f4)), .p (.lst false (List.map srw v0.f5))]] [] (.p (.str r)) [] := (spec_l01Show.all k) _ r h
end Go.Ab
