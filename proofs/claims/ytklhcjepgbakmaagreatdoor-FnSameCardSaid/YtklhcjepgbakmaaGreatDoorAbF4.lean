/- What the functions compute, and their contracts, part 4. No condition beyond KOk. -/
import Derived.Test.YtklhcjepgbakmaaGreatDoorAbX
import Derived.Test.YtklhcjepgbakmaaGreatDoorAbF1
import Derived.Test.YtklhcjepgbakmaaGreatDoorAbF3
namespace Go.Ab
open Go.Proofs
set_option linter.unusedVariables false
set_option linter.unusedSimpArgs false
mutual
def spec_l01Src_anyValue.j0 : Nat → (ByteArray × S65) → (Int × S65) → Bool → Option (ByteArray × S65)
 | 0, _, _, _ => none
 | k + 1, v1, v2, v3 => (bif v3 then ((spec_l01Src_spoil.f k v1.1 v2.2).bind fun v4 => (some (v4.1, v4.2))) else (bif (v2.1 == 2) then ((spec_l01Src_n.f k 29 v2.2).bind fun v5 => ((ix ([(⟨#[]⟩ : ByteArray), (⟨#[48, 48]⟩ : ByteArray), (⟨#[45, 48]⟩ : ByteArray), (⟨#[43, 49]⟩ : ByteArray), (⟨#[57, 50, 50, 51, 51, 55, 50, 48, 51, 54, 56, 53, 52, 55, 55, 53, 56, 48, 56]⟩ : ByteArray), (⟨#[64, 50, 48, 50, 51, 45, 48, 50, 45, 50, 57]⟩ : ByteArray), (⟨#[64, 50, 48, 48, 48, 45, 48, 50, 45, 50, 57]⟩ : ByteArray), (⟨#[64, 48, 48, 48, 48, 45, 48, 49, 45, 48, 49]⟩ : ByteArray), (⟨#[64, 49, 57, 48, 48, 45, 48, 50, 45, 50, 57]⟩ : ByteArray), (⟨#[40, 49, 32, 50]⟩ : ByteArray), (⟨#[40, 49, 32, 32, 50, 41]⟩ : ByteArray), (⟨#[40, 49, 48, 48, 48, 48, 48, 48, 32, 48, 41]⟩ : ByteArray), (⟨#[40, 49, 48, 48, 48, 48, 48, 49, 32, 48, 41]⟩ : ByteArray), (⟨#[123, 98, 58, 49, 44, 97, 58, 50, 125]⟩ : ByteArray), (⟨#[123, 97, 58, 49, 44, 97, 58, 50, 125]⟩ : ByteArray), (⟨#[91, 49, 44, 32, 50, 93]⟩ : ByteArray), (⟨#[110, 48]⟩ : ByteArray), (⟨#[110, 49, 48, 48, 48, 48, 48, 48, 48, 48, 48, 48, 48, 48]⟩ : ByteArray), (⟨#[110, 49, 48, 48, 48, 48, 48, 48, 48, 48, 48, 48, 48, 49]⟩ : ByteArray), (⟨#[60, 101, 49, 62]⟩ : ByteArray), (⟨#[60, 110, 49, 32, 101, 50, 62]⟩ : ByteArray), (⟨#[34, 97, 10, 98, 34]⟩ : ByteArray), (⟨#[34, 92, 120, 34]⟩ : ByteArray), (⟨#[91, 91, 91, 91, 91, 93, 93, 93, 93, 93]⟩ : ByteArray), (⟨#[91, 91, 91, 91, 91, 91, 93, 93, 93, 93, 93, 93]⟩ : ByteArray), (⟨#[110, 117, 108]⟩ : ByteArray), (⟨#[116, 114, 117, 101, 102, 97, 108, 115, 101]⟩ : ByteArray), (⟨#[123, 49, 97, 58, 50, 125]⟩ : ByteArray), (⟨#[91, 49, 44, 93]⟩ : ByteArray)] : List ByteArray) v5.1).bind fun v6 => (some (v6, v5.2)))) else (bif (v2.1 == 3) then ((spec_l01Src_n.f k 4 v2.2).bind fun v7 => ((spec_l01Src_long.f k (⟨#[97]⟩ : ByteArray) (IntKind.i64.wrap (1996 + v7.1)) v7.2).bind fun v8 => ((spec_l01Quote.f k v8.1).bind fun v9 => (some (v9, v8.2))))) else (some (v1.1, v2.2)))))
def spec_l01Src_anyValue.f : Nat → S65 → Option (ByteArray × S65)
 | 0, _ => none
 | k + 1, v0 => ((spec_l01Src_value.f k 2 v0).bind fun v1 => ((spec_l01Src_n.f k 24 v1.2).bind fun v2 => (bif (v2.1 == 0) then (spec_l01Src_anyValue.j0 k v1 v2 true) else (spec_l01Src_anyValue.j0 k v1 v2 (v2.1 == 1)))))
end
set_option maxRecDepth 100000 in
set_option maxHeartbeats 4000000 in
theorem spec_l01Src_anyValue.con {K : Kn} [KOk K] {k : Nat} {v0 : S65} {r : ByteArray × S65} (h : spec_l01Src_anyValue.f k v0 = some r) : Con K Tryz.prog 38 [.ptr 1000 0 0] [(1000, (0, .cells [.p (.lst false (List.map (irow .u8) v0.f0)), .p (.int .i64 v0.f1), .p (.int .u64 v0.f2), .p (.int .i64 v0.f3)]))] (.p (.str r.1)) [(1000, (0, .cells [.p (.lst false (List.map (irow .u8) r.2.f0)), .p (.int .i64 r.2.f1), .p (.int .u64 r.2.f2), .p (.int .i64 r.2.f3)]))] := by
 cases k with
 | zero => exact absurd h (by simp [spec_l01Src_anyValue.f])
 | succ k =>
 rw [spec_l01Src_anyValue.f] at h
 refine con_intro 30 [] Tryz.func38 (by kernel_rfl) rfl rfl (by kernel_rfl) fun ι0 w0 hk0 => ?_
 revert h
 refine go 3 ?_
 refine grs ?_
 refine gr_run ?_
 refine bind_e (fun v1 e1 => gr_call [(1000, (0, 1000, 0))] (spec_l01Src_value.con e1) ?_)
 clear e1
 refine gr_run ?_
 refine gr_done ?_
 refine go 2 ?_
 refine grs ?_
 refine gr_run ?_
 refine bind_e (fun v2 e2 => gr_call [(1000, (0, 1000, 0))] (spec_l01Src_n.con e2) ?_)
 clear e2
 refine gr_done ?_
 refine go 2 ?_
 refine good_cut (fun st => ∃ (v3 : _) (q_ : Nat), q_ ≤ k ∧ st = ⟨[(0, .ptr 1000 0 0), (3, .p (.str v1.1)), (7, .p (.int .i64 v2.1)), (8, .p (.bool v3))], [(1000, (0, .cells [.p (.lst false (List.map (irow .u8) v2.2.f0)), .p (.int .i64 v2.2.f1), .p (.int .u64 v2.2.f2), .p (.int .i64 v2.2.f3)]))]⟩ ∧ spec_l01Src_anyValue.j0 q_ v1 v2 v3 = some r) ?_ (fun hj0 => ?_)
 ·skip
  rintro _ ⟨v3, q_, hqj0, rfl, h⟩
  cases q_ with
  | zero => exact absurd h (by simp [spec_l01Src_anyValue.j0])
  | succ kj0 =>
  rw [spec_l01Src_anyValue.j0] at h
  revert h
  refine bif_e (fun c1 => ?_) (fun c1 => ?_)
  ·refine go 2 ?_
   refine grs ?_
   refine gr_run ?_
   refine bind_e (fun v4 e4 => gr_call [(1000, (0, 1000, 0))] (spec_l01Src_spoil.con e4) ?_)
   clear e4
   refine gr_run ?_
   refine gr_done ?_
   refine ret_e (fun hr_ => ?_)
   subst hr_
   exact ret_ Tryz.func38 [(1000, (0, 1000, 0))]
  ·refine bif_e (fun c2 => ?_) (fun c2 => ?_)
   ·refine go 5 ?_
    refine grs ?_
    refine gr_run ?_
    refine bind_e (fun v5 e5 => gr_call [(1000, (0, 1000, 0))] (spec_l01Src_n.con e5) ?_)
    clear e5
    refine bind_e (fun v6 e6 => ?_)
    replace e6 := nf_ (ix_en srw e6)
    refine gr_run ?_
    refine gr_done ?_
    refine ret_e (fun hr_ => ?_)
    subst hr_
    exact ret_ Tryz.func38 [(1000, (0, 1000, 0))]
   ·refine bif_e (fun c3 => ?_) (fun c3 => ?_)
    ·refine go 8 ?_
     refine grs ?_
     refine gr_run ?_
     refine bind_e (fun v7 e7 => gr_call [(1000, (0, 1000, 0))] (spec_l01Src_n.con e7) ?_)
     clear e7
     refine gr_run ?_
     refine bind_e (fun v8 e8 => gr_call [(1000, (0, 1000, 0))] (spec_l01Src_long.con e8) ?_)
     clear e8
     refine bind_e (fun v9 e9 => gr_call [] (spec_l01Quote.con e9) ?_)
     clear e9
     refine gr_run ?_
     refine gr_done ?_
     refine ret_e (fun hr_ => ?_)
     subst hr_
     exact ret_ Tryz.func38 [(1000, (0, 1000, 0))]
    ·refine go 11 ?_
     refine ret_e (fun hr_ => ?_)
     subst hr_
     exact ret_ Tryz.func38 [(1000, (0, 1000, 0))]
 ·refine bif_e (fun c4 => ?_) (fun c4 => ?_)
  ·refine go 4 ?_
   exact fun h => good_jump hj0 ⟨_, ⟨_, _, by omega, rfl, h⟩, frle_, memle_⟩
  ·refine go 4 ?_
   exact fun h => good_jump hj0 ⟨_, ⟨_, _, by omega, rfl, h⟩, frle_, memle_⟩
mutual
def spec_l01Src_two.j1 : Nat → ByteArray → ByteArray → (List Int) → Int → Int → Int → Option (ByteArray × ByteArray × S65)
 | 0, _, _, _, _, _, _ => none
 | k + 1, v13, v14, v15, v16, v17, v18 => ((spec_l01Src_one.f k 8 (⟨v15, v16, v17, v18⟩ : S65)).bind fun v19 => (bif v19.1 then ((spec_l01Src_scalar.f k v19.2).bind fun v20 => ((spec_l01Src_scalar.f k v20.2).bind fun v21 => ((spec_MapOf.f k ([(⟨(⟨#[97]⟩ : ByteArray), v20.1⟩ : S58), (⟨(⟨#[98]⟩ : ByteArray), v21.1⟩ : S58)] : List S58)).bind fun v22 => ((spec_l01Src_n.f k 2 v21.2).bind fun v23 => ((ix ([(⟨#[98]⟩ : ByteArray), (⟨#[99]⟩ : ByteArray)] : List ByteArray) v23.1).bind fun v24 => ((spec_l01Src_scalar.f k v23.2).bind fun v25 => ((spec_MapOf.f k ([(⟨(⟨#[97]⟩ : ByteArray), v20.1⟩ : S58), (⟨v24, v25.1⟩ : S58)] : List S58)).bind fun v26 => ((spec_l01Src_one.f k 15 v25.2).bind fun v27 => (bif v27.1 then ((spec_l01Src_anyValue.f k v27.2).bind fun v28 => (some (v28.1, v26, v28.2))) else (some (v22, v26, v27.2))))))))))) else ((spec_l01Src_one.f k 15 v19.2).bind fun v29 => (bif v29.1 then ((spec_l01Src_anyValue.f k v29.2).bind fun v30 => (some (v30.1, v14, v30.2))) else (some (v13, v14, v29.2))))))
def spec_l01Src_two.j0 : Nat → (ByteArray × S65) → ByteArray → (Bool × S65) → Option (ByteArray × ByteArray × S65)
 | 0, _, _, _ => none
 | k + 1, v1, v4, v3 => ((spec_l01Src_one.f k 4 v3.2).bind fun v5 => (bif v5.1 then ((spec_l01Src_scalar.f k v5.2).bind fun v6 => ((spec_l01Src_scalar.f k v6.2).bind fun v7 => ((spec_ListOf.f k ([v6.1, v7.1] : List ByteArray)).bind fun v8 => ((spec_l01Src_scalar.f k v7.2).bind fun v9 => ((spec_ItemsOf.f k v8).bind fun v10 => ((ix v10 1).bind fun v11 => ((spec_ListOf.f k ([v9.1, v11] : List ByteArray)).bind fun v12 => (spec_l01Src_two.j1 k v8 v12 v9.2.f0 v9.2.f1 v9.2.f2 v9.2.f3)))))))) else (spec_l01Src_two.j1 k v1.1 v4 v5.2.f0 v5.2.f1 v5.2.f2 v5.2.f3)))
def spec_l01Src_two.f : Nat → S65 → Option (ByteArray × ByteArray × S65)
 | 0, _ => none
 | k + 1, v0 => ((spec_l01Src_value.f k 2 v0).bind fun v1 => ((spec_l01Src_value.f k 2 v1.2).bind fun v2 => ((spec_l01Src_one.f k 3 v2.2).bind fun v3 => (bif v3.1 then (spec_l01Src_two.j0 k v1 v1.1 v3) else (spec_l01Src_two.j0 k v1 v2.1 v3)))))
end
set_option maxRecDepth 100000 in
set_option maxHeartbeats 4000000 in
theorem spec_l01Src_two.con {K : Kn} [KOk K] {k : Nat} {v0 : S65} {r : ByteArray × ByteArray × S65} (h : spec_l01Src_two.f k v0 = some r) : Con K Tryz.prog 29 [.ptr 1000 0 0] [(1000, (0, .cells [.p (.lst false (List.map (irow .u8) v0.f0)), .p (.int .i64 v0.f1), .p (.int .u64 v0.f2), .p (.int .i64 v0.f3)]))] (.tup [.p (.str r.1), .p (.str r.2.1)]) [(1000, (0, .cells [.p (.lst false (List.map (irow .u8) r.2.2.f0)), .p (.int .i64 r.2.2.f1), .p (.int .u64 r.2.2.f2), .p (.int .i64 r.2.2.f3)]))] := by
 cases k with
 | zero => exact absurd h (by simp [spec_l01Src_two.f])
 | succ k =>
 rw [spec_l01Src_two.f] at h
 refine con_intro 59 [] Tryz.func29 (by kernel_rfl) rfl rfl (by kernel_rfl) fun ι0 w0 hk0 => ?_
 revert h
 refine go 3 ?_
 refine grs ?_
 refine gr_run ?_
 refine bind_e (fun v1 e1 => gr_call [(1000, (0, 1000, 0))] (spec_l01Src_value.con e1) ?_)
 clear e1
 refine gr_run ?_
 refine gr_done ?_
 refine go 1 ?_
 refine grs ?_
 refine gr_run ?_
 refine bind_e (fun v2 e2 => gr_call [(1000, (0, 1000, 0))] (spec_l01Src_value.con e2) ?_)
 clear e2
 refine gr_run ?_
 refine gr_done ?_
 refine go 1 ?_
 refine good_cut (fun st => ∃ (v4 : _) (v3 : _) (q_ : Nat), q_ ≤ k ∧ st = ⟨[(0, .ptr 1000 0 0), (4, .p (.str v1.1)), (5, .p (.str v4))], [(1000, (0, .cells [.p (.lst false (List.map (irow .u8) v3.2.f0)), .p (.int .i64 v3.2.f1), .p (.int .u64 v3.2.f2), .p (.int .i64 v3.2.f3)]))]⟩ ∧ spec_l01Src_two.j0 q_ v1 v4 v3 = some r) ?_ (fun hj0 => ?_)
 ·skip
  rintro _ ⟨v4, v3, q_, hqj0, rfl, h⟩
  cases q_ with
  | zero => exact absurd h (by simp [spec_l01Src_two.j0])
  | succ kj0 =>
  rw [spec_l01Src_two.j0] at h
  revert h
  refine go 1 ?_
  refine good_cut (fun st => ∃ (v13 : _) (v14 : _) (v15 : _) (v16 : _) (v17 : _) (v18 : _) (q_ : Nat), q_ ≤ kj0 ∧ st = ⟨[(0, .ptr 1000 0 0), (4, .p (.str v13)), (5, .p (.str v14))], [(1000, (0, .cells [.p (.lst false (List.map (irow .u8) v15)), .p (.int .i64 v16), .p (.int .u64 v17), .p (.int .i64 v18)]))]⟩ ∧ spec_l01Src_two.j1 q_ v13 v14 v15 v16 v17 v18 = some r) ?_ (fun hj1 => ?_)
  ·skip
   rintro _ ⟨v13, v14, v15, v16, v17, v18, q_, hqj1, rfl, h⟩
   cases q_ with
   | zero => exact absurd h (by simp [spec_l01Src_two.j1])
   | succ kj1 =>
   rw [spec_l01Src_two.j1] at h
   revert h
   refine go 2 ?_
   refine grs ?_
   refine gr_run ?_
   refine bind_e (fun v19 e19 => gr_call [(1000, (0, 1000, 0))] (spec_l01Src_one.con e19) ?_)
   clear e19
   refine gr_done ?_
   refine bif_e (fun c1 => ?_) (fun c1 => ?_)
   ·refine go 2 ?_
    refine grs ?_
    refine gr_run ?_
    refine bind_e (fun v20 e20 => gr_call [(1000, (0, 1000, 0))] (spec_l01Src_scalar.con e20) ?_)
    clear e20
    refine gr_run ?_
    refine gr_done ?_
    refine go 1 ?_
    refine grs ?_
    refine gr_run ?_
    refine bind_e (fun v21 e21 => gr_call [(1000, (0, 1000, 0))] (spec_l01Src_scalar.con e21) ?_)
    clear e21
    refine gr_run ?_
    refine bind_e (fun v22 e22 => gr_call [] (spec_MapOf.con e22) ?_)
    clear e22
    refine gr_run ?_
    refine gr_done ?_
    refine grs ?_
    refine gr_run ?_
    refine bind_e (fun v23 e23 => gr_call [(1000, (0, 1000, 0))] (spec_l01Src_n.con e23) ?_)
    clear e23
    refine bind_e (fun v24 e24 => ?_)
    replace e24 := nf_ (ix_en srw e24)
    refine gr_run ?_
    refine bind_e (fun v25 e25 => gr_call [(1000, (0, 1000, 0))] (spec_l01Src_scalar.con e25) ?_)
    clear e25
    refine gr_run ?_
    refine bind_e (fun v26 e26 => gr_call [] (spec_MapOf.con e26) ?_)
    clear e26
    refine gr_run ?_
    refine gr_done ?_
    refine go 2 ?_
    refine grs ?_
    refine gr_run ?_
    refine bind_e (fun v27 e27 => gr_call [(1000, (0, 1000, 0))] (spec_l01Src_one.con e27) ?_)
    clear e27
    refine gr_done ?_
    refine bif_e (fun c2 => ?_) (fun c2 => ?_)
    ·refine go 1 ?_
     refine grs ?_
     refine gr_run ?_
     refine bind_e (fun v28 e28 => gr_call [(1000, (0, 1000, 0))] (spec_l01Src_anyValue.con e28) ?_)
     clear e28
     refine gr_run ?_
     refine gr_done ?_
     refine go 2 ?_
     refine ret_e (fun hr_ => ?_)
     subst hr_
     exact ret_ Tryz.func29 [(1000, (0, 1000, 0))]
    ·refine go 4 ?_
     refine ret_e (fun hr_ => ?_)
     subst hr_
     exact ret_ Tryz.func29 [(1000, (0, 1000, 0))]
   ·refine go 4 ?_
    refine grs ?_
    refine gr_run ?_
    refine bind_e (fun v29 e29 => gr_call [(1000, (0, 1000, 0))] (spec_l01Src_one.con e29) ?_)
    clear e29
    refine gr_done ?_
    refine bif_e (fun c3 => ?_) (fun c3 => ?_)
    ·refine go 1 ?_
     refine grs ?_
     refine gr_run ?_
     refine bind_e (fun v30 e30 => gr_call [(1000, (0, 1000, 0))] (spec_l01Src_anyValue.con e30) ?_)
     clear e30
     refine gr_run ?_
     refine gr_done ?_
     refine go 2 ?_
     refine ret_e (fun hr_ => ?_)
     subst hr_
     exact ret_ Tryz.func29 [(1000, (0, 1000, 0))]
    ·refine go 4 ?_
     refine ret_e (fun hr_ => ?_)
     subst hr_
     exact ret_ Tryz.func29 [(1000, (0, 1000, 0))]
  ·refine go 1 ?_
   refine grs ?_
   refine gr_run ?_
   refine bind_e (fun v5 e5 => gr_call [(1000, (0, 1000, 0))] (spec_l01Src_one.con e5) ?_)
   clear e5
   refine gr_done ?_
   refine bif_e (fun c4 => ?_) (fun c4 => ?_)
   ·refine go 2 ?_
    refine grs ?_
    refine gr_run ?_
    refine bind_e (fun v6 e6 => gr_call [(1000, (0, 1000, 0))] (spec_l01Src_scalar.con e6) ?_)
    clear e6
    refine gr_run ?_
    refine bind_e (fun v7 e7 => gr_call [(1000, (0, 1000, 0))] (spec_l01Src_scalar.con e7) ?_)
    clear e7
    refine gr_run ?_
    refine bind_e (fun v8 e8 => gr_call [] (spec_ListOf.con e8) ?_)
    clear e8
    refine gr_run ?_
    refine gr_done ?_
    refine grs ?_
    refine gr_run ?_
    refine bind_e (fun v9 e9 => gr_call [(1000, (0, 1000, 0))] (spec_l01Src_scalar.con e9) ?_)
    clear e9
    refine gr_run ?_
    refine bind_e (fun v10 e10 => gr_call [] (spec_ItemsOf.con e10) ?_)
    clear e10
    refine bind_e (fun v11 e11 => ?_)
    replace e11 := nf_ (ix_en srw e11)
    refine gr_run ?_
    refine bind_e (fun v12 e12 => gr_call [] (spec_ListOf.con e12) ?_)
    clear e12
    refine gr_run ?_
    refine gr_done ?_
    exact fun h => good_jump hj1 ⟨_, ⟨_, _, _, _, _, _, _, by omega, rfl, h⟩, frle_, memle_⟩
   ·refine go 2 ?_
    exact fun h => good_jump hj1 ⟨_, ⟨_, _, _, _, _, _, _, by omega, rfl, h⟩, frle_, memle_⟩
 ·refine go 1 ?_
  refine grs ?_
  refine gr_run ?_
  refine bind_e (fun v3 e3 => gr_call [(1000, (0, 1000, 0))] (spec_l01Src_one.con e3) ?_)
  clear e3
  refine gr_done ?_
  refine bif_e (fun c5 => ?_) (fun c5 => ?_)
  ·refine go 2 ?_
   exact fun h => good_jump hj0 ⟨_, ⟨_, _, _, by omega, rfl, h⟩, frle_, memle_⟩
  ·refine go 2 ?_
   exact fun h => good_jump hj0 ⟨_, ⟨_, _, _, by omega, rfl, h⟩, frle_, memle_⟩
def spec_DrawSameValues.f (k : Nat) (v0 : (List Int)) : Option (ByteArray × ByteArray) := ((spec_l01Source.f k v0).bind fun v1 => ((spec_l01Src_two.f k (⟨v1.1, v1.2.1, v1.2.2.1, v1.2.2.2⟩ : S65)).bind fun v2 => (some (v2.1, v2.2.1))))
set_option maxRecDepth 100000 in
set_option maxHeartbeats 4000000 in
theorem spec_DrawSameValues.con {K : Kn} [KOk K] {k : Nat} {v0 : (List Int)} {r : ByteArray × ByteArray} (h : spec_DrawSameValues.f k v0 = some r) : Con K Tryz.prog 10 [.p (.lst false (List.map (irow .u8) v0))] [] (.tup [.p (.str r.1), .p (.str r.2)]) [] := by
 rw [spec_DrawSameValues.f] at h
 refine con_intro 9 [] Tryz.func10 (by kernel_rfl) rfl rfl (by kernel_rfl) fun ι0 w0 hk0 => ?_
 revert h
 refine go 3 ?_
 refine grs ?_
 refine gr_run ?_
 refine bind_e (fun v1 e1 => gr_call [(2000, (1, 5, 1))] (spec_l01Source.con e1) ?_)
 clear e1
 refine bind_e (fun v2 e2 => gr_call [(1000, (0, 5, 1))] (spec_l01Src_two.con e2) ?_)
 clear e2
 refine gr_run ?_
 refine gr_done ?_
 refine ret_e (fun hr_ => ?_)
 subst hr_
 exact ret_ Tryz.func10 []
def spec_l01Rank.f (k : Nat) (v0 : Int) : Option (Int) := (bif (v0 == 0) then (some 100) else (some v0))
set_option maxRecDepth 100000 in
set_option maxHeartbeats 4000000 in
theorem spec_l01Rank.con {K : Kn} [KOk K] {k : Nat} {v0 : Int} {r : Int} (h : spec_l01Rank.f k v0 = some r) : Con K Tryz.prog 58 [.p (.int .i64 v0)] [] (.p (.int .i64 r)) [] := by
 rw [spec_l01Rank.f] at h
 refine con_intro 6 [] Tryz.func58 (by kernel_rfl) rfl rfl (by kernel_rfl) fun ι0 w0 hk0 => ?_
 revert h
 refine bif_e (fun c1 => ?_) (fun c1 => ?_)
 ·refine go 8 ?_
  refine ret_e (fun hr_ => ?_)
  subst hr_
  exact ret_ Tryz.func58 []
 ·refine go 9 ?_
  refine ret_e (fun hr_ => ?_)
  subst hr_
  exact ret_ Tryz.func58 []
def spec_l01Bool.f (k : Nat) (v0 : Bool) : Option (Int) := (bif v0 then (some 1) else (some 0))
set_option maxRecDepth 100000 in
set_option maxHeartbeats 4000000 in
theorem spec_l01Bool.con {K : Kn} [KOk K] {k : Nat} {v0 : Bool} {r : Int} (h : spec_l01Bool.f k v0 = some r) : Con K Tryz.prog 60 [.p (.bool v0)] [] (.p (.int .i64 r)) [] := by
 rw [spec_l01Bool.f] at h
 refine con_intro 4 [] Tryz.func60 (by kernel_rfl) rfl rfl (by kernel_rfl) fun ι0 w0 hk0 => ?_
 revert h
 refine bif_e (fun c1 => ?_) (fun c1 => ?_)
 ·refine go 8 ?_
  refine ret_e (fun hr_ => ?_)
  subst hr_
  exact ret_ Tryz.func60 []
 ·refine go 9 ?_
  refine ret_e (fun hr_ => ?_)
  subst hr_
  exact ret_ Tryz.func60 []
def spec_l01CompareInts.f (k : Nat) (v0 : Int) (v1 : Int) : Option (Int) := ((spec_l01Bool.f k (decide (v1 < v0))).bind fun v2 => ((spec_l01Bool.f k (decide (v0 < v1))).bind fun v3 => (some (IntKind.i64.wrap (v2 - v3)))))
set_option maxRecDepth 100000 in
set_option maxHeartbeats 4000000 in
theorem spec_l01CompareInts.con {K : Kn} [KOk K] {k : Nat} {v0 : Int} {v1 : Int} {r : Int} (h : spec_l01CompareInts.f k v0 v1 = some r) : Con K Tryz.prog 57 [.p (.int .i64 v0), .p (.int .i64 v1)] [] (.p (.int .i64 r)) [] := by
 rw [spec_l01CompareInts.f] at h
 refine con_intro 14 [] Tryz.func57 (by kernel_rfl) rfl rfl (by kernel_rfl) fun ι0 w0 hk0 => ?_
 revert h
 refine go 3 ?_
 refine grs ?_
 refine gr_run ?_
 refine bind_e (fun v2 e2 => gr_call [] (spec_l01Bool.con e2) ?_)
 clear e2
 refine gr_run ?_
 refine bind_e (fun v3 e3 => gr_call [] (spec_l01Bool.con e3) ?_)
 clear e3
 refine gr_run ?_
 refine gr_done ?_
 refine ret_e (fun hr_ => ?_)
 subst hr_
 exact ret_ Tryz.func57 []
def spec_l01CompareTexts.f (k : Nat) (v0 : ByteArray) (v1 : ByteArray) : Option (Int) := ((spec_l01Bool.f k (slt v1 v0)).bind fun v2 => ((spec_l01Bool.f k (slt v0 v1)).bind fun v3 => (some (IntKind.i64.wrap (v2 - v3)))))
set_option maxRecDepth 100000 in
set_option maxHeartbeats 4000000 in
theorem spec_l01CompareTexts.con {K : Kn} [KOk K] {k : Nat} {v0 : ByteArray} {v1 : ByteArray} {r : Int} (h : spec_l01CompareTexts.f k v0 v1 = some r) : Con K Tryz.prog 59 [.p (.str v0), .p (.str v1)] [] (.p (.int .i64 r)) [] := by
 rw [spec_l01CompareTexts.f] at h
 refine con_intro 14 [] Tryz.func59 (by kernel_rfl) rfl rfl (by kernel_rfl) fun ι0 w0 hk0 => ?_
 revert h
 refine go 3 ?_
 refine grs ?_
 refine gr_run ?_
 refine bind_e (fun v2 e2 => gr_call [] (spec_l01Bool.con e2) ?_)
 clear e2
 refine gr_run ?_
 refine bind_e (fun v3 e3 => gr_call [] (spec_l01Bool.con e3) ?_)
 clear e3
 refine gr_run ?_
 refine gr_done ?_
 refine ret_e (fun hr_ => ?_)
 subst hr_
 exact ret_ Tryz.func59 []
mutual
def spec_l01Order.j0 : Nat → S42 → S42 → Option (Int)
 | 0, _, _ => none
 | k + 1, v0, v1 => ((spec_l01CompareInts.f k (v0.f4.length : Int) (v1.f4.length : Int)).bind fun v9 => (some v9))
def spec_l01Order.j1 : Nat → Int → S42 → S42 → Option (Int)
 | 0, _, _, _ => none
 | k + 1, v8, v0, v1 => ((ix v0.f4 v8).bind fun v15 => ((ix v1.f4 v8).bind fun v16 => ((spec_l01Order.f k v15 v16).bind fun v17 => (bif (v17 == 0) then (spec_l01Order.l0 k (IntKind.i64.wrap (v8 + 1)) v0 v1) else (some v17)))))
def spec_l01Order.l0 : Nat → Int → S42 → S42 → Option (Int)
 | 0, _, _, _ => none
 | k + 1, v8, v0, v1 => (bif decide (v8 < (v0.f4.length : Int)) then (bif decide (v8 < (v1.f4.length : Int)) then (bif (v0.f0 == 7) then ((ix v0.f5 v8).bind fun v10 => ((ix v1.f5 v8).bind fun v11 => (bif decide (v10 = v11) then (spec_l01Order.j1 k v8 v0 v1) else ((spec_l01CompareTexts.f k v10 v11).bind fun v14 => (some v14))))) else (spec_l01Order.j1 k v8 v0 v1)) else (spec_l01Order.j0 k v0 v1)) else (spec_l01Order.j0 k v0 v1))
def spec_l01Order.f : Nat → S42 → S42 → Option (Int)
 | 0, _, _ => none
 | k + 1, v0, v1 => (bif (v0.f0 == v1.f0) then (bif (v0.f0 == 3) then ((spec_l01CompareTexts.f k v0.f3 v1.f3).bind fun v5 => (some v5)) else (bif (v0.f1 == v1.f1) then (bif (v0.f2 == v1.f2) then (spec_l01Order.l0 k 0 v0 v1) else ((spec_l01CompareInts.f k v0.f2 v1.f2).bind fun v7 => (some v7))) else ((spec_l01CompareInts.f k v0.f1 v1.f1).bind fun v6 => (some v6)))) else ((spec_l01Rank.f k v0.f0).bind fun v2 => ((spec_l01Rank.f k v1.f0).bind fun v3 => ((spec_l01CompareInts.f k v2 v3).bind fun v4 => (some v4)))))
end
def spec_l01Order.C (K : Kn) (k : Nat) : Prop := ∀ (v0 : S42) (v1 : S42) (r : Int), spec_l01Order.f k v0 v1 = some r → Con K Tryz.prog 33 [.agg [.p (.int .i64 v0.f0), .p (.int .i64 v0.f1), .p (.int .i64 v0.f2), .p (.str v0.f3), .p (.lst false (List.map en42 v0.f4)), .p (.lst false (List.map srw v0.f5))], .agg [.p (.int .i64 v1.f0), .p (.int .i64 v1.f1), .p (.int .i64 v1.f2), .p (.str v1.f3), .p (.lst false (List.map en42 v1.f4)), .p (.lst false (List.map srw v1.f5))]] [] (.p (.int .i64 r)) []
set_option maxRecDepth 100000 in
set_option maxHeartbeats 4000000 in
theorem spec_l01Order.con1 {K : Kn} [KOk K] (k : Nat) (spec_l01Order_ih : ∀ m, m < k → spec_l01Order.C K m) : spec_l01Order.C K k := by
 intro v0 v1 r h
 cases k with
 | zero => exact absurd h (by simp [spec_l01Order.f])
 | succ k =>
 rw [spec_l01Order.f] at h
 refine con_intro 109 [] Tryz.func33 (by kernel_rfl) rfl rfl (by kernel_rfl) fun ι0 w0 hk0 => ?_
 revert h
 refine bif_e (fun c1 => ?_) (fun c1 => ?_)
 ·refine bif_e (fun c2 => ?_) (fun c2 => ?_)
  ·refine go 12 ?_
   refine grs ?_
   refine gr_run ?_
   refine bind_e (fun v5 e5 => gr_call [] (spec_l01CompareTexts.con e5) ?_)
   clear e5
   refine gr_run ?_
   refine gr_done ?_
   refine ret_e (fun hr_ => ?_)
   subst hr_
   exact ret_ Tryz.func33 []
  ·refine bif_e (fun c3 => ?_) (fun c3 => ?_)
   ·refine bif_e (fun c4 => ?_) (fun c4 => ?_)
    ·refine go 26 ?_
     refine fun h => good_loop (fun n st => n ≤ k ∧ ∃ (v8 : _), st = ⟨[(2, .ptr 2 1 0), (3, .ptr 3 1 0), (5, .p (.int .i64 v8))], [(2, (1, .cells [.p (.int .i64 v0.f0), .p (.int .i64 v0.f1), .p (.int .i64 v0.f2), .p (.str v0.f3), .p (.lst false (List.map en42 v0.f4)), .p (.lst false (List.map srw v0.f5))])), (3, (1, .cells [.p (.int .i64 v1.f0), .p (.int .i64 v1.f1), .p (.int .i64 v1.f2), .p (.str v1.f3), .p (.lst false (List.map en42 v1.f4)), .p (.lst false (List.map srw v1.f5))]))]⟩ ∧ spec_l01Order.l0 n v8 v0 v1 = some r) k ⟨_, ⟨Nat.le_refl _, _, rfl, h⟩, frle_, memle_⟩ ?_
     clear c1 c2 c3 c4
     clear h
     rintro n _ ⟨hkl0, v8, rfl, h⟩ hl0
     cases n with
     | zero => exact absurd h (by simp [spec_l01Order.l0])
     | succ kl0 =>
     rw [spec_l01Order.l0] at h
     revert h
     refine go 2 ?_
     refine good_cut_f (fun st => ∃ (q_ : Nat), q_ ≤ kl0 ∧ st = ⟨[(2, .ptr 2 1 0), (3, .ptr 3 1 0)], [(2, (1, .cells [.p (.int .i64 v0.f0), .p (.int .i64 v0.f1), .p (.int .i64 v0.f2), .p (.str v0.f3), .p (.lst false (List.map en42 v0.f4)), .p (.lst false (List.map srw v0.f5))])), (3, (1, .cells [.p (.int .i64 v1.f0), .p (.int .i64 v1.f1), .p (.int .i64 v1.f2), .p (.str v1.f3), .p (.lst false (List.map en42 v1.f4)), .p (.lst false (List.map srw v1.f5))]))]⟩ ∧ spec_l01Order.j0 q_ v0 v1 = some r) ?_ (fun hj0 => ?_)
     ·skip
      rintro _ ⟨q_, hqj0, rfl, h⟩
      cases q_ with
      | zero => exact absurd h (by simp [spec_l01Order.j0])
      | succ kj0 =>
      rw [spec_l01Order.j0] at h
      revert h
      refine go 2 ?_
      refine grs ?_
      refine gr_run ?_
      refine bind_e (fun v9 e9 => gr_call [] (spec_l01CompareInts.con e9) ?_)
      clear e9
      refine gr_run ?_
      refine gr_done ?_
      refine ret_e (fun hr_ => ?_)
      subst hr_
      exact ret_ Tryz.func33 []
     ·refine bif_e (fun c5 => ?_) (fun c5 => ?_)
      ·refine bif_e (fun c6 => ?_) (fun c6 => ?_)
       ·refine go 7 ?_
        refine good_cut_f (fun st => ∃ (q_ : Nat), q_ ≤ kl0 ∧ st = ⟨[(2, .ptr 2 1 0), (3, .ptr 3 1 0), (5, .p (.int .i64 v8))], [(2, (1, .cells [.p (.int .i64 v0.f0), .p (.int .i64 v0.f1), .p (.int .i64 v0.f2), .p (.str v0.f3), .p (.lst false (List.map en42 v0.f4)), .p (.lst false (List.map srw v0.f5))])), (3, (1, .cells [.p (.int .i64 v1.f0), .p (.int .i64 v1.f1), .p (.int .i64 v1.f2), .p (.str v1.f3), .p (.lst false (List.map en42 v1.f4)), .p (.lst false (List.map srw v1.f5))]))]⟩ ∧ spec_l01Order.j1 q_ v8 v0 v1 = some r) ?_ (fun hj1 => ?_)
        ·clear c5 c6
         rintro _ ⟨q_, hqj1, rfl, h⟩
         cases q_ with
         | zero => exact absurd h (by simp [spec_l01Order.j1])
         | succ kj1 =>
         rw [spec_l01Order.j1] at h
         revert h
         refine bind_e (fun v15 e15 => ?_)
         replace e15 := nf_ (ix_en en42 e15)
         refine bind_e (fun v16 e16 => ?_)
         replace e16 := nf_ (ix_en en42 e16)
         refine go 2 ?_
         refine grs ?_
         refine gr_run ?_
         refine bind_e (fun v17 e17 => gr_call [] (spec_l01Order_ih _ (by omega) _ _ _ e17) ?_)
         clear e17
         refine gr_run ?_
         refine gr_done ?_
         refine bif_e (fun c7 => ?_) (fun c7 => ?_)
         ·refine go 6 ?_
          exact fun h => good_again hl0 (by omega) ⟨_, ⟨by omega, _, rfl, h⟩, frle_, memle_⟩
         ·refine go 5 ?_
          refine ret_e (fun hr_ => ?_)
          subst hr_
          exact ret_ Tryz.func33 []
        ·refine bif_e (fun c8 => ?_) (fun c8 => ?_)
         ·refine bind_e (fun v10 e10 => ?_)
          replace e10 := nf_ (ix_en srw e10)
          refine bind_e (fun v11 e11 => ?_)
          replace e11 := nf_ (ix_en srw e11)
          refine grs ?_
          refine gr_run ?_
          refine gr_done ?_
          refine bif_e (fun c9 => ?_) (fun c9 => ?_)
          ·refine go 1 ?_
           exact fun h => good_jump hj1 ⟨_, ⟨_, by omega, rfl, h⟩, frle_, memle_⟩
          ·refine go 2 ?_
           refine grs ?_
           refine gr_run ?_
           refine bind_e (fun v14 e14 => gr_call [] (spec_l01CompareTexts.con e14) ?_)
           clear e14
           refine gr_run ?_
           refine gr_done ?_
           refine ret_e (fun hr_ => ?_)
           subst hr_
           exact ret_ Tryz.func33 []
         ·refine grs ?_
          refine gr_run ?_
          refine gr_done ?_
          refine go 1 ?_
          exact fun h => good_jump hj1 ⟨_, ⟨_, by omega, rfl, h⟩, frle_, memle_⟩
       ·refine go 2 ?_
        exact fun h => good_jump hj0 ⟨_, ⟨_, by omega, rfl, h⟩, frle_, memle_⟩
      ·refine go 2 ?_
       exact fun h => good_jump hj0 ⟨_, ⟨_, by omega, rfl, h⟩, frle_, memle_⟩
    ·refine go 22 ?_
     refine grs ?_
     refine gr_run ?_
     refine bind_e (fun v7 e7 => gr_call [] (spec_l01CompareInts.con e7) ?_)
     clear e7
     refine gr_run ?_
     refine gr_done ?_
     refine ret_e (fun hr_ => ?_)
     subst hr_
     exact ret_ Tryz.func33 []
   ·refine go 17 ?_
    refine grs ?_
    refine gr_run ?_
    refine bind_e (fun v6 e6 => gr_call [] (spec_l01CompareInts.con e6) ?_)
    clear e6
    refine gr_run ?_
    refine gr_done ?_
    refine ret_e (fun hr_ => ?_)
    subst hr_
    exact ret_ Tryz.func33 []
 ·refine go 7 ?_
  refine grs ?_
  refine gr_run ?_
  refine bind_e (fun v2 e2 => gr_call [] (spec_l01Rank.con e2) ?_)
  clear e2
  refine gr_run ?_
  refine bind_e (fun v3 e3 => gr_call [] (spec_l01Rank.con e3) ?_)
  clear e3
  refine bind_e (fun v4 e4 => gr_call [] (spec_l01CompareInts.con e4) ?_)
  clear e4
  refine gr_run ?_
  refine gr_done ?_
  refine ret_e (fun hr_ => ?_)
  subst hr_
  exact ret_ Tryz.func33 []
theorem spec_l01Order.all {K : Kn} [KOk K] (k : Nat) : spec_l01Order.C K k := by
 induction k using Nat.strongRecOn with
 | _ k ih => exact spec_l01Order.con1 k ih
theorem spec_l01Order.con {K : Kn} [KOk K] {k : Nat} {v0 : S42} {v1 : S42} {r : Int} (h : spec_l01Order.f k v0 v1 = some r) : Con K Tryz.prog 33 [.agg [.p (.int .i64 v0.f0), .p (.int .i64 v0.f1), .p (.int .i64 v0.f2), .p (.str v0.f3), .p (.lst false (List.map en42 v0.f4)), .p (.lst false (List.map srw v0.f5))], .agg [.p (.int .i64 v1.f0), .p (.int .i64 v1.f1), .p (.int .i64 v1.f2), .p (.str v1.f3), .p (.lst false (List.map en42 v1.f4)), .p (.lst false (List.map srw v1.f5))]] [] (.p (.int .i64 r)) [] := (spec_l01Order.all k) _ _ r h
mutual
def spec_l01Same.l1 : Nat → Int → Int → S42 → S42 → Option (Int)
 | 0, _, _, _, _ => none
 | k + 1, v12, v13, v0, v1 => (bif decide (v13 < (v0.f5.length : Int)) then ((ix v0.f5 v13).bind fun v14 => ((ix v1.f5 v13).bind fun v15 => (bif decide (v14 = v15) then (spec_l01Same.l1 k v12 (IntKind.i64.wrap (v13 + 1)) v0 v1) else (some 0)))) else (some v12))
def spec_l01Same.j5 : Nat → Int → S42 → S42 → Option (Int)
 | 0, _, _, _ => none
 | k + 1, v12, v0, v1 => (bif (v12 == 0) then (some v12) else (bif (v0.f0 == 7) then (spec_l01Same.l1 k v12 0 v0 v1) else (some v12)))
def spec_l01Same.j4 : Nat → Int → Int → S42 → S42 → Option (Int)
 | 0, _, _, _, _ => none
 | k + 1, v11, v5, v0, v1 => (bif (v11 == 0) then (spec_l01Same.j5 k v11 v0 v1) else (spec_l01Same.l0 k v11 (IntKind.i64.wrap (v5 + 1)) v0 v1))
def spec_l01Same.j2 : Nat → Int → Int → S42 → S42 → Option (Int)
 | 0, _, _, _, _ => none
 | k + 1, v5, v10, v0, v1 => (spec_l01Same.j4 k v10 v5 v0 v1)
def spec_l01Same.j3 : Nat → Int → Int → S42 → S42 → Option (Int)
 | 0, _, _, _, _ => none
 | k + 1, v4, v5, v0, v1 => (spec_l01Same.j4 k v4 v5 v0 v1)
def spec_l01Same.j1 : Nat → Int → Int → S42 → S42 → Option (Int)
 | 0, _, _, _, _ => none
 | k + 1, v4, v5, v0, v1 => ((ix v0.f4 v5).bind fun v8 => ((ix v1.f4 v5).bind fun v9 => ((spec_l01Same.f k v8 v9).bind fun v10 => (bif (v10 == 0) then (spec_l01Same.j2 k v5 v10 v0 v1) else (bif (v10 == 2) then (bif (v4 == 1) then (spec_l01Same.j2 k v5 v10 v0 v1) else (spec_l01Same.j3 k v4 v5 v0 v1)) else (spec_l01Same.j3 k v4 v5 v0 v1))))))
def spec_l01Same.l0 : Nat → Int → Int → S42 → S42 → Option (Int)
 | 0, _, _, _, _ => none
 | k + 1, v4, v5, v0, v1 => (bif decide (v5 < (v0.f4.length : Int)) then (bif (v0.f0 == 7) then ((ix v0.f5 v5).bind fun v6 => ((ix v1.f5 v5).bind fun v7 => (bif decide (v6 = v7) then (spec_l01Same.j1 k v4 v5 v0 v1) else (some 0)))) else (spec_l01Same.j1 k v4 v5 v0 v1)) else (spec_l01Same.j5 k v4 v0 v1))
def spec_l01Same.j0 : Nat → S42 → S42 → Option (Int)
 | 0, _, _ => none
 | k + 1, v0, v1 => (spec_l01Same.l0 k 1 0 v0 v1)
def spec_l01Same.f : Nat → S42 → S42 → Option (Int)
 | 0, _, _ => none
 | k + 1, v0, v1 => (bif (v0.f0 == 0) then (some 2) else (bif (v1.f0 == 0) then (some 2) else (bif (v0.f0 == v1.f0) then (bif ((v0.f4.length : Int) == (v1.f4.length : Int)) then (bif (v0.f0 == 6) then (spec_l01Same.j0 k v0 v1) else (bif (v0.f0 == 7) then (spec_l01Same.j0 k v0 v1) else ((spec_l01Order.f k v0 v1).bind fun v2 => ((spec_l01Bool.f k (v2 == 0)).bind fun v3 => (some v3))))) else (some 0)) else (some 0))))
end
def spec_l01Same.C (K : Kn) (k : Nat) : Prop := ∀ (v0 : S42) (v1 : S42) (r : Int), spec_l01Same.f k v0 v1 = some r → Con K Tryz.prog 36 [.agg [.p (.int .i64 v0.f0), .p (.int .i64 v0.f1), .p (.int .i64 v0.f2), .p (.str v0.f3), .p (.lst false (List.map en42 v0.f4)), .p (.lst false (List.map srw v0.f5))], .agg [.p (.int .i64 v1.f0), .p (.int .i64 v1.f1), .p (.int .i64 v1.f2), .p (.str v1.f3), .p (.lst false (List.map en42 v1.f4)), .p (.lst false (List.map srw v1.f5))]] [] (.p (.int .i64 r)) []
set_option maxRecDepth 100000 in
set_option maxHeartbeats 4000000 in
theorem spec_l01Same.con1 {K : Kn} [KOk K] (k : Nat) (spec_l01Same_ih : ∀ m, m < k → spec_l01Same.C K m) : spec_l01Same.C K k := by
 intro v0 v1 r h
 cases k with
 | zero => exact absurd h (by simp [spec_l01Same.f])
 | succ k =>
 rw [spec_l01Same.f] at h
 refine con_intro 117 [] Tryz.func36 (by kernel_rfl) rfl rfl (by kernel_rfl) fun ι0 w0 hk0 => ?_
 revert h
 refine bif_e (fun c1 => ?_) (fun c1 => ?_)
 ·refine go 8 ?_
  refine ret_e (fun hr_ => ?_)
  subst hr_
  exact ret_ Tryz.func36 []
 ·refine bif_e (fun c2 => ?_) (fun c2 => ?_)
  ·refine go 8 ?_
   refine ret_e (fun hr_ => ?_)
   subst hr_
   exact ret_ Tryz.func36 []
  ·refine bif_e (fun c3 => ?_) (fun c3 => ?_)
   ·refine bif_e (fun c4 => ?_) (fun c4 => ?_)
    ·refine go 14 ?_
     refine good_cut_f (fun st => ∃ (q_ : Nat), q_ ≤ k ∧ st = ⟨[(2, .ptr 2 1 0), (3, .ptr 3 1 0)], [(2, (1, .cells [.p (.int .i64 v0.f0), .p (.int .i64 v0.f1), .p (.int .i64 v0.f2), .p (.str v0.f3), .p (.lst false (List.map en42 v0.f4)), .p (.lst false (List.map srw v0.f5))])), (3, (1, .cells [.p (.int .i64 v1.f0), .p (.int .i64 v1.f1), .p (.int .i64 v1.f2), .p (.str v1.f3), .p (.lst false (List.map en42 v1.f4)), .p (.lst false (List.map srw v1.f5))]))]⟩ ∧ spec_l01Same.j0 q_ v0 v1 = some r) ?_ (fun hj0 => ?_)
     ·clear c1 c2 c3 c4
      rintro _ ⟨q_, hqj0, rfl, h⟩
      cases q_ with
      | zero => exact absurd h (by simp [spec_l01Same.j0])
      | succ kj0 =>
      rw [spec_l01Same.j0] at h
      revert h
      refine go 4 ?_
      refine good_cut (fun st => ∃ (v12 : _) (q_ : Nat), q_ ≤ kj0 ∧ st = ⟨[(2, .ptr 2 1 0), (3, .ptr 3 1 0), (5, .p (.int .i64 v12))], [(2, (1, .cells [.p (.int .i64 v0.f0), .p (.int .i64 v0.f1), .p (.int .i64 v0.f2), .p (.str v0.f3), .p (.lst false (List.map en42 v0.f4)), .p (.lst false (List.map srw v0.f5))])), (3, (1, .cells [.p (.int .i64 v1.f0), .p (.int .i64 v1.f1), .p (.int .i64 v1.f2), .p (.str v1.f3), .p (.lst false (List.map en42 v1.f4)), .p (.lst false (List.map srw v1.f5))]))]⟩ ∧ spec_l01Same.j5 q_ v12 v0 v1 = some r) ?_ (fun hj5 => ?_)
      ·skip
       rintro _ ⟨v12, q_, hqj5, rfl, h⟩
       cases q_ with
       | zero => exact absurd h (by simp [spec_l01Same.j5])
       | succ kj5 =>
       rw [spec_l01Same.j5] at h
       revert h
       refine bif_e (fun c5 => ?_) (fun c5 => ?_)
       ·refine go 7 ?_
        refine ret_e (fun hr_ => ?_)
        subst hr_
        exact ret_ Tryz.func36 []
       ·refine bif_e (fun c6 => ?_) (fun c6 => ?_)
        ·refine go 7 ?_
         refine fun h => good_loop (fun n st => n ≤ kj5 ∧ ∃ (v13 : _), st = ⟨[(2, .ptr 2 1 0), (3, .ptr 3 1 0), (5, .p (.int .i64 v12)), (8, .p (.int .i64 v13))], [(2, (1, .cells [.p (.int .i64 v0.f0), .p (.int .i64 v0.f1), .p (.int .i64 v0.f2), .p (.str v0.f3), .p (.lst false (List.map en42 v0.f4)), .p (.lst false (List.map srw v0.f5))])), (3, (1, .cells [.p (.int .i64 v1.f0), .p (.int .i64 v1.f1), .p (.int .i64 v1.f2), .p (.str v1.f3), .p (.lst false (List.map en42 v1.f4)), .p (.lst false (List.map srw v1.f5))]))]⟩ ∧ spec_l01Same.l1 n v12 v13 v0 v1 = some r) kj5 ⟨_, ⟨Nat.le_refl _, _, rfl, h⟩, frle_, memle_⟩ ?_
         clear c5 c6
         clear h
         rintro n _ ⟨hkl1, v13, rfl, h⟩ hl1
         cases n with
         | zero => exact absurd h (by simp [spec_l01Same.l1])
         | succ kl1 =>
         rw [spec_l01Same.l1] at h
         revert h
         refine bif_e (fun c7 => ?_) (fun c7 => ?_)
         ·refine bind_e (fun v14 e14 => ?_)
          replace e14 := nf_ (ix_en srw e14)
          refine bind_e (fun v15 e15 => ?_)
          replace e15 := nf_ (ix_en srw e15)
          refine go 8 ?_
          refine grs ?_
          refine gr_run ?_
          refine gr_done ?_
          refine bif_e (fun c8 => ?_) (fun c8 => ?_)
          ·refine go 4 ?_
           exact fun h => good_again hl1 (by omega) ⟨_, ⟨by omega, _, rfl, h⟩, frle_, memle_⟩
          ·refine go 3 ?_
           refine ret_e (fun hr_ => ?_)
           subst hr_
           exact ret_ Tryz.func36 []
         ·refine go 7 ?_
          refine ret_e (fun hr_ => ?_)
          subst hr_
          exact ret_ Tryz.func36 []
        ·refine go 7 ?_
         refine ret_e (fun hr_ => ?_)
         subst hr_
         exact ret_ Tryz.func36 []
      ·refine go 3 ?_
       refine fun h => good_loop (fun n st => n ≤ kj0 ∧ ∃ (v4 : _) (v5 : _), st = ⟨[(2, .ptr 2 1 0), (3, .ptr 3 1 0), (5, .p (.int .i64 v4)), (6, .p (.int .i64 v5))], [(2, (1, .cells [.p (.int .i64 v0.f0), .p (.int .i64 v0.f1), .p (.int .i64 v0.f2), .p (.str v0.f3), .p (.lst false (List.map en42 v0.f4)), .p (.lst false (List.map srw v0.f5))])), (3, (1, .cells [.p (.int .i64 v1.f0), .p (.int .i64 v1.f1), .p (.int .i64 v1.f2), .p (.str v1.f3), .p (.lst false (List.map en42 v1.f4)), .p (.lst false (List.map srw v1.f5))]))]⟩ ∧ spec_l01Same.l0 n v4 v5 v0 v1 = some r) kj0 ⟨_, ⟨Nat.le_refl _, _, _, rfl, h⟩, frle_, memle_⟩ ?_
       clear h
       rintro n _ ⟨hkl0, v4, v5, rfl, h⟩ hl0
       cases n with
       | zero => exact absurd h (by simp [spec_l01Same.l0])
       | succ kl0 =>
       rw [spec_l01Same.l0] at h
       revert h
       refine bif_e (fun c9 => ?_) (fun c9 => ?_)
       ·refine go 9 ?_
        refine good_cut_f (fun st => ∃ (q_ : Nat), q_ ≤ kl0 ∧ st = ⟨[(2, .ptr 2 1 0), (3, .ptr 3 1 0), (5, .p (.int .i64 v4)), (6, .p (.int .i64 v5))], [(2, (1, .cells [.p (.int .i64 v0.f0), .p (.int .i64 v0.f1), .p (.int .i64 v0.f2), .p (.str v0.f3), .p (.lst false (List.map en42 v0.f4)), .p (.lst false (List.map srw v0.f5))])), (3, (1, .cells [.p (.int .i64 v1.f0), .p (.int .i64 v1.f1), .p (.int .i64 v1.f2), .p (.str v1.f3), .p (.lst false (List.map en42 v1.f4)), .p (.lst false (List.map srw v1.f5))]))]⟩ ∧ spec_l01Same.j1 q_ v4 v5 v0 v1 = some r) ?_ (fun hj1 => ?_)
        ·clear c9
         rintro _ ⟨q_, hqj1, rfl, h⟩
         cases q_ with
         | zero => exact absurd h (by simp [spec_l01Same.j1])
         | succ kj1 =>
         rw [spec_l01Same.j1] at h
         revert h
         refine bind_e (fun v8 e8 => ?_)
         replace e8 := nf_ (ix_en en42 e8)
         refine bind_e (fun v9 e9 => ?_)
         replace e9 := nf_ (ix_en en42 e9)
         refine go 2 ?_
         refine grs ?_
         refine gr_run ?_
         refine bind_e (fun v10 e10 => gr_call [] (spec_l01Same_ih _ (by omega) _ _ _ e10) ?_)
         clear e10
         refine gr_run ?_
         refine gr_done ?_
         refine go 1 ?_
         refine good_cut (fun st => ∃ (v11 : _) (q_ : Nat), q_ ≤ kj1 ∧ st = ⟨[(2, .ptr 2 1 0), (3, .ptr 3 1 0), (5, .p (.int .i64 v11)), (6, .p (.int .i64 v5))], [(2, (1, .cells [.p (.int .i64 v0.f0), .p (.int .i64 v0.f1), .p (.int .i64 v0.f2), .p (.str v0.f3), .p (.lst false (List.map en42 v0.f4)), .p (.lst false (List.map srw v0.f5))])), (3, (1, .cells [.p (.int .i64 v1.f0), .p (.int .i64 v1.f1), .p (.int .i64 v1.f2), .p (.str v1.f3), .p (.lst false (List.map en42 v1.f4)), .p (.lst false (List.map srw v1.f5))]))]⟩ ∧ spec_l01Same.j4 q_ v11 v5 v0 v1 = some r) ?_ (fun hj4 => ?_)
         ·clear e8 e9
          rintro _ ⟨v11, q_, hqj4, rfl, h⟩
          cases q_ with
          | zero => exact absurd h (by simp [spec_l01Same.j4])
          | succ kj4 =>
          rw [spec_l01Same.j4] at h
          revert h
          refine bif_e (fun c10 => ?_) (fun c10 => ?_)
          ·refine go 4 ?_
           exact fun h => good_jump hj5 ⟨_, ⟨_, _, by omega, rfl, h⟩, frle_, memle_⟩
          ·refine go 6 ?_
           exact fun h => good_again hl0 (by omega) ⟨_, ⟨by omega, _, _, rfl, h⟩, frle_, memle_⟩
         ·refine go 1 ?_
          refine good_cut_t (fun st => ∃ (q_ : Nat), q_ ≤ kj1 ∧ st = ⟨[(2, .ptr 2 1 0), (3, .ptr 3 1 0), (6, .p (.int .i64 v5)), (7, .p (.int .i64 v10))], [(2, (1, .cells [.p (.int .i64 v0.f0), .p (.int .i64 v0.f1), .p (.int .i64 v0.f2), .p (.str v0.f3), .p (.lst false (List.map en42 v0.f4)), .p (.lst false (List.map srw v0.f5))])), (3, (1, .cells [.p (.int .i64 v1.f0), .p (.int .i64 v1.f1), .p (.int .i64 v1.f2), .p (.str v1.f3), .p (.lst false (List.map en42 v1.f4)), .p (.lst false (List.map srw v1.f5))]))]⟩ ∧ spec_l01Same.j2 q_ v5 v10 v0 v1 = some r) ?_ (fun hj2 => ?_)
          ·clear e8 e9
           rintro _ ⟨q_, hqj2, rfl, h⟩
           cases q_ with
           | zero => exact absurd h (by simp [spec_l01Same.j2])
           | succ kj2 =>
           rw [spec_l01Same.j2] at h
           revert h
           refine go 1 ?_
           exact fun h => good_jump hj4 ⟨_, ⟨_, _, by omega, rfl, h⟩, frle_, memle_⟩
          ·refine good_cut_f (fun st => ∃ (q_ : Nat), q_ ≤ kj1 ∧ st = ⟨[(2, .ptr 2 1 0), (3, .ptr 3 1 0), (5, .p (.int .i64 v4)), (6, .p (.int .i64 v5))], [(2, (1, .cells [.p (.int .i64 v0.f0), .p (.int .i64 v0.f1), .p (.int .i64 v0.f2), .p (.str v0.f3), .p (.lst false (List.map en42 v0.f4)), .p (.lst false (List.map srw v0.f5))])), (3, (1, .cells [.p (.int .i64 v1.f0), .p (.int .i64 v1.f1), .p (.int .i64 v1.f2), .p (.str v1.f3), .p (.lst false (List.map en42 v1.f4)), .p (.lst false (List.map srw v1.f5))]))]⟩ ∧ spec_l01Same.j3 q_ v4 v5 v0 v1 = some r) ?_ (fun hj3 => ?_)
           ·clear e8 e9
            rintro _ ⟨q_, hqj3, rfl, h⟩
            cases q_ with
            | zero => exact absurd h (by simp [spec_l01Same.j3])
            | succ kj3 =>
            rw [spec_l01Same.j3] at h
            revert h
            refine go 1 ?_
            exact fun h => good_jump hj4 ⟨_, ⟨_, _, by omega, rfl, h⟩, frle_, memle_⟩
           ·refine bif_e (fun c11 => ?_) (fun c11 => ?_)
            ·refine go 2 ?_
             exact fun h => good_jump hj2 ⟨_, ⟨_, by omega, rfl, h⟩, frle_, memle_⟩
            ·refine bif_e (fun c12 => ?_) (fun c12 => ?_)
             ·refine bif_e (fun c13 => ?_) (fun c13 => ?_)
              ·refine go 2 ?_
               exact fun h => good_jump hj2 ⟨_, ⟨_, by omega, rfl, h⟩, frle_, memle_⟩
              ·refine go 2 ?_
               exact fun h => good_jump hj3 ⟨_, ⟨_, by omega, rfl, h⟩, frle_, memle_⟩
             ·refine go 2 ?_
              exact fun h => good_jump hj3 ⟨_, ⟨_, by omega, rfl, h⟩, frle_, memle_⟩
        ·refine bif_e (fun c14 => ?_) (fun c14 => ?_)
         ·refine bind_e (fun v6 e6 => ?_)
          replace e6 := nf_ (ix_en srw e6)
          refine bind_e (fun v7 e7 => ?_)
          replace e7 := nf_ (ix_en srw e7)
          refine grs ?_
          refine gr_run ?_
          refine gr_done ?_
          refine bif_e (fun c15 => ?_) (fun c15 => ?_)
          ·refine go 1 ?_
           exact fun h => good_jump hj1 ⟨_, ⟨_, by omega, rfl, h⟩, frle_, memle_⟩
          ·refine go 3 ?_
           refine ret_e (fun hr_ => ?_)
           subst hr_
           exact ret_ Tryz.func36 []
         ·refine grs ?_
          refine gr_run ?_
          refine gr_done ?_
          refine go 1 ?_
          exact fun h => good_jump hj1 ⟨_, ⟨_, by omega, rfl, h⟩, frle_, memle_⟩
       ·refine go 5 ?_
        exact fun h => good_jump hj5 ⟨_, ⟨_, _, by omega, rfl, h⟩, frle_, memle_⟩
     ·refine bif_e (fun c16 => ?_) (fun c16 => ?_)
      ·refine go 2 ?_
       exact fun h => good_jump hj0 ⟨_, ⟨_, by omega, rfl, h⟩, frle_, memle_⟩
      ·refine bif_e (fun c17 => ?_) (fun c17 => ?_)
       ·refine go 2 ?_
        exact fun h => good_jump hj0 ⟨_, ⟨_, by omega, rfl, h⟩, frle_, memle_⟩
       ·refine go 3 ?_
        refine grs ?_
        refine gr_run ?_
        refine bind_e (fun v2 e2 => gr_call [] (spec_l01Order.con e2) ?_)
        clear e2
        refine gr_run ?_
        refine bind_e (fun v3 e3 => gr_call [] (spec_l01Bool.con e3) ?_)
        clear e3
        refine gr_run ?_
        refine gr_done ?_
        refine ret_e (fun hr_ => ?_)
        subst hr_
        exact ret_ Tryz.func36 []
    ·refine go 13 ?_
     refine ret_e (fun hr_ => ?_)
     subst hr_
     exact ret_ Tryz.func36 []
   ·refine go 13 ?_
    refine ret_e (fun hr_ => ?_)
    subst hr_
    exact ret_ Tryz.func36 []
theorem spec_l01Same.all {K : Kn} [KOk K] (k : Nat) : spec_l01Same.C K k := by
 induction k using Nat.strongRecOn with
 | _ k ih => exact spec_l01Same.con1 k ih
theorem spec_l01Same.con {K : Kn} [KOk K] {k : Nat} {v0 : S42} {v1 : S42} {r : Int} (h : spec_l01Same.f k v0 v1 = some r) : Con K Tryz.prog 36 [.agg [.p (.int .i64 v0.f0), .p (.int .i64 v0.f1), .p (.int .i64 v0.f2), .p (.str v0.f3), .p (.lst false (List.map en42 v0.f4)), .p (.lst false (List.map srw v0.f5))], .agg [.p (.int .i64 v1.f0), .p (.int .i64 v1.f1), .p (.int .i64 v1.f2), .p (.str v1.f3), .p (.lst false (List.map en42 v1.f4)), .p (.lst false (List.map srw v1.f5))]] [] (.p (.int .i64 r)) [] := (spec_l01Same.all k) _ _ r h
def spec_SameValues.f (k : Nat) (v0 : ByteArray) (v1 : ByteArray) : Option (Int) := ((spec_l01Read.f k v0).bind fun v2 => ((spec_l01Read.f k v1).bind fun v3 => (bif decide (v2.f0 < 0) then (some 2) else (bif decide (v3.f0 < 0) then (some 2) else ((spec_l01Same.f k v2 v3).bind fun v4 => (some v4))))))
set_option maxRecDepth 100000 in
set_option maxHeartbeats 4000000 in
theorem spec_SameValues.con {K : Kn} [KOk K] {k : Nat} {v0 : ByteArray} {v1 : ByteArray} {r : Int} (h : spec_SameValues.f k v0 v1 = some r) : Con K Tryz.prog 13 [.p (.str v0), .p (.str v1)] [] (.p (.int .i64 r)) [] := by
 rw [spec_SameValues.f] at h
 refine con_intro 22 [] Tryz.func13 (by kernel_rfl) rfl rfl (by kernel_rfl) fun ι0 w0 hk0 => ?_
 revert h
 refine go 3 ?_
 refine grs ?_
 refine gr_run ?_
 refine bind_e (fun v2 e2 => gr_call [] (spec_l01Read.con e2) ?_)
 clear e2
 refine gr_run ?_
 refine gr_done ?_
 refine go 1 ?_
 refine grs ?_
 refine gr_run ?_
 refine bind_e (fun v3 e3 => gr_call [] (spec_l01Read.con e3) ?_)
 clear e3
 refine gr_run ?_
 refine gr_done ?_
 refine bif_e (fun c1 => ?_) (fun c1 => ?_)
 ·refine go 6 ?_
  refine ret_e (fun hr_ => ?_)
  subst hr_
  exact ret_ Tryz.func13 []
 ·refine bif_e (fun c2 => ?_) (fun c2 => ?_)
  ·refine go 6 ?_
   refine ret_e (fun hr_ => ?_)
   subst hr_
   exact ret_ Tryz.func13 []
  ·refine go 6 ?_
   refine grs ?_
   refine gr_run ?_
   refine bind_e (fun v4 e4 => gr_call [] (spec_l01Same.con e4) ?_)
   clear e4
   refine gr_run ?_
   refine gr_done ?_
   refine ret_e (fun hr_ => ?_)
   subst hr_
   exact ret_ Tryz.func13 []
end Go.Ab
