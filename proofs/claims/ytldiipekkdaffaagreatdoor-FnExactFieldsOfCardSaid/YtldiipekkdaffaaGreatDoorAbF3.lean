/- What the functions compute, and their contracts, part 3. No condition beyond KOk. -/
import Derived.Test.YtldiipekkdaffaaGreatDoorAbX
import Derived.Test.YtldiipekkdaffaaGreatDoorAbF1
import Derived.Test.YtldiipekkdaffaaGreatDoorAbF2
namespace Go.Ab
open Go.Proofs
set_option linter.unusedVariables false
set_option linter.unusedSimpArgs false
def spec_l01Read.f (k : Nat) (v0 : ByteArray) : Option (S40) := (bif decide (2000 < (v0.size : Int)) then (some (⟨(-1), 0, 0, (⟨#[]⟩ : ByteArray), ([] : (List S40)), ([] : (List ByteArray))⟩ : S40)) else ((spec_l01Reader_value.f k 0 (⟨v0, 0, false⟩ : S65)).bind fun v1 => (bif v1.2.f2 then (some (⟨(-1), 0, 0, (⟨#[]⟩ : ByteArray), ([] : (List S40)), ([] : (List ByteArray))⟩ : S40)) else (bif (v1.2.f1 == (v0.size : Int)) then (some v1.1) else (some (⟨(-1), 0, 0, (⟨#[]⟩ : ByteArray), ([] : (List S40)), ([] : (List ByteArray))⟩ : S40))))))
set_option maxRecDepth 100000 in
set_option maxHeartbeats 4000000 in
theorem spec_l01Read.con {K : Kn} [KOk K] {k : Nat} {v0 : ByteArray} {r : S40} (h : spec_l01Read.f k v0 = some r) : Con K Tryz.prog 25 [.p (.str v0)] [] (.agg [.p (.int .i64 r.f0), .p (.int .i64 r.f1), .p (.int .i64 r.f2), .p (.str r.f3), .p (.lst false (List.map en40 r.f4)), .p (.lst false (List.map srw r.f5))]) [] := by
 rw [spec_l01Read.f] at h
 refine con_intro 29 [] Tryz.func25 (by kernel_rfl) rfl rfl (by kernel_rfl) fun ι0 w0 hk0 => ?_
 revert h
 refine bif_e (fun c1 => ?_) (fun c1 => ?_)
 ·refine go 8 ?_
  refine ret_e (fun hr_ => ?_)
  subst hr_
  exact ret_ Tryz.func25 []
 ·refine go 10 ?_
  refine grs ?_
  refine gr_run ?_
  refine bind_e (fun v1 e1 => gr_call [(1000, (0, 11, 1))] (spec_l01Reader_value.con e1) ?_)
  clear e1
  refine gr_run ?_
  refine gr_done ?_
  refine bif_e (fun c2 => ?_) (fun c2 => ?_)
  ·refine go 6 ?_
   refine ret_e (fun hr_ => ?_)
   subst hr_
   exact ret_ Tryz.func25 []
  ·refine bif_e (fun c3 => ?_) (fun c3 => ?_)
   ·refine go 7 ?_
    refine ret_e (fun hr_ => ?_)
    subst hr_
    exact ret_ Tryz.func25 []
   ·refine go 6 ?_
    refine ret_e (fun hr_ => ?_)
    subst hr_
    exact ret_ Tryz.func25 []
mutual
def spec_l01Quote.j0 : Nat → ByteArray → (List Int) → Int → Bool → Option (ByteArray)
 | 0, _, _, _, _ => none
 | k + 1, v0, v1, v2, v9 => (bif v9 then ((bix v0 v2).bind fun v10 => ((app v1 ([92, v10] : List Int)).bind fun v11 => (spec_l01Quote.l0 k v0 v11 (IntKind.i64.wrap (v2 + 1))))) else ((bix v0 v2).bind fun v12 => ((app v1 ([v12] : List Int)).bind fun v13 => (spec_l01Quote.l0 k v0 v13 (IntKind.i64.wrap (v2 + 1))))))
def spec_l01Quote.l0 : Nat → ByteArray → (List Int) → Int → Option (ByteArray)
 | 0, _, _, _ => none
 | k + 1, v0, v1, v2 => (bif decide (v2 < (v0.size : Int)) then ((bix v0 v2).bind fun v7 => (bif (v7 == 10) then ((app v1 ([92, 110] : List Int)).bind fun v8 => (spec_l01Quote.l0 k v0 v8 (IntKind.i64.wrap (v2 + 1)))) else (bif (v7 == 34) then (spec_l01Quote.j0 k v0 v1 v2 true) else (spec_l01Quote.j0 k v0 v1 v2 (v7 == 92))))) else ((app v1 ([34] : List Int)).bind fun v6 => (some (bstr v6))))
def spec_l01Quote.f : Nat → ByteArray → Option (ByteArray)
 | 0, _ => none
 | k + 1, v0 => (spec_l01Quote.l0 k v0 ([34] : List Int) 0)
end
set_option maxRecDepth 100000 in
set_option maxHeartbeats 4000000 in
theorem spec_l01Quote.con {K : Kn} [KOk K] {k : Nat} {v0 : ByteArray} {r : ByteArray} (h : spec_l01Quote.f k v0 = some r) : Con K Tryz.prog 50 [.p (.str v0)] [] (.p (.str r)) [] := by
 cases k with
 | zero => exact absurd h (by simp [spec_l01Quote.f])
 | succ k =>
 rw [spec_l01Quote.f] at h
 refine con_intro 39 [] Tryz.func50 (by kernel_rfl) rfl rfl (by kernel_rfl) fun ι0 w0 hk0 => ?_
 revert h
 refine go 8 ?_
 refine adoptF_ 3 20 1 ?_
 refine fun h => good_loop (fun n st => n ≤ k ∧ ∃ (v1 : _) (v2 : _) (g3 : Nat) (g4 : Nat) (g5 : Nat), st = ⟨[(0, .p (.str v0)), (3, .tip 20 g5 (List.map (irow .u8) v1)), (4, .p (.int .i64 v2))], [(25, (g3, .gone)), (34, (g4, .gone)), (20, (g5, .tip 1 (v1).length))]⟩ ∧ spec_l01Quote.l0 n v0 v1 v2 = some r) k ⟨_, ⟨Nat.le_refl _, _, _, 0, 0, 1, rfl, h⟩, frle_, memle_⟩ ?_
 clear h
 rintro n _ ⟨hkl0, v1, v2, g3, g4, g5, rfl, h⟩ hl0
 cases n with
 | zero => exact absurd h (by simp [spec_l01Quote.l0])
 | succ kl0 =>
 rw [spec_l01Quote.l0] at h
 revert h
 refine bif_e (fun c1 => ?_) (fun c1 => ?_)
 ·refine bind_e (fun v7 e7 => ?_)
  refine bif_e (fun c2 => ?_) (fun c2 => ?_)
  ·refine bind_e (fun v8 e8 => ?_)
   replace e8 := nf_ (app_en (irow .u8) e8)
   refine go 17 ?_
   exact fun h => good_again hl0 (by omega) ⟨_, ⟨by omega, _, _, g3, g4, g5, rfl, h⟩, frle_, memle_⟩
  ·refine go 14 ?_
   refine good_cut (fun st => ∃ (v9 : _) (q_ : Nat), q_ ≤ kl0 ∧ st = ⟨[(0, .p (.str v0)), (3, .tip 20 g5 (List.map (irow .u8) v1)), (4, .p (.int .i64 v2)), (26, .p (.bool v9))], [(25, (g3, .gone)), (34, (g4, .gone)), (20, (g5, .tip 1 (v1).length))]⟩ ∧ spec_l01Quote.j0 q_ v0 v1 v2 v9 = some r) ?_ (fun hj0 => ?_)
   ·clear c1 e7 c2
    rintro _ ⟨v9, q_, hqj0, rfl, h⟩
    cases q_ with
    | zero => exact absurd h (by simp [spec_l01Quote.j0])
    | succ kj0 =>
    rw [spec_l01Quote.j0] at h
    revert h
    refine bif_e (fun c3 => ?_) (fun c3 => ?_)
    ·refine bind_e (fun v10 e10 => ?_)
     refine bind_e (fun v11 e11 => ?_)
     replace e11 := nf_ (app_en (irow .u8) e11)
     refine go 5 ?_
     exact fun h => good_again hl0 (by omega) ⟨_, ⟨by omega, _, _, g3, g4, g5, rfl, h⟩, frle_, memle_⟩
    ·refine bind_e (fun v12 e12 => ?_)
     refine bind_e (fun v13 e13 => ?_)
     replace e13 := nf_ (app_en (irow .u8) e13)
     refine go 5 ?_
     exact fun h => good_again hl0 (by omega) ⟨_, ⟨by omega, _, _, g3, g4, g5, rfl, h⟩, frle_, memle_⟩
   ·refine bif_e (fun c4 => ?_) (fun c4 => ?_)
    ·refine go 4 ?_
     exact fun h => good_jump hj0 ⟨_, ⟨_, _, by omega, rfl, h⟩, frle_, memle_⟩
    ·refine go 4 ?_
     exact fun h => good_jump hj0 ⟨_, ⟨_, _, by omega, rfl, h⟩, frle_, memle_⟩
 ·refine bind_e (fun v6 e6 => ?_)
  replace e6 := nf_ (app_en (irow .u8) e6)
  refine go 7 ?_
  refine ret_e (fun hr_ => ?_)
  subst hr_
  exact ret_ Tryz.func50 []
def spec_l01Two.f (k : Nat) (v0 : Int) : Option (ByteArray) := (bif decide (v0 < 10) then ((spec_l01Dec.f k v0).bind fun v1 => ((cat (⟨#[48]⟩ : ByteArray) v1).bind fun v2 => (some v2))) else ((spec_l01Dec.f k v0).bind fun v3 => (some v3)))
set_option maxRecDepth 100000 in
set_option maxHeartbeats 4000000 in
theorem spec_l01Two.con {K : Kn} [KOk K] {k : Nat} {v0 : Int} {r : ByteArray} (h : spec_l01Two.f k v0 = some r) : Con K Tryz.prog 78 [.p (.int .i64 v0)] [] (.p (.str r)) [] := by
 rw [spec_l01Two.f] at h
 refine con_intro 10 [] Tryz.func78 (by kernel_rfl) rfl rfl (by kernel_rfl) fun ι0 w0 hk0 => ?_
 revert h
 refine bif_e (fun c1 => ?_) (fun c1 => ?_)
 ·refine go 7 ?_
  refine grs ?_
  refine gr_run ?_
  refine bind_e (fun v1 e1 => gr_call [] (spec_l01Dec.con e1) ?_)
  clear e1
  refine bind_e (fun v2 e2 => ?_)
  refine gr_run ?_
  refine gr_done ?_
  refine ret_e (fun hr_ => ?_)
  subst hr_
  exact ret_ Tryz.func78 []
 ·refine go 8 ?_
  refine grs ?_
  refine gr_run ?_
  refine bind_e (fun v3 e3 => gr_call [] (spec_l01Dec.con e3) ?_)
  clear e3
  refine gr_run ?_
  refine gr_done ?_
  refine ret_e (fun hr_ => ?_)
  subst hr_
  exact ret_ Tryz.func78 []
mutual
def spec_l01Date.l2 : Nat → Int → Int → ByteArray → Option (ByteArray)
 | 0, _, _, _ => none
 | k + 1, v5, v6, v10 => (bif decide ((v10.size : Int) < 4) then ((cat (⟨#[48]⟩ : ByteArray) v10).bind fun v11 => (spec_l01Date.l2 k v5 v6 v11)) else ((cat (⟨#[64]⟩ : ByteArray) v10).bind fun v12 => ((cat v12 (⟨#[45]⟩ : ByteArray)).bind fun v13 => ((spec_l01Two.f k v6).bind fun v14 => ((cat v13 v14).bind fun v15 => ((cat v15 (⟨#[45]⟩ : ByteArray)).bind fun v16 => ((spec_l01Two.f k (IntKind.i64.wrap (v5 + 1))).bind fun v17 => ((cat v16 v17).bind fun v18 => (some v18)))))))))
def spec_l01Date.l1 : Nat → Int → Int → Int → Option (ByteArray)
 | 0, _, _, _ => none
 | k + 1, v5, v2, v6 => ((spec_l01Month.f k v2 v6).bind fun v7 => (bif decide (v7 ≤ v5) then ((spec_l01Month.f k v2 v6).bind fun v8 => (spec_l01Date.l1 k (IntKind.i64.wrap (v5 - v8)) v2 (IntKind.i64.wrap (v6 + 1)))) else ((spec_l01Dec.f k v2).bind fun v9 => (spec_l01Date.l2 k v5 v6 v9))))
def spec_l01Date.l0 : Nat → Int → Int → Option (ByteArray)
 | 0, _, _ => none
 | k + 1, v0, v2 => ((spec_l01Days.f k (IntKind.i64.wrap (v2 + 1))).bind fun v3 => (bif decide (v3 ≤ v0) then (spec_l01Date.l0 k v0 (IntKind.i64.wrap (v2 + 1))) else ((spec_l01Days.f k v2).bind fun v4 => (spec_l01Date.l1 k (IntKind.i64.wrap (v0 - v4)) v2 1))))
def spec_l01Date.f : Nat → Int → Option (ByteArray)
 | 0, _ => none
 | k + 1, v0 => ((quo .i64 v0 366).bind fun v1 => (spec_l01Date.l0 k v0 (IntKind.i64.wrap (v1 + 1))))
end
set_option maxRecDepth 100000 in
set_option maxHeartbeats 4000000 in
theorem spec_l01Date.con {K : Kn} [KOk K] {k : Nat} {v0 : Int} {r : ByteArray} (h : spec_l01Date.f k v0 = some r) : Con K Tryz.prog 51 [.p (.int .i64 v0)] [] (.p (.str r)) [] := by
 cases k with
 | zero => exact absurd h (by simp [spec_l01Date.f])
 | succ k =>
 rw [spec_l01Date.f] at h
 refine con_intro 50 [] Tryz.func51 (by kernel_rfl) rfl rfl (by kernel_rfl) fun ι0 w0 hk0 => ?_
 revert h
 refine bind_e (fun v1 e1 => ?_)
 refine go 6 ?_
 refine fun h => good_loop (fun n st => n ≤ k ∧ ∃ (v2 : _), st = ⟨[(0, .p (.int .i64 v0)), (3, .p (.int .i64 v2))], []⟩ ∧ spec_l01Date.l0 n v0 v2 = some r) k ⟨_, ⟨Nat.le_refl _, _, rfl, h⟩, frle_, memle_⟩ ?_
 clear e1
 clear h
 rintro n _ ⟨hkl0, v2, rfl, h⟩ hl0
 cases n with
 | zero => exact absurd h (by simp [spec_l01Date.l0])
 | succ kl0 =>
 rw [spec_l01Date.l0] at h
 revert h
 refine go 2 ?_
 refine grs ?_
 refine gr_run ?_
 refine bind_e (fun v3 e3 => gr_call [] (spec_l01Days.con e3) ?_)
 clear e3
 refine gr_run ?_
 refine gr_done ?_
 refine bif_e (fun c1 => ?_) (fun c1 => ?_)
 ·refine go 5 ?_
  exact fun h => good_again hl0 (by omega) ⟨_, ⟨by omega, _, rfl, h⟩, frle_, memle_⟩
 ·refine go 3 ?_
  refine grs ?_
  refine gr_run ?_
  refine bind_e (fun v4 e4 => gr_call [] (spec_l01Days.con e4) ?_)
  clear e4
  refine gr_run ?_
  refine gr_done ?_
  refine go 4 ?_
  refine fun h => good_loop (fun n st => n ≤ kl0 ∧ ∃ (v5 : _) (v6 : _), st = ⟨[(0, .p (.int .i64 v5)), (3, .p (.int .i64 v2)), (4, .p (.int .i64 v6))], []⟩ ∧ spec_l01Date.l1 n v5 v2 v6 = some r) kl0 ⟨_, ⟨Nat.le_refl _, _, _, rfl, h⟩, frle_, memle_⟩ ?_
  clear c1
  clear h
  rintro n _ ⟨hkl1, v5, v6, rfl, h⟩ hl1
  cases n with
  | zero => exact absurd h (by simp [spec_l01Date.l1])
  | succ kl1 =>
  rw [spec_l01Date.l1] at h
  revert h
  refine go 2 ?_
  refine grs ?_
  refine gr_run ?_
  refine bind_e (fun v7 e7 => gr_call [] (spec_l01Month.con e7) ?_)
  clear e7
  refine gr_run ?_
  refine gr_done ?_
  refine bif_e (fun c2 => ?_) (fun c2 => ?_)
  ·refine go 4 ?_
   refine grs ?_
   refine gr_run ?_
   refine bind_e (fun v8 e8 => gr_call [] (spec_l01Month.con e8) ?_)
   clear e8
   refine gr_run ?_
   refine gr_done ?_
   refine go 2 ?_
   exact fun h => good_again hl1 (by omega) ⟨_, ⟨by omega, _, _, rfl, h⟩, frle_, memle_⟩
  ·refine go 3 ?_
   refine grs ?_
   refine gr_run ?_
   refine bind_e (fun v9 e9 => gr_call [] (spec_l01Dec.con e9) ?_)
   clear e9
   refine gr_run ?_
   refine gr_done ?_
   refine go 2 ?_
   refine fun h => good_loop (fun n st => n ≤ kl1 ∧ ∃ (v10 : _), st = ⟨[(0, .p (.int .i64 v5)), (4, .p (.int .i64 v6)), (5, .p (.str v10))], []⟩ ∧ spec_l01Date.l2 n v5 v6 v10 = some r) kl1 ⟨_, ⟨Nat.le_refl _, _, rfl, h⟩, frle_, memle_⟩ ?_
   clear c2
   clear h
   rintro n _ ⟨hkl2, v10, rfl, h⟩ hl2
   cases n with
   | zero => exact absurd h (by simp [spec_l01Date.l2])
   | succ kl2 =>
   rw [spec_l01Date.l2] at h
   revert h
   refine bif_e (fun c3 => ?_) (fun c3 => ?_)
   ·refine bind_e (fun v11 e11 => ?_)
    refine go 8 ?_
    exact fun h => good_again hl2 (by omega) ⟨_, ⟨by omega, _, rfl, h⟩, frle_, memle_⟩
   ·refine bind_e (fun v12 e12 => ?_)
    refine bind_e (fun v13 e13 => ?_)
    refine go 6 ?_
    refine grs ?_
    refine gr_run ?_
    refine bind_e (fun v14 e14 => gr_call [] (spec_l01Two.con e14) ?_)
    clear e14
    refine bind_e (fun v15 e15 => ?_)
    refine bind_e (fun v16 e16 => ?_)
    refine gr_run ?_
    refine bind_e (fun v17 e17 => gr_call [] (spec_l01Two.con e17) ?_)
    clear e17
    refine bind_e (fun v18 e18 => ?_)
    refine gr_run ?_
    refine gr_done ?_
    refine ret_e (fun hr_ => ?_)
    subst hr_
    exact ret_ Tryz.func51 []
mutual
def spec_l01Show.j1 : Nat → ByteArray → Int → S40 → Option (ByteArray)
 | 0, _, _, _ => none
 | k + 1, v22, v15, v0 => ((ix v0.f4 v15).bind fun v23 => ((spec_l01Show.f k v23).bind fun v24 => ((cat v22 v24).bind fun v25 => (spec_l01Show.l0 k v25 (IntKind.i64.wrap (v15 + 1)) v0))))
def spec_l01Show.j0 : Nat → ByteArray → Int → S40 → Option (ByteArray)
 | 0, _, _, _ => none
 | k + 1, v18, v15, v0 => (bif (v0.f0 == 7) then ((ix v0.f5 v15).bind fun v19 => ((cat v18 v19).bind fun v20 => ((cat v20 (⟨#[58]⟩ : ByteArray)).bind fun v21 => (spec_l01Show.j1 k v21 v15 v0)))) else (spec_l01Show.j1 k v18 v15 v0))
def spec_l01Show.l0 : Nat → ByteArray → Int → S40 → Option (ByteArray)
 | 0, _, _, _ => none
 | k + 1, v14, v15, v0 => (bif decide (v15 < (v0.f4.length : Int)) then (bif decide (0 < v15) then (bif (v0.f0 == 10) then ((cat v14 (⟨#[32]⟩ : ByteArray)).bind fun v16 => (spec_l01Show.j0 k v16 v15 v0)) else ((cat v14 (⟨#[44]⟩ : ByteArray)).bind fun v17 => (spec_l01Show.j0 k v17 v15 v0))) else (spec_l01Show.j0 k v14 v15 v0)) else (bif (v0.f0 == 10) then ((cat (⟨#[60]⟩ : ByteArray) v14).bind fun v26 => ((cat v26 (⟨#[62]⟩ : ByteArray)).bind fun v27 => (some v27))) else (bif (v0.f0 == 7) then ((cat (⟨#[123]⟩ : ByteArray) v14).bind fun v28 => ((cat v28 (⟨#[125]⟩ : ByteArray)).bind fun v29 => (some v29))) else ((cat (⟨#[91]⟩ : ByteArray) v14).bind fun v30 => ((cat v30 (⟨#[93]⟩ : ByteArray)).bind fun v31 => (some v31))))))
def spec_l01Show.f : Nat → S40 → Option (ByteArray)
 | 0, _ => none
 | k + 1, v0 => (bif (v0.f0 == 0) then (some (⟨#[110, 117, 108, 108]⟩ : ByteArray)) else (bif (v0.f0 == 1) then (bif (v0.f1 == 1) then (some (⟨#[116, 114, 117, 101]⟩ : ByteArray)) else (some (⟨#[102, 97, 108, 115, 101]⟩ : ByteArray))) else (bif (v0.f0 == 2) then ((spec_l01Dec.f k v0.f1).bind fun v1 => (some v1)) else (bif (v0.f0 == 3) then ((spec_l01Quote.f k v0.f3).bind fun v2 => (some v2)) else (bif (v0.f0 == 4) then ((spec_l01Date.f k v0.f1).bind fun v3 => (some v3)) else (bif (v0.f0 == 5) then ((spec_l01Dec.f k v0.f1).bind fun v4 => ((cat (⟨#[40]⟩ : ByteArray) v4).bind fun v5 => ((cat v5 (⟨#[32]⟩ : ByteArray)).bind fun v6 => ((spec_l01Dec.f k v0.f2).bind fun v7 => ((cat v6 v7).bind fun v8 => ((cat v8 (⟨#[41]⟩ : ByteArray)).bind fun v9 => (some v9))))))) else (bif (v0.f0 == 8) then ((spec_l01Dec.f k v0.f1).bind fun v10 => ((cat (⟨#[110]⟩ : ByteArray) v10).bind fun v11 => (some v11))) else (bif (v0.f0 == 9) then ((spec_l01Dec.f k v0.f1).bind fun v12 => ((cat (⟨#[101]⟩ : ByteArray) v12).bind fun v13 => (some v13))) else (spec_l01Show.l0 k (⟨#[]⟩ : ByteArray) 0 v0)))))))))
end
def spec_l01Show.C (K : Kn) (k : Nat) : Prop := ∀ (v0 : S40) (r : ByteArray), spec_l01Show.f k v0 = some r → Con K Tryz.prog 40 [.agg [.p (.int .i64 v0.f0), .p (.int .i64 v0.f1), .p (.int .i64 v0.f2), .p (.str v0.f3), .p (.lst false (List.map en40 v0.f4)), .p (.lst false (List.map srw v0.f5))]] [] (.p (.str r)) []
set_option maxRecDepth 100000 in
set_option maxHeartbeats 4000000 in
theorem spec_l01Show.con1 {K : Kn} [KOk K] (k : Nat) (spec_l01Show_ih : ∀ m, m < k → spec_l01Show.C K m) : spec_l01Show.C K k := by
 intro v0 r h
 cases k with
 | zero => exact absurd h (by simp [spec_l01Show.f])
 | succ k =>
 rw [spec_l01Show.f] at h
 refine con_intro 103 [] Tryz.func40 (by kernel_rfl) rfl rfl (by kernel_rfl) fun ι0 w0 hk0 => ?_
 revert h
 refine bif_e (fun c1 => ?_) (fun c1 => ?_)
 ·refine go 13 ?_
  refine ret_e (fun hr_ => ?_)
  subst hr_
  exact ret_ Tryz.func40 []
 ·refine bif_e (fun c2 => ?_) (fun c2 => ?_)
  ·refine bif_e (fun c3 => ?_) (fun c3 => ?_)
   ·refine go 20 ?_
    refine ret_e (fun hr_ => ?_)
    subst hr_
    exact ret_ Tryz.func40 []
   ·refine go 21 ?_
    refine ret_e (fun hr_ => ?_)
    subst hr_
    exact ret_ Tryz.func40 []
  ·refine bif_e (fun c4 => ?_) (fun c4 => ?_)
   ·refine go 18 ?_
    refine grs ?_
    refine gr_run ?_
    refine bind_e (fun v1 e1 => gr_call [] (spec_l01Dec.con e1) ?_)
    clear e1
    refine gr_run ?_
    refine gr_done ?_
    refine ret_e (fun hr_ => ?_)
    subst hr_
    exact ret_ Tryz.func40 []
   ·refine bif_e (fun c5 => ?_) (fun c5 => ?_)
    ·refine go 21 ?_
     refine grs ?_
     refine gr_run ?_
     refine bind_e (fun v2 e2 => gr_call [] (spec_l01Quote.con e2) ?_)
     clear e2
     refine gr_run ?_
     refine gr_done ?_
     refine ret_e (fun hr_ => ?_)
     subst hr_
     exact ret_ Tryz.func40 []
    ·refine bif_e (fun c6 => ?_) (fun c6 => ?_)
     ·refine go 24 ?_
      refine grs ?_
      refine gr_run ?_
      refine bind_e (fun v3 e3 => gr_call [] (spec_l01Date.con e3) ?_)
      clear e3
      refine gr_run ?_
      refine gr_done ?_
      refine ret_e (fun hr_ => ?_)
      subst hr_
      exact ret_ Tryz.func40 []
     ·refine bif_e (fun c7 => ?_) (fun c7 => ?_)
      ·refine go 27 ?_
       refine grs ?_
       refine gr_run ?_
       refine bind_e (fun v4 e4 => gr_call [] (spec_l01Dec.con e4) ?_)
       clear e4
       refine bind_e (fun v5 e5 => ?_)
       refine bind_e (fun v6 e6 => ?_)
       refine gr_run ?_
       refine bind_e (fun v7 e7 => gr_call [] (spec_l01Dec.con e7) ?_)
       clear e7
       refine bind_e (fun v8 e8 => ?_)
       refine bind_e (fun v9 e9 => ?_)
       refine gr_run ?_
       refine gr_done ?_
       refine ret_e (fun hr_ => ?_)
       subst hr_
       exact ret_ Tryz.func40 []
      ·refine bif_e (fun c8 => ?_) (fun c8 => ?_)
       ·refine go 30 ?_
        refine grs ?_
        refine gr_run ?_
        refine bind_e (fun v10 e10 => gr_call [] (spec_l01Dec.con e10) ?_)
        clear e10
        refine bind_e (fun v11 e11 => ?_)
        refine gr_run ?_
        refine gr_done ?_
        refine ret_e (fun hr_ => ?_)
        subst hr_
        exact ret_ Tryz.func40 []
       ·refine bif_e (fun c9 => ?_) (fun c9 => ?_)
        ·refine go 33 ?_
         refine grs ?_
         refine gr_run ?_
         refine bind_e (fun v12 e12 => gr_call [] (spec_l01Dec.con e12) ?_)
         clear e12
         refine bind_e (fun v13 e13 => ?_)
         refine gr_run ?_
         refine gr_done ?_
         refine ret_e (fun hr_ => ?_)
         subst hr_
         exact ret_ Tryz.func40 []
        ·refine go 38 ?_
         refine fun h => good_loop (fun n st => n ≤ k ∧ ∃ (v14 : _) (v15 : _), st = ⟨[(1, .ptr 1 1 0), (3, .p (.str v14)), (4, .p (.int .i64 v15))], [(1, (1, .cells [.p (.int .i64 v0.f0), .p (.int .i64 v0.f1), .p (.int .i64 v0.f2), .p (.str v0.f3), .p (.lst false (List.map en40 v0.f4)), .p (.lst false (List.map srw v0.f5))]))]⟩ ∧ spec_l01Show.l0 n v14 v15 v0 = some r) k ⟨_, ⟨Nat.le_refl _, _, _, rfl, h⟩, frle_, memle_⟩ ?_
         clear c1 c2 c4 c5 c6 c7 c8 c9
         clear h
         rintro n _ ⟨hkl0, v14, v15, rfl, h⟩ hl0
         cases n with
         | zero => exact absurd h (by simp [spec_l01Show.l0])
         | succ kl0 =>
         rw [spec_l01Show.l0] at h
         revert h
         refine bif_e (fun c10 => ?_) (fun c10 => ?_)
         ·refine go 8 ?_
          refine good_cut (fun st => ∃ (v18 : _) (q_ : Nat), q_ ≤ kl0 ∧ st = ⟨[(1, .ptr 1 1 0), (3, .p (.str v18)), (4, .p (.int .i64 v15))], [(1, (1, .cells [.p (.int .i64 v0.f0), .p (.int .i64 v0.f1), .p (.int .i64 v0.f2), .p (.str v0.f3), .p (.lst false (List.map en40 v0.f4)), .p (.lst false (List.map srw v0.f5))]))]⟩ ∧ spec_l01Show.j0 q_ v18 v15 v0 = some r) ?_ (fun hj0 => ?_)
          ·clear c10
           rintro _ ⟨v18, q_, hqj0, rfl, h⟩
           cases q_ with
           | zero => exact absurd h (by simp [spec_l01Show.j0])
           | succ kj0 =>
           rw [spec_l01Show.j0] at h
           revert h
           refine go 1 ?_
           refine good_cut (fun st => ∃ (v22 : _) (q_ : Nat), q_ ≤ kj0 ∧ st = ⟨[(1, .ptr 1 1 0), (3, .p (.str v22)), (4, .p (.int .i64 v15))], [(1, (1, .cells [.p (.int .i64 v0.f0), .p (.int .i64 v0.f1), .p (.int .i64 v0.f2), .p (.str v0.f3), .p (.lst false (List.map en40 v0.f4)), .p (.lst false (List.map srw v0.f5))]))]⟩ ∧ spec_l01Show.j1 q_ v22 v15 v0 = some r) ?_ (fun hj1 => ?_)
           ·skip
            rintro _ ⟨v22, q_, hqj1, rfl, h⟩
            cases q_ with
            | zero => exact absurd h (by simp [spec_l01Show.j1])
            | succ kj1 =>
            rw [spec_l01Show.j1] at h
            revert h
            refine bind_e (fun v23 e23 => ?_)
            replace e23 := nf_ (ix_en en40 e23)
            refine grs ?_
            refine gr_run ?_
            refine bind_e (fun v24 e24 => gr_call [] (spec_l01Show_ih _ (by omega) _ _ e24) ?_)
            clear e24
            refine bind_e (fun v25 e25 => ?_)
            refine gr_run ?_
            refine gr_done ?_
            refine go 2 ?_
            exact fun h => good_again hl0 (by omega) ⟨_, ⟨by omega, _, _, rfl, h⟩, frle_, memle_⟩
           ·refine bif_e (fun c11 => ?_) (fun c11 => ?_)
            ·refine bind_e (fun v19 e19 => ?_)
             replace e19 := nf_ (ix_en srw e19)
             refine bind_e (fun v20 e20 => ?_)
             refine bind_e (fun v21 e21 => ?_)
             refine go 4 ?_
             exact fun h => good_jump hj1 ⟨_, ⟨_, _, by omega, rfl, h⟩, frle_, memle_⟩
            ·refine go 4 ?_
             exact fun h => good_jump hj1 ⟨_, ⟨_, _, by omega, rfl, h⟩, frle_, memle_⟩
          ·refine bif_e (fun c12 => ?_) (fun c12 => ?_)
           ·refine bif_e (fun c13 => ?_) (fun c13 => ?_)
            ·refine bind_e (fun v16 e16 => ?_)
             refine go 7 ?_
             exact fun h => good_jump hj0 ⟨_, ⟨_, _, by omega, rfl, h⟩, frle_, memle_⟩
            ·refine bind_e (fun v17 e17 => ?_)
             refine go 7 ?_
             exact fun h => good_jump hj0 ⟨_, ⟨_, _, by omega, rfl, h⟩, frle_, memle_⟩
           ·refine go 4 ?_
            exact fun h => good_jump hj0 ⟨_, ⟨_, _, by omega, rfl, h⟩, frle_, memle_⟩
         ·refine bif_e (fun c14 => ?_) (fun c14 => ?_)
          ·refine bind_e (fun v26 e26 => ?_)
           refine bind_e (fun v27 e27 => ?_)
           refine go 14 ?_
           refine ret_e (fun hr_ => ?_)
           subst hr_
           exact ret_ Tryz.func40 []
          ·refine bif_e (fun c15 => ?_) (fun c15 => ?_)
           ·refine bind_e (fun v28 e28 => ?_)
            refine bind_e (fun v29 e29 => ?_)
            refine go 17 ?_
            refine ret_e (fun hr_ => ?_)
            subst hr_
            exact ret_ Tryz.func40 []
           ·refine bind_e (fun v30 e30 => ?_)
            refine bind_e (fun v31 e31 => ?_)
            refine go 19 ?_
            refine ret_e (fun hr_ => ?_)
            subst hr_
            exact ret_ Tryz.func40 []
theorem spec_l01Show.all {K : Kn} [KOk K] (k : Nat) : spec_l01Show.C K k := by
 induction k using Nat.strongRecOn with
 | _ k ih => exact spec_l01Show.con1 k ih
theorem spec_l01Show.con {K : Kn} [KOk K] {k : Nat} {v0 : S40} {r : ByteArray} (h : spec_l01Show.f k v0 = some r) : Con K Tryz.prog 40 [.agg [.p (.int .i64 v0.f0), .p (.int .i64 v0.f1), .p (.int .i64 v0.f2), .p (.str v0.f3), .p (.lst false (List.map en40 v0.f4)), .p (.lst false (List.map srw v0.f5))]] [] (.p (.str r)) [] := (spec_l01Show.all k) _ r h
mutual
def spec_FieldsOf_O.l0 : Nat → (List S52) → Int → S40 → Option ((List S52))
 | 0, _, _, _ => none
 | k + 1, v4, v2, v1 => (bif decide (v2 < (v1.f5.length : Int)) then ((ix v1.f5 v2).bind fun v5 => ((ix v1.f4 v2).bind fun v6 => ((spec_l01Show.f k v6).bind fun v7 => ((app v4 ([(⟨v5, v7⟩ : S52)] : List S52)).bind fun v8 => (spec_FieldsOf_O.l0 k v8 (IntKind.i64.wrap (v2 + 1)) v1))))) else (some v4))
def spec_FieldsOf_O.f : Nat → ByteArray → Option ((List S52))
 | 0, _ => none
 | k + 1, v0 => ((spec_l01Read.f k v0).bind fun v1 => (spec_FieldsOf_O.l0 k [] 0 v1))
end
set_option maxRecDepth 100000 in
set_option maxHeartbeats 4000000 in
theorem spec_FieldsOf_O.con {K : Kn} [KOk K] {k : Nat} {v0 : ByteArray} {r : (List S52)} (h : spec_FieldsOf_O.f k v0 = some r) : Con K Tryz.prog 21 [.p (.str v0)] [] (.buf 2000 1 0 r.length) [(2000, (1, .buf 2 (List.map en52 r)))] := by
 cases k with
 | zero => exact absurd h (by simp [spec_FieldsOf_O.f])
 | succ k =>
 rw [spec_FieldsOf_O.f] at h
 refine con_intro 32 [30] Tryz.func21 (by kernel_rfl) rfl rfl (by kernel_rfl) fun ι0 w0 hk0 => ?_
 revert h
 refine go 5 ?_
 refine grs ?_
 refine gr_run ?_
 refine bind_e (fun v1 e1 => gr_call [] (spec_l01Read.con e1) ?_)
 clear e1
 refine gr_run ?_
 refine gr_done ?_
 refine go 4 ?_
 refine adoptB_ 3 30 2 ?_
 refine fun h => good_loop (fun n st => n ≤ k ∧ ∃ (v2 : _) (v4 : _) (g3 : Nat), st = ⟨[(3, .buf 30 g3 0 v4.length), (4, .ptr 4 1 0), (5, .p (.int .i64 v2))], [(4, (1, .cells [.p (.int .i64 v1.f0), .p (.int .i64 v1.f1), .p (.int .i64 v1.f2), .p (.str v1.f3), .p (.lst false (List.map en40 v1.f4)), .p (.lst false (List.map srw v1.f5))])), (30, (g3, .buf 2 (List.map en52 v4)))]⟩ ∧ spec_FieldsOf_O.l0 n v4 v2 v1 = some r) k ⟨_, ⟨Nat.le_refl _, _, _, 1, rfl, h⟩, frle_, memle_⟩ ?_
 clear h
 rintro n _ ⟨hkl0, v2, v4, g3, rfl, h⟩ hl0
 cases n with
 | zero => exact absurd h (by simp [spec_FieldsOf_O.l0])
 | succ kl0 =>
 rw [spec_FieldsOf_O.l0] at h
 revert h
 refine bif_e (fun c1 => ?_) (fun c1 => ?_)
 ·refine bind_e (fun v5 e5 => ?_)
  replace e5 := nf_ (ix_en srw e5)
  refine bind_e (fun v6 e6 => ?_)
  replace e6 := nf_ (ix_en en40 e6)
  refine go 7 ?_
  refine grs ?_
  refine gr_run ?_
  refine bind_e (fun v7 e7 => gr_call [] (spec_l01Show.con e7) ?_)
  clear e7
  refine bind_e (fun v8 e8 => ?_)
  replace e8 := nf_ (app_en en52 e8)
  refine gr_run ?_
  refine gr_done ?_
  refine go 2 ?_
  exact fun h => good_again hl0 (by omega) ⟨_, ⟨by omega, _, _, g3 + 1, rfl, h⟩, frle_, memle_⟩
 ·refine go 7 ?_
  refine ret_e (fun hr_ => ?_)
  subst hr_
  exact ret_ Tryz.func21 [(2000, (1, 30, g3))]
end Go.Ab
