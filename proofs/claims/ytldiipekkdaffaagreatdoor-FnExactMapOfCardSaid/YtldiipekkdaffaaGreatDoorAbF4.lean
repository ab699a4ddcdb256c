/- What the functions compute, and their contracts, part 4. No condition beyond KOk. -/
import Derived.Test.YtldiipekkdaffaaGreatDoorAbX
import Derived.Test.YtldiipekkdaffaaGreatDoorAbF2
import Derived.Test.YtldiipekkdaffaaGreatDoorAbF3
namespace Go.Ab
open Go.Proofs
set_option linter.unusedVariables false
set_option linter.unusedSimpArgs false
def spec_l01Read.f (k : Nat) (v0 : ByteArray) : Option (S40) := (bif decide (2000 < (v0.size : Int)) then (some (⟨(-1), 0, 0, (⟨#[]⟩ : ByteArray), ([] : (List S40)), ([] : (List ByteArray))⟩ : S40)) else ((spec_l01Reader_value.f k 0 (⟨v0, 0, false⟩ : S65)).bind fun v1 => (bif v1.2.f2 then (some (⟨(-1), 0, 0, (⟨#[]⟩ : ByteArray), ([] : (List S40)), ([] : (List ByteArray))⟩ : S40)) else (bif (v1.2.f1 == (v0.size : Int)) then (some v1.1) else (some (⟨(-1), 0, 0, (⟨#[]⟩ : ByteArray), ([] : (List S40)), ([] : (List ByteArray))⟩ : S40))))))
set_option maxRecDepth 100000 in
set_option maxHeartbeats 4000000 in
theorem spec_l01Read.con {K : Kn} [KOk K] {k : Nat} {v0 : ByteArray} {r : S40} (h : spec_l01Read.f k v0 = some r) : Con K Tryz.prog 25 [.p (.str v0)] [] (.agg [.p (.int .i64 r.f0), .p (.int .i64 r.f1), .p (.int .i64 r.f2), .p (.str r.f3), .p (.lst false (List.map en40 r.f4)), .p (.lst false (List.map srw r.f5))]) [] := by
 rw [spec_l01Read.f] at h
 refine con_intro 29 [] Tryz.func25 (by kernel_rfl) rfl rfl (by kernel_rfl) fun ι0 w0 hk0 => ?_
 revert h
 refine bif_e (fun c1 => ?_) (fun c1 => ?_)
 ·refine go 8 ?_
  refine ret_e (fun hr_ => ?_)
  subst hr_
  exact ret_ Tryz.func25 []
 ·refine go 10 ?_
  refine grs ?_
  refine gr_run ?_
  refine bind_e (fun v1 e1 => gr_call [(1000, (0, 11, 1))] (spec_l01Reader_value.con e1) ?_)
  clear e1
  refine gr_run ?_
  refine gr_done ?_
  refine bif_e (fun c2 => ?_) (fun c2 => ?_)
  ·refine go 6 ?_
   refine ret_e (fun hr_ => ?_)
   subst hr_
   exact ret_ Tryz.func25 []
  ·refine bif_e (fun c3 => ?_) (fun c3 => ?_)
   ·refine go 7 ?_
    refine ret_e (fun hr_ => ?_)
    subst hr_
    exact ret_ Tryz.func25 []
   ·refine go 6 ?_
    refine ret_e (fun hr_ => ?_)
    subst hr_
    exact ret_ Tryz.func25 []
def spec_l01Keep.f (k : Nat) (v0 : ByteArray) : Option (ByteArray) := ((spec_l01Read.f k v0).bind fun v1 => (bif decide (v1.f0 < 0) then (some (⟨#[]⟩ : ByteArray)) else (some v0)))
set_option maxRecDepth 100000 in
set_option maxHeartbeats 4000000 in
theorem spec_l01Keep.con {K : Kn} [KOk K] {k : Nat} {v0 : ByteArray} {r : ByteArray} (h : spec_l01Keep.f k v0 = some r) : Con K Tryz.prog 26 [.p (.str v0)] [] (.p (.str r)) [] := by
 rw [spec_l01Keep.f] at h
 refine con_intro 8 [] Tryz.func26 (by kernel_rfl) rfl rfl (by kernel_rfl) fun ι0 w0 hk0 => ?_
 revert h
 refine go 4 ?_
 refine grs ?_
 refine gr_run ?_
 refine bind_e (fun v1 e1 => gr_call [] (spec_l01Read.con e1) ?_)
 clear e1
 refine gr_run ?_
 refine gr_done ?_
 refine bif_e (fun c1 => ?_) (fun c1 => ?_)
 ·refine go 3 ?_
  refine ret_e (fun hr_ => ?_)
  subst hr_
  exact ret_ Tryz.func26 []
 ·refine go 4 ?_
  refine ret_e (fun hr_ => ?_)
  subst hr_
  exact ret_ Tryz.func26 []
mutual
def spec_MapOf.j0 : Nat → ByteArray → (List S52) → Int → Option (ByteArray)
 | 0, _, _, _ => none
 | k + 1, v8, v1, v3 => ((ix v1 v3).bind fun v9 => ((spec_l01Name.f k v9.f0).bind fun v10 => (bif v10 then ((spec_l01Read.f k v9.f1).bind fun v12 => (bif decide (v12.f0 < 0) then (some (⟨#[]⟩ : ByteArray)) else ((cat v8 v9.f0).bind fun v14 => ((cat v14 (⟨#[58]⟩ : ByteArray)).bind fun v15 => ((cat v15 v9.f1).bind fun v17 => (bif decide (2000 < (v17.size : Int)) then (some (⟨#[]⟩ : ByteArray)) else (spec_MapOf.l0 k v17 v1 (IntKind.i64.wrap (v3 + 1))))))))) else (some (⟨#[]⟩ : ByteArray)))))
def spec_MapOf.l0 : Nat → ByteArray → (List S52) → Int → Option (ByteArray)
 | 0, _, _, _ => none
 | k + 1, v2, v1, v3 => (bif decide (v3 < (v1.length : Int)) then (bif decide (0 < v3) then ((cat v2 (⟨#[44]⟩ : ByteArray)).bind fun v7 => (spec_MapOf.j0 k v7 v1 v3)) else (spec_MapOf.j0 k v2 v1 v3)) else ((cat (⟨#[123]⟩ : ByteArray) v2).bind fun v4 => ((cat v4 (⟨#[125]⟩ : ByteArray)).bind fun v5 => ((spec_l01Keep.f k v5).bind fun v6 => (some v6)))))
def spec_MapOf.f : Nat → (List S52) → Option (ByteArray)
 | 0, _ => none
 | k + 1, v0 => (bif decide (1000 < (v0.length : Int)) then (some (⟨#[]⟩ : ByteArray)) else ((spec_l01Sorted.f k v0).bind fun v1 => (spec_MapOf.l0 k (⟨#[]⟩ : ByteArray) v1 0)))
end
set_option maxRecDepth 100000 in
set_option maxHeartbeats 4000000 in
theorem spec_MapOf.con {K : Kn} [KOk K] {k : Nat} {v0 : (List S52)} {r : ByteArray} (h : spec_MapOf.f k v0 = some r) : Con K Tryz.prog 13 [.p (.lst false (List.map en52 v0))] [] (.p (.str r)) [] := by
 cases k with
 | zero => exact absurd h (by simp [spec_MapOf.f])
 | succ k =>
 rw [spec_MapOf.f] at h
 refine con_intro 59 [] Tryz.func13 (by kernel_rfl) rfl rfl (by kernel_rfl) fun ι0 w0 hk0 => ?_
 revert h
 refine bif_e (fun c1 => ?_) (fun c1 => ?_)
 ·refine go 8 ?_
  refine ret_e (fun hr_ => ?_)
  subst hr_
  exact ret_ Tryz.func13 []
 ·refine go 10 ?_
  refine grs ?_
  refine gr_run ?_
  refine bind_e (fun v1 e1 => gr_call [] (spec_l01Sorted.con e1) ?_)
  clear e1
  refine gr_run ?_
  refine gr_done ?_
  refine go 4 ?_
  refine fun h => good_loop (fun n st => n ≤ k ∧ ∃ (v2 : _) (v3 : _), st = ⟨[(3, .p (.str v2)), (4, .p (.lst false (List.map en52 v1))), (5, .p (.int .i64 v3))], []⟩ ∧ spec_MapOf.l0 n v2 v1 v3 = some r) k ⟨_, ⟨Nat.le_refl _, _, _, rfl, h⟩, frle_, memle_⟩ ?_
  clear c1
  clear h
  rintro n _ ⟨hkl0, v2, v3, rfl, h⟩ hl0
  cases n with
  | zero => exact absurd h (by simp [spec_MapOf.l0])
  | succ kl0 =>
  rw [spec_MapOf.l0] at h
  revert h
  refine bif_e (fun c2 => ?_) (fun c2 => ?_)
  ·refine go 8 ?_
   refine good_cut (fun st => ∃ (v8 : _) (q_ : Nat), q_ ≤ kl0 ∧ st = ⟨[(3, .p (.str v8)), (4, .p (.lst false (List.map en52 v1))), (5, .p (.int .i64 v3))], []⟩ ∧ spec_MapOf.j0 q_ v8 v1 v3 = some r) ?_ (fun hj0 => ?_)
   ·clear c2
    rintro _ ⟨v8, q_, hqj0, rfl, h⟩
    cases q_ with
    | zero => exact absurd h (by simp [spec_MapOf.j0])
    | succ kj0 =>
    rw [spec_MapOf.j0] at h
    revert h
    refine bind_e (fun v9 e9 => ?_)
    replace e9 := nf_ (ix_en en52 e9)
    refine go 2 ?_
    refine grs ?_
    refine gr_run ?_
    refine bind_e (fun v10 e10 => gr_call [] (spec_l01Name.con e10) ?_)
    clear e10
    refine bif_e (fun c3 => ?_) (fun c3 => ?_)
    ·refine gr_run ?_
     refine bind_e (fun v12 e12 => gr_call [] (spec_l01Read.con e12) ?_)
     clear e12
     refine gr_run ?_
     refine gr_done ?_
     refine bif_e (fun c4 => ?_) (fun c4 => ?_)
     ·refine go 3 ?_
      refine ret_e (fun hr_ => ?_)
      subst hr_
      exact ret_ Tryz.func13 []
     ·refine bind_e (fun v14 e14 => ?_)
      refine bind_e (fun v15 e15 => ?_)
      refine bind_e (fun v17 e17 => ?_)
      refine go 3 ?_
      refine grs ?_
      refine gr_run ?_
      refine gr_done ?_
      refine bif_e (fun c5 => ?_) (fun c5 => ?_)
      ·refine go 5 ?_
       refine ret_e (fun hr_ => ?_)
       subst hr_
       exact ret_ Tryz.func13 []
      ·refine go 6 ?_
       exact fun h => good_again hl0 (by omega) ⟨_, ⟨by omega, _, _, rfl, h⟩, frle_, memle_⟩
    ·refine gr_run ?_
     refine gr_done ?_
     refine go 3 ?_
     refine ret_e (fun hr_ => ?_)
     subst hr_
     exact ret_ Tryz.func13 []
   ·refine bif_e (fun c6 => ?_) (fun c6 => ?_)
    ·refine bind_e (fun v7 e7 => ?_)
     refine go 4 ?_
     exact fun h => good_jump hj0 ⟨_, ⟨_, _, by omega, rfl, h⟩, frle_, memle_⟩
    ·refine go 4 ?_
     exact fun h => good_jump hj0 ⟨_, ⟨_, _, by omega, rfl, h⟩, frle_, memle_⟩
  ·refine bind_e (fun v4 e4 => ?_)
   refine bind_e (fun v5 e5 => ?_)
   refine go 6 ?_
   refine grs ?_
   refine gr_run ?_
   refine bind_e (fun v6 e6 => gr_call [] (spec_l01Keep.con e6) ?_)
   clear e6
   refine gr_run ?_
   refine gr_done ?_
   refine ret_e (fun hr_ => ?_)
   subst hr_
   exact ret_ Tryz.func13 []
end Go.Ab
