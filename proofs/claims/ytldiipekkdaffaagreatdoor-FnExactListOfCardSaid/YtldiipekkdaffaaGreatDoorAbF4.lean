/- What the functions compute, and their contracts, part 4. No condition beyond KOk. -/
import Derived.Test.YtldiipekkdaffaaGreatDoorAbX
import Derived.Test.YtldiipekkdaffaaGreatDoorAbF3
namespace Go.Ab
open Go.Proofs
set_option linter.unusedVariables false
set_option linter.unusedSimpArgs false
def spec_l01Read.f (k : Nat) (v0 : ByteArray) : Option (S40) := (bif decide (2000 < (v0.size : Int)) then (some (⟨(-1), 0, 0, (⟨#[]⟩ : ByteArray), ([] : (List S40)), ([] : (List ByteArray))⟩ : S40)) else ((spec_l01Reader_value.f k 0 (⟨v0, 0, false⟩ : S65)).bind fun v1 => (bif v1.2.f2 then (some (⟨(-1), 0, 0, (⟨#[]⟩ : ByteArray), ([] : (List S40)), ([] : (List ByteArray))⟩ : S40)) else (bif (v1.2.f1 == (v0.size : Int)) then (some v1.1) else (some (⟨(-1), 0, 0, (⟨#[]⟩ : ByteArray), ([] : (List S40)), ([] : (List ByteArray))⟩ : S40))))))
set_option maxRecDepth 100000 in
set_option maxHeartbeats 4000000 in
theorem spec_l01Read.con {K : Kn} [KOk K] {k : Nat} {v0 : ByteArray} {r : S40} (h : spec_l01Read.f k v0 = some r) : Con K Tryz.prog 25 [.p (.str v0)] [] (.agg [.p (.int .i64 r.f0), .p (.int .i64 r.f1), .p (.int .i64 r.f2), .p (.str r.f3), .p (.lst false (List.map en40 r.f4)), .p (.lst false (List.map srw r.f5))]) [] := by
 rw [spec_l01Read.f] at h
 refine con_intro 29 [] Tryz.func25 (by kernel_rfl) rfl rfl (by kernel_rfl) fun ι0 w0 hk0 => ?_
 revert h
 refine bif_e (fun c1 => ?_) (fun c1 => ?_)
 ·refine go 8 ?_
  refine ret_e (fun hr_ => ?_)
  subst hr_
  exact ret_ Tryz.func25 []
 ·refine go 10 ?_
  refine grs ?_
  refine gr_run ?_
  refine bind_e (fun v1 e1 => gr_call [(1000, (0, 11, 1))] (spec_l01Reader_value.con e1) ?_)
  clear e1
  refine gr_run ?_
  refine gr_done ?_
  refine bif_e (fun c2 => ?_) (fun c2 => ?_)
  ·refine go 6 ?_
   refine ret_e (fun hr_ => ?_)
   subst hr_
   exact ret_ Tryz.func25 []
  ·refine bif_e (fun c3 => ?_) (fun c3 => ?_)
   ·refine go 7 ?_
    refine ret_e (fun hr_ => ?_)
    subst hr_
    exact ret_ Tryz.func25 []
   ·refine go 6 ?_
    refine ret_e (fun hr_ => ?_)
    subst hr_
    exact ret_ Tryz.func25 []
def spec_l01Keep.f (k : Nat) (v0 : ByteArray) : Option (ByteArray) := ((spec_l01Read.f k v0).bind fun v1 => (bif decide (v1.f0 < 0) then (some (⟨#[]⟩ : ByteArray)) else (some v0)))
set_option maxRecDepth 100000 in
set_option maxHeartbeats 4000000 in
theorem spec_l01Keep.con {K : Kn} [KOk K] {k : Nat} {v0 : ByteArray} {r : ByteArray} (h : spec_l01Keep.f k v0 = some r) : Con K Tryz.prog 26 [.p (.str v0)] [] (.p (.str r)) [] := by
 rw [spec_l01Keep.f] at h
 refine con_intro 8 [] Tryz.func26 (by kernel_rfl) rfl rfl (by kernel_rfl) fun ι0 w0 hk0 => ?_
 revert h
 refine go 4 ?_
 refine grs ?_
 refine gr_run ?_
 refine bind_e (fun v1 e1 => gr_call [] (spec_l01Read.con e1) ?_)
 clear e1
 refine gr_run ?_
 refine gr_done ?_
 refine bif_e (fun c1 => ?_) (fun c1 => ?_)
 ·refine go 3 ?_
  refine ret_e (fun hr_ => ?_)
  subst hr_
  exact ret_ Tryz.func26 []
 ·refine go 4 ?_
  refine ret_e (fun hr_ => ?_)
  subst hr_
  exact ret_ Tryz.func26 []
mutual
def spec_ListOf.j0 : Nat → (List ByteArray) → ByteArray → Int → Option (ByteArray)
 | 0, _, _, _ => none
 | k + 1, v0, v7, v2 => ((ix v0 v2).bind fun v8 => ((spec_l01Read.f k v8).bind fun v9 => (bif decide (v9.f0 < 0) then (some (⟨#[]⟩ : ByteArray)) else ((cat v7 v8).bind fun v11 => (bif decide (2000 < (v11.size : Int)) then (some (⟨#[]⟩ : ByteArray)) else (spec_ListOf.l0 k v0 v11 (IntKind.i64.wrap (v2 + 1))))))))
def spec_ListOf.l0 : Nat → (List ByteArray) → ByteArray → Int → Option (ByteArray)
 | 0, _, _, _ => none
 | k + 1, v0, v1, v2 => (bif decide (v2 < (v0.length : Int)) then (bif decide (0 < v2) then ((cat v1 (⟨#[44]⟩ : ByteArray)).bind fun v6 => (spec_ListOf.j0 k v0 v6 v2)) else (spec_ListOf.j0 k v0 v1 v2)) else ((cat (⟨#[91]⟩ : ByteArray) v1).bind fun v3 => ((cat v3 (⟨#[93]⟩ : ByteArray)).bind fun v4 => ((spec_l01Keep.f k v4).bind fun v5 => (some v5)))))
def spec_ListOf.f : Nat → (List ByteArray) → Option (ByteArray)
 | 0, _ => none
 | k + 1, v0 => (bif decide (1000 < (v0.length : Int)) then (some (⟨#[]⟩ : ByteArray)) else (spec_ListOf.l0 k v0 (⟨#[]⟩ : ByteArray) 0))
end
set_option maxRecDepth 100000 in
set_option maxHeartbeats 4000000 in
theorem spec_ListOf.con {K : Kn} [KOk K] {k : Nat} {v0 : (List ByteArray)} {r : ByteArray} (h : spec_ListOf.f k v0 = some r) : Con K Tryz.prog 8 [.p (.lst false (List.map srw v0))] [] (.p (.str r)) [] := by
 cases k with
 | zero => exact absurd h (by simp [spec_ListOf.f])
 | succ k =>
 rw [spec_ListOf.f] at h
 refine con_intro 38 [] Tryz.func8 (by kernel_rfl) rfl rfl (by kernel_rfl) fun ι0 w0 hk0 => ?_
 revert h
 refine bif_e (fun c1 => ?_) (fun c1 => ?_)
 ·refine go 8 ?_
  refine ret_e (fun hr_ => ?_)
  subst hr_
  exact ret_ Tryz.func8 []
 ·refine go 13 ?_
  refine fun h => good_loop (fun n st => n ≤ k ∧ ∃ (v1 : _) (v2 : _), st = ⟨[(0, .p (.lst false (List.map srw v0))), (3, .p (.str v1)), (4, .p (.int .i64 v2))], []⟩ ∧ spec_ListOf.l0 n v0 v1 v2 = some r) k ⟨_, ⟨Nat.le_refl _, _, _, rfl, h⟩, frle_, memle_⟩ ?_
  clear c1
  clear h
  rintro n _ ⟨hkl0, v1, v2, rfl, h⟩ hl0
  cases n with
  | zero => exact absurd h (by simp [spec_ListOf.l0])
  | succ kl0 =>
  rw [spec_ListOf.l0] at h
  revert h
  refine bif_e (fun c2 => ?_) (fun c2 => ?_)
  ·refine go 8 ?_
   refine good_cut (fun st => ∃ (v7 : _) (q_ : Nat), q_ ≤ kl0 ∧ st = ⟨[(0, .p (.lst false (List.map srw v0))), (3, .p (.str v7)), (4, .p (.int .i64 v2))], []⟩ ∧ spec_ListOf.j0 q_ v0 v7 v2 = some r) ?_ (fun hj0 => ?_)
   ·clear c2
    rintro _ ⟨v7, q_, hqj0, rfl, h⟩
    cases q_ with
    | zero => exact absurd h (by simp [spec_ListOf.j0])
    | succ kj0 =>
    rw [spec_ListOf.j0] at h
    revert h
    refine bind_e (fun v8 e8 => ?_)
    replace e8 := nf_ (ix_en srw e8)
    refine go 2 ?_
    refine grs ?_
    refine gr_run ?_
    refine bind_e (fun v9 e9 => gr_call [] (spec_l01Read.con e9) ?_)
    clear e9
    refine gr_run ?_
    refine gr_done ?_
    refine bif_e (fun c3 => ?_) (fun c3 => ?_)
    ·refine go 3 ?_
     refine ret_e (fun hr_ => ?_)
     subst hr_
     exact ret_ Tryz.func8 []
    ·refine bind_e (fun v11 e11 => ?_)
     refine bif_e (fun c4 => ?_) (fun c4 => ?_)
     ·refine go 9 ?_
      refine ret_e (fun hr_ => ?_)
      subst hr_
      exact ret_ Tryz.func8 []
     ·refine go 10 ?_
      exact fun h => good_again hl0 (by omega) ⟨_, ⟨by omega, _, _, rfl, h⟩, frle_, memle_⟩
   ·refine bif_e (fun c5 => ?_) (fun c5 => ?_)
    ·refine bind_e (fun v6 e6 => ?_)
     refine go 4 ?_
     exact fun h => good_jump hj0 ⟨_, ⟨_, _, by omega, rfl, h⟩, frle_, memle_⟩
    ·refine go 4 ?_
     exact fun h => good_jump hj0 ⟨_, ⟨_, _, by omega, rfl, h⟩, frle_, memle_⟩
  ·refine bind_e (fun v3 e3 => ?_)
   refine bind_e (fun v4 e4 => ?_)
   refine go 6 ?_
   refine grs ?_
   refine gr_run ?_
   refine bind_e (fun v5 e5 => gr_call [] (spec_l01Keep.con e5) ?_)
   clear e5
   refine gr_run ?_
   refine gr_done ?_
   refine ret_e (fun hr_ => ?_)
   subst hr_
   exact ret_ Tryz.func8 []
end Go.Ab
