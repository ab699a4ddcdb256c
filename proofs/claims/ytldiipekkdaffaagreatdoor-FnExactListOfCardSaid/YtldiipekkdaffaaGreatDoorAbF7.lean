/- What the functions compute, and their contracts, part 7. No condition beyond KOk. -/
import Derived.Test.YtldiipekkdaffaaGreatDoorAbX
import Derived.Test.YtldiipekkdaffaaGreatDoorAbF5
import Derived.Test.YtldiipekkdaffaaGreatDoorAbF6
namespace Go.Ab
open Go.Proofs
set_option linter.unusedVariables false
set_option linter.unusedSimpArgs false
def impl_read.f (k : Nat) (v0 : ByteArray) : Option (S45 × Bool) := (bif decide (2000 < (v0.size : Int)) then (some ((⟨0, 0, 0, (⟨#[]⟩ : ByteArray), ([] : (List ByteArray)), ([] : (List S45))⟩ : S45), false)) else ((impl_reader_value.f k 0 (⟨v0, 0⟩ : S69)).bind fun v1 => (bif v1.2.1 then (some (v1.1, (v1.2.2.f1 == (v0.size : Int)))) else (some (v1.1, false)))))
set_option maxRecDepth 100000 in
set_option maxHeartbeats 4000000 in
theorem impl_read.con {K : Kn} [KOk K] {k : Nat} {v0 : ByteArray} {r : S45 × Bool} (h : impl_read.f k v0 = some r) : Con K Tryz.prog 27 [.p (.str v0)] [] (.tup [.agg [.p (.int .i64 r.1.f0), .p (.int .i64 r.1.f1), .p (.int .i64 r.1.f2), .p (.str r.1.f3), .p (.lst false (List.map srw r.1.f4)), .p (.lst false (List.map en45 r.1.f5))], .p (.bool r.2)]) [] := by
 rw [impl_read.f] at h
 refine con_intro 30 [] Tryz.func27 (by kernel_rfl) rfl rfl (by kernel_rfl) fun ι0 w0 hk0 => ?_
 revert h
 refine bif_e (fun c1 => ?_) (fun c1 => ?_)
 ·refine go 8 ?_
  refine ret_e (fun hr_ => ?_)
  subst hr_
  exact ret_ Tryz.func27 []
 ·refine go 10 ?_
  refine grs ?_
  refine gr_run ?_
  refine bind_e (fun v1 e1 => gr_call [(1000, (0, 13, 1))] (impl_reader_value.con e1) ?_)
  clear e1
  refine gr_run ?_
  refine gr_done ?_
  refine bif_e (fun c2 => ?_) (fun c2 => ?_)
  ·refine go 1 ?_
   refine grs ?_
   refine gr_run ?_
   refine gr_done ?_
   refine ret_e (fun hr_ => ?_)
   subst hr_
   exact ret_ Tryz.func27 []
  ·refine go 1 ?_
   refine grs ?_
   refine gr_run ?_
   refine gr_done ?_
   refine ret_e (fun hr_ => ?_)
   subst hr_
   exact ret_ Tryz.func27 []
def impl_val_sound.f (k : Nat) (v0 : S45) : Option (Bool) := ((impl_val_show.f k v0).bind fun v1 => ((impl_read.f k v1).bind fun v2 => (some v2.2)))
set_option maxRecDepth 100000 in
set_option maxHeartbeats 4000000 in
theorem impl_val_sound.con {K : Kn} [KOk K] {k : Nat} {v0 : S45} {r : Bool} (h : impl_val_sound.f k v0 = some r) : Con K Tryz.prog 28 [.agg [.p (.int .i64 v0.f0), .p (.int .i64 v0.f1), .p (.int .i64 v0.f2), .p (.str v0.f3), .p (.lst false (List.map srw v0.f4)), .p (.lst false (List.map en45 v0.f5))]] [] (.p (.bool r)) [] := by
 rw [impl_val_sound.f] at h
 refine con_intro 12 [] Tryz.func28 (by kernel_rfl) rfl rfl (by kernel_rfl) fun ι0 w0 hk0 => ?_
 revert h
 refine go 3 ?_
 refine grs ?_
 refine gr_run ?_
 refine bind_e (fun v1 e1 => gr_call [] (impl_val_show.con e1) ?_)
 clear e1
 refine bind_e (fun v2 e2 => gr_call [] (impl_read.con e2) ?_)
 clear e2
 refine gr_run ?_
 refine gr_done ?_
 refine go 2 ?_
 refine ret_e (fun hr_ => ?_)
 subst hr_
 exact ret_ Tryz.func28 []
mutual
def impl_ListOf.l0 : Nat → (List ByteArray) → Int → (List S45) → Option (ByteArray)
 | 0, _, _, _ => none
 | k + 1, v0, v1, v2 => (bif decide (v1 < (v0.length : Int)) then ((ix v0 v1).bind fun v7 => ((impl_read.f k v7).bind fun v8 => (bif v8.2 then ((app v2 ([v8.1] : List S45)).bind fun v9 => (impl_ListOf.l0 k v0 (IntKind.i64.wrap (v1 + 1)) v9)) else (some (⟨#[]⟩ : ByteArray))))) else ((impl_val_sound.f k (⟨6, 0, 0, (⟨#[]⟩ : ByteArray), ([] : (List ByteArray)), v2⟩ : S45)).bind fun v5 => (bif v5 then ((impl_val_show.f k (⟨6, 0, 0, (⟨#[]⟩ : ByteArray), ([] : (List ByteArray)), v2⟩ : S45)).bind fun v6 => (some v6)) else (some (⟨#[]⟩ : ByteArray)))))
def impl_ListOf.f : Nat → (List ByteArray) → Option (ByteArray)
 | 0, _ => none
 | k + 1, v0 => (bif decide (1000 < (v0.length : Int)) then (some (⟨#[]⟩ : ByteArray)) else (impl_ListOf.l0 k v0 0 []))
end
set_option maxRecDepth 100000 in
set_option maxHeartbeats 4000000 in
theorem impl_ListOf.con {K : Kn} [KOk K] {k : Nat} {v0 : (List ByteArray)} {r : ByteArray} (h : impl_ListOf.f k v0 = some r) : Con K Tryz.prog 10 [.p (.lst false (List.map srw v0))] [] (.p (.str r)) [] := by
 cases k with
 | zero => exact absurd h (by simp [impl_ListOf.f])
 | succ k =>
 rw [impl_ListOf.f] at h
 refine con_intro 37 [] Tryz.func10 (by kernel_rfl) rfl rfl (by kernel_rfl) fun ι0 w0 hk0 => ?_
 revert h
 refine bif_e (fun c1 => ?_) (fun c1 => ?_)
 ·refine go 10 ?_
  refine ret_e (fun hr_ => ?_)
  subst hr_
  exact ret_ Tryz.func10 []
 ·refine go 13 ?_
  refine adoptc_ 3 5 29 6 ?_
  refine fun h => good_loop (fun n st => n ≤ k ∧ ∃ (v1 : _) (v2 : _) (g3 : Nat) (g4 : Nat), st = ⟨[(3, .ptr 3 1 0), (12, .p (.lst false (List.map srw v0))), (13, .p (.int .i64 (v0.length : Int))), (14, .p (.int .i64 v1))], [(3, (1, .cells [.p (.int .i64 6), .p (.int .i64 0), .p (.int .i64 0), .p (.str (⟨#[]⟩ : ByteArray)), .p .nilS, .tip 29 g4 (List.map en45 v2)])), (6, (g3, .gone)), (29, (g4, .tip 6 (v2).length))]⟩ ∧ impl_ListOf.l0 n v0 v1 v2 = some r) k ⟨_, ⟨Nat.le_refl _, _, _, 0, 1, rfl, h⟩, frle_, memle_⟩ ?_
  clear c1
  clear h
  rintro n _ ⟨hkl0, v1, v2, g3, g4, rfl, h⟩ hl0
  cases n with
  | zero => exact absurd h (by simp [impl_ListOf.l0])
  | succ kl0 =>
  rw [impl_ListOf.l0] at h
  revert h
  refine bif_e (fun c2 => ?_) (fun c2 => ?_)
  ·refine bind_e (fun v7 e7 => ?_)
   replace e7 := nf_ (ix_en srw e7)
   refine go 10 ?_
   refine grs ?_
   refine gr_run ?_
   refine bind_e (fun v8 e8 => gr_call [] (impl_read.con e8) ?_)
   clear e8
   refine gr_run ?_
   refine gr_done ?_
   refine bif_e (fun c3 => ?_) (fun c3 => ?_)
   ·refine bind_e (fun v9 e9 => ?_)
    replace e9 := nf_ (app_en en45 e9)
    refine go 8 ?_
    exact fun h => good_again hl0 (by omega) ⟨_, ⟨by omega, _, _, g3 + 1, g4, rfl, h⟩, frle_, memle_⟩
   ·refine go 6 ?_
    refine ret_e (fun hr_ => ?_)
    subst hr_
    exact ret_ Tryz.func10 []
  ·refine go 7 ?_
   refine grs ?_
   refine gr_run ?_
   refine bind_e (fun v5 e5 => gr_call [] (impl_val_sound.con e5) ?_)
   clear e5
   refine gr_run ?_
   refine gr_done ?_
   refine bif_e (fun c4 => ?_) (fun c4 => ?_)
   ·refine go 3 ?_
    refine grs ?_
    refine gr_run ?_
    refine bind_e (fun v6 e6 => gr_call [] (impl_val_show.con e6) ?_)
    clear e6
    refine gr_run ?_
    refine gr_done ?_
    refine ret_e (fun hr_ => ?_)
    subst hr_
    exact ret_ Tryz.func10 []
   ·refine go 3 ?_
    refine ret_e (fun hr_ => ?_)
    subst hr_
    exact ret_ Tryz.func10 []
end Go.Ab
