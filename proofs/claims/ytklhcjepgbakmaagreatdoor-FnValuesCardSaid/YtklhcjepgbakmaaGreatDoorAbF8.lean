/- What the functions compute, and their contracts, part 8. No condition beyond KOk. -/
import Derived.Test.YtklhcjepgbakmaaGreatDoorAbX
import Derived.Test.YtklhcjepgbakmaaGreatDoorAbF3
namespace Go.Ab
open Go.Proofs
set_option linter.unusedVariables false
set_option linter.unusedSimpArgs false
mutual
def spec_l01ShowAll.l0 : Nat → (List S42) → (List ByteArray) → Int → Option ((List ByteArray))
 | 0, _, _, _ => none
 | k + 1, v0, v1, v2 => (bif decide (v2 < (v0.length : Int)) then ((ix v0 v2).bind fun v4 => ((spec_l01Show.f k v4).bind fun v5 => ((app v1 ([v5] : List ByteArray)).bind fun v6 => (spec_l01ShowAll.l0 k v0 v6 (IntKind.i64.wrap (v2 + 1)))))) else (some v1))
def spec_l01ShowAll.f : Nat → (List S42) → Option ((List ByteArray))
 | 0, _ => none
 | k + 1, v0 => (spec_l01ShowAll.l0 k v0 ([] : List ByteArray) 0)
end
set_option maxRecDepth 100000 in
set_option maxHeartbeats 4000000 in
theorem spec_l01ShowAll.con {K : Kn} [KOk K] {k : Nat} {v0 : (List S42)} {r : (List ByteArray)} (h : spec_l01ShowAll.f k v0 = some r) : Con K Tryz.prog 47 [.p (.lst false (List.map en42 v0))] [] (.p (.lst false (List.map srw r))) [] := by
 cases k with
 | zero => exact absurd h (by simp [spec_l01ShowAll.f])
 | succ k =>
 rw [spec_l01ShowAll.f] at h
 refine con_intro 21 [] Tryz.func47 (by kernel_rfl) rfl rfl (by kernel_rfl) fun ι0 w0 hk0 => ?_
 revert h
 refine go 8 ?_
 refine adoptF_ 3 19 1 ?_
 refine fun h => good_loop (fun n st => n ≤ k ∧ ∃ (v1 : _) (v2 : _) (g3 : Nat), st = ⟨[(0, .p (.lst false (List.map en42 v0))), (3, .tip 19 g3 (List.map srw v1)), (4, .p (.int .i64 v2))], [(19, (g3, .tip 1 (v1).length))]⟩ ∧ spec_l01ShowAll.l0 n v0 v1 v2 = some r) k ⟨_, ⟨Nat.le_refl _, _, _, 1, rfl, h⟩, frle_, memle_⟩ ?_
 clear h
 rintro n _ ⟨hkl0, v1, v2, g3, rfl, h⟩ hl0
 cases n with
 | zero => exact absurd h (by simp [spec_l01ShowAll.l0])
 | succ kl0 =>
 rw [spec_l01ShowAll.l0] at h
 revert h
 refine bif_e (fun c1 => ?_) (fun c1 => ?_)
 ·refine bind_e (fun v4 e4 => ?_)
  replace e4 := nf_ (ix_en en42 e4)
  refine go 7 ?_
  refine grs ?_
  refine gr_run ?_
  refine bind_e (fun v5 e5 => gr_call [] (spec_l01Show.con e5) ?_)
  clear e5
  refine bind_e (fun v6 e6 => ?_)
  replace e6 := nf_ (app_en srw e6)
  refine gr_run ?_
  refine gr_done ?_
  refine go 2 ?_
  exact fun h => good_again hl0 (by omega) ⟨_, ⟨by omega, _, _, g3, rfl, h⟩, frle_, memle_⟩
 ·refine go 7 ?_
  refine ret_e (fun hr_ => ?_)
  subst hr_
  exact ret_ Tryz.func47 []
def spec_ItemsOf.f (k : Nat) (v0 : ByteArray) : Option ((List ByteArray)) := ((spec_l01Read.f k v0).bind fun v1 => (bif (v1.f0 == 6) then ((spec_l01ShowAll.f k v1.f4).bind fun v2 => (some v2)) else (bif (v1.f0 == 10) then ((spec_l01ShowAll.f k v1.f4).bind fun v3 => (some v3)) else (some ([] : List ByteArray)))))
set_option maxRecDepth 100000 in
set_option maxHeartbeats 4000000 in
theorem spec_ItemsOf.con {K : Kn} [KOk K] {k : Nat} {v0 : ByteArray} {r : (List ByteArray)} (h : spec_ItemsOf.f k v0 = some r) : Con K Tryz.prog 27 [.p (.str v0)] [] (.p (.lst false (List.map srw r))) [] := by
 rw [spec_ItemsOf.f] at h
 refine con_intro 18 [] Tryz.func27 (by kernel_rfl) rfl rfl (by kernel_rfl) fun ι0 w0 hk0 => ?_
 revert h
 refine go 3 ?_
 refine grs ?_
 refine gr_run ?_
 refine bind_e (fun v1 e1 => gr_call [] (spec_l01Read.con e1) ?_)
 clear e1
 refine gr_run ?_
 refine gr_done ?_
 refine bif_e (fun c1 => ?_) (fun c1 => ?_)
 ·refine go 6 ?_
  refine grs ?_
  refine gr_run ?_
  refine bind_e (fun v2 e2 => gr_call [] (spec_l01ShowAll.con e2) ?_)
  clear e2
  refine gr_run ?_
  refine gr_done ?_
  refine ret_e (fun hr_ => ?_)
  subst hr_
  exact ret_ Tryz.func27 []
 ·refine bif_e (fun c2 => ?_) (fun c2 => ?_)
  ·refine go 6 ?_
   refine grs ?_
   refine gr_run ?_
   refine bind_e (fun v3 e3 => gr_call [] (spec_l01ShowAll.con e3) ?_)
   clear e3
   refine gr_run ?_
   refine gr_done ?_
   refine ret_e (fun hr_ => ?_)
   subst hr_
   exact ret_ Tryz.func27 []
  ·refine go 6 ?_
   refine ret_e (fun hr_ => ?_)
   subst hr_
   exact ret_ Tryz.func27 []
end Go.Ab
