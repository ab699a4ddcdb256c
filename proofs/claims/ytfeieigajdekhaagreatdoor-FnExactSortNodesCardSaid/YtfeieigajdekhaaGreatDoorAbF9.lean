/- What the functions compute, and their contracts, part 9. No condition beyond KOk. -/
import Derived.Test.YtfeieigajdekhaaGreatDoorAbX
import Derived.Test.YtfeieigajdekhaaGreatDoorAbF2
import Derived.Test.YtfeieigajdekhaaGreatDoorAbF3
import Derived.Test.YtfeieigajdekhaaGreatDoorAbF4
import Derived.Test.YtfeieigajdekhaaGreatDoorAbY
namespace Go.Ab
open Go.Proofs
set_option linter.unusedVariables false
set_option linter.unusedSimpArgs false
mutual
def spec_SortNodes_O.j0 : Nat → (List Int) → Nat → Int → S31 → S43 → (List Bool) → Option ((List Int))
 | 0, _, _, _, _, _, _ => none
 | k + 1, v7, v4, v8, v0, v2, v5 => (bif decide (v8 < 0) then (some ([] : List Int)) else ((inr v8 v4).bind fun v21 => ((v5[(Int.toNat v8)]?).bind fun v22 => ((ix v0.f0 v8).bind fun v23 => ((app v7 ([v23.f0] : List Int)).bind fun v24 => (spec_SortNodes_O.l0 k v24 v4 v0 v2 (setr v5 (Int.toNat v8) true)))))))
def spec_SortNodes_O.j3 : Nat → (List Int) → Nat → Int → Int → S31 → S43 → (List Bool) → Option ((List Int))
 | 0, _, _, _, _, _, _, _ => none
 | k + 1, v7, v4, v20, v9, v0, v2, v5 => (spec_SortNodes_O.l1 k v7 v4 v20 (IntKind.i64.wrap (v9 + 1)) v0 v2 v5)
def spec_SortNodes_O.j1 : Nat → (List Int) → Nat → Int → Int → Bool → S31 → S43 → (List Bool) → Option ((List Int))
 | 0, _, _, _, _, _, _, _, _ => none
 | k + 1, v7, v4, v8, v9, v14, v0, v2, v5 => (bif v14 then (spec_SortNodes_O.j3 k v7 v4 v9 v9 v0 v2 v5) else (spec_SortNodes_O.j3 k v7 v4 v8 v9 v0 v2 v5))
def spec_SortNodes_O.j2 : Nat → (List Int) → Nat → Int → Int → Bool → Int → S31 → S43 → (List Bool) → Option ((List Int))
 | 0, _, _, _, _, _, _, _, _, _ => none
 | k + 1, v7, v4, v8, v9, v19, v13, v0, v2, v5 => (spec_SortNodes_O.l2 k v7 v4 v8 v9 v19 (IntKind.i64.wrap (v13 + 1)) v0 v2 v5)
def spec_SortNodes_O.l2 : Nat → (List Int) → Nat → Int → Int → Bool → Int → S31 → S43 → (List Bool) → Option ((List Int))
 | 0, _, _, _, _, _, _, _, _, _ => none
 | k + 1, v7, v4, v8, v9, v12, v13, v0, v2, v5 => (bif decide (v13 < (v4 : Int)) then (bif v12 then ((inr v13 v4).bind fun v15 => ((v5[(Int.toNat v13)]?).bind fun v16 => (bif v16 then (spec_SortNodes_O.j2 k v7 v4 v8 v9 true v13 v0 v2 v5) else ((ix v2.f0 v13).bind fun v17 => ((ix v17 v9).bind fun v18 => (spec_SortNodes_O.j2 k v7 v4 v8 v9 (!v18) v13 v0 v2 v5)))))) else (spec_SortNodes_O.j1 k v7 v4 v8 v9 false v0 v2 v5)) else (spec_SortNodes_O.j1 k v7 v4 v8 v9 v12 v0 v2 v5))
def spec_SortNodes_O.l1 : Nat → (List Int) → Nat → Int → Int → S31 → S43 → (List Bool) → Option ((List Int))
 | 0, _, _, _, _, _, _, _ => none
 | k + 1, v7, v4, v8, v9, v0, v2, v5 => (bif decide (v9 < (v4 : Int)) then (bif decide (v8 < 0) then ((inr v9 v4).bind fun v10 => ((v5[(Int.toNat v9)]?).bind fun v11 => (spec_SortNodes_O.l2 k v7 v4 v8 v9 (!v11) 0 v0 v2 v5))) else (spec_SortNodes_O.j0 k v7 v4 v8 v0 v2 v5)) else (spec_SortNodes_O.j0 k v7 v4 v8 v0 v2 v5))
def spec_SortNodes_O.l0 : Nat → (List Int) → Nat → S31 → S43 → (List Bool) → Option ((List Int))
 | 0, _, _, _, _, _ => none
 | k + 1, v7, v4, v0, v2, v5 => (bif decide ((v7.length : Int) < (v0.f0.length : Int)) then (spec_SortNodes_O.l1 k v7 v4 (-1) 0 v0 v2 v5) else (some v7))
def spec_SortNodes_O.f : Nat → S31 → Option ((List Int))
 | 0, _ => none
 | k + 1, v0 => ((spec_GraphFault.f k v0).bind fun v1 => (bif (v1 == 0) then ((spec_l16Linked.f k v0 false).bind fun v2 => ((mks false (v0.f0.length : Int) (v0.f0.length : Int)).bind fun v3 => (spec_SortNodes_O.l0 k [] v3.length v0 v2 v3))) else (some ([] : List Int))))
end
set_option maxRecDepth 100000 in
set_option maxHeartbeats 4000000 in
theorem spec_SortNodes_O.con {K : Kn} [KOk K] {k : Nat} {v0 : S31} {r : (List Int)} (h : spec_SortNodes_O.f k v0 = some r) : Con K Tryz.prog 5 [.agg [.p (.lst false (List.map en49 v0.f0)), .p (.lst false (List.map en68 v0.f1))]] [] (.buf 2000 1 0 r.length) [(2000, (1, .buf 1 (List.map (irow .i64) r)))] := by
 cases k with
 | zero => exact absurd h (by simp [spec_SortNodes_O.f])
 | succ k =>
 rw [spec_SortNodes_O.f] at h
 refine con_intro 84 [82] Tryz.func5 (by kernel_rfl) rfl rfl (by kernel_rfl) fun ι0 w0 hk0 => ?_
 revert h
 refine go 6 ?_
 refine grs ?_
 refine gr_run ?_
 refine bind_e (fun v1 e1 => gr_call [] (spec_GraphFault.con e1) ?_)
 clear e1
 refine gr_run ?_
 refine gr_done ?_
 refine bif_e (fun c1 => ?_) (fun c1 => ?_)
 ·refine go 3 ?_
  refine grs ?_
  refine gr_run ?_
  refine bind_e (fun v2 e2 => gr_call [] (spec_l16Linked.con e2) ?_)
  clear e2
  refine gr_run ?_
  refine gr_done ?_
  refine bind_e (fun v3 e3 => ?_)
  replace e3 := nf_ (mks_en brw e3)
  refine go 4 ?_
  refine adoptB_ 3 82 1 ?_
  refine fun h => good_loop (fun n st => n ≤ k ∧ ∃ (v4 : _) (v5 : _) (v7 : _) (g6 : Nat), st = ⟨[(1, .ptr 1 1 0), (3, .buf 82 g6 0 v7.length), (4, .ptr 4 1 0), (5, .buf 20 1 0 v4)], [(1, (1, .cells [.p (.lst false (List.map en49 v0.f0)), .p (.lst false (List.map en68 v0.f1))])), (4, (1, .cells [.p (.lst false (List.map (lrw brw) v2.f0))])), (20, (1, .buf 1 (List.map brw v5))), (82, (g6, .buf 1 (List.map (irow .i64) v7)))]⟩ ∧ spec_SortNodes_O.l0 n v7 v4 v0 v2 v5 = some r) k ⟨_, ⟨Nat.le_refl _, _, _, _, 1, rfl, h⟩, frle_, memle_⟩ ?_
  clear c1 e3
  clear h
  rintro n _ ⟨hkl0, v4, v5, v7, g6, rfl, h⟩ hl0
  cases n with
  | zero => exact absurd h (by simp [spec_SortNodes_O.l0])
  | succ kl0 =>
  rw [spec_SortNodes_O.l0] at h
  revert h
  refine bif_e (fun c2 => ?_) (fun c2 => ?_)
  ·refine go 12 ?_
   refine fun h => good_loop (fun n st => n ≤ kl0 ∧ ∃ (v8 : _) (v9 : _), st = ⟨[(1, .ptr 1 1 0), (3, .buf 82 g6 0 v7.length), (4, .ptr 4 1 0), (5, .buf 20 1 0 v4), (6, .p (.int .i64 v8)), (7, .p (.int .i64 v9))], [(1, (1, .cells [.p (.lst false (List.map en49 v0.f0)), .p (.lst false (List.map en68 v0.f1))])), (4, (1, .cells [.p (.lst false (List.map (lrw brw) v2.f0))])), (20, (1, .buf 1 (List.map brw v5))), (82, (g6, .buf 1 (List.map (irow .i64) v7)))]⟩ ∧ spec_SortNodes_O.l1 n v7 v4 v8 v9 v0 v2 v5 = some r) kl0 ⟨_, ⟨Nat.le_refl _, _, _, rfl, h⟩, frle_, memle_⟩ ?_
   clear c2
   clear h
   rintro n _ ⟨hkl1, v8, v9, rfl, h⟩ hl1
   cases n with
   | zero => exact absurd h (by simp [spec_SortNodes_O.l1])
   | succ kl1 =>
   rw [spec_SortNodes_O.l1] at h
   revert h
   refine go 2 ?_
   refine good_cut_f (fun st => ∃ (q_ : Nat), q_ ≤ kl1 ∧ st = ⟨[(1, .ptr 1 1 0), (3, .buf 82 g6 0 v7.length), (4, .ptr 4 1 0), (5, .buf 20 1 0 v4), (6, .p (.int .i64 v8))], [(1, (1, .cells [.p (.lst false (List.map en49 v0.f0)), .p (.lst false (List.map en68 v0.f1))])), (4, (1, .cells [.p (.lst false (List.map (lrw brw) v2.f0))])), (20, (1, .buf 1 (List.map brw v5))), (82, (g6, .buf 1 (List.map (irow .i64) v7)))]⟩ ∧ spec_SortNodes_O.j0 q_ v7 v4 v8 v0 v2 v5 = some r) ?_ (fun hj0 => ?_)
   ·skip
    rintro _ ⟨q_, hqj0, rfl, h⟩
    cases q_ with
    | zero => exact absurd h (by simp [spec_SortNodes_O.j0])
    | succ kj0 =>
    rw [spec_SortNodes_O.j0] at h
    revert h
    refine bif_e (fun c3 => ?_) (fun c3 => ?_)
    ·refine go 7 ?_
     refine adoptB_ 2 2502 1 ?_
     refine ret_e (fun hr_ => ?_)
     subst hr_
     exact ret_ Tryz.func5 [(2000, (1, 2502, 1))]
    ·refine bind_e (fun v21 e21 => ?_)
     refine bind_e (fun v22 e22 => ?_)
     replace e22 := nf_ (gx_en brw e22)
     refine bind_e (fun v23 e23 => ?_)
     replace e23 := nf_ (ix_en en49 e23)
     refine bind_e (fun v24 e24 => ?_)
     replace e24 := nf_ (app_en (irow .i64) e24)
     refine go 10 ?_
     exact fun h => good_again hl0 (by omega) ⟨_, ⟨by omega, _, _, _, g6 + 1, rfl, h⟩, frle_, memle_⟩
   ·refine bif_e (fun c4 => ?_) (fun c4 => ?_)
    ·refine bif_e (fun c5 => ?_) (fun c5 => ?_)
     ·refine go 4 ?_
      refine good_cut (fun st => ∃ (v20 : _) (q_ : Nat), q_ ≤ kl1 ∧ st = ⟨[(1, .ptr 1 1 0), (3, .buf 82 g6 0 v7.length), (4, .ptr 4 1 0), (5, .buf 20 1 0 v4), (6, .p (.int .i64 v20)), (7, .p (.int .i64 v9))], [(1, (1, .cells [.p (.lst false (List.map en49 v0.f0)), .p (.lst false (List.map en68 v0.f1))])), (4, (1, .cells [.p (.lst false (List.map (lrw brw) v2.f0))])), (20, (1, .buf 1 (List.map brw v5))), (82, (g6, .buf 1 (List.map (irow .i64) v7)))]⟩ ∧ spec_SortNodes_O.j3 q_ v7 v4 v20 v9 v0 v2 v5 = some r) ?_ (fun hj3 => ?_)
      ·clear c4 c5
       rintro _ ⟨v20, q_, hqj3, rfl, h⟩
       cases q_ with
       | zero => exact absurd h (by simp [spec_SortNodes_O.j3])
       | succ kj3 =>
       rw [spec_SortNodes_O.j3] at h
       revert h
       refine go 1 ?_
       exact fun h => good_again hl1 (by omega) ⟨_, ⟨by omega, _, _, rfl, h⟩, frle_, memle_⟩
      ·refine bind_e (fun v10 e10 => ?_)
       refine bind_e (fun v11 e11 => ?_)
       replace e11 := nf_ (gx_en brw e11)
       refine go 7 ?_
       refine fun h => good_loop (fun n st => n ≤ kl1 ∧ ∃ (v12 : _) (v13 : _), st = ⟨[(1, .ptr 1 1 0), (3, .buf 82 g6 0 v7.length), (4, .ptr 4 1 0), (5, .buf 20 1 0 v4), (6, .p (.int .i64 v8)), (7, .p (.int .i64 v9)), (8, .p (.bool v12)), (9, .p (.int .i64 v13))], [(1, (1, .cells [.p (.lst false (List.map en49 v0.f0)), .p (.lst false (List.map en68 v0.f1))])), (4, (1, .cells [.p (.lst false (List.map (lrw brw) v2.f0))])), (20, (1, .buf 1 (List.map brw v5))), (82, (g6, .buf 1 (List.map (irow .i64) v7)))]⟩ ∧ spec_SortNodes_O.l2 n v7 v4 v8 v9 v12 v13 v0 v2 v5 = some r) kl1 ⟨_, ⟨Nat.le_refl _, _, _, rfl, h⟩, frle_, memle_⟩ ?_
       clear c4 c5 e10 e11
       clear h
       rintro n _ ⟨hkl2, v12, v13, rfl, h⟩ hl2
       cases n with
       | zero => exact absurd h (by simp [spec_SortNodes_O.l2])
       | succ kl2 =>
       rw [spec_SortNodes_O.l2] at h
       revert h
       refine go 2 ?_
       refine good_cut_f (fun st => ∃ (v14 : _) (q_ : Nat), q_ ≤ kl2 ∧ st = ⟨[(1, .ptr 1 1 0), (3, .buf 82 g6 0 v7.length), (4, .ptr 4 1 0), (5, .buf 20 1 0 v4), (6, .p (.int .i64 v8)), (7, .p (.int .i64 v9)), (8, .p (.bool v14))], [(1, (1, .cells [.p (.lst false (List.map en49 v0.f0)), .p (.lst false (List.map en68 v0.f1))])), (4, (1, .cells [.p (.lst false (List.map (lrw brw) v2.f0))])), (20, (1, .buf 1 (List.map brw v5))), (82, (g6, .buf 1 (List.map (irow .i64) v7)))]⟩ ∧ spec_SortNodes_O.j1 q_ v7 v4 v8 v9 v14 v0 v2 v5 = some r) ?_ (fun hj1 => ?_)
       ·skip
        rintro _ ⟨v14, q_, hqj1, rfl, h⟩
        cases q_ with
        | zero => exact absurd h (by simp [spec_SortNodes_O.j1])
        | succ kj1 =>
        rw [spec_SortNodes_O.j1] at h
        revert h
        refine bif_e (fun c6 => ?_) (fun c6 => ?_)
        ·refine go 6 ?_
         exact fun h => good_jump hj3 ⟨_, ⟨_, _, by omega, rfl, h⟩, frle_, memle_⟩
        ·refine go 6 ?_
         exact fun h => good_jump hj3 ⟨_, ⟨_, _, by omega, rfl, h⟩, frle_, memle_⟩
       ·refine bif_e (fun c7 => ?_) (fun c7 => ?_)
        ·refine bif_e (fun c8 => ?_) (fun c8 => ?_)
         ·refine go 4 ?_
          refine good_cut (fun st => ∃ (v19 : _) (q_ : Nat), q_ ≤ kl2 ∧ st = ⟨[(1, .ptr 1 1 0), (3, .buf 82 g6 0 v7.length), (4, .ptr 4 1 0), (5, .buf 20 1 0 v4), (6, .p (.int .i64 v8)), (7, .p (.int .i64 v9)), (8, .p (.bool v19)), (9, .p (.int .i64 v13))], [(1, (1, .cells [.p (.lst false (List.map en49 v0.f0)), .p (.lst false (List.map en68 v0.f1))])), (4, (1, .cells [.p (.lst false (List.map (lrw brw) v2.f0))])), (20, (1, .buf 1 (List.map brw v5))), (82, (g6, .buf 1 (List.map (irow .i64) v7)))]⟩ ∧ spec_SortNodes_O.j2 q_ v7 v4 v8 v9 v19 v13 v0 v2 v5 = some r) ?_ (fun hj2 => ?_)
          ·clear c7 c8
           rintro _ ⟨v19, q_, hqj2, rfl, h⟩
           cases q_ with
           | zero => exact absurd h (by simp [spec_SortNodes_O.j2])
           | succ kj2 =>
           rw [spec_SortNodes_O.j2] at h
           revert h
           refine go 1 ?_
           exact fun h => good_again hl2 (by omega) ⟨_, ⟨by omega, _, _, rfl, h⟩, frle_, memle_⟩
          ·refine bind_e (fun v15 e15 => ?_)
           refine bind_e (fun v16 e16 => ?_)
           replace e16 := nf_ (gx_en brw e16)
           refine bif_e (fun c9 => ?_) (fun c9 => ?_)
           ·refine go 3 ?_
            exact fun h => good_jump hj2 ⟨_, ⟨_, _, by omega, rfl, h⟩, frle_, memle_⟩
           ·refine bind_e (fun v17 e17 => ?_)
            replace e17 := nf_ (ix_en (lrw brw) e17)
            refine bind_e (fun v18 e18 => ?_)
            replace e18 := nf_ (ix_en brw e18)
            refine go 3 ?_
            exact fun h => good_jump hj2 ⟨_, ⟨_, _, by omega, rfl, h⟩, frle_, memle_⟩
         ·refine go 2 ?_
          exact fun h => good_jump hj1 ⟨_, ⟨_, _, by omega, rfl, h⟩, frle_, memle_⟩
        ·refine go 2 ?_
         exact fun h => good_jump hj1 ⟨_, ⟨_, _, by omega, rfl, h⟩, frle_, memle_⟩
     ·refine go 2 ?_
      exact fun h => good_jump hj0 ⟨_, ⟨_, by omega, rfl, h⟩, frle_, memle_⟩
    ·refine go 2 ?_
     exact fun h => good_jump hj0 ⟨_, ⟨_, by omega, rfl, h⟩, frle_, memle_⟩
  ·refine go 7 ?_
   refine ret_e (fun hr_ => ?_)
   subst hr_
   exact ret_ Tryz.func5 [(2000, (1, 82, g6))]
 ·refine go 3 ?_
  refine adoptB_ 2 2502 1 ?_
  refine ret_e (fun hr_ => ?_)
  subst hr_
  exact ret_ Tryz.func5 [(2000, (1, 2502, 1))]
end Go.Ab
