/- What the functions compute, and their contracts, part 3. No condition beyond KOk. -/
import Derived.Test.YtaddedbombndlaaAbX
import Derived.Test.YtaddedbombndlaaAbF2
namespace Go.Ab
open Go.Proofs
set_option linter.unusedVariables false
set_option linter.unusedSimpArgs false
mutual
def spec_l08Names.j0 : Nat → (List ByteArray) → Int → S49 → Option ((List ByteArray) × (List ByteArray))
 | 0, _, _, _ => none
 | k + 1, v7, v2, v0 => (spec_l08Names.l0 k v7 (IntKind.i64.wrap (v2 + 1)) v0)
def spec_l08Names.j1 : Nat → (List ByteArray) → (List ByteArray) → Int → S49 → Option ((List ByteArray) × (List ByteArray))
 | 0, _, _, _, _ => none
 | k + 1, v1, v15, v9, v0 => (spec_l08Names.l1 k v1 v15 (IntKind.i64.wrap (v9 + 1)) v0)
def spec_l08Names.l1 : Nat → (List ByteArray) → (List ByteArray) → Int → S49 → Option ((List ByteArray) × (List ByteArray))
 | 0, _, _, _, _ => none
 | k + 1, v1, v8, v9, v0 => (bif decide (v9 < (v0.f4.length : Int)) then ((ix v0.f4 v9).bind fun v12 => (bif decide (v12.f0 = (⟨#[]⟩ : ByteArray)) then (spec_l08Names.j1 k v1 v8 v9 v0) else ((app v8 ([v12.f0] : List ByteArray)).bind fun v14 => (spec_l08Names.j1 k v1 v14 v9 v0)))) else (bif decide (v0.f0 = (⟨#[]⟩ : ByteArray)) then (some (v1, v8)) else ((app v8 ([v0.f0] : List ByteArray)).bind fun v11 => (some (v1, v11)))))
def spec_l08Names.l0 : Nat → (List ByteArray) → Int → S49 → Option ((List ByteArray) × (List ByteArray))
 | 0, _, _, _ => none
 | k + 1, v1, v2, v0 => (bif decide (v2 < (v0.f3.length : Int)) then ((ix v0.f3 v2).bind fun v4 => (bif decide (v4.f0 = (⟨#[]⟩ : ByteArray)) then (spec_l08Names.j0 k v1 v2 v0) else ((app v1 ([v4.f0] : List ByteArray)).bind fun v6 => (spec_l08Names.j0 k v6 v2 v0)))) else (spec_l08Names.l1 k v1 ([] : List ByteArray) 0 v0))
def spec_l08Names.f : Nat → S49 → Option ((List ByteArray) × (List ByteArray))
 | 0, _ => none
 | k + 1, v0 => (spec_l08Names.l0 k ([] : List ByteArray) 0 v0)
end
set_option maxRecDepth 100000 in
set_option maxHeartbeats 4000000 in
theorem spec_l08Names.con {K : Kn} [KOk K] {k : Nat} {v0 : S49} {r : (List ByteArray) × (List ByteArray)} (h : spec_l08Names.f k v0 = some r) : Con K Try.prog 40 [.agg [.p (.str v0.f0), .p (.int .i64 v0.f1), .p (.bool v0.f2), .p (.lst false (List.map en124 v0.f3)), .p (.lst false (List.map en127 v0.f4))]] [] (.tup [.p (.lst false (List.map srw r.1)), .p (.lst false (List.map srw r.2))]) [] := by
 cases k with
 | zero => exact absurd h (by simp [spec_l08Names.f])
 | succ k =>
 rw [spec_l08Names.f] at h
 refine con_intro 66 [] Try.func40 (by kernel_rfl) rfl rfl (by kernel_rfl) fun ι0 w0 hk0 => ?_
 revert h
 refine go 10 ?_
 refine adoptF_ 4 32 1 ?_
 refine fun h => good_loop (fun n st => n ≤ k ∧ ∃ (v1 : _) (v2 : _) (g3 : Nat), st = ⟨[(1, .ptr 1 1 0), (4, .tip 32 g3 (List.map srw v1)), (5, .p (.lst true (List.map srw ([] : List ByteArray)))), (6, .p (.int .i64 v2))], [(1, (1, .cells [.p (.str v0.f0), .p (.int .i64 v0.f1), .p (.bool v0.f2), .p (.lst false (List.map en124 v0.f3)), .p (.lst false (List.map en127 v0.f4))])), (32, (g3, .tip 1 (v1).length))]⟩ ∧ spec_l08Names.l0 n v1 v2 v0 = some r) k ⟨_, ⟨Nat.le_refl _, _, _, 1, rfl, h⟩, frle_, memle_⟩ ?_
 clear h
 rintro n _ ⟨hkl0, v1, v2, g3, rfl, h⟩ hl0
 cases n with
 | zero => exact absurd h (by simp [spec_l08Names.l0])
 | succ kl0 =>
 rw [spec_l08Names.l0] at h
 revert h
 refine bif_e (fun c1 => ?_) (fun c1 => ?_)
 ·refine go 6 ?_
  refine good_cut (fun st => ∃ (v7 : _) (q_ : Nat), q_ ≤ kl0 ∧ st = ⟨[(1, .ptr 1 1 0), (4, .tip 32 g3 (List.map srw v7)), (5, .p (.lst true (List.map srw ([] : List ByteArray)))), (6, .p (.int .i64 v2))], [(1, (1, .cells [.p (.str v0.f0), .p (.int .i64 v0.f1), .p (.bool v0.f2), .p (.lst false (List.map en124 v0.f3)), .p (.lst false (List.map en127 v0.f4))])), (32, (g3, .tip 1 (v7).length))]⟩ ∧ spec_l08Names.j0 q_ v7 v2 v0 = some r) ?_ (fun hj0 => ?_)
  ·clear c1
   rintro _ ⟨v7, q_, hqj0, rfl, h⟩
   cases q_ with
   | zero => exact absurd h (by simp [spec_l08Names.j0])
   | succ kj0 =>
   rw [spec_l08Names.j0] at h
   revert h
   refine go 1 ?_
   exact fun h => good_again hl0 (by omega) ⟨_, ⟨by omega, _, _, g3, rfl, h⟩, frle_, memle_⟩
  ·refine bind_e (fun v4 e4 => ?_)
   replace e4 := nf_ (ix_en en124 e4)
   refine bif_e (fun c2 => ?_) (fun c2 => ?_)
   ·refine go 6 ?_
    exact fun h => good_jump hj0 ⟨_, ⟨_, _, by omega, rfl, h⟩, frle_, memle_⟩
   ·refine bind_e (fun v6 e6 => ?_)
    replace e6 := nf_ (app_en srw e6)
    refine go 6 ?_
    exact fun h => good_jump hj0 ⟨_, ⟨_, _, by omega, rfl, h⟩, frle_, memle_⟩
 ·refine go 9 ?_
  refine adoptF_ 5 55 1 ?_
  refine fun h => good_loop (fun n st => n ≤ kl0 ∧ ∃ (v8 : _) (v9 : _) (g10 : Nat), st = ⟨[(1, .ptr 1 1 0), (4, .tip 32 g3 (List.map srw v1)), (5, .tip 55 g10 (List.map srw v8)), (7, .p (.int .i64 v9))], [(1, (1, .cells [.p (.str v0.f0), .p (.int .i64 v0.f1), .p (.bool v0.f2), .p (.lst false (List.map en124 v0.f3)), .p (.lst false (List.map en127 v0.f4))])), (32, (g3, .tip 1 (v1).length)), (55, (g10, .tip 1 (v8).length))]⟩ ∧ spec_l08Names.l1 n v1 v8 v9 v0 = some r) kl0 ⟨_, ⟨Nat.le_refl _, _, _, 1, rfl, h⟩, frle_, memle_⟩ ?_
  clear c1
  clear h
  rintro n _ ⟨hkl1, v8, v9, g10, rfl, h⟩ hl1
  cases n with
  | zero => exact absurd h (by simp [spec_l08Names.l1])
  | succ kl1 =>
  rw [spec_l08Names.l1] at h
  revert h
  refine bif_e (fun c3 => ?_) (fun c3 => ?_)
  ·refine go 6 ?_
   refine good_cut (fun st => ∃ (v15 : _) (q_ : Nat), q_ ≤ kl1 ∧ st = ⟨[(1, .ptr 1 1 0), (4, .tip 32 g3 (List.map srw v1)), (5, .tip 55 g10 (List.map srw v15)), (7, .p (.int .i64 v9))], [(1, (1, .cells [.p (.str v0.f0), .p (.int .i64 v0.f1), .p (.bool v0.f2), .p (.lst false (List.map en124 v0.f3)), .p (.lst false (List.map en127 v0.f4))])), (32, (g3, .tip 1 (v1).length)), (55, (g10, .tip 1 (v15).length))]⟩ ∧ spec_l08Names.j1 q_ v1 v15 v9 v0 = some r) ?_ (fun hj1 => ?_)
   ·clear c3
    rintro _ ⟨v15, q_, hqj1, rfl, h⟩
    cases q_ with
    | zero => exact absurd h (by simp [spec_l08Names.j1])
    | succ kj1 =>
    rw [spec_l08Names.j1] at h
    revert h
    refine go 1 ?_
    exact fun h => good_again hl1 (by omega) ⟨_, ⟨by omega, _, _, g10, rfl, h⟩, frle_, memle_⟩
   ·refine bind_e (fun v12 e12 => ?_)
    replace e12 := nf_ (ix_en en127 e12)
    refine bif_e (fun c4 => ?_) (fun c4 => ?_)
    ·refine go 6 ?_
     exact fun h => good_jump hj1 ⟨_, ⟨_, _, by omega, rfl, h⟩, frle_, memle_⟩
    ·refine bind_e (fun v14 e14 => ?_)
     replace e14 := nf_ (app_en srw e14)
     refine go 6 ?_
     exact fun h => good_jump hj1 ⟨_, ⟨_, _, by omega, rfl, h⟩, frle_, memle_⟩
  ·refine bif_e (fun c5 => ?_) (fun c5 => ?_)
   ·refine go 12 ?_
    refine ret_e (fun hr_ => ?_)
    subst hr_
    exact ret_ Try.func40 []
   ·refine bind_e (fun v11 e11 => ?_)
    replace e11 := nf_ (app_en srw e11)
    refine go 12 ?_
    refine ret_e (fun hr_ => ?_)
    subst hr_
    exact ret_ Try.func40 []
mutual
def spec_PatternFault.j1 : Nat → Int → S49 → Option (Int)
 | 0, _, _ => none
 | k + 1, v2, v0 => (spec_PatternFault.l0 k (IntKind.i64.wrap (v2 + 1)) v0)
def spec_PatternFault.l2 : Nat → ((List ByteArray) × (List ByteArray)) → Int → Option (Int)
 | 0, _, _ => none
 | k + 1, v11, v12 => (bif decide (v12 < (v11.2.length : Int)) then ((ix v11.2 v12).bind fun v13 => ((spec_l01InTexts.f k v11.1 v13).bind fun v14 => (bif v14 then (some 1) else ((lsub v11.2 0 v12).bind fun v15 => ((spec_l01InTexts.f k v15 v13).bind fun v17 => (bif v17 then (some 1) else (spec_PatternFault.l2 k v11 (IntKind.i64.wrap (v12 + 1))))))))) else (some 0))
def spec_PatternFault.l1 : Nat → Int → S49 → Option (Int)
 | 0, _, _ => none
 | k + 1, v8, v0 => (bif decide (v8 < (v0.f4.length : Int)) then ((ix v0.f4 v8).bind fun v9 => ((spec_l08Edge.f k v9).bind fun v10 => (bif v10 then (spec_PatternFault.l1 k (IntKind.i64.wrap (v8 + 1)) v0) else (some 1)))) else ((spec_l08Names.f k v0).bind fun v11 => (spec_PatternFault.l2 k v11 0)))
def spec_PatternFault.l0 : Nat → Int → S49 → Option (Int)
 | 0, _, _ => none
 | k + 1, v2, v0 => (bif decide (v2 < (v0.f3.length : Int)) then ((ix v0.f3 v2).bind fun v4 => (bif decide (v4.f0 = (⟨#[]⟩ : ByteArray)) then (bif decide (v4.f1 = (⟨#[]⟩ : ByteArray)) then (spec_PatternFault.j1 k v2 v0) else ((spec_LabelsFault.f k v4.f1).bind fun v5 => (bif (v5 == 0) then (spec_PatternFault.j1 k v2 v0) else (some 1)))) else ((spec_l06Name.f k v4.f0).bind fun v6 => (bif v6 then (bif decide (v4.f1 = (⟨#[]⟩ : ByteArray)) then (spec_PatternFault.j1 k v2 v0) else ((spec_LabelsFault.f k v4.f1).bind fun v7 => (bif (v7 == 0) then (spec_PatternFault.j1 k v2 v0) else (some 1)))) else (some 1))))) else (spec_PatternFault.l1 k 0 v0))
def spec_PatternFault.j0 : Nat → S49 → Option (Int)
 | 0, _ => none
 | k + 1, v0 => (spec_PatternFault.l0 k 0 v0)
def spec_PatternFault.f : Nat → S49 → Option (Int)
 | 0, _ => none
 | k + 1, v0 => (bif decide ((v0.f3.length : Int) < 1) then (some 1) else (bif decide (10 < (v0.f3.length : Int)) then (some 1) else (bif ((v0.f4.length : Int) == (IntKind.i64.wrap ((v0.f3.length : Int) - 1))) then (bif decide (v0.f1 < 0) then (some 1) else (bif decide (2 < v0.f1) then (some 1) else (bif decide (v0.f0 = (⟨#[]⟩ : ByteArray)) then (spec_PatternFault.j0 k v0) else ((spec_l06Name.f k v0.f0).bind fun v1 => (bif v1 then (spec_PatternFault.j0 k v0) else (some 1)))))) else (some 1))))
end
set_option maxRecDepth 100000 in
set_option maxHeartbeats 4000000 in
theorem spec_PatternFault.con {K : Kn} [KOk K] {k : Nat} {v0 : S49} {r : Int} (h : spec_PatternFault.f k v0 = some r) : Con K Try.prog 39 [.agg [.p (.str v0.f0), .p (.int .i64 v0.f1), .p (.bool v0.f2), .p (.lst false (List.map en124 v0.f3)), .p (.lst false (List.map en127 v0.f4))]] [] (.p (.int .i64 r)) [] := by
 cases k with
 | zero => exact absurd h (by simp [spec_PatternFault.f])
 | succ k =>
 rw [spec_PatternFault.f] at h
 refine con_intro 123 [] Try.func39 (by kernel_rfl) rfl rfl (by kernel_rfl) fun ι0 w0 hk0 => ?_
 revert h
 refine go 4 ?_
 refine good_cut_f (fun st => ∃ (q_ : Nat), q_ ≤ k ∧ st = ⟨[(1, .ptr 1 1 0)], [(1, (1, .cells [.p (.str v0.f0), .p (.int .i64 v0.f1), .p (.bool v0.f2), .p (.lst false (List.map en124 v0.f3)), .p (.lst false (List.map en127 v0.f4))]))]⟩ ∧ spec_PatternFault.j0 q_ v0 = some r) ?_ (fun hj0 => ?_)
 ·skip
  rintro _ ⟨q_, hqj0, rfl, h⟩
  cases q_ with
  | zero => exact absurd h (by simp [spec_PatternFault.j0])
  | succ kj0 =>
  rw [spec_PatternFault.j0] at h
  revert h
  refine go 5 ?_
  refine fun h => good_loop (fun n st => n ≤ kj0 ∧ ∃ (v2 : _) (g3 : Nat), st = ⟨[(1, .ptr 1 1 0), (3, .p (.int .i64 v2))], [(1, (1, .cells [.p (.str v0.f0), .p (.int .i64 v0.f1), .p (.bool v0.f2), .p (.lst false (List.map en124 v0.f3)), .p (.lst false (List.map en127 v0.f4))])), (4, (g3, .gone))]⟩ ∧ spec_PatternFault.l0 n v2 v0 = some r) kj0 ⟨_, ⟨Nat.le_refl _, _, 0, rfl, h⟩, frle_, memle_⟩ ?_
  clear h
  rintro n _ ⟨hkl0, v2, g3, rfl, h⟩ hl0
  cases n with
  | zero => exact absurd h (by simp [spec_PatternFault.l0])
  | succ kl0 =>
  rw [spec_PatternFault.l0] at h
  revert h
  refine bif_e (fun c1 => ?_) (fun c1 => ?_)
  ·refine bind_e (fun v4 e4 => ?_)
   replace e4 := nf_ (ix_en en124 e4)
   refine go 10 ?_
   refine good_cut_f (fun st => ∃ (q_ : Nat), q_ ≤ kl0 ∧ st = ⟨[(1, .ptr 1 1 0), (3, .p (.int .i64 v2))], [(1, (1, .cells [.p (.str v0.f0), .p (.int .i64 v0.f1), .p (.bool v0.f2), .p (.lst false (List.map en124 v0.f3)), .p (.lst false (List.map en127 v0.f4))])), (4, (g3 + 1, .gone))]⟩ ∧ spec_PatternFault.j1 q_ v2 v0 = some r) ?_ (fun hj1 => ?_)
   ·clear c1 e4
    rintro _ ⟨q_, hqj1, rfl, h⟩
    cases q_ with
    | zero => exact absurd h (by simp [spec_PatternFault.j1])
    | succ kj1 =>
    rw [spec_PatternFault.j1] at h
    revert h
    refine go 3 ?_
    exact fun h => good_again hl0 (by omega) ⟨_, ⟨by omega, _, g3 + 1, rfl, h⟩, frle_, memle_⟩
   ·refine bif_e (fun c2 => ?_) (fun c2 => ?_)
    ·refine bif_e (fun c3 => ?_) (fun c3 => ?_)
     ·refine go 2 ?_
      exact fun h => good_jump hj1 ⟨_, ⟨_, by omega, rfl, h⟩, frle_, memle_⟩
     ·refine grs ?_
      refine gr_run ?_
      refine bind_e (fun v5 e5 => gr_call [] (spec_LabelsFault.con e5) ?_)
      clear e5
      refine gr_run ?_
      refine gr_done ?_
      refine bif_e (fun c4 => ?_) (fun c4 => ?_)
      ·refine go 1 ?_
       exact fun h => good_jump hj1 ⟨_, ⟨_, by omega, rfl, h⟩, frle_, memle_⟩
      ·refine go 3 ?_
       refine ret_e (fun hr_ => ?_)
       subst hr_
       exact ret_ Try.func39 []
    ·refine grs ?_
     refine gr_run ?_
     refine bind_e (fun v6 e6 => gr_call [] (spec_l06Name.con e6) ?_)
     clear e6
     refine bif_e (fun c5 => ?_) (fun c5 => ?_)
     ·refine bif_e (fun c6 => ?_) (fun c6 => ?_)
      ·refine gr_run ?_
       refine gr_done ?_
       refine go 1 ?_
       exact fun h => good_jump hj1 ⟨_, ⟨_, by omega, rfl, h⟩, frle_, memle_⟩
      ·refine gr_run ?_
       refine bind_e (fun v7 e7 => gr_call [] (spec_LabelsFault.con e7) ?_)
       clear e7
       refine gr_run ?_
       refine gr_done ?_
       refine bif_e (fun c7 => ?_) (fun c7 => ?_)
       ·refine go 1 ?_
        exact fun h => good_jump hj1 ⟨_, ⟨_, by omega, rfl, h⟩, frle_, memle_⟩
       ·refine go 3 ?_
        refine ret_e (fun hr_ => ?_)
        subst hr_
        exact ret_ Try.func39 []
     ·refine gr_run ?_
      refine gr_done ?_
      refine go 3 ?_
      refine ret_e (fun hr_ => ?_)
      subst hr_
      exact ret_ Try.func39 []
  ·refine go 9 ?_
   refine fun h => good_loop (fun n st => n ≤ kl0 ∧ ∃ (v8 : _), st = ⟨[(1, .ptr 1 1 0), (5, .p (.int .i64 v8))], [(1, (1, .cells [.p (.str v0.f0), .p (.int .i64 v0.f1), .p (.bool v0.f2), .p (.lst false (List.map en124 v0.f3)), .p (.lst false (List.map en127 v0.f4))])), (4, (g3, .gone))]⟩ ∧ spec_PatternFault.l1 n v8 v0 = some r) kl0 ⟨_, ⟨Nat.le_refl _, _, rfl, h⟩, frle_, memle_⟩ ?_
   clear c1
   clear h
   rintro n _ ⟨hkl1, v8, rfl, h⟩ hl1
   cases n with
   | zero => exact absurd h (by simp [spec_PatternFault.l1])
   | succ kl1 =>
   rw [spec_PatternFault.l1] at h
   revert h
   refine bif_e (fun c8 => ?_) (fun c8 => ?_)
   ·refine bind_e (fun v9 e9 => ?_)
    replace e9 := nf_ (ix_en en127 e9)
    refine go 8 ?_
    refine grs ?_
    refine gr_run ?_
    refine bind_e (fun v10 e10 => gr_call [] (spec_l08Edge.con e10) ?_)
    clear e10
    refine gr_run ?_
    refine gr_done ?_
    refine bif_e (fun c9 => ?_) (fun c9 => ?_)
    ·refine go 4 ?_
     exact fun h => good_again hl1 (by omega) ⟨_, ⟨by omega, _, rfl, h⟩, frle_, memle_⟩
    ·refine go 3 ?_
     refine ret_e (fun hr_ => ?_)
     subst hr_
     exact ret_ Try.func39 []
   ·refine go 6 ?_
    refine grs ?_
    refine gr_run ?_
    refine bind_e (fun v11 e11 => gr_call [] (spec_l08Names.con e11) ?_)
    clear e11
    refine gr_run ?_
    refine gr_done ?_
    refine go 4 ?_
    refine fun h => good_loop (fun n st => n ≤ kl1 ∧ ∃ (v12 : _), st = ⟨[(6, .p (.lst false (List.map srw v11.1))), (7, .p (.lst false (List.map srw v11.2))), (8, .p (.int .i64 v12))], [(1, (1, .gone)), (4, (g3, .gone))]⟩ ∧ spec_PatternFault.l2 n v11 v12 = some r) kl1 ⟨_, ⟨Nat.le_refl _, _, rfl, h⟩, frle_, memle_⟩ ?_
    clear c8
    clear h
    rintro n _ ⟨hkl2, v12, rfl, h⟩ hl2
    cases n with
    | zero => exact absurd h (by simp [spec_PatternFault.l2])
    | succ kl2 =>
    rw [spec_PatternFault.l2] at h
    revert h
    refine bif_e (fun c10 => ?_) (fun c10 => ?_)
    ·refine bind_e (fun v13 e13 => ?_)
     replace e13 := nf_ (ix_en srw e13)
     refine go 8 ?_
     refine grs ?_
     refine gr_run ?_
     refine bind_e (fun v14 e14 => gr_call [] (spec_l01InTexts.con e14) ?_)
     clear e14
     refine bif_e (fun c11 => ?_) (fun c11 => ?_)
     ·refine gr_run ?_
      refine gr_done ?_
      refine go 3 ?_
      refine ret_e (fun hr_ => ?_)
      subst hr_
      exact ret_ Try.func39 []
     ·refine bind_e (fun v15 e15 => ?_)
      replace e15 := nf_ (lsub_en srw e15)
      refine gr_run ?_
      refine bind_e (fun v17 e17 => gr_call [] (spec_l01InTexts.con e17) ?_)
      clear e17
      refine gr_run ?_
      refine gr_done ?_
      refine bif_e (fun c12 => ?_) (fun c12 => ?_)
      ·refine go 3 ?_
       refine ret_e (fun hr_ => ?_)
       subst hr_
       exact ret_ Try.func39 []
      ·refine go 4 ?_
       exact fun h => good_again hl2 (by omega) ⟨_, ⟨by omega, _, rfl, h⟩, frle_, memle_⟩
    ·refine go 7 ?_
     refine ret_e (fun hr_ => ?_)
     subst hr_
     exact ret_ Try.func39 []
 ·refine bif_e (fun c13 => ?_) (fun c13 => ?_)
  ·refine go 4 ?_
   refine ret_e (fun hr_ => ?_)
   subst hr_
   exact ret_ Try.func39 []
  ·refine bif_e (fun c14 => ?_) (fun c14 => ?_)
   ·refine go 4 ?_
    refine ret_e (fun hr_ => ?_)
    subst hr_
    exact ret_ Try.func39 []
   ·refine bif_e (fun c15 => ?_) (fun c15 => ?_)
    ·refine bif_e (fun c16 => ?_) (fun c16 => ?_)
     ·refine go 4 ?_
      refine ret_e (fun hr_ => ?_)
      subst hr_
      exact ret_ Try.func39 []
     ·refine bif_e (fun c17 => ?_) (fun c17 => ?_)
      ·refine go 4 ?_
       refine ret_e (fun hr_ => ?_)
       subst hr_
       exact ret_ Try.func39 []
      ·refine bif_e (fun c18 => ?_) (fun c18 => ?_)
       ·refine go 2 ?_
        exact fun h => good_jump hj0 ⟨_, ⟨_, by omega, rfl, h⟩, frle_, memle_⟩
       ·refine grs ?_
        refine gr_run ?_
        refine bind_e (fun v1 e1 => gr_call [] (spec_l06Name.con e1) ?_)
        clear e1
        refine gr_run ?_
        refine gr_done ?_
        refine bif_e (fun c19 => ?_) (fun c19 => ?_)
        ·refine go 1 ?_
         exact fun h => good_jump hj0 ⟨_, ⟨_, by omega, rfl, h⟩, frle_, memle_⟩
        ·refine go 3 ?_
         refine ret_e (fun hr_ => ?_)
         subst hr_
         exact ret_ Try.func39 []
    ·refine go 4 ?_
     refine ret_e (fun hr_ => ?_)
     subst hr_
     exact ret_ Try.func39 []
mutual
def spec_l08Names_O.j0 : Nat → (List ByteArray) → Int → S49 → Option ((List ByteArray) × (List ByteArray))
 | 0, _, _, _ => none
 | k + 1, v8, v1, v0 => (spec_l08Names_O.l0 k v8 (IntKind.i64.wrap (v1 + 1)) v0)
def spec_l08Names_O.j1 : Nat → (List ByteArray) → (List ByteArray) → Int → S49 → Option ((List ByteArray) × (List ByteArray))
 | 0, _, _, _, _ => none
 | k + 1, v3, v17, v9, v0 => (spec_l08Names_O.l1 k v3 v17 (IntKind.i64.wrap (v9 + 1)) v0)
def spec_l08Names_O.l1 : Nat → (List ByteArray) → (List ByteArray) → Int → S49 → Option ((List ByteArray) × (List ByteArray))
 | 0, _, _, _, _ => none
 | k + 1, v3, v11, v9, v0 => (bif decide (v9 < (v0.f4.length : Int)) then ((ix v0.f4 v9).bind fun v13 => (bif decide (v13.f0 = (⟨#[]⟩ : ByteArray)) then (spec_l08Names_O.j1 k v3 v11 v9 v0) else ((app v11 ([v13.f0] : List ByteArray)).bind fun v15 => (spec_l08Names_O.j1 k v3 v15 v9 v0)))) else (bif decide (v0.f0 = (⟨#[]⟩ : ByteArray)) then (some (v3, v11)) else ((app v11 ([v0.f0] : List ByteArray)).bind fun v12 => (some (v3, v12)))))
def spec_l08Names_O.l0 : Nat → (List ByteArray) → Int → S49 → Option ((List ByteArray) × (List ByteArray))
 | 0, _, _, _ => none
 | k + 1, v3, v1, v0 => (bif decide (v1 < (v0.f3.length : Int)) then ((ix v0.f3 v1).bind fun v4 => (bif decide (v4.f0 = (⟨#[]⟩ : ByteArray)) then (spec_l08Names_O.j0 k v3 v1 v0) else ((app v3 ([v4.f0] : List ByteArray)).bind fun v6 => (spec_l08Names_O.j0 k v6 v1 v0)))) else (spec_l08Names_O.l1 k v3 [] 0 v0))
def spec_l08Names_O.f : Nat → S49 → Option ((List ByteArray) × (List ByteArray))
 | 0, _ => none
 | k + 1, v0 => (spec_l08Names_O.l0 k [] 0 v0)
end
set_option maxRecDepth 100000 in
set_option maxHeartbeats 4000000 in
theorem spec_l08Names_O.con {K : Kn} [KOk K] {k : Nat} {v0 : S49} {r : (List ByteArray) × (List ByteArray)} (h : spec_l08Names_O.f k v0 = some r) : Con K Try.prog 40 [.agg [.p (.str v0.f0), .p (.int .i64 v0.f1), .p (.bool v0.f2), .p (.lst false (List.map en124 v0.f3)), .p (.lst false (List.map en127 v0.f4))]] [] (.tup [.buf 2000 1 0 r.1.length, .p (.lst false (List.map srw r.2))]) [(2000, (1, .buf 1 (List.map srw r.1)))] := by
 cases k with
 | zero => exact absurd h (by simp [spec_l08Names_O.f])
 | succ k =>
 rw [spec_l08Names_O.f] at h
 refine con_intro 66 [32, 55, 63] Try.func40 (by kernel_rfl) rfl rfl (by kernel_rfl) fun ι0 w0 hk0 => ?_
 revert h
 refine go 10 ?_
 refine adoptB_ 4 32 1 ?_
 refine fun h => good_loop (fun n st => n ≤ k ∧ ∃ (v1 : _) (v3 : _) (g2 : Nat), st = ⟨[(1, .ptr 1 1 0), (4, .buf 32 g2 0 v3.length), (5, .p (.lst true (List.map srw ([] : List ByteArray)))), (6, .p (.int .i64 v1))], [(1, (1, .cells [.p (.str v0.f0), .p (.int .i64 v0.f1), .p (.bool v0.f2), .p (.lst false (List.map en124 v0.f3)), .p (.lst false (List.map en127 v0.f4))])), (32, (g2, .buf 1 (List.map srw v3)))]⟩ ∧ spec_l08Names_O.l0 n v3 v1 v0 = some r) k ⟨_, ⟨Nat.le_refl _, _, _, 1, rfl, h⟩, frle_, memle_⟩ ?_
 clear h
 rintro n _ ⟨hkl0, v1, v3, g2, rfl, h⟩ hl0
 cases n with
 | zero => exact absurd h (by simp [spec_l08Names_O.l0])
 | succ kl0 =>
 rw [spec_l08Names_O.l0] at h
 revert h
 refine bif_e (fun c1 => ?_) (fun c1 => ?_)
 ·refine go 6 ?_
  refine good_cut (fun st => ∃ (v8 : _) (g7 : Nat) (q_ : Nat), q_ ≤ kl0 ∧ st = ⟨[(1, .ptr 1 1 0), (4, .buf 32 g7 0 v8.length), (5, .p (.lst true (List.map srw ([] : List ByteArray)))), (6, .p (.int .i64 v1))], [(1, (1, .cells [.p (.str v0.f0), .p (.int .i64 v0.f1), .p (.bool v0.f2), .p (.lst false (List.map en124 v0.f3)), .p (.lst false (List.map en127 v0.f4))])), (32, (g7, .buf 1 (List.map srw v8)))]⟩ ∧ spec_l08Names_O.j0 q_ v8 v1 v0 = some r) ?_ (fun hj0 => ?_)
  ·clear c1
   rintro _ ⟨v8, g7, q_, hqj0, rfl, h⟩
   cases q_ with
   | zero => exact absurd h (by simp [spec_l08Names_O.j0])
   | succ kj0 =>
   rw [spec_l08Names_O.j0] at h
   revert h
   refine go 1 ?_
   exact fun h => good_again hl0 (by omega) ⟨_, ⟨by omega, _, _, g7, rfl, h⟩, frle_, memle_⟩
  ·refine bind_e (fun v4 e4 => ?_)
   replace e4 := nf_ (ix_en en124 e4)
   refine bif_e (fun c2 => ?_) (fun c2 => ?_)
   ·refine go 6 ?_
    exact fun h => good_jump hj0 ⟨_, ⟨_, g2, _, by omega, rfl, h⟩, frle_, memle_⟩
   ·refine bind_e (fun v6 e6 => ?_)
    replace e6 := nf_ (app_en srw e6)
    refine go 6 ?_
    exact fun h => good_jump hj0 ⟨_, ⟨_, g2 + 1, _, by omega, rfl, h⟩, frle_, memle_⟩
 ·refine go 9 ?_
  refine adoptB_ 5 55 1 ?_
  refine fun h => good_loop (fun n st => n ≤ kl0 ∧ ∃ (v9 : _) (v11 : _) (g10 : Nat), st = ⟨[(1, .ptr 1 1 0), (4, .buf 32 g2 0 v3.length), (5, .buf 55 g10 0 v11.length), (7, .p (.int .i64 v9))], [(1, (1, .cells [.p (.str v0.f0), .p (.int .i64 v0.f1), .p (.bool v0.f2), .p (.lst false (List.map en124 v0.f3)), .p (.lst false (List.map en127 v0.f4))])), (32, (g2, .buf 1 (List.map srw v3))), (55, (g10, .buf 1 (List.map srw v11)))]⟩ ∧ spec_l08Names_O.l1 n v3 v11 v9 v0 = some r) kl0 ⟨_, ⟨Nat.le_refl _, _, _, 1, rfl, h⟩, frle_, memle_⟩ ?_
  clear c1
  clear h
  rintro n _ ⟨hkl1, v9, v11, g10, rfl, h⟩ hl1
  cases n with
  | zero => exact absurd h (by simp [spec_l08Names_O.l1])
  | succ kl1 =>
  rw [spec_l08Names_O.l1] at h
  revert h
  refine bif_e (fun c3 => ?_) (fun c3 => ?_)
  ·refine go 6 ?_
   refine good_cut (fun st => ∃ (v17 : _) (g16 : Nat) (q_ : Nat), q_ ≤ kl1 ∧ st = ⟨[(1, .ptr 1 1 0), (4, .buf 32 g2 0 v3.length), (5, .buf 55 g16 0 v17.length), (7, .p (.int .i64 v9))], [(1, (1, .cells [.p (.str v0.f0), .p (.int .i64 v0.f1), .p (.bool v0.f2), .p (.lst false (List.map en124 v0.f3)), .p (.lst false (List.map en127 v0.f4))])), (32, (g2, .buf 1 (List.map srw v3))), (55, (g16, .buf 1 (List.map srw v17)))]⟩ ∧ spec_l08Names_O.j1 q_ v3 v17 v9 v0 = some r) ?_ (fun hj1 => ?_)
   ·clear c3
    rintro _ ⟨v17, g16, q_, hqj1, rfl, h⟩
    cases q_ with
    | zero => exact absurd h (by simp [spec_l08Names_O.j1])
    | succ kj1 =>
    rw [spec_l08Names_O.j1] at h
    revert h
    refine go 1 ?_
    exact fun h => good_again hl1 (by omega) ⟨_, ⟨by omega, _, _, g16, rfl, h⟩, frle_, memle_⟩
   ·refine bind_e (fun v13 e13 => ?_)
    replace e13 := nf_ (ix_en en127 e13)
    refine bif_e (fun c4 => ?_) (fun c4 => ?_)
    ·refine go 6 ?_
     exact fun h => good_jump hj1 ⟨_, ⟨_, g10, _, by omega, rfl, h⟩, frle_, memle_⟩
    ·refine bind_e (fun v15 e15 => ?_)
     replace e15 := nf_ (app_en srw e15)
     refine go 6 ?_
     exact fun h => good_jump hj1 ⟨_, ⟨_, g10 + 1, _, by omega, rfl, h⟩, frle_, memle_⟩
  ·refine bif_e (fun c5 => ?_) (fun c5 => ?_)
   ·refine go 12 ?_
    refine freeze_ 3 ?_
    refine ret_e (fun hr_ => ?_)
    subst hr_
    exact ret_ Try.func40 [(2000, (1, 32, g2))]
   ·refine bind_e (fun v12 e12 => ?_)
    replace e12 := nf_ (app_en srw e12)
    refine go 12 ?_
    refine freeze_ 3 ?_
    refine ret_e (fun hr_ => ?_)
    subst hr_
    exact ret_ Try.func40 [(2000, (1, 32, g2))]
def spec_l01Texts_O.f (k : Nat) (v0 : (List ByteArray)) : Option ((List ByteArray)) := ((app ([] : List ByteArray) v0).bind fun v1 => (some v1))
set_option maxRecDepth 100000 in
set_option maxHeartbeats 4000000 in
theorem spec_l01Texts_O.con {K : Kn} [KOk K] {k : Nat} {v0 : (List ByteArray)} {r : (List ByteArray)} (h : spec_l01Texts_O.f k v0 = some r) : Con K Try.prog 82 [.p (.lst false (List.map srw v0))] [] (.buf 2000 1 0 r.length) [(2000, (1, .buf 1 (List.map srw r)))] := by
 rw [spec_l01Texts_O.f] at h
 refine con_intro 6 [5] Try.func82 (by kernel_rfl) rfl rfl (by kernel_rfl) fun ι0 w0 hk0 => ?_
 revert h
 refine bind_e (fun v1 e1 => ?_)
 replace e1 := nf_ (app_en srw e1)
 refine go 4 ?_
 refine ret_e (fun hr_ => ?_)
 subst hr_
 exact ret_ Try.func82 [(2000, (1, 5, 1))]
def spec_l01Texts_b.f (k : Nat) (v0 : Nat) (v1 : Nat) (v2 : (List ByteArray)) : Option ((List ByteArray)) := spec_l01Texts_O.f k ((v2.drop v1).take v0)
theorem spec_l01Texts_b.con {K : Kn} [KOk K] {k : Nat} {v0 : Nat} {v1 : Nat} {v2 : (List ByteArray)} {r : (List ByteArray)} (h : spec_l01Texts_b.f k v0 v1 v2 = some r) : Con K Try.prog 82 [.buf 1000 0 v1 v0] [(1000, (0, .buf 1 (List.map srw v2)))] (.p (.lst false (List.map srw r))) [(1000, (0, .buf 1 (List.map srw v2)))] := by
 rw [spec_l01Texts_b.f] at h
 have h1 := spec_l01Texts_O.con (K := K) h
 rw [List.map_take, List.map_drop] at h1
 refine con_lend (r := List.map srw r) (fun row hr c hc => ?_) (by rw [List.length_map]; exact h1)
 obtain ⟨x, _, rfl⟩ := List.mem_map.1 hr
 simp [srw, irow, brw] at hc
 subst hc
 rfl
mutual
def spec_l03Sort_b_O.j1 : Nat → Nat → (List ByteArray) → Int → Int → (List ByteArray) → Option ((List ByteArray))
 | 0, _, _, _, _, _ => none
 | k + 1, v0, v4, v2, v5, v1 => ((bnd v5 (v4.length : Int) (v4.length : Int)).bind fun v14 => ((spec_l01Texts_b.f k (v4.length - Int.toNat v5) (Int.toNat v5) v4).bind fun v15 => ((bnd 0 v5 (v4.length : Int)).bind fun v16 => ((inr v2 v0).bind fun v17 => ((v1[(Int.toNat v2)]?).bind fun v18 => ((app (List.take (Int.toNat v5) v4) ([v18] : List ByteArray)).bind fun v19 => ((app v19 v15).bind fun v20 => (spec_l03Sort_b_O.l0 k v0 v20 (IntKind.i64.wrap (v2 + 1)) v1))))))))
def spec_l03Sort_b_O.j0 : Nat → Nat → (List ByteArray) → Int → Int → (List ByteArray) → Option ((List ByteArray))
 | 0, _, _, _, _, _ => none
 | k + 1, v0, v4, v2, v5, v1 => (bif decide (0 < v5) then ((inr (IntKind.i64.wrap (v5 - 1)) v4.length).bind fun v10 => ((v4[(Int.toNat (IntKind.i64.wrap (v5 - 1)))]?).bind fun v11 => ((inr v2 v0).bind fun v12 => ((v1[(Int.toNat v2)]?).bind fun v13 => (bif decide (v11 = v13) then (spec_l03Sort_b_O.l0 k v0 v4 (IntKind.i64.wrap (v2 + 1)) v1) else (spec_l03Sort_b_O.j1 k v0 v4 v2 v5 v1)))))) else (spec_l03Sort_b_O.j1 k v0 v4 v2 v5 v1))
def spec_l03Sort_b_O.l1 : Nat → Nat → (List ByteArray) → Int → Int → (List ByteArray) → Option ((List ByteArray))
 | 0, _, _, _, _, _ => none
 | k + 1, v0, v4, v2, v5, v1 => (bif decide (0 < v5) then ((inr (IntKind.i64.wrap (v5 - 1)) v4.length).bind fun v6 => ((v4[(Int.toNat (IntKind.i64.wrap (v5 - 1)))]?).bind fun v7 => ((inr v2 v0).bind fun v8 => ((v1[(Int.toNat v2)]?).bind fun v9 => (bif slt v9 v7 then (spec_l03Sort_b_O.l1 k v0 v4 v2 (IntKind.i64.wrap (v5 - 1)) v1) else (spec_l03Sort_b_O.j0 k v0 v4 v2 v5 v1)))))) else (spec_l03Sort_b_O.j0 k v0 v4 v2 v5 v1))
def spec_l03Sort_b_O.l0 : Nat → Nat → (List ByteArray) → Int → (List ByteArray) → Option ((List ByteArray))
 | 0, _, _, _, _ => none
 | k + 1, v0, v4, v2, v1 => (bif decide (v2 < (v0 : Int)) then (spec_l03Sort_b_O.l1 k v0 v4 v2 (v4.length : Int) v1) else (some v4))
def spec_l03Sort_b_O.f : Nat → Nat → (List ByteArray) → Option ((List ByteArray))
 | 0, _, _ => none
 | k + 1, v0, v1 => (spec_l03Sort_b_O.l0 k v0 ([] : List ByteArray) 0 v1)
end
set_option maxRecDepth 100000 in
set_option maxHeartbeats 4000000 in
theorem spec_l03Sort_b_O.con {K : Kn} [KOk K] {k : Nat} {v0 : Nat} {v1 : (List ByteArray)} {r : (List ByteArray)} (h : spec_l03Sort_b_O.f k v0 v1 = some r) : Con K Try.prog 41 [.buf 1000 0 0 v0] [(1000, (0, .buf 1 (List.map srw v1)))] (.buf 2000 1 0 r.length) [(2000, (1, .buf 1 (List.map srw r))), (1000, (0, .buf 1 (List.map srw v1)))] := by
 cases k with
 | zero => exact absurd h (by simp [spec_l03Sort_b_O.f])
 | succ k =>
 rw [spec_l03Sort_b_O.f] at h
 refine con_intro 62 [58, 60] Try.func41 (by kernel_rfl) rfl rfl (by kernel_rfl) fun ι0 w0 hk0 => ?_
 revert h
 refine go 8 ?_
 refine adoptB_ 3 2603 1 ?_
 refine fun h => good_loop (fun n st => n ≤ k ∧ ∃ (v2 : _) (v4 : _) (g3 : Nat), st = ⟨[(0, .buf 1000 0 0 v0), (3, .buf 2603 g3 0 v4.length), (4, .p (.int .i64 v2))], [(1000, (0, .buf 1 (List.map srw v1))), (2603, (g3, .buf 1 (List.map srw v4)))]⟩ ∧ spec_l03Sort_b_O.l0 n v0 v4 v2 v1 = some r) k ⟨_, ⟨Nat.le_refl _, _, _, 1, rfl, h⟩, frle_, memle_⟩ ?_
 clear h
 rintro n _ ⟨hkl0, v2, v4, g3, rfl, h⟩ hl0
 cases n with
 | zero => exact absurd h (by simp [spec_l03Sort_b_O.l0])
 | succ kl0 =>
 rw [spec_l03Sort_b_O.l0] at h
 revert h
 refine bif_e (fun c1 => ?_) (fun c1 => ?_)
 ·refine go 11 ?_
  refine fun h => good_loop (fun n st => n ≤ kl0 ∧ ∃ (v5 : _), st = ⟨[(0, .buf 1000 0 0 v0), (3, .buf 2603 g3 0 v4.length), (4, .p (.int .i64 v2)), (5, .p (.int .i64 v5))], [(1000, (0, .buf 1 (List.map srw v1))), (2603, (g3, .buf 1 (List.map srw v4)))]⟩ ∧ spec_l03Sort_b_O.l1 n v0 v4 v2 v5 v1 = some r) kl0 ⟨_, ⟨Nat.le_refl _, _, rfl, h⟩, frle_, memle_⟩ ?_
  clear c1
  clear h
  rintro n _ ⟨hkl1, v5, rfl, h⟩ hl1
  cases n with
  | zero => exact absurd h (by simp [spec_l03Sort_b_O.l1])
  | succ kl1 =>
  rw [spec_l03Sort_b_O.l1] at h
  revert h
  refine go 2 ?_
  refine good_cut_f (fun st => ∃ (q_ : Nat), q_ ≤ kl1 ∧ st = ⟨[(0, .buf 1000 0 0 v0), (3, .buf 2603 g3 0 v4.length), (4, .p (.int .i64 v2)), (5, .p (.int .i64 v5))], [(1000, (0, .buf 1 (List.map srw v1))), (2603, (g3, .buf 1 (List.map srw v4)))]⟩ ∧ spec_l03Sort_b_O.j0 q_ v0 v4 v2 v5 v1 = some r) ?_ (fun hj0 => ?_)
  ·skip
   rintro _ ⟨q_, hqj0, rfl, h⟩
   cases q_ with
   | zero => exact absurd h (by simp [spec_l03Sort_b_O.j0])
   | succ kj0 =>
   rw [spec_l03Sort_b_O.j0] at h
   revert h
   refine go 3 ?_
   refine good_cut_f (fun st => ∃ (q_ : Nat), q_ ≤ kj0 ∧ st = ⟨[(0, .buf 1000 0 0 v0), (3, .buf 2603 g3 0 v4.length), (4, .p (.int .i64 v2)), (5, .p (.int .i64 v5))], [(1000, (0, .buf 1 (List.map srw v1))), (2603, (g3, .buf 1 (List.map srw v4)))]⟩ ∧ spec_l03Sort_b_O.j1 q_ v0 v4 v2 v5 v1 = some r) ?_ (fun hj1 => ?_)
   ·skip
    rintro _ ⟨q_, hqj1, rfl, h⟩
    cases q_ with
    | zero => exact absurd h (by simp [spec_l03Sort_b_O.j1])
    | succ kj1 =>
    rw [spec_l03Sort_b_O.j1] at h
    revert h
    refine bind_e (fun v14 e14 => ?_)
    refine go 2 ?_
    refine grs ?_
    refine gr_run ?_
    refine bind_e (fun v15 e15 => gr_call [(1000, (0, 2603, g3))] (spec_l01Texts_b.con e15) ?_)
    clear e15
    refine gr_run ?_
    refine gr_done ?_
    refine bind_e (fun v16 e16 => ?_)
    refine bind_e (fun v17 e17 => ?_)
    refine bind_e (fun v18 e18 => ?_)
    replace e18 := nf_ (gx_en srw e18)
    refine bind_e (fun v19 e19 => ?_)
    replace e19 := nf_ (app_en srw e19)
    refine bind_e (fun v20 e20 => ?_)
    replace e20 := nf_ (app_en srw e20)
    refine grs ?_
    refine gr_run ?_
    refine gr_done ?_
    refine go 2 ?_
    exact fun h => good_again hl0 (by omega) ⟨_, ⟨by omega, _, _, g3 + 2, rfl, h⟩, frle_, memle_⟩
   ·refine bif_e (fun c2 => ?_) (fun c2 => ?_)
    ·refine bind_e (fun v10 e10 => ?_)
     refine bind_e (fun v11 e11 => ?_)
     replace e11 := nf_ (gx_en srw e11)
     refine bind_e (fun v12 e12 => ?_)
     refine bind_e (fun v13 e13 => ?_)
     replace e13 := nf_ (gx_en srw e13)
     refine grs ?_
     refine gr_run ?_
     refine gr_done ?_
     refine bif_e (fun c3 => ?_) (fun c3 => ?_)
     ·refine go 3 ?_
      exact fun h => good_again hl0 (by omega) ⟨_, ⟨by omega, _, _, g3, rfl, h⟩, frle_, memle_⟩
     ·refine go 1 ?_
      exact fun h => good_jump hj1 ⟨_, ⟨_, by omega, rfl, h⟩, frle_, memle_⟩
    ·refine grs ?_
     refine gr_run ?_
     refine gr_done ?_
     refine go 1 ?_
     exact fun h => good_jump hj1 ⟨_, ⟨_, by omega, rfl, h⟩, frle_, memle_⟩
  ·refine bif_e (fun c4 => ?_) (fun c4 => ?_)
   ·refine bind_e (fun v6 e6 => ?_)
    refine bind_e (fun v7 e7 => ?_)
    replace e7 := nf_ (gx_en srw e7)
    refine bind_e (fun v8 e8 => ?_)
    refine bind_e (fun v9 e9 => ?_)
    replace e9 := nf_ (gx_en srw e9)
    refine grs ?_
    refine gr_run ?_
    refine gr_done ?_
    refine bif_e (fun c5 => ?_) (fun c5 => ?_)
    ·refine go 5 ?_
     exact fun h => good_again hl1 (by omega) ⟨_, ⟨by omega, _, rfl, h⟩, frle_, memle_⟩
    ·refine go 1 ?_
     exact fun h => good_jump hj0 ⟨_, ⟨_, by omega, rfl, h⟩, frle_, memle_⟩
   ·refine grs ?_
    refine gr_run ?_
    refine gr_done ?_
    refine go 1 ?_
    exact fun h => good_jump hj0 ⟨_, ⟨_, by omega, rfl, h⟩, frle_, memle_⟩
 ·refine go 7 ?_
  refine ret_e (fun hr_ => ?_)
  subst hr_
  exact ret_ Try.func41 [(2000, (1, 2603, g3)), (1000, (0, 1000, 0))]
def spec_NamesIn_O.f (k : Nat) (v0 : S49) : Option ((List ByteArray)) := ((spec_PatternFault.f k v0).bind fun v1 => (bif (v1 == 0) then ((spec_l08Names_O.f k v0).bind fun v2 => ((app v2.1 v2.2).bind fun v3 => ((spec_l03Sort_b_O.f k v3.length v3).bind fun v4 => (some v4)))) else (some ([] : List ByteArray))))
set_option maxRecDepth 100000 in
set_option maxHeartbeats 4000000 in
theorem spec_NamesIn_O.con {K : Kn} [KOk K] {k : Nat} {v0 : S49} {r : (List ByteArray)} (h : spec_NamesIn_O.f k v0 = some r) : Con K Try.prog 15 [.agg [.p (.str v0.f0), .p (.int .i64 v0.f1), .p (.bool v0.f2), .p (.lst false (List.map en124 v0.f3)), .p (.lst false (List.map en127 v0.f4))]] [] (.buf 2000 1 0 r.length) [(2000, (1, .buf 1 (List.map srw r)))] := by
 rw [spec_NamesIn_O.f] at h
 refine con_intro 18 [16] Try.func15 (by kernel_rfl) rfl rfl (by kernel_rfl) fun ι0 w0 hk0 => ?_
 revert h
 refine go 4 ?_
 refine grs ?_
 refine gr_run ?_
 refine bind_e (fun v1 e1 => gr_call [] (spec_PatternFault.con e1) ?_)
 clear e1
 refine gr_run ?_
 refine gr_done ?_
 refine bif_e (fun c1 => ?_) (fun c1 => ?_)
 ·refine go 3 ?_
  refine grs ?_
  refine gr_run ?_
  refine bind_e (fun v2 e2 => gr_call [(2000, (1, 11, 1))] (spec_l08Names_O.con e2) ?_)
  clear e2
  refine gr_run ?_
  refine gr_done ?_
  refine bind_e (fun v3 e3 => ?_)
  replace e3 := nf_ (app_en srw e3)
  refine go 1 ?_
  refine grs ?_
  refine gr_run ?_
  refine bind_e (fun v4 e4 => gr_call [(2000, (1, 17, 1)), (1000, (0, 11, 2))] (spec_l03Sort_b_O.con e4) ?_)
  clear e4
  refine gr_run ?_
  refine gr_done ?_
  refine ret_e (fun hr_ => ?_)
  subst hr_
  exact ret_ Try.func15 [(2000, (1, 17, 1))]
 ·refine go 3 ?_
  refine adoptB_ 2 2502 1 ?_
  refine ret_e (fun hr_ => ?_)
  subst hr_
  exact ret_ Try.func15 [(2000, (1, 2502, 1))]
end Go.Ab
