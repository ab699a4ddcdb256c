/- What the functions compute, and their contracts, part 3. No condition beyond KOk. -/
import Derived.Test.YtfjckgcbgepndaaDoorAbX
import Derived.Test.YtfjckgcbgepndaaDoorAbF2
namespace Go.Ab
open Go.Proofs
set_option linter.unusedVariables false
set_option linter.unusedSimpArgs false
mutual
def spec_l08Names.j0 : Nat → (List ByteArray) → Int → S30 → Option ((List ByteArray) × (List ByteArray))
 | 0, _, _, _ => none
 | k + 1, v7, v2, v0 => (spec_l08Names.l0 k v7 (IntKind.i64.wrap (v2 + 1)) v0)
def spec_l08Names.j1 : Nat → (List ByteArray) → (List ByteArray) → Int → S30 → Option ((List ByteArray) × (List ByteArray))
 | 0, _, _, _, _ => none
 | k + 1, v1, v15, v9, v0 => (spec_l08Names.l1 k v1 v15 (IntKind.i64.wrap (v9 + 1)) v0)
def spec_l08Names.l1 : Nat → (List ByteArray) → (List ByteArray) → Int → S30 → Option ((List ByteArray) × (List ByteArray))
 | 0, _, _, _, _ => none
 | k + 1, v1, v8, v9, v0 => (bif decide (v9 < (v0.f4.length : Int)) then ((ix v0.f4 v9).bind fun v12 => (bif decide (v12.f0 = (⟨#[]⟩ : ByteArray)) then (spec_l08Names.j1 k v1 v8 v9 v0) else ((app v8 ([v12.f0] : List ByteArray)).bind fun v14 => (spec_l08Names.j1 k v1 v14 v9 v0)))) else (bif decide (v0.f0 = (⟨#[]⟩ : ByteArray)) then (some (v1, v8)) else ((app v8 ([v0.f0] : List ByteArray)).bind fun v11 => (some (v1, v11)))))
def spec_l08Names.l0 : Nat → (List ByteArray) → Int → S30 → Option ((List ByteArray) × (List ByteArray))
 | 0, _, _, _ => none
 | k + 1, v1, v2, v0 => (bif decide (v2 < (v0.f3.length : Int)) then ((ix v0.f3 v2).bind fun v4 => (bif decide (v4.f0 = (⟨#[]⟩ : ByteArray)) then (spec_l08Names.j0 k v1 v2 v0) else ((app v1 ([v4.f0] : List ByteArray)).bind fun v6 => (spec_l08Names.j0 k v6 v2 v0)))) else (spec_l08Names.l1 k v1 ([] : List ByteArray) 0 v0))
def spec_l08Names.f : Nat → S30 → Option ((List ByteArray) × (List ByteArray))
 | 0, _ => none
 | k + 1, v0 => (spec_l08Names.l0 k ([] : List ByteArray) 0 v0)
end
set_option maxRecDepth 100000 in
set_option maxHeartbeats 4000000 in
theorem spec_l08Names.con {K : Kn} [KOk K] {k : Nat} {v0 : S30} {r : (List ByteArray) × (List ByteArray)} (h : spec_l08Names.f k v0 = some r) : Con K Tryd.prog 24 [.agg [.p (.str v0.f0), .p (.int .i64 v0.f1), .p (.bool v0.f2), .p (.lst false (List.map en45 v0.f3)), .p (.lst false (List.map en49 v0.f4))]] [] (.tup [.p (.lst false (List.map srw r.1)), .p (.lst false (List.map srw r.2))]) [] := by
 cases k with
 | zero => exact absurd h (by simp [spec_l08Names.f])
 | succ k =>
 rw [spec_l08Names.f] at h
 refine con_intro 66 [] Tryd.func24 (by kernel_rfl) rfl rfl (by kernel_rfl) fun ι0 w0 hk0 => ?_
 revert h
 refine go 10 ?_
 refine adoptF_ 4 32 1 ?_
 refine fun h => good_loop (fun n st => n ≤ k ∧ ∃ (v1 : _) (v2 : _) (g3 : Nat), st = ⟨[(1, .ptr 1 1 0), (4, .tip 32 g3 (List.map srw v1)), (5, .p (.lst true (List.map srw ([] : List ByteArray)))), (6, .p (.int .i64 v2))], [(1, (1, .cells [.p (.str v0.f0), .p (.int .i64 v0.f1), .p (.bool v0.f2), .p (.lst false (List.map en45 v0.f3)), .p (.lst false (List.map en49 v0.f4))])), (32, (g3, .tip 1 (v1).length))]⟩ ∧ spec_l08Names.l0 n v1 v2 v0 = some r) k ⟨_, ⟨Nat.le_refl _, _, _, 1, rfl, h⟩, frle_, memle_⟩ ?_
 clear h
 rintro n _ ⟨hkl0, v1, v2, g3, rfl, h⟩ hl0
 cases n with
 | zero => exact absurd h (by simp [spec_l08Names.l0])
 | succ kl0 =>
 rw [spec_l08Names.l0] at h
 revert h
 refine bif_e (fun c1 => ?_) (fun c1 => ?_)
 ·refine go 6 ?_
  refine good_cut (fun st => ∃ (v7 : _) (q_ : Nat), q_ ≤ kl0 ∧ st = ⟨[(1, .ptr 1 1 0), (4, .tip 32 g3 (List.map srw v7)), (5, .p (.lst true (List.map srw ([] : List ByteArray)))), (6, .p (.int .i64 v2))], [(1, (1, .cells [.p (.str v0.f0), .p (.int .i64 v0.f1), .p (.bool v0.f2), .p (.lst false (List.map en45 v0.f3)), .p (.lst false (List.map en49 v0.f4))])), (32, (g3, .tip 1 (v7).length))]⟩ ∧ spec_l08Names.j0 q_ v7 v2 v0 = some r) ?_ (fun hj0 => ?_)
  ·clear c1
   rintro _ ⟨v7, q_, hqj0, rfl, h⟩
   cases q_ with
   | zero => exact absurd h (by simp [spec_l08Names.j0])
   | succ kj0 =>
   rw [spec_l08Names.j0] at h
   revert h
   refine go 1 ?_
   exact fun h => good_again hl0 (by omega) ⟨_, ⟨by omega, _, _, g3, rfl, h⟩, frle_, memle_⟩
  ·refine bind_e (fun v4 e4 => ?_)
   replace e4 := nf_ (ix_en en45 e4)
   refine bif_e (fun c2 => ?_) (fun c2 => ?_)
   ·refine go 6 ?_
    exact fun h => good_jump hj0 ⟨_, ⟨_, _, by omega, rfl, h⟩, frle_, memle_⟩
   ·refine bind_e (fun v6 e6 => ?_)
    replace e6 := nf_ (app_en srw e6)
    refine go 6 ?_
    exact fun h => good_jump hj0 ⟨_, ⟨_, _, by omega, rfl, h⟩, frle_, memle_⟩
 ·refine go 9 ?_
  refine adoptF_ 5 55 1 ?_
  refine fun h => good_loop (fun n st => n ≤ kl0 ∧ ∃ (v8 : _) (v9 : _) (g10 : Nat), st = ⟨[(1, .ptr 1 1 0), (4, .tip 32 g3 (List.map srw v1)), (5, .tip 55 g10 (List.map srw v8)), (7, .p (.int .i64 v9))], [(1, (1, .cells [.p (.str v0.f0), .p (.int .i64 v0.f1), .p (.bool v0.f2), .p (.lst false (List.map en45 v0.f3)), .p (.lst false (List.map en49 v0.f4))])), (32, (g3, .tip 1 (v1).length)), (55, (g10, .tip 1 (v8).length))]⟩ ∧ spec_l08Names.l1 n v1 v8 v9 v0 = some r) kl0 ⟨_, ⟨Nat.le_refl _, _, _, 1, rfl, h⟩, frle_, memle_⟩ ?_
  clear c1
  clear h
  rintro n _ ⟨hkl1, v8, v9, g10, rfl, h⟩ hl1
  cases n with
  | zero => exact absurd h (by simp [spec_l08Names.l1])
  | succ kl1 =>
  rw [spec_l08Names.l1] at h
  revert h
  refine bif_e (fun c3 => ?_) (fun c3 => ?_)
  ·refine go 6 ?_
   refine good_cut (fun st => ∃ (v15 : _) (q_ : Nat), q_ ≤ kl1 ∧ st = ⟨[(1, .ptr 1 1 0), (4, .tip 32 g3 (List.map srw v1)), (5, .tip 55 g10 (List.map srw v15)), (7, .p (.int .i64 v9))], [(1, (1, .cells [.p (.str v0.f0), .p (.int .i64 v0.f1), .p (.bool v0.f2), .p (.lst false (List.map en45 v0.f3)), .p (.lst false (List.map en49 v0.f4))])), (32, (g3, .tip 1 (v1).length)), (55, (g10, .tip 1 (v15).length))]⟩ ∧ spec_l08Names.j1 q_ v1 v15 v9 v0 = some r) ?_ (fun hj1 => ?_)
   ·clear c3
    rintro _ ⟨v15, q_, hqj1, rfl, h⟩
    cases q_ with
    | zero => exact absurd h (by simp [spec_l08Names.j1])
    | succ kj1 =>
    rw [spec_l08Names.j1] at h
    revert h
    refine go 1 ?_
    exact fun h => good_again hl1 (by omega) ⟨_, ⟨by omega, _, _, g10, rfl, h⟩, frle_, memle_⟩
   ·refine bind_e (fun v12 e12 => ?_)
    replace e12 := nf_ (ix_en en49 e12)
    refine bif_e (fun c4 => ?_) (fun c4 => ?_)
    ·refine go 6 ?_
     exact fun h => good_jump hj1 ⟨_, ⟨_, _, by omega, rfl, h⟩, frle_, memle_⟩
    ·refine bind_e (fun v14 e14 => ?_)
     replace e14 := nf_ (app_en srw e14)
     refine go 6 ?_
     exact fun h => good_jump hj1 ⟨_, ⟨_, _, by omega, rfl, h⟩, frle_, memle_⟩
  ·refine bif_e (fun c5 => ?_) (fun c5 => ?_)
   ·refine go 12 ?_
    refine ret_e (fun hr_ => ?_)
    subst hr_
    exact ret_ Tryd.func24 []
   ·refine bind_e (fun v11 e11 => ?_)
    replace e11 := nf_ (app_en srw e11)
    refine go 12 ?_
    refine ret_e (fun hr_ => ?_)
    subst hr_
    exact ret_ Tryd.func24 []
mutual
def spec_PatternFault.j1 : Nat → Int → S30 → Option (Int)
 | 0, _, _ => none
 | k + 1, v2, v0 => (spec_PatternFault.l0 k (IntKind.i64.wrap (v2 + 1)) v0)
def spec_PatternFault.l2 : Nat → ((List ByteArray) × (List ByteArray)) → Int → Option (Int)
 | 0, _, _ => none
 | k + 1, v11, v12 => (bif decide (v12 < (v11.2.length : Int)) then ((ix v11.2 v12).bind fun v13 => ((spec_l01InTexts.f k v11.1 v13).bind fun v14 => (bif v14 then (some 1) else ((lsub v11.2 0 v12).bind fun v15 => ((spec_l01InTexts.f k v15 v13).bind fun v17 => (bif v17 then (some 1) else (spec_PatternFault.l2 k v11 (IntKind.i64.wrap (v12 + 1))))))))) else (some 0))
def spec_PatternFault.l1 : Nat → Int → S30 → Option (Int)
 | 0, _, _ => none
 | k + 1, v8, v0 => (bif decide (v8 < (v0.f4.length : Int)) then ((ix v0.f4 v8).bind fun v9 => ((spec_l08Edge.f k v9).bind fun v10 => (bif v10 then (spec_PatternFault.l1 k (IntKind.i64.wrap (v8 + 1)) v0) else (some 1)))) else ((spec_l08Names.f k v0).bind fun v11 => (spec_PatternFault.l2 k v11 0)))
def spec_PatternFault.l0 : Nat → Int → S30 → Option (Int)
 | 0, _, _ => none
 | k + 1, v2, v0 => (bif decide (v2 < (v0.f3.length : Int)) then ((ix v0.f3 v2).bind fun v4 => (bif decide (v4.f0 = (⟨#[]⟩ : ByteArray)) then (bif decide (v4.f1 = (⟨#[]⟩ : ByteArray)) then (spec_PatternFault.j1 k v2 v0) else ((spec_LabelsFault.f k v4.f1).bind fun v5 => (bif (v5 == 0) then (spec_PatternFault.j1 k v2 v0) else (some 1)))) else ((spec_l06Name.f k v4.f0).bind fun v6 => (bif v6 then (bif decide (v4.f1 = (⟨#[]⟩ : ByteArray)) then (spec_PatternFault.j1 k v2 v0) else ((spec_LabelsFault.f k v4.f1).bind fun v7 => (bif (v7 == 0) then (spec_PatternFault.j1 k v2 v0) else (some 1)))) else (some 1))))) else (spec_PatternFault.l1 k 0 v0))
def spec_PatternFault.j0 : Nat → S30 → Option (Int)
 | 0, _ => none
 | k + 1, v0 => (spec_PatternFault.l0 k 0 v0)
def spec_PatternFault.f : Nat → S30 → Option (Int)
 | 0, _ => none
 | k + 1, v0 => (bif decide ((v0.f3.length : Int) < 1) then (some 1) else (bif decide (10 < (v0.f3.length : Int)) then (some 1) else (bif ((v0.f4.length : Int) == (IntKind.i64.wrap ((v0.f3.length : Int) - 1))) then (bif decide (v0.f1 < 0) then (some 1) else (bif decide (2 < v0.f1) then (some 1) else (bif decide (v0.f0 = (⟨#[]⟩ : ByteArray)) then (spec_PatternFault.j0 k v0) else ((spec_l06Name.f k v0.f0).bind fun v1 => (bif v1 then (spec_PatternFault.j0 k v0) else (some 1)))))) else (some 1))))
end
set_option maxRecDepth 100000 in
set_option maxHeartbeats 4000000 in
theorem spec_PatternFault.con {K : Kn} [KOk K] {k : Nat} {v0 : S30} {r : Int} (h : spec_PatternFault.f k v0 = some r) : Con K Tryd.prog 11 [.agg [.p (.str v0.f0), .p (.int .i64 v0.f1), .p (.bool v0.f2), .p (.lst false (List.map en45 v0.f3)), .p (.lst false (List.map en49 v0.f4))]] [] (.p (.int .i64 r)) [] := by
 cases k with
 | zero => exact absurd h (by simp [spec_PatternFault.f])
 | succ k =>
 rw [spec_PatternFault.f] at h
 refine con_intro 123 [] Tryd.func11 (by kernel_rfl) rfl rfl (by kernel_rfl) fun ι0 w0 hk0 => ?_
 revert h
 refine go 4 ?_
 refine good_cut_f (fun st => ∃ (q_ : Nat), q_ ≤ k ∧ st = ⟨[(1, .ptr 1 1 0)], [(1, (1, .cells [.p (.str v0.f0), .p (.int .i64 v0.f1), .p (.bool v0.f2), .p (.lst false (List.map en45 v0.f3)), .p (.lst false (List.map en49 v0.f4))]))]⟩ ∧ spec_PatternFault.j0 q_ v0 = some r) ?_ (fun hj0 => ?_)
 ·skip
  rintro _ ⟨q_, hqj0, rfl, h⟩
  cases q_ with
  | zero => exact absurd h (by simp [spec_PatternFault.j0])
  | succ kj0 =>
  rw [spec_PatternFault.j0] at h
  revert h
  refine go 5 ?_
  refine fun h => good_loop (fun n st => n ≤ kj0 ∧ ∃ (v2 : _) (g3 : Nat), st = ⟨[(1, .ptr 1 1 0), (3, .p (.int .i64 v2))], [(1, (1, .cells [.p (.str v0.f0), .p (.int .i64 v0.f1), .p (.bool v0.f2), .p (.lst false (List.map en45 v0.f3)), .p (.lst false (List.map en49 v0.f4))])), (4, (g3, .gone))]⟩ ∧ spec_PatternFault.l0 n v2 v0 = some r) kj0 ⟨_, ⟨Nat.le_refl _, _, 0, rfl, h⟩, frle_, memle_⟩ ?_
  clear h
  rintro n _ ⟨hkl0, v2, g3, rfl, h⟩ hl0
  cases n with
  | zero => exact absurd h (by simp [spec_PatternFault.l0])
  | succ kl0 =>
  rw [spec_PatternFault.l0] at h
  revert h
  refine bif_e (fun c1 => ?_) (fun c1 => ?_)
  ·refine bind_e (fun v4 e4 => ?_)
   replace e4 := nf_ (ix_en en45 e4)
   refine go 10 ?_
   refine good_cut_f (fun st => ∃ (q_ : Nat), q_ ≤ kl0 ∧ st = ⟨[(1, .ptr 1 1 0), (3, .p (.int .i64 v2))], [(1, (1, .cells [.p (.str v0.f0), .p (.int .i64 v0.f1), .p (.bool v0.f2), .p (.lst false (List.map en45 v0.f3)), .p (.lst false (List.map en49 v0.f4))])), (4, (g3 + 1, .gone))]⟩ ∧ spec_PatternFault.j1 q_ v2 v0 = some r) ?_ (fun hj1 => ?_)
   ·clear c1 e4
    rintro _ ⟨q_, hqj1, rfl, h⟩
    cases q_ with
    | zero => exact absurd h (by simp [spec_PatternFault.j1])
    | succ kj1 =>
    rw [spec_PatternFault.j1] at h
    revert h
    refine go 3 ?_
    exact fun h => good_again hl0 (by omega) ⟨_, ⟨by omega, _, g3 + 1, rfl, h⟩, frle_, memle_⟩
   ·refine bif_e (fun c2 => ?_) (fun c2 => ?_)
    ·refine bif_e (fun c3 => ?_) (fun c3 => ?_)
     ·refine go 2 ?_
      exact fun h => good_jump hj1 ⟨_, ⟨_, by omega, rfl, h⟩, frle_, memle_⟩
     ·refine grs ?_
      refine gr_run ?_
      refine bind_e (fun v5 e5 => gr_call [] (spec_LabelsFault.con e5) ?_)
      clear e5
      refine gr_run ?_
      refine gr_done ?_
      refine bif_e (fun c4 => ?_) (fun c4 => ?_)
      ·refine go 1 ?_
       exact fun h => good_jump hj1 ⟨_, ⟨_, by omega, rfl, h⟩, frle_, memle_⟩
      ·refine go 3 ?_
       refine ret_e (fun hr_ => ?_)
       subst hr_
       exact ret_ Tryd.func11 []
    ·refine grs ?_
     refine gr_run ?_
     refine bind_e (fun v6 e6 => gr_call [] (spec_l06Name.con e6) ?_)
     clear e6
     refine bif_e (fun c5 => ?_) (fun c5 => ?_)
     ·refine bif_e (fun c6 => ?_) (fun c6 => ?_)
      ·refine gr_run ?_
       refine gr_done ?_
       refine go 1 ?_
       exact fun h => good_jump hj1 ⟨_, ⟨_, by omega, rfl, h⟩, frle_, memle_⟩
      ·refine gr_run ?_
       refine bind_e (fun v7 e7 => gr_call [] (spec_LabelsFault.con e7) ?_)
       clear e7
       refine gr_run ?_
       refine gr_done ?_
       refine bif_e (fun c7 => ?_) (fun c7 => ?_)
       ·refine go 1 ?_
        exact fun h => good_jump hj1 ⟨_, ⟨_, by omega, rfl, h⟩, frle_, memle_⟩
       ·refine go 3 ?_
        refine ret_e (fun hr_ => ?_)
        subst hr_
        exact ret_ Tryd.func11 []
     ·refine gr_run ?_
      refine gr_done ?_
      refine go 3 ?_
      refine ret_e (fun hr_ => ?_)
      subst hr_
      exact ret_ Tryd.func11 []
  ·refine go 9 ?_
   refine fun h => good_loop (fun n st => n ≤ kl0 ∧ ∃ (v8 : _), st = ⟨[(1, .ptr 1 1 0), (5, .p (.int .i64 v8))], [(1, (1, .cells [.p (.str v0.f0), .p (.int .i64 v0.f1), .p (.bool v0.f2), .p (.lst false (List.map en45 v0.f3)), .p (.lst false (List.map en49 v0.f4))])), (4, (g3, .gone))]⟩ ∧ spec_PatternFault.l1 n v8 v0 = some r) kl0 ⟨_, ⟨Nat.le_refl _, _, rfl, h⟩, frle_, memle_⟩ ?_
   clear c1
   clear h
   rintro n _ ⟨hkl1, v8, rfl, h⟩ hl1
   cases n with
   | zero => exact absurd h (by simp [spec_PatternFault.l1])
   | succ kl1 =>
   rw [spec_PatternFault.l1] at h
   revert h
   refine bif_e (fun c8 => ?_) (fun c8 => ?_)
   ·refine bind_e (fun v9 e9 => ?_)
    replace e9 := nf_ (ix_en en49 e9)
    refine go 8 ?_
    refine grs ?_
    refine gr_run ?_
    refine bind_e (fun v10 e10 => gr_call [] (spec_l08Edge.con e10) ?_)
    clear e10
    refine gr_run ?_
    refine gr_done ?_
    refine bif_e (fun c9 => ?_) (fun c9 => ?_)
    ·refine go 4 ?_
     exact fun h => good_again hl1 (by omega) ⟨_, ⟨by omega, _, rfl, h⟩, frle_, memle_⟩
    ·refine go 3 ?_
     refine ret_e (fun hr_ => ?_)
     subst hr_
     exact ret_ Tryd.func11 []
   ·refine go 6 ?_
    refine grs ?_
    refine gr_run ?_
    refine bind_e (fun v11 e11 => gr_call [] (spec_l08Names.con e11) ?_)
    clear e11
    refine gr_run ?_
    refine gr_done ?_
    refine go 4 ?_
    refine fun h => good_loop (fun n st => n ≤ kl1 ∧ ∃ (v12 : _), st = ⟨[(6, .p (.lst false (List.map srw v11.1))), (7, .p (.lst false (List.map srw v11.2))), (8, .p (.int .i64 v12))], [(1, (1, .gone)), (4, (g3, .gone))]⟩ ∧ spec_PatternFault.l2 n v11 v12 = some r) kl1 ⟨_, ⟨Nat.le_refl _, _, rfl, h⟩, frle_, memle_⟩ ?_
    clear c8
    clear h
    rintro n _ ⟨hkl2, v12, rfl, h⟩ hl2
    cases n with
    | zero => exact absurd h (by simp [spec_PatternFault.l2])
    | succ kl2 =>
    rw [spec_PatternFault.l2] at h
    revert h
    refine bif_e (fun c10 => ?_) (fun c10 => ?_)
    ·refine bind_e (fun v13 e13 => ?_)
     replace e13 := nf_ (ix_en srw e13)
     refine go 8 ?_
     refine grs ?_
     refine gr_run ?_
     refine bind_e (fun v14 e14 => gr_call [] (spec_l01InTexts.con e14) ?_)
     clear e14
     refine bif_e (fun c11 => ?_) (fun c11 => ?_)
     ·refine gr_run ?_
      refine gr_done ?_
      refine go 3 ?_
      refine ret_e (fun hr_ => ?_)
      subst hr_
      exact ret_ Tryd.func11 []
     ·refine bind_e (fun v15 e15 => ?_)
      replace e15 := nf_ (lsub_en srw e15)
      refine gr_run ?_
      refine bind_e (fun v17 e17 => gr_call [] (spec_l01InTexts.con e17) ?_)
      clear e17
      refine gr_run ?_
      refine gr_done ?_
      refine bif_e (fun c12 => ?_) (fun c12 => ?_)
      ·refine go 3 ?_
       refine ret_e (fun hr_ => ?_)
       subst hr_
       exact ret_ Tryd.func11 []
      ·refine go 4 ?_
       exact fun h => good_again hl2 (by omega) ⟨_, ⟨by omega, _, rfl, h⟩, frle_, memle_⟩
    ·refine go 7 ?_
     refine ret_e (fun hr_ => ?_)
     subst hr_
     exact ret_ Tryd.func11 []
 ·refine bif_e (fun c13 => ?_) (fun c13 => ?_)
  ·refine go 4 ?_
   refine ret_e (fun hr_ => ?_)
   subst hr_
   exact ret_ Tryd.func11 []
  ·refine bif_e (fun c14 => ?_) (fun c14 => ?_)
   ·refine go 4 ?_
    refine ret_e (fun hr_ => ?_)
    subst hr_
    exact ret_ Tryd.func11 []
   ·refine bif_e (fun c15 => ?_) (fun c15 => ?_)
    ·refine bif_e (fun c16 => ?_) (fun c16 => ?_)
     ·refine go 4 ?_
      refine ret_e (fun hr_ => ?_)
      subst hr_
      exact ret_ Tryd.func11 []
     ·refine bif_e (fun c17 => ?_) (fun c17 => ?_)
      ·refine go 4 ?_
       refine ret_e (fun hr_ => ?_)
       subst hr_
       exact ret_ Tryd.func11 []
      ·refine bif_e (fun c18 => ?_) (fun c18 => ?_)
       ·refine go 2 ?_
        exact fun h => good_jump hj0 ⟨_, ⟨_, by omega, rfl, h⟩, frle_, memle_⟩
       ·refine grs ?_
        refine gr_run ?_
        refine bind_e (fun v1 e1 => gr_call [] (spec_l06Name.con e1) ?_)
        clear e1
        refine gr_run ?_
        refine gr_done ?_
        refine bif_e (fun c19 => ?_) (fun c19 => ?_)
        ·refine go 1 ?_
         exact fun h => good_jump hj0 ⟨_, ⟨_, by omega, rfl, h⟩, frle_, memle_⟩
        ·refine go 3 ?_
         refine ret_e (fun hr_ => ?_)
         subst hr_
         exact ret_ Tryd.func11 []
    ·refine go 4 ?_
     refine ret_e (fun hr_ => ?_)
     subst hr_
     exact ret_ Tryd.func11 []
def spec_l08ShowNode.f (k : Nat) (v0 : S45) : Option (ByteArray) := (bif decide (v0.f1 = (⟨#[]⟩ : ByteArray)) then ((cat (⟨#[40]⟩ : ByteArray) v0.f0).bind fun v1 => ((cat v1 (⟨#[41]⟩ : ByteArray)).bind fun v2 => (some v2))) else ((cat (⟨#[40]⟩ : ByteArray) v0.f0).bind fun v3 => ((cat v3 (⟨#[58]⟩ : ByteArray)).bind fun v4 => ((cat v4 v0.f1).bind fun v5 => ((cat v5 (⟨#[41]⟩ : ByteArray)).bind fun v6 => (some v6))))))
set_option maxRecDepth 100000 in
set_option maxHeartbeats 4000000 in
theorem spec_l08ShowNode.con {K : Kn} [KOk K] {k : Nat} {v0 : S45} {r : ByteArray} (h : spec_l08ShowNode.f k v0 = some r) : Con K Tryd.prog 26 [.agg [.p (.str v0.f0), .p (.str v0.f1)]] [] (.p (.str r)) [] := by
 rw [spec_l08ShowNode.f] at h
 refine con_intro 18 [] Tryd.func26 (by kernel_rfl) rfl rfl (by kernel_rfl) fun ι0 w0 hk0 => ?_
 revert h
 refine bif_e (fun c1 => ?_) (fun c1 => ?_)
 ·refine bind_e (fun v1 e1 => ?_)
  refine bind_e (fun v2 e2 => ?_)
  refine go 8 ?_
  refine ret_e (fun hr_ => ?_)
  subst hr_
  exact ret_ Tryd.func26 []
 ·refine bind_e (fun v3 e3 => ?_)
  refine bind_e (fun v4 e4 => ?_)
  refine bind_e (fun v5 e5 => ?_)
  refine bind_e (fun v6 e6 => ?_)
  refine go 9 ?_
  refine ret_e (fun hr_ => ?_)
  subst hr_
  exact ret_ Tryd.func26 []
def spec_l01Dec.f : Nat → Int → Option (ByteArray)
 | 0, _ => none
 | k + 1, v0 => (bif decide (v0 < 0) then (bif decide ((-10) < v0) then ((spec_l01Dec.f k (IntKind.i64.wrap (0 - v0))).bind fun v1 => ((cat (⟨#[45]⟩ : ByteArray) v1).bind fun v2 => (some v2))) else ((quo .i64 v0 10).bind fun v3 => ((spec_l01Dec.f k v3).bind fun v4 => ((rem v0 10).bind fun v5 => ((cat v4 (bstr ([(IntKind.u8.wrap (IntKind.i64.wrap (48 - v5)))] : List Int))).bind fun v6 => (some v6)))))) else (bif decide (v0 < 10) then (some (bstr ([(IntKind.u8.wrap (IntKind.i64.wrap (48 + v0)))] : List Int))) else ((quo .i64 v0 10).bind fun v7 => ((spec_l01Dec.f k v7).bind fun v8 => ((rem v0 10).bind fun v9 => ((cat v8 (bstr ([(IntKind.u8.wrap (IntKind.i64.wrap (48 + v9)))] : List Int))).bind fun v10 => (some v10)))))))
def spec_l01Dec.C (K : Kn) (k : Nat) : Prop := ∀ (v0 : Int) (r : ByteArray), spec_l01Dec.f k v0 = some r → Con K Tryd.prog 42 [.p (.int .i64 v0)] [] (.p (.str r)) []
set_option maxRecDepth 100000 in
set_option maxHeartbeats 4000000 in
theorem spec_l01Dec.con1 {K : Kn} [KOk K] (k : Nat) (spec_l01Dec_ih : ∀ m, m < k → spec_l01Dec.C K m) : spec_l01Dec.C K k := by
 intro v0 r h
 cases k with
 | zero => exact absurd h (by simp [spec_l01Dec.f])
 | succ k =>
 rw [spec_l01Dec.f] at h
 refine con_intro 38 [] Tryd.func42 (by kernel_rfl) rfl rfl (by kernel_rfl) fun ι0 w0 hk0 => ?_
 revert h
 refine bif_e (fun c1 => ?_) (fun c1 => ?_)
 ·refine bif_e (fun c2 => ?_) (fun c2 => ?_)
  ·refine go 11 ?_
   refine grs ?_
   refine gr_run ?_
   refine bind_e (fun v1 e1 => gr_call [] (spec_l01Dec_ih _ (by omega) _ _ e1) ?_)
   clear e1
   refine bind_e (fun v2 e2 => ?_)
   refine gr_run ?_
   refine gr_done ?_
   refine ret_e (fun hr_ => ?_)
   subst hr_
   exact ret_ Tryd.func42 []
  ·refine bind_e (fun v3 e3 => ?_)
   refine go 12 ?_
   refine grs ?_
   refine gr_run ?_
   refine bind_e (fun v4 e4 => gr_call [] (spec_l01Dec_ih _ (by omega) _ _ e4) ?_)
   clear e4
   refine bind_e (fun v5 e5 => ?_)
   refine bind_e (fun v6 e6 => ?_)
   refine gr_run ?_
   refine gr_done ?_
   refine ret_e (fun hr_ => ?_)
   subst hr_
   exact ret_ Tryd.func42 []
 ·refine bif_e (fun c3 => ?_) (fun c3 => ?_)
  ·refine go 13 ?_
   refine ret_e (fun hr_ => ?_)
   subst hr_
   exact ret_ Tryd.func42 []
  ·refine bind_e (fun v7 e7 => ?_)
   refine go 13 ?_
   refine grs ?_
   refine gr_run ?_
   refine bind_e (fun v8 e8 => gr_call [] (spec_l01Dec_ih _ (by omega) _ _ e8) ?_)
   clear e8
   refine bind_e (fun v9 e9 => ?_)
   refine bind_e (fun v10 e10 => ?_)
   refine gr_run ?_
   refine gr_done ?_
   refine ret_e (fun hr_ => ?_)
   subst hr_
   exact ret_ Tryd.func42 []
theorem spec_l01Dec.all {K : Kn} [KOk K] (k : Nat) : spec_l01Dec.C K k := by
 induction k using Nat.strongRecOn with
 | _ k ih => exact spec_l01Dec.con1 k ih
theorem spec_l01Dec.con {K : Kn} [KOk K] {k : Nat} {v0 : Int} {r : ByteArray} (h : spec_l01Dec.f k v0 = some r) : Con K Tryd.prog 42 [.p (.int .i64 v0)] [] (.p (.str r)) [] := (spec_l01Dec.all k) _ r h
mutual
def spec_l08ShowEdge.j0 : Nat → ByteArray → Int → S49 → Option (ByteArray)
 | 0, _, _, _ => none
 | k + 1, v10, v3, v0 => (spec_l08ShowEdge.l0 k v10 (IntKind.i64.wrap (v3 + 1)) v0)
def spec_l08ShowEdge.j1 : Nat → ByteArray → S49 → Bool → Option (ByteArray)
 | 0, _, _, _ => none
 | k + 1, v17, v0, v18 => (bif (v0.f2 == 1) then ((cat (⟨#[45]⟩ : ByteArray) v17).bind fun v19 => ((cat v19 (⟨#[93, 45, 62]⟩ : ByteArray)).bind fun v20 => (some v20))) else (bif (v0.f2 == 2) then ((cat (⟨#[60, 45]⟩ : ByteArray) v17).bind fun v21 => ((cat v21 (⟨#[93, 45]⟩ : ByteArray)).bind fun v22 => (some v22))) else ((cat (⟨#[45]⟩ : ByteArray) v17).bind fun v23 => ((cat v23 (⟨#[93, 45]⟩ : ByteArray)).bind fun v24 => (some v24)))))
def spec_l08ShowEdge.l0 : Nat → ByteArray → Int → S49 → Option (ByteArray)
 | 0, _, _, _ => none
 | k + 1, v2, v3, v0 => (bif decide (v3 < (v0.f1.length : Int)) then (bif (v3 == 0) then ((cat v2 (⟨#[58]⟩ : ByteArray)).bind fun v4 => ((ix v0.f1 0).bind fun v5 => ((cat v4 v5).bind fun v6 => (spec_l08ShowEdge.j0 k v6 v3 v0)))) else ((cat v2 (⟨#[124]⟩ : ByteArray)).bind fun v7 => ((ix v0.f1 v3).bind fun v8 => ((cat v7 v8).bind fun v9 => (spec_l08ShowEdge.j0 k v9 v3 v0))))) else (bif v0.f3 then ((cat v2 (⟨#[42]⟩ : ByteArray)).bind fun v11 => ((spec_l01Dec.f k v0.f4).bind fun v12 => ((cat v11 v12).bind fun v13 => ((cat v13 (⟨#[46, 46]⟩ : ByteArray)).bind fun v14 => ((spec_l01Dec.f k v0.f5).bind fun v15 => ((cat v14 v15).bind fun v16 => (spec_l08ShowEdge.j1 k v16 v0 true))))))) else (spec_l08ShowEdge.j1 k v2 v0 false)))
def spec_l08ShowEdge.f : Nat → S49 → Option (ByteArray)
 | 0, _ => none
 | k + 1, v0 => ((cat (⟨#[91]⟩ : ByteArray) v0.f0).bind fun v1 => (spec_l08ShowEdge.l0 k v1 0 v0))
end
set_option maxRecDepth 100000 in
set_option maxHeartbeats 4000000 in
theorem spec_l08ShowEdge.con {K : Kn} [KOk K] {k : Nat} {v0 : S49} {r : ByteArray} (h : spec_l08ShowEdge.f k v0 = some r) : Con K Tryd.prog 27 [.agg [.p (.str v0.f0), .p (.lst false (List.map srw v0.f1)), .p (.int .i64 v0.f2), .p (.bool v0.f3), .p (.int .i64 v0.f4), .p (.int .i64 v0.f5)]] [] (.p (.str r)) [] := by
 cases k with
 | zero => exact absurd h (by simp [spec_l08ShowEdge.f])
 | succ k =>
 rw [spec_l08ShowEdge.f] at h
 refine con_intro 60 [] Tryd.func27 (by kernel_rfl) rfl rfl (by kernel_rfl) fun ι0 w0 hk0 => ?_
 revert h
 refine bind_e (fun v1 e1 => ?_)
 refine go 8 ?_
 refine fun h => good_loop (fun n st => n ≤ k ∧ ∃ (v2 : _) (v3 : _), st = ⟨[(1, .ptr 1 1 0), (3, .p (.str v2)), (4, .p (.int .i64 v3))], [(1, (1, .cells [.p (.str v0.f0), .p (.lst false (List.map srw v0.f1)), .p (.int .i64 v0.f2), .p (.bool v0.f3), .p (.int .i64 v0.f4), .p (.int .i64 v0.f5)]))]⟩ ∧ spec_l08ShowEdge.l0 n v2 v3 v0 = some r) k ⟨_, ⟨Nat.le_refl _, _, _, rfl, h⟩, frle_, memle_⟩ ?_
 clear e1
 clear h
 rintro n _ ⟨hkl0, v2, v3, rfl, h⟩ hl0
 cases n with
 | zero => exact absurd h (by simp [spec_l08ShowEdge.l0])
 | succ kl0 =>
 rw [spec_l08ShowEdge.l0] at h
 revert h
 refine bif_e (fun c1 => ?_) (fun c1 => ?_)
 ·refine go 6 ?_
  refine good_cut (fun st => ∃ (v10 : _) (q_ : Nat), q_ ≤ kl0 ∧ st = ⟨[(1, .ptr 1 1 0), (3, .p (.str v10)), (4, .p (.int .i64 v3))], [(1, (1, .cells [.p (.str v0.f0), .p (.lst false (List.map srw v0.f1)), .p (.int .i64 v0.f2), .p (.bool v0.f3), .p (.int .i64 v0.f4), .p (.int .i64 v0.f5)]))]⟩ ∧ spec_l08ShowEdge.j0 q_ v10 v3 v0 = some r) ?_ (fun hj0 => ?_)
  ·clear c1
   rintro _ ⟨v10, q_, hqj0, rfl, h⟩
   cases q_ with
   | zero => exact absurd h (by simp [spec_l08ShowEdge.j0])
   | succ kj0 =>
   rw [spec_l08ShowEdge.j0] at h
   revert h
   refine go 1 ?_
   exact fun h => good_again hl0 (by omega) ⟨_, ⟨by omega, _, _, rfl, h⟩, frle_, memle_⟩
  ·refine bif_e (fun c2 => ?_) (fun c2 => ?_)
   ·refine bind_e (fun v4 e4 => ?_)
    refine bind_e (fun v5 e5 => ?_)
    replace e5 := nf_ (ix_en srw e5)
    refine bind_e (fun v6 e6 => ?_)
    refine go 6 ?_
    exact fun h => good_jump hj0 ⟨_, ⟨_, _, by omega, rfl, h⟩, frle_, memle_⟩
   ·refine bind_e (fun v7 e7 => ?_)
    refine bind_e (fun v8 e8 => ?_)
    replace e8 := nf_ (ix_en srw e8)
    refine bind_e (fun v9 e9 => ?_)
    refine go 6 ?_
    exact fun h => good_jump hj0 ⟨_, ⟨_, _, by omega, rfl, h⟩, frle_, memle_⟩
 ·refine go 6 ?_
  refine good_cut (fun st => ∃ (v17 : _) (v18 : _) (q_ : Nat), q_ ≤ kl0 ∧ st = ⟨[(1, .ptr 1 1 0), (3, .p (.str v17))], [(1, (1, .cells [.p (.str v0.f0), .p (.lst false (List.map srw v0.f1)), .p (.int .i64 v0.f2), .p (.bool v18), .p (.int .i64 v0.f4), .p (.int .i64 v0.f5)]))]⟩ ∧ spec_l08ShowEdge.j1 q_ v17 v0 v18 = some r) ?_ (fun hj1 => ?_)
  ·clear c1
   rintro _ ⟨v17, v18, q_, hqj1, rfl, h⟩
   cases q_ with
   | zero => exact absurd h (by simp [spec_l08ShowEdge.j1])
   | succ kj1 =>
   rw [spec_l08ShowEdge.j1] at h
   revert h
   refine bif_e (fun c3 => ?_) (fun c3 => ?_)
   ·refine bind_e (fun v19 e19 => ?_)
    refine bind_e (fun v20 e20 => ?_)
    refine go 9 ?_
    refine ret_e (fun hr_ => ?_)
    subst hr_
    exact ret_ Tryd.func27 []
   ·refine bif_e (fun c4 => ?_) (fun c4 => ?_)
    ·refine bind_e (fun v21 e21 => ?_)
     refine bind_e (fun v22 e22 => ?_)
     refine go 12 ?_
     refine ret_e (fun hr_ => ?_)
     subst hr_
     exact ret_ Tryd.func27 []
    ·refine bind_e (fun v23 e23 => ?_)
     refine bind_e (fun v24 e24 => ?_)
     refine go 14 ?_
     refine ret_e (fun hr_ => ?_)
     subst hr_
     exact ret_ Tryd.func27 []
  ·refine bif_e (fun c5 => ?_) (fun c5 => ?_)
   ·refine bind_e (fun v11 e11 => ?_)
    refine go 3 ?_
    refine grs ?_
    refine gr_run ?_
    refine bind_e (fun v12 e12 => gr_call [] (spec_l01Dec.con e12) ?_)
    clear e12
    refine bind_e (fun v13 e13 => ?_)
    refine bind_e (fun v14 e14 => ?_)
    refine gr_run ?_
    refine bind_e (fun v15 e15 => gr_call [] (spec_l01Dec.con e15) ?_)
    clear e15
    refine bind_e (fun v16 e16 => ?_)
    refine gr_run ?_
    refine gr_done ?_
    exact fun h => good_jump hj1 ⟨_, ⟨_, _, _, by omega, rfl, h⟩, frle_, memle_⟩
   ·refine go 4 ?_
    exact fun h => good_jump hj1 ⟨_, ⟨_, _, _, by omega, rfl, h⟩, frle_, memle_⟩
mutual
def spec_l08Show.l0 : Nat → ByteArray → Int → S30 → Bool → Option (ByteArray)
 | 0, _, _, _, _ => none
 | k + 1, v12, v13, v0, v8 => (bif decide (v13 < (v0.f4.length : Int)) then ((ix v0.f4 v13).bind fun v14 => ((spec_l08ShowEdge.f k v14).bind fun v15 => ((cat v12 v15).bind fun v16 => ((ix v0.f3 (IntKind.i64.wrap (v13 + 1))).bind fun v17 => ((spec_l08ShowNode.f k v17).bind fun v18 => ((cat v16 v18).bind fun v19 => (spec_l08Show.l0 k v19 (IntKind.i64.wrap (v13 + 1)) v0 v8))))))) else (some v12))
def spec_l08Show.j2 : Nat → ByteArray → S30 → Bool → Option (ByteArray)
 | 0, _, _, _ => none
 | k + 1, v7, v0, v8 => ((ix v0.f3 0).bind fun v9 => ((spec_l08ShowNode.f k v9).bind fun v10 => ((cat v7 v10).bind fun v11 => (spec_l08Show.l0 k v11 0 v0 v8))))
def spec_l08Show.j1 : Nat → ByteArray → S30 → Option (ByteArray)
 | 0, _, _ => none
 | k + 1, v5, v0 => (bif v0.f2 then ((cat v5 (⟨#[115, 104, 111, 114, 116, 101, 115, 116, 32]⟩ : ByteArray)).bind fun v6 => (spec_l08Show.j2 k v6 v0 true)) else (spec_l08Show.j2 k v5 v0 false))
def spec_l08Show.j0 : Nat → ByteArray → S30 → Option (ByteArray)
 | 0, _, _ => none
 | k + 1, v2, v0 => (bif (v0.f1 == 1) then ((cat v2 (⟨#[119, 97, 108, 107, 32]⟩ : ByteArray)).bind fun v3 => (spec_l08Show.j1 k v3 v0)) else (bif (v0.f1 == 2) then ((cat v2 (⟨#[115, 105, 109, 112, 108, 101, 32]⟩ : ByteArray)).bind fun v4 => (spec_l08Show.j1 k v4 v0)) else (spec_l08Show.j1 k v2 v0)))
def spec_l08Show.f : Nat → S30 → Option (ByteArray)
 | 0, _ => none
 | k + 1, v0 => (bif decide (v0.f0 = (⟨#[]⟩ : ByteArray)) then (spec_l08Show.j0 k (⟨#[]⟩ : ByteArray) v0) else ((cat v0.f0 (⟨#[32, 61, 32]⟩ : ByteArray)).bind fun v1 => (spec_l08Show.j0 k v1 v0)))
end
set_option maxRecDepth 100000 in
set_option maxHeartbeats 4000000 in
theorem spec_l08Show.con {K : Kn} [KOk K] {k : Nat} {v0 : S30} {r : ByteArray} (h : spec_l08Show.f k v0 = some r) : Con K Tryd.prog 12 [.agg [.p (.str v0.f0), .p (.int .i64 v0.f1), .p (.bool v0.f2), .p (.lst false (List.map en45 v0.f3)), .p (.lst false (List.map en49 v0.f4))]] [] (.p (.str r)) [] := by
 cases k with
 | zero => exact absurd h (by simp [spec_l08Show.f])
 | succ k =>
 rw [spec_l08Show.f] at h
 refine con_intro 56 [] Tryd.func12 (by kernel_rfl) rfl rfl (by kernel_rfl) fun ι0 w0 hk0 => ?_
 revert h
 refine go 5 ?_
 refine good_cut (fun st => ∃ (v2 : _) (q_ : Nat), q_ ≤ k ∧ st = ⟨[(1, .ptr 1 1 0), (3, .p (.str v2))], [(1, (1, .cells [.p (.str v0.f0), .p (.int .i64 v0.f1), .p (.bool v0.f2), .p (.lst false (List.map en45 v0.f3)), .p (.lst false (List.map en49 v0.f4))]))]⟩ ∧ spec_l08Show.j0 q_ v2 v0 = some r) ?_ (fun hj0 => ?_)
 ·skip
  rintro _ ⟨v2, q_, hqj0, rfl, h⟩
  cases q_ with
  | zero => exact absurd h (by simp [spec_l08Show.j0])
  | succ kj0 =>
  rw [spec_l08Show.j0] at h
  revert h
  refine go 1 ?_
  refine good_cut (fun st => ∃ (v5 : _) (q_ : Nat), q_ ≤ kj0 ∧ st = ⟨[(1, .ptr 1 1 0), (3, .p (.str v5))], [(1, (1, .cells [.p (.str v0.f0), .p (.int .i64 v0.f1), .p (.bool v0.f2), .p (.lst false (List.map en45 v0.f3)), .p (.lst false (List.map en49 v0.f4))]))]⟩ ∧ spec_l08Show.j1 q_ v5 v0 = some r) ?_ (fun hj1 => ?_)
  ·skip
   rintro _ ⟨v5, q_, hqj1, rfl, h⟩
   cases q_ with
   | zero => exact absurd h (by simp [spec_l08Show.j1])
   | succ kj1 =>
   rw [spec_l08Show.j1] at h
   revert h
   refine go 1 ?_
   refine good_cut (fun st => ∃ (v7 : _) (v8 : _) (q_ : Nat), q_ ≤ kj1 ∧ st = ⟨[(1, .ptr 1 1 0), (3, .p (.str v7))], [(1, (1, .cells [.p (.str v0.f0), .p (.int .i64 v0.f1), .p (.bool v8), .p (.lst false (List.map en45 v0.f3)), .p (.lst false (List.map en49 v0.f4))]))]⟩ ∧ spec_l08Show.j2 q_ v7 v0 v8 = some r) ?_ (fun hj2 => ?_)
   ·skip
    rintro _ ⟨v7, v8, q_, hqj2, rfl, h⟩
    cases q_ with
    | zero => exact absurd h (by simp [spec_l08Show.j2])
    | succ kj2 =>
    rw [spec_l08Show.j2] at h
    revert h
    refine bind_e (fun v9 e9 => ?_)
    replace e9 := nf_ (ix_en en45 e9)
    refine go 1 ?_
    refine grs ?_
    refine gr_run ?_
    refine bind_e (fun v10 e10 => gr_call [] (spec_l08ShowNode.con e10) ?_)
    clear e10
    refine bind_e (fun v11 e11 => ?_)
    refine gr_run ?_
    refine gr_done ?_
    refine go 4 ?_
    refine fun h => good_loop (fun n st => n ≤ kj2 ∧ ∃ (v12 : _) (v13 : _), st = ⟨[(1, .ptr 1 1 0), (3, .p (.str v12)), (4, .p (.int .i64 v13))], [(1, (1, .cells [.p (.str v0.f0), .p (.int .i64 v0.f1), .p (.bool v8), .p (.lst false (List.map en45 v0.f3)), .p (.lst false (List.map en49 v0.f4))]))]⟩ ∧ spec_l08Show.l0 n v12 v13 v0 v8 = some r) kj2 ⟨_, ⟨Nat.le_refl _, _, _, rfl, h⟩, frle_, memle_⟩ ?_
    clear e9 e11
    clear h
    rintro n _ ⟨hkl0, v12, v13, rfl, h⟩ hl0
    cases n with
    | zero => exact absurd h (by simp [spec_l08Show.l0])
    | succ kl0 =>
    rw [spec_l08Show.l0] at h
    revert h
    refine bif_e (fun c1 => ?_) (fun c1 => ?_)
    ·refine bind_e (fun v14 e14 => ?_)
     replace e14 := nf_ (ix_en en49 e14)
     refine go 7 ?_
     refine grs ?_
     refine gr_run ?_
     refine bind_e (fun v15 e15 => gr_call [] (spec_l08ShowEdge.con e15) ?_)
     clear e15
     refine bind_e (fun v16 e16 => ?_)
     refine bind_e (fun v17 e17 => ?_)
     replace e17 := nf_ (ix_en en45 e17)
     refine gr_run ?_
     refine bind_e (fun v18 e18 => gr_call [] (spec_l08ShowNode.con e18) ?_)
     clear e18
     refine bind_e (fun v19 e19 => ?_)
     refine gr_run ?_
     refine gr_done ?_
     refine go 2 ?_
     exact fun h => good_again hl0 (by omega) ⟨_, ⟨by omega, _, _, rfl, h⟩, frle_, memle_⟩
    ·refine go 7 ?_
     refine ret_e (fun hr_ => ?_)
     subst hr_
     exact ret_ Tryd.func12 []
   ·refine bif_e (fun c2 => ?_) (fun c2 => ?_)
    ·refine bind_e (fun v6 e6 => ?_)
     refine go 4 ?_
     exact fun h => good_jump hj2 ⟨_, ⟨_, _, _, by omega, rfl, h⟩, frle_, memle_⟩
    ·refine go 4 ?_
     exact fun h => good_jump hj2 ⟨_, ⟨_, _, _, by omega, rfl, h⟩, frle_, memle_⟩
  ·refine bif_e (fun c3 => ?_) (fun c3 => ?_)
   ·refine bind_e (fun v3 e3 => ?_)
    refine go 8 ?_
    exact fun h => good_jump hj1 ⟨_, ⟨_, _, by omega, rfl, h⟩, frle_, memle_⟩
   ·refine bif_e (fun c4 => ?_) (fun c4 => ?_)
    ·refine bind_e (fun v4 e4 => ?_)
     refine go 11 ?_
     exact fun h => good_jump hj1 ⟨_, ⟨_, _, by omega, rfl, h⟩, frle_, memle_⟩
    ·refine go 11 ?_
     exact fun h => good_jump hj1 ⟨_, ⟨_, _, by omega, rfl, h⟩, frle_, memle_⟩
 ·refine bif_e (fun c5 => ?_) (fun c5 => ?_)
  ·refine go 4 ?_
   exact fun h => good_jump hj0 ⟨_, ⟨_, _, by omega, rfl, h⟩, frle_, memle_⟩
  ·refine bind_e (fun v1 e1 => ?_)
   refine go 4 ?_
   exact fun h => good_jump hj0 ⟨_, ⟨_, _, by omega, rfl, h⟩, frle_, memle_⟩
def spec_ShowPattern.f (k : Nat) (v0 : S30) : Option (ByteArray) := ((spec_PatternFault.f k v0).bind fun v1 => (bif (v1 == 0) then ((spec_l08Show.f k v0).bind fun v2 => (some v2)) else (some (⟨#[]⟩ : ByteArray))))
set_option maxRecDepth 100000 in
set_option maxHeartbeats 4000000 in
theorem spec_ShowPattern.con {K : Kn} [KOk K] {k : Nat} {v0 : S30} {r : ByteArray} (h : spec_ShowPattern.f k v0 = some r) : Con K Tryd.prog 5 [.agg [.p (.str v0.f0), .p (.int .i64 v0.f1), .p (.bool v0.f2), .p (.lst false (List.map en45 v0.f3)), .p (.lst false (List.map en49 v0.f4))]] [] (.p (.str r)) [] := by
 rw [spec_ShowPattern.f] at h
 refine con_intro 8 [] Tryd.func5 (by kernel_rfl) rfl rfl (by kernel_rfl) fun ι0 w0 hk0 => ?_
 revert h
 refine go 4 ?_
 refine grs ?_
 refine gr_run ?_
 refine bind_e (fun v1 e1 => gr_call [] (spec_PatternFault.con e1) ?_)
 clear e1
 refine gr_run ?_
 refine gr_done ?_
 refine bif_e (fun c1 => ?_) (fun c1 => ?_)
 ·refine go 3 ?_
  refine grs ?_
  refine gr_run ?_
  refine bind_e (fun v2 e2 => gr_call [] (spec_l08Show.con e2) ?_)
  clear e2
  refine gr_run ?_
  refine gr_done ?_
  refine ret_e (fun hr_ => ?_)
  subst hr_
  exact ret_ Tryd.func5 []
 ·refine go 3 ?_
  refine ret_e (fun hr_ => ?_)
  subst hr_
  exact ret_ Tryd.func5 []
end Go.Ab
