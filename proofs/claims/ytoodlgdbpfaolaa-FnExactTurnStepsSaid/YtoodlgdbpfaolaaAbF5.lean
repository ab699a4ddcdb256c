/- What the functions compute, and their contracts, part 5. No condition beyond KOk. -/
import Derived.Test.YtoodlgdbpfaolaaAbX
import Derived.Test.YtoodlgdbpfaolaaAbF4
namespace Go.Ab
open Go.Proofs
set_option linter.unusedVariables false
set_option linter.unusedSimpArgs false
def impl_readTest.f (k : Nat) (v0 : ByteArray) : Option (S57 × Bool) := (bif decide (200 < (v0.size : Int)) then (some ((⟨0, (⟨#[]⟩ : ByteArray), ([] : (List S57))⟩ : S57), false)) else ((impl_testReader_or.f k (⟨v0, 0, 0, false⟩ : S67)).bind fun v1 => (bif v1.2.f3 then (some (v1.1, false)) else (bif (v1.2.f1 == (v0.size : Int)) then ((impl_test_show.f k v1.1).bind fun v2 => (bif decide (v2 = v0) then (some (v1.1, true)) else (some (v1.1, false)))) else (some (v1.1, false))))))
set_option maxRecDepth 100000 in
set_option maxHeartbeats 4000000 in
theorem impl_readTest.con {K : Kn} [KOk K] {k : Nat} {v0 : ByteArray} {r : S57 × Bool} (h : impl_readTest.f k v0 = some r) : Con K Try.prog 31 [.p (.str v0)] [] (.tup [.agg [.p (.int .u8 r.1.f0), .p (.str r.1.f1), .p (.lst false (List.map en57 r.1.f2))], .p (.bool r.2)]) [] := by
 rw [impl_readTest.f] at h
 refine con_intro 36 [] Try.func31 (by kernel_rfl) rfl rfl (by kernel_rfl) fun ι0 w0 hk0 => ?_
 revert h
 refine bif_e (fun c1 => ?_) (fun c1 => ?_)
 ·refine go 8 ?_
  refine ret_e (fun hr_ => ?_)
  subst hr_
  exact ret_ Try.func31 []
 ·refine go 10 ?_
  refine grs ?_
  refine gr_run ?_
  refine bind_e (fun v1 e1 => gr_call [(1000, (0, 12, 1))] (impl_testReader_or.con e1) ?_)
  clear e1
  refine gr_run ?_
  refine gr_done ?_
  refine bif_e (fun c2 => ?_) (fun c2 => ?_)
  ·refine go 6 ?_
   refine ret_e (fun hr_ => ?_)
   subst hr_
   exact ret_ Try.func31 []
  ·refine bif_e (fun c3 => ?_) (fun c3 => ?_)
   ·refine go 2 ?_
    refine grs ?_
    refine gr_run ?_
    refine bind_e (fun v2 e2 => gr_call [] (impl_test_show.con e2) ?_)
    clear e2
    refine gr_run ?_
    refine gr_done ?_
    refine bif_e (fun c4 => ?_) (fun c4 => ?_)
    ·refine go 4 ?_
     refine ret_e (fun hr_ => ?_)
     subst hr_
     exact ret_ Try.func31 []
    ·refine go 3 ?_
     refine ret_e (fun hr_ => ?_)
     subst hr_
     exact ret_ Try.func31 []
   ·refine go 6 ?_
    refine ret_e (fun hr_ => ?_)
    subst hr_
    exact ret_ Try.func31 []
def impl_LabelsFault.f (k : Nat) (v0 : ByteArray) : Option (Int) := ((impl_readTest.f k v0).bind fun v1 => (bif v1.2 then (some 0) else (some 1)))
set_option maxRecDepth 100000 in
set_option maxHeartbeats 4000000 in
theorem impl_LabelsFault.con {K : Kn} [KOk K] {k : Nat} {v0 : ByteArray} {r : Int} (h : impl_LabelsFault.f k v0 = some r) : Con K Try.prog 26 [.p (.str v0)] [] (.p (.int .i64 r)) [] := by
 rw [impl_LabelsFault.f] at h
 refine con_intro 12 [] Try.func26 (by kernel_rfl) rfl rfl (by kernel_rfl) fun ι0 w0 hk0 => ?_
 revert h
 refine go 4 ?_
 refine grs ?_
 refine gr_run ?_
 refine bind_e (fun v1 e1 => gr_call [] (impl_readTest.con e1) ?_)
 clear e1
 refine gr_run ?_
 refine gr_done ?_
 refine bif_e (fun c1 => ?_) (fun c1 => ?_)
 ·refine go 6 ?_
  refine ret_e (fun hr_ => ?_)
  subst hr_
  exact ret_ Try.func26 []
 ·refine go 5 ?_
  refine ret_e (fun hr_ => ?_)
  subst hr_
  exact ret_ Try.func26 []
mutual
def impl_walkTree_ok.j1 : Nat → S38 → Bool → Option (Bool)
 | 0, _, _ => none
 | k + 1, v0, v8 => (bif v8 then (bif ((v0.f1.length : Int) == 2) then (some (decide (v0.f0.f1 = (⟨#[]⟩ : ByteArray)))) else (some false)) else (bif (v0.f0.f0 == 6) then (bif ((v0.f1.length : Int) == 1) then (some (decide (v0.f0.f1 = (⟨#[]⟩ : ByteArray)))) else (some false)) else (bif (v0.f0.f0 == 7) then (bif ((v0.f1.length : Int) == 1) then (some (decide (v0.f0.f1 = (⟨#[]⟩ : ByteArray)))) else (some false)) else (bif (v0.f0.f0 == 8) then (bif ((v0.f1.length : Int) == 1) then (some (decide (v0.f0.f1 = (⟨#[]⟩ : ByteArray)))) else (some false)) else (some false)))))
def impl_walkTree_ok.j0 : Nat → S38 → Bool → Option (Bool)
 | 0, _, _ => none
 | k + 1, v0, v5 => (bif v5 then (bif ((v0.f1.length : Int) == 0) then ((impl_isName.f k v0.f0.f1).bind fun v6 => (some v6)) else (some false)) else (bif (v0.f0.f0 == 3) then (bif ((v0.f1.length : Int) == 0) then ((impl_LabelsFault.f k v0.f0.f1).bind fun v7 => (some (v7 == 0))) else (some false)) else (bif (v0.f0.f0 == 4) then (impl_walkTree_ok.j1 k v0 true) else (impl_walkTree_ok.j1 k v0 (v0.f0.f0 == 5)))))
def impl_walkTree_ok.l0 : Nat → S38 → Int → Option (Bool)
 | 0, _, _ => none
 | k + 1, v0, v1 => (bif decide (v1 < (v0.f1.length : Int)) then ((ix v0.f1 v1).bind fun v3 => ((impl_walkTree_ok.f k v3).bind fun v4 => (bif v4 then (impl_walkTree_ok.l0 k v0 (IntKind.i64.wrap (v1 + 1))) else (some false)))) else (bif (v0.f0.f0 == 1) then (impl_walkTree_ok.j0 k v0 true) else (impl_walkTree_ok.j0 k v0 (v0.f0.f0 == 2))))
def impl_walkTree_ok.f : Nat → S38 → Option (Bool)
 | 0, _ => none
 | k + 1, v0 => (impl_walkTree_ok.l0 k v0 0)
end
def impl_walkTree_ok.C (K : Kn) (k : Nat) : Prop := ∀ (v0 : S38) (r : Bool), impl_walkTree_ok.f k v0 = some r → Con K Try.prog 22 [.agg [.p (.int .i64 v0.f0.f0), .p (.str v0.f0.f1), .p (.int .i64 v0.f0.f2), .p (.lst false (List.map en38 v0.f1))]] [] (.p (.bool r)) []
set_option maxRecDepth 100000 in
set_option maxHeartbeats 4000000 in
theorem impl_walkTree_ok.con1 {K : Kn} [KOk K] (k : Nat) (impl_walkTree_ok_ih : ∀ m, m < k → impl_walkTree_ok.C K m) : impl_walkTree_ok.C K k := by
 intro v0 r h
 cases k with
 | zero => exact absurd h (by simp [impl_walkTree_ok.f])
 | succ k =>
 rw [impl_walkTree_ok.f] at h
 refine con_intro 68 [] Try.func22 (by kernel_rfl) rfl rfl (by kernel_rfl) fun ι0 w0 hk0 => ?_
 revert h
 refine go 6 ?_
 refine fun h => good_loop (fun n st => n ≤ k ∧ ∃ (v1 : _) (g2 : Nat), st = ⟨[(1, .ptr 1 1 0), (7, .p (.lst false (List.map en38 v0.f1))), (8, .p (.int .i64 (v0.f1.length : Int))), (9, .p (.int .i64 v1))], [(1, (1, .cells [.p (.int .i64 v0.f0.f0), .p (.str v0.f0.f1), .p (.int .i64 v0.f0.f2), .p (.lst false (List.map en38 v0.f1))])), (4, (g2, .gone))]⟩ ∧ impl_walkTree_ok.l0 n v0 v1 = some r) k ⟨_, ⟨Nat.le_refl _, _, 0, rfl, h⟩, frle_, memle_⟩ ?_
 clear h
 rintro n _ ⟨hkl0, v1, g2, rfl, h⟩ hl0
 cases n with
 | zero => exact absurd h (by simp [impl_walkTree_ok.l0])
 | succ kl0 =>
 rw [impl_walkTree_ok.l0] at h
 revert h
 refine bif_e (fun c1 => ?_) (fun c1 => ?_)
 ·refine bind_e (fun v3 e3 => ?_)
  replace e3 := nf_ (ix_en en38 e3)
  refine go 10 ?_
  refine grs ?_
  refine gr_run ?_
  refine bind_e (fun v4 e4 => gr_call [] (impl_walkTree_ok_ih _ (by omega) _ _ e4) ?_)
  clear e4
  refine gr_run ?_
  refine gr_done ?_
  refine bif_e (fun c2 => ?_) (fun c2 => ?_)
  ·refine go 4 ?_
   exact fun h => good_again hl0 (by omega) ⟨_, ⟨by omega, _, g2 + 1, rfl, h⟩, frle_, memle_⟩
  ·refine go 3 ?_
   refine ret_e (fun hr_ => ?_)
   subst hr_
   exact ret_ Try.func22 []
 ·refine go 12 ?_
  refine good_cut (fun st => ∃ (v5 : _) (q_ : Nat), q_ ≤ kl0 ∧ st = ⟨[(1, .ptr 1 1 0), (5, .p (.int .i64 (v0.f1.length : Int))), (22, .p (.int .i64 v0.f0.f0)), (23, .p (.bool v5))], [(1, (1, .cells [.p (.int .i64 v0.f0.f0), .p (.str v0.f0.f1), .p (.int .i64 v0.f0.f2), .p (.lst false (List.map en38 v0.f1))])), (4, (g2, .gone))]⟩ ∧ impl_walkTree_ok.j0 q_ v0 v5 = some r) ?_ (fun hj0 => ?_)
  ·clear c1
   rintro _ ⟨v5, q_, hqj0, rfl, h⟩
   cases q_ with
   | zero => exact absurd h (by simp [impl_walkTree_ok.j0])
   | succ kj0 =>
   rw [impl_walkTree_ok.j0] at h
   revert h
   refine bif_e (fun c3 => ?_) (fun c3 => ?_)
   ·refine bif_e (fun c4 => ?_) (fun c4 => ?_)
    ·refine go 2 ?_
     refine grs ?_
     refine gr_run ?_
     refine bind_e (fun v6 e6 => gr_call [] (impl_isName.con e6) ?_)
     clear e6
     refine gr_run ?_
     refine gr_done ?_
     refine ret_e (fun hr_ => ?_)
     subst hr_
     exact ret_ Try.func22 []
    ·refine go 3 ?_
     refine ret_e (fun hr_ => ?_)
     subst hr_
     exact ret_ Try.func22 []
   ·refine bif_e (fun c5 => ?_) (fun c5 => ?_)
    ·refine bif_e (fun c6 => ?_) (fun c6 => ?_)
     ·refine go 5 ?_
      refine grs ?_
      refine gr_run ?_
      refine bind_e (fun v7 e7 => gr_call [] (impl_LabelsFault.con e7) ?_)
      clear e7
      refine gr_run ?_
      refine gr_done ?_
      refine ret_e (fun hr_ => ?_)
      subst hr_
      exact ret_ Try.func22 []
     ·refine go 6 ?_
      refine ret_e (fun hr_ => ?_)
      subst hr_
      exact ret_ Try.func22 []
    ·refine go 5 ?_
     refine good_cut (fun st => ∃ (v8 : _) (q_ : Nat), q_ ≤ kj0 ∧ st = ⟨[(1, .ptr 1 1 0), (5, .p (.int .i64 (v0.f1.length : Int))), (22, .p (.int .i64 v0.f0.f0)), (45, .p (.bool v8))], [(1, (1, .cells [.p (.int .i64 v0.f0.f0), .p (.str v0.f0.f1), .p (.int .i64 v0.f0.f2), .p (.lst false (List.map en38 v0.f1))])), (4, (g2, .gone))]⟩ ∧ impl_walkTree_ok.j1 q_ v0 v8 = some r) ?_ (fun hj1 => ?_)
     ·clear c3 c5
      rintro _ ⟨v8, q_, hqj1, rfl, h⟩
      cases q_ with
      | zero => exact absurd h (by simp [impl_walkTree_ok.j1])
      | succ kj1 =>
      rw [impl_walkTree_ok.j1] at h
      revert h
      refine bif_e (fun c7 => ?_) (fun c7 => ?_)
      ·refine bif_e (fun c8 => ?_) (fun c8 => ?_)
       ·refine go 3 ?_
        refine ret_e (fun hr_ => ?_)
        subst hr_
        exact ret_ Try.func22 []
       ·refine go 3 ?_
        refine ret_e (fun hr_ => ?_)
        subst hr_
        exact ret_ Try.func22 []
      ·refine bif_e (fun c9 => ?_) (fun c9 => ?_)
       ·refine bif_e (fun c10 => ?_) (fun c10 => ?_)
        ·refine go 9 ?_
         refine ret_e (fun hr_ => ?_)
         subst hr_
         exact ret_ Try.func22 []
        ·refine go 9 ?_
         refine ret_e (fun hr_ => ?_)
         subst hr_
         exact ret_ Try.func22 []
       ·refine bif_e (fun c11 => ?_) (fun c11 => ?_)
        ·refine bif_e (fun c12 => ?_) (fun c12 => ?_)
         ·refine go 12 ?_
          refine ret_e (fun hr_ => ?_)
          subst hr_
          exact ret_ Try.func22 []
         ·refine go 12 ?_
          refine ret_e (fun hr_ => ?_)
          subst hr_
          exact ret_ Try.func22 []
        ·refine bif_e (fun c13 => ?_) (fun c13 => ?_)
         ·refine bif_e (fun c14 => ?_) (fun c14 => ?_)
          ·refine go 12 ?_
           refine ret_e (fun hr_ => ?_)
           subst hr_
           exact ret_ Try.func22 []
          ·refine go 12 ?_
           refine ret_e (fun hr_ => ?_)
           subst hr_
           exact ret_ Try.func22 []
         ·refine go 14 ?_
          refine ret_e (fun hr_ => ?_)
          subst hr_
          exact ret_ Try.func22 []
     ·refine bif_e (fun c15 => ?_) (fun c15 => ?_)
      ·refine go 4 ?_
       exact fun h => good_jump hj1 ⟨_, ⟨_, _, by omega, rfl, h⟩, frle_, memle_⟩
      ·refine go 4 ?_
       exact fun h => good_jump hj1 ⟨_, ⟨_, _, by omega, rfl, h⟩, frle_, memle_⟩
  ·refine bif_e (fun c16 => ?_) (fun c16 => ?_)
   ·refine go 4 ?_
    exact fun h => good_jump hj0 ⟨_, ⟨_, _, by omega, rfl, h⟩, frle_, memle_⟩
   ·refine go 4 ?_
    exact fun h => good_jump hj0 ⟨_, ⟨_, _, by omega, rfl, h⟩, frle_, memle_⟩
theorem impl_walkTree_ok.all {K : Kn} [KOk K] (k : Nat) : impl_walkTree_ok.C K k := by
 induction k using Nat.strongRecOn with
 | _ k ih => exact impl_walkTree_ok.con1 k ih
theorem impl_walkTree_ok.con {K : Kn} [KOk K] {k : Nat} {v0 : S38} {r : Bool} (h : impl_walkTree_ok.f k v0 = some r) : Con K Try.prog 22 [.agg [.p (.int .i64 v0.f0.f0), .p (.str v0.f0.f1), .p (.int .i64 v0.f0.f2), .p (.lst false (List.map en38 v0.f1))]] [] (.p (.bool r)) [] := (impl_walkTree_ok.all k) _ r h
def impl_stepsTree.f (k : Nat) (v0 : (List S31)) : Option (S38 × Bool) := (bif decide (100 < (v0.length : Int)) then (some ((⟨(⟨0, (⟨#[]⟩ : ByteArray), 0⟩ : S31), ([] : (List S38))⟩ : S38), false)) else ((impl_growSteps.f k v0 0 1).bind fun v1 => (bif v1.2.2 then (bif (v1.2.1 == (v0.length : Int)) then ((impl_walkTree_ok.f k v1.1).bind fun v2 => (some (v1.1, v2))) else (some (v1.1, false))) else (some (v1.1, false)))))
set_option maxRecDepth 100000 in
set_option maxHeartbeats 4000000 in
theorem impl_stepsTree.con {K : Kn} [KOk K] {k : Nat} {v0 : (List S31)} {r : S38 × Bool} (h : impl_stepsTree.f k v0 = some r) : Con K Try.prog 15 [.p (.lst false (List.map en31 v0))] [] (.tup [.agg [.p (.int .i64 r.1.f0.f0), .p (.str r.1.f0.f1), .p (.int .i64 r.1.f0.f2), .p (.lst false (List.map en38 r.1.f1))], .p (.bool r.2)]) [] := by
 rw [impl_stepsTree.f] at h
 refine con_intro 29 [] Try.func15 (by kernel_rfl) rfl rfl (by kernel_rfl) fun ι0 w0 hk0 => ?_
 revert h
 refine bif_e (fun c1 => ?_) (fun c1 => ?_)
 ·refine go 8 ?_
  refine ret_e (fun hr_ => ?_)
  subst hr_
  exact ret_ Try.func15 []
 ·refine go 8 ?_
  refine grs ?_
  refine gr_run ?_
  refine bind_e (fun v1 e1 => gr_call [] (impl_growSteps.con e1) ?_)
  clear e1
  refine gr_run ?_
  refine gr_done ?_
  refine bif_e (fun c2 => ?_) (fun c2 => ?_)
  ·refine bif_e (fun c3 => ?_) (fun c3 => ?_)
   ·refine go 1 ?_
    refine grs ?_
    refine gr_run ?_
    refine bind_e (fun v2 e2 => gr_call [] (impl_walkTree_ok.con e2) ?_)
    clear e2
    refine gr_run ?_
    refine gr_done ?_
    refine ret_e (fun hr_ => ?_)
    subst hr_
    exact ret_ Try.func15 []
   ·refine go 1 ?_
    refine grs ?_
    refine gr_run ?_
    refine gr_done ?_
    refine ret_e (fun hr_ => ?_)
    subst hr_
    exact ret_ Try.func15 []
  ·refine go 1 ?_
   refine grs ?_
   refine gr_run ?_
   refine gr_done ?_
   refine ret_e (fun hr_ => ?_)
   subst hr_
   exact ret_ Try.func15 []
mutual
def impl_step_O.l0 : Nat → (List S31) → (List (List S31)) → Int → Option ((List S31))
 | 0, _, _, _ => none
 | k + 1, v5, v2, v3 => (bif decide (v3 < (v2.length : Int)) then ((ix v2 v3).bind fun v6 => ((app v5 v6).bind fun v7 => (impl_step_O.l0 k v7 v2 (IntKind.i64.wrap (v3 + 1))))) else (some v5))
def impl_step_O.f : Nat → Int → ByteArray → (List (List S31)) → Option ((List S31))
 | 0, _, _, _ => none
 | k + 1, v0, v1, v2 => (impl_step_O.l0 k ([(⟨v0, v1, (v2.length : Int)⟩ : S31)] : List S31) v2 0)
end
set_option maxRecDepth 100000 in
set_option maxHeartbeats 4000000 in
theorem impl_step_O.con {K : Kn} [KOk K] {k : Nat} {v0 : Int} {v1 : ByteArray} {v2 : (List (List S31))} {r : (List S31)} (h : impl_step_O.f k v0 v1 v2 = some r) : Con K Try.prog 23 [.p (.int .i64 v0), .p (.str v1), .p (.lst false (List.map (lrw en31) v2))] [] (.buf 2000 1 0 r.length) [(2000, (1, .buf 3 (List.map en31 r)))] := by
 cases k with
 | zero => exact absurd h (by simp [impl_step_O.f])
 | succ k =>
 rw [impl_step_O.f] at h
 refine con_intro 27 [15, 24] Try.func23 (by kernel_rfl) rfl rfl (by kernel_rfl) fun ι0 w0 hk0 => ?_
 revert h
 refine go 8 ?_
 refine fun h => good_loop (fun n st => n ≤ k ∧ ∃ (v3 : _) (v5 : _) (g4 : Nat), st = ⟨[(7, .buf 15 g4 0 v5.length), (16, .p (.lst false (List.map (lrw en31) v2))), (17, .p (.int .i64 (v2.length : Int))), (18, .p (.int .i64 v3))], [(15, (g4, .buf 3 (List.map en31 v5)))]⟩ ∧ impl_step_O.l0 n v5 v2 v3 = some r) k ⟨_, ⟨Nat.le_refl _, _, _, 1, rfl, h⟩, frle_, memle_⟩ ?_
 clear h
 rintro n _ ⟨hkl0, v3, v5, g4, rfl, h⟩ hl0
 cases n with
 | zero => exact absurd h (by simp [impl_step_O.l0])
 | succ kl0 =>
 rw [impl_step_O.l0] at h
 revert h
 refine bif_e (fun c1 => ?_) (fun c1 => ?_)
 ·refine bind_e (fun v6 e6 => ?_)
  replace e6 := nf_ (ix_en (lrw en31) e6)
  refine bind_e (fun v7 e7 => ?_)
  replace e7 := nf_ (app_en en31 e7)
  refine go 12 ?_
  exact fun h => good_again hl0 (by omega) ⟨_, ⟨by omega, _, _, g4 + 1, rfl, h⟩, frle_, memle_⟩
 ·refine go 7 ?_
  refine ret_e (fun hr_ => ?_)
  subst hr_
  exact ret_ Try.func23 [(2000, (1, 15, g4))]
mutual
def impl_step.l0 : Nat → (List S31) → (List (List S31)) → Int → Option ((List S31))
 | 0, _, _, _ => none
 | k + 1, v3, v2, v4 => (bif decide (v4 < (v2.length : Int)) then ((ix v2 v4).bind fun v6 => ((app v3 v6).bind fun v7 => (impl_step.l0 k v7 v2 (IntKind.i64.wrap (v4 + 1))))) else (some v3))
def impl_step.f : Nat → Int → ByteArray → (List (List S31)) → Option ((List S31))
 | 0, _, _, _ => none
 | k + 1, v0, v1, v2 => (impl_step.l0 k ([(⟨v0, v1, (v2.length : Int)⟩ : S31)] : List S31) v2 0)
end
set_option maxRecDepth 100000 in
set_option maxHeartbeats 4000000 in
theorem impl_step.con {K : Kn} [KOk K] {k : Nat} {v0 : Int} {v1 : ByteArray} {v2 : (List (List S31))} {r : (List S31)} (h : impl_step.f k v0 v1 v2 = some r) : Con K Try.prog 23 [.p (.int .i64 v0), .p (.str v1), .p (.lst false (List.map (lrw en31) v2))] [] (.p (.lst false (List.map en31 r))) [] := by
 cases k with
 | zero => exact absurd h (by simp [impl_step.f])
 | succ k =>
 rw [impl_step.f] at h
 refine con_intro 27 [] Try.func23 (by kernel_rfl) rfl rfl (by kernel_rfl) fun ι0 w0 hk0 => ?_
 revert h
 refine go 8 ?_
 refine adoptF_ 7 24 3 ?_
 refine fun h => good_loop (fun n st => n ≤ k ∧ ∃ (v3 : _) (v4 : _) (g5 : Nat), st = ⟨[(7, .tip 24 g5 (List.map en31 v3)), (16, .p (.lst false (List.map (lrw en31) v2))), (17, .p (.int .i64 (v2.length : Int))), (18, .p (.int .i64 v4))], [(24, (g5, .tip 3 (v3).length))]⟩ ∧ impl_step.l0 n v3 v2 v4 = some r) k ⟨_, ⟨Nat.le_refl _, _, _, 1, rfl, h⟩, frle_, memle_⟩ ?_
 clear h
 rintro n _ ⟨hkl0, v3, v4, g5, rfl, h⟩ hl0
 cases n with
 | zero => exact absurd h (by simp [impl_step.l0])
 | succ kl0 =>
 rw [impl_step.l0] at h
 revert h
 refine bif_e (fun c1 => ?_) (fun c1 => ?_)
 ·refine bind_e (fun v6 e6 => ?_)
  replace e6 := nf_ (ix_en (lrw en31) e6)
  refine bind_e (fun v7 e7 => ?_)
  replace e7 := nf_ (app_en en31 e7)
  refine go 12 ?_
  exact fun h => good_again hl0 (by omega) ⟨_, ⟨by omega, _, _, g5, rfl, h⟩, frle_, memle_⟩
 ·refine go 7 ?_
  refine ret_e (fun hr_ => ?_)
  subst hr_
  exact ret_ Try.func23 []
def impl_walkTree_turned.f : Nat → S38 → Option ((List S31))
 | 0, _ => none
 | k + 1, v0 => (bif (v0.f0.f0 == 1) then ((impl_step.f k 2 v0.f0.f1 ([] : (List (List S31)))).bind fun v1 => (some v1)) else (bif (v0.f0.f0 == 2) then ((impl_step.f k 1 v0.f0.f1 ([] : (List (List S31)))).bind fun v2 => (some v2)) else (bif (v0.f0.f0 == 3) then ((impl_step.f k 3 v0.f0.f1 ([] : (List (List S31)))).bind fun v3 => (some v3)) else (bif (v0.f0.f0 == 4) then ((ix v0.f1 1).bind fun v4 => ((impl_walkTree_turned.f k v4).bind fun v5 => ((ix v0.f1 0).bind fun v6 => ((impl_walkTree_turned.f k v6).bind fun v7 => ((impl_step.f k 4 (⟨#[]⟩ : ByteArray) ([v5, v7] : List (List S31))).bind fun v8 => (some v8)))))) else (bif (v0.f0.f0 == 5) then ((ix v0.f1 0).bind fun v9 => ((impl_walkTree_turned.f k v9).bind fun v10 => ((ix v0.f1 1).bind fun v11 => ((impl_walkTree_turned.f k v11).bind fun v12 => ((impl_step.f k 5 (⟨#[]⟩ : ByteArray) ([v10, v12] : List (List S31))).bind fun v13 => (some v13)))))) else ((ix v0.f1 0).bind fun v14 => ((impl_walkTree_turned.f k v14).bind fun v15 => ((impl_step.f k v0.f0.f0 (⟨#[]⟩ : ByteArray) ([v15] : List (List S31))).bind fun v16 => (some v16)))))))))
def impl_walkTree_turned.C (K : Kn) (k : Nat) : Prop := ∀ (v0 : S38) (r : (List S31)), impl_walkTree_turned.f k v0 = some r → Con K Try.prog 16 [.agg [.p (.int .i64 v0.f0.f0), .p (.str v0.f0.f1), .p (.int .i64 v0.f0.f2), .p (.lst false (List.map en38 v0.f1))]] [] (.p (.lst false (List.map en31 r))) []
set_option maxRecDepth 100000 in
set_option maxHeartbeats 4000000 in
theorem impl_walkTree_turned.con1 {K : Kn} [KOk K] (k : Nat) (impl_walkTree_turned_ih : ∀ m, m < k → impl_walkTree_turned.C K m) : impl_walkTree_turned.C K k := by
 intro v0 r h
 cases k with
 | zero => exact absurd h (by simp [impl_walkTree_turned.f])
 | succ k =>
 rw [impl_walkTree_turned.f] at h
 refine con_intro 60 [] Try.func16 (by kernel_rfl) rfl rfl (by kernel_rfl) fun ι0 w0 hk0 => ?_
 revert h
 refine bif_e (fun c1 => ?_) (fun c1 => ?_)
 ·refine go 12 ?_
  refine grs ?_
  refine gr_run ?_
  refine bind_e (fun v1 e1 => gr_call [] (impl_step.con e1) ?_)
  clear e1
  refine gr_run ?_
  refine gr_done ?_
  refine ret_e (fun hr_ => ?_)
  subst hr_
  exact ret_ Try.func16 []
 ·refine bif_e (fun c2 => ?_) (fun c2 => ?_)
  ·refine go 15 ?_
   refine grs ?_
   refine gr_run ?_
   refine bind_e (fun v2 e2 => gr_call [] (impl_step.con e2) ?_)
   clear e2
   refine gr_run ?_
   refine gr_done ?_
   refine ret_e (fun hr_ => ?_)
   subst hr_
   exact ret_ Try.func16 []
  ·refine bif_e (fun c3 => ?_) (fun c3 => ?_)
   ·refine go 18 ?_
    refine grs ?_
    refine gr_run ?_
    refine bind_e (fun v3 e3 => gr_call [] (impl_step.con e3) ?_)
    clear e3
    refine gr_run ?_
    refine gr_done ?_
    refine ret_e (fun hr_ => ?_)
    subst hr_
    exact ret_ Try.func16 []
   ·refine bif_e (fun c4 => ?_) (fun c4 => ?_)
    ·refine bind_e (fun v4 e4 => ?_)
     replace e4 := nf_ (ix_en en38 e4)
     refine go 21 ?_
     refine grs ?_
     refine gr_run ?_
     refine bind_e (fun v5 e5 => gr_call [] (impl_walkTree_turned_ih _ (by omega) _ _ e5) ?_)
     clear e5
     refine bind_e (fun v6 e6 => ?_)
     replace e6 := nf_ (ix_en en38 e6)
     refine gr_run ?_
     refine bind_e (fun v7 e7 => gr_call [] (impl_walkTree_turned_ih _ (by omega) _ _ e7) ?_)
     clear e7
     refine gr_run ?_
     refine bind_e (fun v8 e8 => gr_call [] (impl_step.con e8) ?_)
     clear e8
     refine gr_run ?_
     refine gr_done ?_
     refine ret_e (fun hr_ => ?_)
     subst hr_
     exact ret_ Try.func16 []
    ·refine bif_e (fun c5 => ?_) (fun c5 => ?_)
     ·refine bind_e (fun v9 e9 => ?_)
      replace e9 := nf_ (ix_en en38 e9)
      refine go 24 ?_
      refine grs ?_
      refine gr_run ?_
      refine bind_e (fun v10 e10 => gr_call [] (impl_walkTree_turned_ih _ (by omega) _ _ e10) ?_)
      clear e10
      refine bind_e (fun v11 e11 => ?_)
      replace e11 := nf_ (ix_en en38 e11)
      refine gr_run ?_
      refine bind_e (fun v12 e12 => gr_call [] (impl_walkTree_turned_ih _ (by omega) _ _ e12) ?_)
      clear e12
      refine gr_run ?_
      refine bind_e (fun v13 e13 => gr_call [] (impl_step.con e13) ?_)
      clear e13
      refine gr_run ?_
      refine gr_done ?_
      refine ret_e (fun hr_ => ?_)
      subst hr_
      exact ret_ Try.func16 []
     ·refine bind_e (fun v14 e14 => ?_)
      replace e14 := nf_ (ix_en en38 e14)
      refine go 26 ?_
      refine grs ?_
      refine gr_run ?_
      refine bind_e (fun v15 e15 => gr_call [] (impl_walkTree_turned_ih _ (by omega) _ _ e15) ?_)
      clear e15
      refine gr_run ?_
      refine bind_e (fun v16 e16 => gr_call [] (impl_step.con e16) ?_)
      clear e16
      refine gr_run ?_
      refine gr_done ?_
      refine ret_e (fun hr_ => ?_)
      subst hr_
      exact ret_ Try.func16 []
theorem impl_walkTree_turned.all {K : Kn} [KOk K] (k : Nat) : impl_walkTree_turned.C K k := by
 induction k using Nat.strongRecOn with
 | _ k ih => exact impl_walkTree_turned.con1 k ih
theorem impl_walkTree_turned.con {K : Kn} [KOk K] {k : Nat} {v0 : S38} {r : (List S31)} (h : impl_walkTree_turned.f k v0 = some r) : Con K Try.prog 16 [.agg [.p (.int .i64 v0.f0.f0), .p (.str v0.f0.f1), .p (.int .i64 v0.f0.f2), .p (.lst false (List.map en38 v0.f1))]] [] (.p (.lst false (List.map en31 r))) [] := (impl_walkTree_turned.all k) _ r h
def impl_walkTree_turned_O.f (k : Nat) (v0 : S38) : Option ((List S31)) := (bif (v0.f0.f0 == 1) then ((impl_step_O.f k 2 v0.f0.f1 ([] : (List (List S31)))).bind fun v1 => (some v1)) else (bif (v0.f0.f0 == 2) then ((impl_step_O.f k 1 v0.f0.f1 ([] : (List (List S31)))).bind fun v2 => (some v2)) else (bif (v0.f0.f0 == 3) then ((impl_step_O.f k 3 v0.f0.f1 ([] : (List (List S31)))).bind fun v3 => (some v3)) else (bif (v0.f0.f0 == 4) then ((ix v0.f1 1).bind fun v4 => ((impl_walkTree_turned.f k v4).bind fun v5 => ((ix v0.f1 0).bind fun v6 => ((impl_walkTree_turned.f k v6).bind fun v7 => ((impl_step_O.f k 4 (⟨#[]⟩ : ByteArray) ([v5, v7] : List (List S31))).bind fun v8 => (some v8)))))) else (bif (v0.f0.f0 == 5) then ((ix v0.f1 0).bind fun v9 => ((impl_walkTree_turned.f k v9).bind fun v10 => ((ix v0.f1 1).bind fun v11 => ((impl_walkTree_turned.f k v11).bind fun v12 => ((impl_step_O.f k 5 (⟨#[]⟩ : ByteArray) ([v10, v12] : List (List S31))).bind fun v13 => (some v13)))))) else ((ix v0.f1 0).bind fun v14 => ((impl_walkTree_turned.f k v14).bind fun v15 => ((impl_step_O.f k v0.f0.f0 (⟨#[]⟩ : ByteArray) ([v15] : List (List S31))).bind fun v16 => (some v16)))))))))
set_option maxRecDepth 100000 in
set_option maxHeartbeats 4000000 in
theorem impl_walkTree_turned_O.con {K : Kn} [KOk K] {k : Nat} {v0 : S38} {r : (List S31)} (h : impl_walkTree_turned_O.f k v0 = some r) : Con K Try.prog 16 [.agg [.p (.int .i64 v0.f0.f0), .p (.str v0.f0.f1), .p (.int .i64 v0.f0.f2), .p (.lst false (List.map en38 v0.f1))]] [] (.buf 2000 1 0 r.length) [(2000, (1, .buf 3 (List.map en31 r)))] := by
 rw [impl_walkTree_turned_O.f] at h
 refine con_intro 60 [] Try.func16 (by kernel_rfl) rfl rfl (by kernel_rfl) fun ι0 w0 hk0 => ?_
 revert h
 refine bif_e (fun c1 => ?_) (fun c1 => ?_)
 ·refine go 12 ?_
  refine grs ?_
  refine gr_run ?_
  refine bind_e (fun v1 e1 => gr_call [(2000, (1, 14, 1))] (impl_step_O.con e1) ?_)
  clear e1
  refine gr_run ?_
  refine gr_done ?_
  refine ret_e (fun hr_ => ?_)
  subst hr_
  exact ret_ Try.func16 [(2000, (1, 14, 1))]
 ·refine bif_e (fun c2 => ?_) (fun c2 => ?_)
  ·refine go 15 ?_
   refine grs ?_
   refine gr_run ?_
   refine bind_e (fun v2 e2 => gr_call [(2000, (1, 20, 1))] (impl_step_O.con e2) ?_)
   clear e2
   refine gr_run ?_
   refine gr_done ?_
   refine ret_e (fun hr_ => ?_)
   subst hr_
   exact ret_ Try.func16 [(2000, (1, 20, 1))]
  ·refine bif_e (fun c3 => ?_) (fun c3 => ?_)
   ·refine go 18 ?_
    refine grs ?_
    refine gr_run ?_
    refine bind_e (fun v3 e3 => gr_call [(2000, (1, 26, 1))] (impl_step_O.con e3) ?_)
    clear e3
    refine gr_run ?_
    refine gr_done ?_
    refine ret_e (fun hr_ => ?_)
    subst hr_
    exact ret_ Try.func16 [(2000, (1, 26, 1))]
   ·refine bif_e (fun c4 => ?_) (fun c4 => ?_)
    ·refine bind_e (fun v4 e4 => ?_)
     replace e4 := nf_ (ix_en en38 e4)
     refine go 21 ?_
     refine grs ?_
     refine gr_run ?_
     refine bind_e (fun v5 e5 => gr_call [] (impl_walkTree_turned.con e5) ?_)
     clear e5
     refine bind_e (fun v6 e6 => ?_)
     replace e6 := nf_ (ix_en en38 e6)
     refine gr_run ?_
     refine bind_e (fun v7 e7 => gr_call [] (impl_walkTree_turned.con e7) ?_)
     clear e7
     refine gr_run ?_
     refine bind_e (fun v8 e8 => gr_call [(2000, (1, 38, 1))] (impl_step_O.con e8) ?_)
     clear e8
     refine gr_run ?_
     refine gr_done ?_
     refine ret_e (fun hr_ => ?_)
     subst hr_
     exact ret_ Try.func16 [(2000, (1, 38, 1))]
    ·refine bif_e (fun c5 => ?_) (fun c5 => ?_)
     ·refine bind_e (fun v9 e9 => ?_)
      replace e9 := nf_ (ix_en en38 e9)
      refine go 24 ?_
      refine grs ?_
      refine gr_run ?_
      refine bind_e (fun v10 e10 => gr_call [] (impl_walkTree_turned.con e10) ?_)
      clear e10
      refine bind_e (fun v11 e11 => ?_)
      replace e11 := nf_ (ix_en en38 e11)
      refine gr_run ?_
      refine bind_e (fun v12 e12 => gr_call [] (impl_walkTree_turned.con e12) ?_)
      clear e12
      refine gr_run ?_
      refine bind_e (fun v13 e13 => gr_call [(2000, (1, 50, 1))] (impl_step_O.con e13) ?_)
      clear e13
      refine gr_run ?_
      refine gr_done ?_
      refine ret_e (fun hr_ => ?_)
      subst hr_
      exact ret_ Try.func16 [(2000, (1, 50, 1))]
     ·refine bind_e (fun v14 e14 => ?_)
      replace e14 := nf_ (ix_en en38 e14)
      refine go 26 ?_
      refine grs ?_
      refine gr_run ?_
      refine bind_e (fun v15 e15 => gr_call [] (impl_walkTree_turned.con e15) ?_)
      clear e15
      refine gr_run ?_
      refine bind_e (fun v16 e16 => gr_call [(2000, (1, 59, 1))] (impl_step_O.con e16) ?_)
      clear e16
      refine gr_run ?_
      refine gr_done ?_
      refine ret_e (fun hr_ => ?_)
      subst hr_
      exact ret_ Try.func16 [(2000, (1, 59, 1))]
def impl_TurnSteps_O.f (k : Nat) (v0 : (List S31)) : Option ((List S31)) := ((impl_stepsTree.f k v0).bind fun v1 => (bif v1.2 then ((impl_walkTree_turned_O.f k v1.1).bind fun v2 => (some v2)) else (some ([] : List S31))))
set_option maxRecDepth 100000 in
set_option maxHeartbeats 4000000 in
theorem impl_TurnSteps_O.con {K : Kn} [KOk K] {k : Nat} {v0 : (List S31)} {r : (List S31)} (h : impl_TurnSteps_O.f k v0 = some r) : Con K Try.prog 7 [.p (.lst false (List.map en31 v0))] [] (.buf 2000 1 0 r.length) [(2000, (1, .buf 3 (List.map en31 r)))] := by
 rw [impl_TurnSteps_O.f] at h
 refine con_intro 14 [] Try.func7 (by kernel_rfl) rfl rfl (by kernel_rfl) fun ι0 w0 hk0 => ?_
 revert h
 refine go 3 ?_
 refine grs ?_
 refine gr_run ?_
 refine bind_e (fun v1 e1 => gr_call [] (impl_stepsTree.con e1) ?_)
 clear e1
 refine gr_run ?_
 refine gr_done ?_
 refine bif_e (fun c1 => ?_) (fun c1 => ?_)
 ·refine go 6 ?_
  refine grs ?_
  refine gr_run ?_
  refine bind_e (fun v2 e2 => gr_call [(2000, (1, 13, 1))] (impl_walkTree_turned_O.con e2) ?_)
  clear e2
  refine gr_run ?_
  refine gr_done ?_
  refine ret_e (fun hr_ => ?_)
  subst hr_
  exact ret_ Try.func7 [(2000, (1, 13, 1))]
 ·refine go 6 ?_
  refine adoptB_ 2 2502 3 ?_
  refine ret_e (fun hr_ => ?_)
  subst hr_
  exact ret_ Try.func7 [(2000, (1, 2502, 1))]
end Go.Ab
