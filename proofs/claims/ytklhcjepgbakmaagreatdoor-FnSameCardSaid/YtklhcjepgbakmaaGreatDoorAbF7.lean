/- What the functions compute, and their contracts, part 7. No condition beyond KOk. -/
import Derived.Test.YtklhcjepgbakmaaGreatDoorAbX
import Derived.Test.YtklhcjepgbakmaaGreatDoorAbF6
namespace Go.Ab
open Go.Proofs
set_option linter.unusedVariables false
set_option linter.unusedSimpArgs false
mutual
def impl_same.l1 : Nat → Int → S46 → Int → S46 → Option (Int)
 | 0, _, _, _, _ => none
 | k + 1, v6, v0, v7, v1 => (bif decide (v7 < (v0.f5.length : Int)) then ((ix v0.f5 v7).bind fun v8 => ((ix v1.f5 v7).bind fun v9 => ((impl_same.f k v8 v9).bind fun v10 => (bif (v10 == 0) then (some 0) else (bif (v10 == 2) then (impl_same.l1 k 2 v0 (IntKind.i64.wrap (v7 + 1)) v1) else (impl_same.l1 k v6 v0 (IntKind.i64.wrap (v7 + 1)) v1)))))) else (some v6))
def impl_same.l0 : Nat → S46 → Int → S46 → Option (Int)
 | 0, _, _, _ => none
 | k + 1, v0, v3, v1 => (bif decide (v3 < (v0.f4.length : Int)) then ((ix v0.f4 v3).bind fun v4 => ((ix v1.f4 v3).bind fun v5 => (bif decide (v4 = v5) then (impl_same.l0 k v0 (IntKind.i64.wrap (v3 + 1)) v1) else (some 0)))) else (impl_same.l1 k 1 v0 0 v1))
def impl_same.j0 : Nat → S46 → S46 → Option (Int)
 | 0, _, _ => none
 | k + 1, v0, v1 => (bif ((v0.f5.length : Int) == (v1.f5.length : Int)) then (impl_same.l0 k v0 0 v1) else (some 0))
def impl_same.f : Nat → S46 → S46 → Option (Int)
 | 0, _, _ => none
 | k + 1, v0, v1 => (bif (v0.f0 == 0) then (some 2) else (bif (v1.f0 == 0) then (some 2) else (bif (v0.f0 == v1.f0) then (bif (v0.f0 == 6) then (impl_same.j0 k v0 v1) else (bif (v0.f0 == 7) then (impl_same.j0 k v0 v1) else ((impl_order.f k v0 v1).bind fun v2 => (bif (v2 == 0) then (some 1) else (some 0))))) else (some 0))))
end
def impl_same.C (K : Kn) (k : Nat) : Prop := ∀ (v0 : S46) (v1 : S46) (r : Int), impl_same.f k v0 v1 = some r → Con K Tryz.prog 34 [.agg [.p (.int .i64 v0.f0), .p (.int .i64 v0.f1), .p (.int .i64 v0.f2), .p (.str v0.f3), .p (.lst false (List.map srw v0.f4)), .p (.lst false (List.map en46 v0.f5))], .agg [.p (.int .i64 v1.f0), .p (.int .i64 v1.f1), .p (.int .i64 v1.f2), .p (.str v1.f3), .p (.lst false (List.map srw v1.f4)), .p (.lst false (List.map en46 v1.f5))]] [] (.p (.int .i64 r)) []
set_option maxRecDepth 100000 in
set_option maxHeartbeats 4000000 in
theorem impl_same.con1 {K : Kn} [KOk K] (k : Nat) (impl_same_ih : ∀ m, m < k → impl_same.C K m) : impl_same.C K k := by
 intro v0 v1 r h
 cases k with
 | zero => exact absurd h (by simp [impl_same.f])
 | succ k =>
 rw [impl_same.f] at h
 refine con_intro 81 [] Tryz.func34 (by kernel_rfl) rfl rfl (by kernel_rfl) fun ι0 w0 hk0 => ?_
 revert h
 refine bif_e (fun c1 => ?_) (fun c1 => ?_)
 ·refine go 8 ?_
  refine ret_e (fun hr_ => ?_)
  subst hr_
  exact ret_ Tryz.func34 []
 ·refine bif_e (fun c2 => ?_) (fun c2 => ?_)
  ·refine go 8 ?_
   refine ret_e (fun hr_ => ?_)
   subst hr_
   exact ret_ Tryz.func34 []
  ·refine bif_e (fun c3 => ?_) (fun c3 => ?_)
   ·refine go 14 ?_
    refine good_cut_f (fun st => ∃ (q_ : Nat), q_ ≤ k ∧ st = ⟨[(2, .ptr 2 1 0), (3, .ptr 3 1 0)], [(2, (1, .cells [.p (.int .i64 v0.f0), .p (.int .i64 v0.f1), .p (.int .i64 v0.f2), .p (.str v0.f3), .p (.lst false (List.map srw v0.f4)), .p (.lst false (List.map en46 v0.f5))])), (3, (1, .cells [.p (.int .i64 v1.f0), .p (.int .i64 v1.f1), .p (.int .i64 v1.f2), .p (.str v1.f3), .p (.lst false (List.map srw v1.f4)), .p (.lst false (List.map en46 v1.f5))]))]⟩ ∧ impl_same.j0 q_ v0 v1 = some r) ?_ (fun hj0 => ?_)
    ·clear c1 c2 c3
     rintro _ ⟨q_, hqj0, rfl, h⟩
     cases q_ with
     | zero => exact absurd h (by simp [impl_same.j0])
     | succ kj0 =>
     rw [impl_same.j0] at h
     revert h
     refine bif_e (fun c4 => ?_) (fun c4 => ?_)
     ·refine go 10 ?_
      refine fun h => good_loop (fun n st => n ≤ kj0 ∧ ∃ (v3 : _), st = ⟨[(2, .ptr 2 1 0), (3, .ptr 3 1 0), (42, .p (.int .i64 (v0.f4.length : Int))), (43, .p (.int .i64 v3))], [(2, (1, .cells [.p (.int .i64 v0.f0), .p (.int .i64 v0.f1), .p (.int .i64 v0.f2), .p (.str v0.f3), .p (.lst false (List.map srw v0.f4)), .p (.lst false (List.map en46 v0.f5))])), (3, (1, .cells [.p (.int .i64 v1.f0), .p (.int .i64 v1.f1), .p (.int .i64 v1.f2), .p (.str v1.f3), .p (.lst false (List.map srw v1.f4)), .p (.lst false (List.map en46 v1.f5))]))]⟩ ∧ impl_same.l0 n v0 v3 v1 = some r) kj0 ⟨_, ⟨Nat.le_refl _, _, rfl, h⟩, frle_, memle_⟩ ?_
      clear c4
      clear h
      rintro n _ ⟨hkl0, v3, rfl, h⟩ hl0
      cases n with
      | zero => exact absurd h (by simp [impl_same.l0])
      | succ kl0 =>
      rw [impl_same.l0] at h
      revert h
      refine bif_e (fun c5 => ?_) (fun c5 => ?_)
      ·refine bind_e (fun v4 e4 => ?_)
       replace e4 := nf_ (ix_en srw e4)
       refine bind_e (fun v5 e5 => ?_)
       replace e5 := nf_ (ix_en srw e5)
       refine go 10 ?_
       refine grs ?_
       refine gr_run ?_
       refine gr_done ?_
       refine bif_e (fun c6 => ?_) (fun c6 => ?_)
       ·refine go 4 ?_
        exact fun h => good_again hl0 (by omega) ⟨_, ⟨by omega, _, rfl, h⟩, frle_, memle_⟩
       ·refine go 3 ?_
        refine ret_e (fun hr_ => ?_)
        subst hr_
        exact ret_ Tryz.func34 []
      ·refine go 11 ?_
       refine fun h => good_loop (fun n st => n ≤ kl0 ∧ ∃ (v6 : _) (v7 : _), st = ⟨[(2, .ptr 2 1 0), (3, .ptr 3 1 0), (6, .p (.int .i64 v6)), (60, .p (.int .i64 (v0.f5.length : Int))), (61, .p (.int .i64 v7))], [(2, (1, .cells [.p (.int .i64 v0.f0), .p (.int .i64 v0.f1), .p (.int .i64 v0.f2), .p (.str v0.f3), .p (.lst false (List.map srw v0.f4)), .p (.lst false (List.map en46 v0.f5))])), (3, (1, .cells [.p (.int .i64 v1.f0), .p (.int .i64 v1.f1), .p (.int .i64 v1.f2), .p (.str v1.f3), .p (.lst false (List.map srw v1.f4)), .p (.lst false (List.map en46 v1.f5))]))]⟩ ∧ impl_same.l1 n v6 v0 v7 v1 = some r) kl0 ⟨_, ⟨Nat.le_refl _, _, _, rfl, h⟩, frle_, memle_⟩ ?_
       clear c5
       clear h
       rintro n _ ⟨hkl1, v6, v7, rfl, h⟩ hl1
       cases n with
       | zero => exact absurd h (by simp [impl_same.l1])
       | succ kl1 =>
       rw [impl_same.l1] at h
       revert h
       refine bif_e (fun c7 => ?_) (fun c7 => ?_)
       ·refine bind_e (fun v8 e8 => ?_)
        replace e8 := nf_ (ix_en en46 e8)
        refine bind_e (fun v9 e9 => ?_)
        replace e9 := nf_ (ix_en en46 e9)
        refine go 10 ?_
        refine grs ?_
        refine gr_run ?_
        refine bind_e (fun v10 e10 => gr_call [] (impl_same_ih _ (by omega) _ _ _ e10) ?_)
        clear e10
        refine gr_done ?_
        refine bif_e (fun c8 => ?_) (fun c8 => ?_)
        ·refine go 6 ?_
         refine ret_e (fun hr_ => ?_)
         subst hr_
         exact ret_ Tryz.func34 []
        ·refine bif_e (fun c9 => ?_) (fun c9 => ?_)
         ·refine go 11 ?_
          exact fun h => good_again hl1 (by omega) ⟨_, ⟨by omega, _, _, rfl, h⟩, frle_, memle_⟩
         ·refine go 11 ?_
          exact fun h => good_again hl1 (by omega) ⟨_, ⟨by omega, _, _, rfl, h⟩, frle_, memle_⟩
       ·refine go 7 ?_
        refine ret_e (fun hr_ => ?_)
        subst hr_
        exact ret_ Tryz.func34 []
     ·refine go 7 ?_
      refine ret_e (fun hr_ => ?_)
      subst hr_
      exact ret_ Tryz.func34 []
    ·refine bif_e (fun c10 => ?_) (fun c10 => ?_)
     ·refine go 2 ?_
      exact fun h => good_jump hj0 ⟨_, ⟨_, by omega, rfl, h⟩, frle_, memle_⟩
     ·refine bif_e (fun c11 => ?_) (fun c11 => ?_)
      ·refine go 2 ?_
       exact fun h => good_jump hj0 ⟨_, ⟨_, by omega, rfl, h⟩, frle_, memle_⟩
      ·refine go 4 ?_
       refine grs ?_
       refine gr_run ?_
       refine bind_e (fun v2 e2 => gr_call [] (impl_order.con e2) ?_)
       clear e2
       refine gr_run ?_
       refine gr_done ?_
       refine bif_e (fun c12 => ?_) (fun c12 => ?_)
       ·refine go 3 ?_
        refine ret_e (fun hr_ => ?_)
        subst hr_
        exact ret_ Tryz.func34 []
       ·refine go 4 ?_
        refine ret_e (fun hr_ => ?_)
        subst hr_
        exact ret_ Tryz.func34 []
   ·refine go 13 ?_
    refine ret_e (fun hr_ => ?_)
    subst hr_
    exact ret_ Tryz.func34 []
theorem impl_same.all {K : Kn} [KOk K] (k : Nat) : impl_same.C K k := by
 induction k using Nat.strongRecOn with
 | _ k ih => exact impl_same.con1 k ih
theorem impl_same.con {K : Kn} [KOk K] {k : Nat} {v0 : S46} {v1 : S46} {r : Int} (h : impl_same.f k v0 v1 = some r) : Con K Tryz.prog 34 [.agg [.p (.int .i64 v0.f0), .p (.int .i64 v0.f1), .p (.int .i64 v0.f2), .p (.str v0.f3), .p (.lst false (List.map srw v0.f4)), .p (.lst false (List.map en46 v0.f5))], .agg [.p (.int .i64 v1.f0), .p (.int .i64 v1.f1), .p (.int .i64 v1.f2), .p (.str v1.f3), .p (.lst false (List.map srw v1.f4)), .p (.lst false (List.map en46 v1.f5))]] [] (.p (.int .i64 r)) [] := (impl_same.all k) _ _ r h
def impl_SameValues.f (k : Nat) (v0 : ByteArray) (v1 : ByteArray) : Option (Int) := ((impl_two.f k v0 v1).bind fun v2 => (bif v2.2.2 then ((impl_same.f k v2.1 v2.2.1).bind fun v3 => (some v3)) else (some 2)))
set_option maxRecDepth 100000 in
set_option maxHeartbeats 4000000 in
theorem impl_SameValues.con {K : Kn} [KOk K] {k : Nat} {v0 : ByteArray} {v1 : ByteArray} {r : Int} (h : impl_SameValues.f k v0 v1 = some r) : Con K Tryz.prog 11 [.p (.str v0), .p (.str v1)] [] (.p (.int .i64 r)) [] := by
 rw [impl_SameValues.f] at h
 refine con_intro 20 [] Tryz.func11 (by kernel_rfl) rfl rfl (by kernel_rfl) fun ι0 w0 hk0 => ?_
 revert h
 refine go 3 ?_
 refine grs ?_
 refine gr_run ?_
 refine bind_e (fun v2 e2 => gr_call [] (impl_two.con e2) ?_)
 clear e2
 refine gr_run ?_
 refine gr_done ?_
 refine bif_e (fun c1 => ?_) (fun c1 => ?_)
 ·refine go 6 ?_
  refine grs ?_
  refine gr_run ?_
  refine bind_e (fun v3 e3 => gr_call [] (impl_same.con e3) ?_)
  clear e3
  refine gr_run ?_
  refine gr_done ?_
  refine ret_e (fun hr_ => ?_)
  subst hr_
  exact ret_ Tryz.func11 []
 ·refine go 6 ?_
  refine ret_e (fun hr_ => ?_)
  subst hr_
  exact ret_ Tryz.func11 []
def impl_less.f (k : Nat) (v0 : S46) (v1 : S46) : Option (Int) := (bif (v0.f0 == 0) then (some 2) else (bif (v1.f0 == 0) then (some 2) else (bif (v0.f0 == v1.f0) then (bif decide (5 ≤ v0.f0) then (some 2) else ((impl_order.f k v0 v1).bind fun v2 => (bif decide (v2 < 0) then (some 1) else (some 0)))) else (some 2))))
set_option maxRecDepth 100000 in
set_option maxHeartbeats 4000000 in
theorem impl_less.con {K : Kn} [KOk K] {k : Nat} {v0 : S46} {v1 : S46} {r : Int} (h : impl_less.f k v0 v1 = some r) : Con K Tryz.prog 35 [.agg [.p (.int .i64 v0.f0), .p (.int .i64 v0.f1), .p (.int .i64 v0.f2), .p (.str v0.f3), .p (.lst false (List.map srw v0.f4)), .p (.lst false (List.map en46 v0.f5))], .agg [.p (.int .i64 v1.f0), .p (.int .i64 v1.f1), .p (.int .i64 v1.f2), .p (.str v1.f3), .p (.lst false (List.map srw v1.f4)), .p (.lst false (List.map en46 v1.f5))]] [] (.p (.int .i64 r)) [] := by
 rw [impl_less.f] at h
 refine con_intro 29 [] Tryz.func35 (by kernel_rfl) rfl rfl (by kernel_rfl) fun ι0 w0 hk0 => ?_
 revert h
 refine bif_e (fun c1 => ?_) (fun c1 => ?_)
 ·refine go 8 ?_
  refine ret_e (fun hr_ => ?_)
  subst hr_
  exact ret_ Tryz.func35 []
 ·refine bif_e (fun c2 => ?_) (fun c2 => ?_)
  ·refine go 8 ?_
   refine ret_e (fun hr_ => ?_)
   subst hr_
   exact ret_ Tryz.func35 []
  ·refine bif_e (fun c3 => ?_) (fun c3 => ?_)
   ·refine bif_e (fun c4 => ?_) (fun c4 => ?_)
    ·refine go 8 ?_
     refine ret_e (fun hr_ => ?_)
     subst hr_
     exact ret_ Tryz.func35 []
    ·refine go 9 ?_
     refine grs ?_
     refine gr_run ?_
     refine bind_e (fun v2 e2 => gr_call [] (impl_order.con e2) ?_)
     clear e2
     refine gr_run ?_
     refine gr_done ?_
     refine bif_e (fun c5 => ?_) (fun c5 => ?_)
     ·refine go 3 ?_
      refine ret_e (fun hr_ => ?_)
      subst hr_
      exact ret_ Tryz.func35 []
     ·refine go 4 ?_
      refine ret_e (fun hr_ => ?_)
      subst hr_
      exact ret_ Tryz.func35 []
   ·refine go 8 ?_
    refine ret_e (fun hr_ => ?_)
    subst hr_
    exact ret_ Tryz.func35 []
def impl_LessValues.f (k : Nat) (v0 : ByteArray) (v1 : ByteArray) : Option (Int) := ((impl_two.f k v0 v1).bind fun v2 => (bif v2.2.2 then ((impl_less.f k v2.1 v2.2.1).bind fun v3 => (some v3)) else (some 2)))
set_option maxRecDepth 100000 in
set_option maxHeartbeats 4000000 in
theorem impl_LessValues.con {K : Kn} [KOk K] {k : Nat} {v0 : ByteArray} {v1 : ByteArray} {r : Int} (h : impl_LessValues.f k v0 v1 = some r) : Con K Tryz.prog 12 [.p (.str v0), .p (.str v1)] [] (.p (.int .i64 r)) [] := by
 rw [impl_LessValues.f] at h
 refine con_intro 20 [] Tryz.func12 (by kernel_rfl) rfl rfl (by kernel_rfl) fun ι0 w0 hk0 => ?_
 revert h
 refine go 3 ?_
 refine grs ?_
 refine gr_run ?_
 refine bind_e (fun v2 e2 => gr_call [] (impl_two.con e2) ?_)
 clear e2
 refine gr_run ?_
 refine gr_done ?_
 refine bif_e (fun c1 => ?_) (fun c1 => ?_)
 ·refine go 6 ?_
  refine grs ?_
  refine gr_run ?_
  refine bind_e (fun v3 e3 => gr_call [] (impl_less.con e3) ?_)
  clear e3
  refine gr_run ?_
  refine gr_done ?_
  refine ret_e (fun hr_ => ?_)
  subst hr_
  exact ret_ Tryz.func12 []
 ·refine go 6 ?_
  refine ret_e (fun hr_ => ?_)
  subst hr_
  exact ret_ Tryz.func12 []
end Go.Ab
