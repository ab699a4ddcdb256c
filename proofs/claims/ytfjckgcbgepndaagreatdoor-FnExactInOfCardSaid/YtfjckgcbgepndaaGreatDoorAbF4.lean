/- What the functions compute, and their contracts, part 4. No condition beyond KOk. -/
import Derived.Test.YtfjckgcbgepndaaGreatDoorAbX
import Derived.Test.YtfjckgcbgepndaaGreatDoorAbF3
namespace Go.Ab
open Go.Proofs
set_option linter.unusedVariables false
set_option linter.unusedSimpArgs false
def spec_l01Read.f (k : Nat) (v0 : ByteArray) : Option (S130) := (bif decide (2000 < (v0.size : Int)) then (some (⟨(-1), 0, 0, (⟨#[]⟩ : ByteArray), ([] : (List S130)), ([] : (List ByteArray))⟩ : S130)) else ((spec_l01Reader_value.f k 0 (⟨v0, 0, false⟩ : S186)).bind fun v1 => (bif v1.2.f2 then (some (⟨(-1), 0, 0, (⟨#[]⟩ : ByteArray), ([] : (List S130)), ([] : (List ByteArray))⟩ : S130)) else (bif (v1.2.f1 == (v0.size : Int)) then (some v1.1) else (some (⟨(-1), 0, 0, (⟨#[]⟩ : ByteArray), ([] : (List S130)), ([] : (List ByteArray))⟩ : S130))))))
set_option maxRecDepth 100000 in
set_option maxHeartbeats 4000000 in
theorem spec_l01Read.con {K : Kn} [KOk K] {k : Nat} {v0 : ByteArray} {r : S130} (h : spec_l01Read.f k v0 = some r) : Con K Tryz.prog 99 [.p (.str v0)] [] (.agg [.p (.int .i64 r.f0), .p (.int .i64 r.f1), .p (.int .i64 r.f2), .p (.str r.f3), .p (.lst false (List.map en130 r.f4)), .p (.lst false (List.map srw r.f5))]) [] := by
 rw [spec_l01Read.f] at h
 refine con_intro 29 [] Tryz.func99 (by kernel_rfl) rfl rfl (by kernel_rfl) fun ι0 w0 hk0 => ?_
 revert h
 refine bif_e (fun c1 => ?_) (fun c1 => ?_)
 ·refine go 8 ?_
  refine ret_e (fun hr_ => ?_)
  subst hr_
  exact ret_ Tryz.func99 []
 ·refine go 10 ?_
  refine grs ?_
  refine gr_run ?_
  refine bind_e (fun v1 e1 => gr_call [(1000, (0, 11, 1))] (spec_l01Reader_value.con e1) ?_)
  clear e1
  refine gr_run ?_
  refine gr_done ?_
  refine bif_e (fun c2 => ?_) (fun c2 => ?_)
  ·refine go 6 ?_
   refine ret_e (fun hr_ => ?_)
   subst hr_
   exact ret_ Tryz.func99 []
  ·refine bif_e (fun c3 => ?_) (fun c3 => ?_)
   ·refine go 7 ?_
    refine ret_e (fun hr_ => ?_)
    subst hr_
    exact ret_ Tryz.func99 []
   ·refine go 6 ?_
    refine ret_e (fun hr_ => ?_)
    subst hr_
    exact ret_ Tryz.func99 []
mutual
def spec_l05Values.l0 : Nat → (List ByteArray) → Int → Option (Bool)
 | 0, _, _ => none
 | k + 1, v0, v1 => (bif decide (v1 < (v0.length : Int)) then ((ix v0 v1).bind fun v2 => ((spec_l01Read.f k v2).bind fun v3 => (bif decide (v3.f0 < 0) then (some false) else (spec_l05Values.l0 k v0 (IntKind.i64.wrap (v1 + 1)))))) else (some true))
def spec_l05Values.f : Nat → (List ByteArray) → Option (Bool)
 | 0, _ => none
 | k + 1, v0 => (spec_l05Values.l0 k v0 0)
end
set_option maxRecDepth 100000 in
set_option maxHeartbeats 4000000 in
theorem spec_l05Values.con {K : Kn} [KOk K] {k : Nat} {v0 : (List ByteArray)} {r : Bool} (h : spec_l05Values.f k v0 = some r) : Con K Tryz.prog 60 [.p (.lst false (List.map srw v0))] [] (.p (.bool r)) [] := by
 cases k with
 | zero => exact absurd h (by simp [spec_l05Values.f])
 | succ k =>
 rw [spec_l05Values.f] at h
 refine con_intro 17 [] Tryz.func60 (by kernel_rfl) rfl rfl (by kernel_rfl) fun ι0 w0 hk0 => ?_
 revert h
 refine go 6 ?_
 refine fun h => good_loop (fun n st => n ≤ k ∧ ∃ (v1 : _), st = ⟨[(0, .p (.lst false (List.map srw v0))), (3, .p (.int .i64 v1))], []⟩ ∧ spec_l05Values.l0 n v0 v1 = some r) k ⟨_, ⟨Nat.le_refl _, _, rfl, h⟩, frle_, memle_⟩ ?_
 clear h
 rintro n _ ⟨hkl0, v1, rfl, h⟩ hl0
 cases n with
 | zero => exact absurd h (by simp [spec_l05Values.l0])
 | succ kl0 =>
 rw [spec_l05Values.l0] at h
 revert h
 refine bif_e (fun c1 => ?_) (fun c1 => ?_)
 ·refine bind_e (fun v2 e2 => ?_)
  replace e2 := nf_ (ix_en srw e2)
  refine go 8 ?_
  refine grs ?_
  refine gr_run ?_
  refine bind_e (fun v3 e3 => gr_call [] (spec_l01Read.con e3) ?_)
  clear e3
  refine gr_run ?_
  refine gr_done ?_
  refine bif_e (fun c2 => ?_) (fun c2 => ?_)
  ·refine go 3 ?_
   refine ret_e (fun hr_ => ?_)
   subst hr_
   exact ret_ Tryz.func60 []
  ·refine go 4 ?_
   exact fun h => good_again hl0 (by omega) ⟨_, ⟨by omega, _, rfl, h⟩, frle_, memle_⟩
 ·refine go 7 ?_
  refine ret_e (fun hr_ => ?_)
  subst hr_
  exact ret_ Tryz.func60 []
def spec_l01Rank.f (k : Nat) (v0 : Int) : Option (Int) := (bif (v0 == 0) then (some 100) else (some v0))
set_option maxRecDepth 100000 in
set_option maxHeartbeats 4000000 in
theorem spec_l01Rank.con {K : Kn} [KOk K] {k : Nat} {v0 : Int} {r : Int} (h : spec_l01Rank.f k v0 = some r) : Con K Tryz.prog 177 [.p (.int .i64 v0)] [] (.p (.int .i64 r)) [] := by
 rw [spec_l01Rank.f] at h
 refine con_intro 6 [] Tryz.func177 (by kernel_rfl) rfl rfl (by kernel_rfl) fun ι0 w0 hk0 => ?_
 revert h
 refine bif_e (fun c1 => ?_) (fun c1 => ?_)
 ·refine go 8 ?_
  refine ret_e (fun hr_ => ?_)
  subst hr_
  exact ret_ Tryz.func177 []
 ·refine go 9 ?_
  refine ret_e (fun hr_ => ?_)
  subst hr_
  exact ret_ Tryz.func177 []
def spec_l01Bool.f (k : Nat) (v0 : Bool) : Option (Int) := (bif v0 then (some 1) else (some 0))
set_option maxRecDepth 100000 in
set_option maxHeartbeats 4000000 in
theorem spec_l01Bool.con {K : Kn} [KOk K] {k : Nat} {v0 : Bool} {r : Int} (h : spec_l01Bool.f k v0 = some r) : Con K Tryz.prog 210 [.p (.bool v0)] [] (.p (.int .i64 r)) [] := by
 rw [spec_l01Bool.f] at h
 refine con_intro 4 [] Tryz.func210 (by kernel_rfl) rfl rfl (by kernel_rfl) fun ι0 w0 hk0 => ?_
 revert h
 refine bif_e (fun c1 => ?_) (fun c1 => ?_)
 ·refine go 8 ?_
  refine ret_e (fun hr_ => ?_)
  subst hr_
  exact ret_ Tryz.func210 []
 ·refine go 9 ?_
  refine ret_e (fun hr_ => ?_)
  subst hr_
  exact ret_ Tryz.func210 []
def spec_l01CompareInts.f (k : Nat) (v0 : Int) (v1 : Int) : Option (Int) := ((spec_l01Bool.f k (decide (v1 < v0))).bind fun v2 => ((spec_l01Bool.f k (decide (v0 < v1))).bind fun v3 => (some (IntKind.i64.wrap (v2 - v3)))))
set_option maxRecDepth 100000 in
set_option maxHeartbeats 4000000 in
theorem spec_l01CompareInts.con {K : Kn} [KOk K] {k : Nat} {v0 : Int} {v1 : Int} {r : Int} (h : spec_l01CompareInts.f k v0 v1 = some r) : Con K Tryz.prog 176 [.p (.int .i64 v0), .p (.int .i64 v1)] [] (.p (.int .i64 r)) [] := by
 rw [spec_l01CompareInts.f] at h
 refine con_intro 14 [] Tryz.func176 (by kernel_rfl) rfl rfl (by kernel_rfl) fun ι0 w0 hk0 => ?_
 revert h
 refine go 3 ?_
 refine grs ?_
 refine gr_run ?_
 refine bind_e (fun v2 e2 => gr_call [] (spec_l01Bool.con e2) ?_)
 clear e2
 refine gr_run ?_
 refine bind_e (fun v3 e3 => gr_call [] (spec_l01Bool.con e3) ?_)
 clear e3
 refine gr_run ?_
 refine gr_done ?_
 refine ret_e (fun hr_ => ?_)
 subst hr_
 exact ret_ Tryz.func176 []
def spec_l01CompareTexts.f (k : Nat) (v0 : ByteArray) (v1 : ByteArray) : Option (Int) := ((spec_l01Bool.f k (slt v1 v0)).bind fun v2 => ((spec_l01Bool.f k (slt v0 v1)).bind fun v3 => (some (IntKind.i64.wrap (v2 - v3)))))
set_option maxRecDepth 100000 in
set_option maxHeartbeats 4000000 in
theorem spec_l01CompareTexts.con {K : Kn} [KOk K] {k : Nat} {v0 : ByteArray} {v1 : ByteArray} {r : Int} (h : spec_l01CompareTexts.f k v0 v1 = some r) : Con K Tryz.prog 178 [.p (.str v0), .p (.str v1)] [] (.p (.int .i64 r)) [] := by
 rw [spec_l01CompareTexts.f] at h
 refine con_intro 14 [] Tryz.func178 (by kernel_rfl) rfl rfl (by kernel_rfl) fun ι0 w0 hk0 => ?_
 revert h
 refine go 3 ?_
 refine grs ?_
 refine gr_run ?_
 refine bind_e (fun v2 e2 => gr_call [] (spec_l01Bool.con e2) ?_)
 clear e2
 refine gr_run ?_
 refine bind_e (fun v3 e3 => gr_call [] (spec_l01Bool.con e3) ?_)
 clear e3
 refine gr_run ?_
 refine gr_done ?_
 refine ret_e (fun hr_ => ?_)
 subst hr_
 exact ret_ Tryz.func178 []
mutual
def spec_l01Order.j0 : Nat → S130 → S130 → Option (Int)
 | 0, _, _ => none
 | k + 1, v0, v1 => ((spec_l01CompareInts.f k (v0.f4.length : Int) (v1.f4.length : Int)).bind fun v9 => (some v9))
def spec_l01Order.j1 : Nat → Int → S130 → S130 → Option (Int)
 | 0, _, _, _ => none
 | k + 1, v8, v0, v1 => ((ix v0.f4 v8).bind fun v15 => ((ix v1.f4 v8).bind fun v16 => ((spec_l01Order.f k v15 v16).bind fun v17 => (bif (v17 == 0) then (spec_l01Order.l0 k (IntKind.i64.wrap (v8 + 1)) v0 v1) else (some v17)))))
def spec_l01Order.l0 : Nat → Int → S130 → S130 → Option (Int)
 | 0, _, _, _ => none
 | k + 1, v8, v0, v1 => (bif decide (v8 < (v0.f4.length : Int)) then (bif decide (v8 < (v1.f4.length : Int)) then (bif (v0.f0 == 7) then ((ix v0.f5 v8).bind fun v10 => ((ix v1.f5 v8).bind fun v11 => (bif decide (v10 = v11) then (spec_l01Order.j1 k v8 v0 v1) else ((spec_l01CompareTexts.f k v10 v11).bind fun v14 => (some v14))))) else (spec_l01Order.j1 k v8 v0 v1)) else (spec_l01Order.j0 k v0 v1)) else (spec_l01Order.j0 k v0 v1))
def spec_l01Order.f : Nat → S130 → S130 → Option (Int)
 | 0, _, _ => none
 | k + 1, v0, v1 => (bif (v0.f0 == v1.f0) then (bif (v0.f0 == 3) then ((spec_l01CompareTexts.f k v0.f3 v1.f3).bind fun v5 => (some v5)) else (bif (v0.f1 == v1.f1) then (bif (v0.f2 == v1.f2) then (spec_l01Order.l0 k 0 v0 v1) else ((spec_l01CompareInts.f k v0.f2 v1.f2).bind fun v7 => (some v7))) else ((spec_l01CompareInts.f k v0.f1 v1.f1).bind fun v6 => (some v6)))) else ((spec_l01Rank.f k v0.f0).bind fun v2 => ((spec_l01Rank.f k v1.f0).bind fun v3 => ((spec_l01CompareInts.f k v2 v3).bind fun v4 => (some v4)))))
end
def spec_l01Order.C (K : Kn) (k : Nat) : Prop := ∀ (v0 : S130) (v1 : S130) (r : Int), spec_l01Order.f k v0 v1 = some r → Con K Tryz.prog 139 [.agg [.p (.int .i64 v0.f0), .p (.int .i64 v0.f1), .p (.int .i64 v0.f2), .p (.str v0.f3), .p (.lst false (List.map en130 v0.f4)), .p (.lst false (List.map srw v0.f5))], .agg [.p (.int .i64 v1.f0), .p (.int .i64 v1.f1), .p (.int .i64 v1.f2), .p (.str v1.f3), .p (.lst false (List.map en130 v1.f4)), .p (.lst false (List.map srw v1.f5))]] [] (.p (.int .i64 r)) []
set_option maxRecDepth 100000 in
set_option maxHeartbeats 4000000 in
theorem spec_l01Order.con1 {K : Kn} [KOk K] (k : Nat) (spec_l01Order_ih : ∀ m, m < k → spec_l01Order.C K m) : spec_l01Order.C K k := by
 intro v0 v1 r h
 cases k with
 | zero => exact absurd h (by simp [spec_l01Order.f])
 | succ k =>
 rw [spec_l01Order.f] at h
 refine con_intro 109 [] Tryz.func139 (by kernel_rfl) rfl rfl (by kernel_rfl) fun ι0 w0 hk0 => ?_
 revert h
 refine bif_e (fun c1 => ?_) (fun c1 => ?_)
 ·refine bif_e (fun c2 => ?_) (fun c2 => ?_)
  ·refine go 12 ?_
   refine grs ?_
   refine gr_run ?_
   refine bind_e (fun v5 e5 => gr_call [] (spec_l01CompareTexts.con e5) ?_)
   clear e5
   refine gr_run ?_
   refine gr_done ?_
   refine ret_e (fun hr_ => ?_)
   subst hr_
   exact ret_ Tryz.func139 []
  ·refine bif_e (fun c3 => ?_) (fun c3 => ?_)
   ·refine bif_e (fun c4 => ?_) (fun c4 => ?_)
    ·refine go 26 ?_
     refine fun h => good_loop (fun n st => n ≤ k ∧ ∃ (v8 : _), st = ⟨[(2, .ptr 2 1 0), (3, .ptr 3 1 0), (5, .p (.int .i64 v8))], [(2, (1, .cells [.p (.int .i64 v0.f0), .p (.int .i64 v0.f1), .p (.int .i64 v0.f2), .p (.str v0.f3), .p (.lst false (List.map en130 v0.f4)), .p (.lst false (List.map srw v0.f5))])), (3, (1, .cells [.p (.int .i64 v1.f0), .p (.int .i64 v1.f1), .p (.int .i64 v1.f2), .p (.str v1.f3), .p (.lst false (List.map en130 v1.f4)), .p (.lst false (List.map srw v1.f5))]))]⟩ ∧ spec_l01Order.l0 n v8 v0 v1 = some r) k ⟨_, ⟨Nat.le_refl _, _, rfl, h⟩, frle_, memle_⟩ ?_
     clear c1 c2 c3 c4
     clear h
     rintro n _ ⟨hkl0, v8, rfl, h⟩ hl0
     cases n with
     | zero => exact absurd h (by simp [spec_l01Order.l0])
     | succ kl0 =>
     rw [spec_l01Order.l0] at h
     revert h
     refine go 2 ?_
     refine good_cut_f (fun st => ∃ (q_ : Nat), q_ ≤ kl0 ∧ st = ⟨[(2, .ptr 2 1 0), (3, .ptr 3 1 0)], [(2, (1, .cells [.p (.int .i64 v0.f0), .p (.int .i64 v0.f1), .p (.int .i64 v0.f2), .p (.str v0.f3), .p (.lst false (List.map en130 v0.f4)), .p (.lst false (List.map srw v0.f5))])), (3, (1, .cells [.p (.int .i64 v1.f0), .p (.int .i64 v1.f1), .p (.int .i64 v1.f2), .p (.str v1.f3), .p (.lst false (List.map en130 v1.f4)), .p (.lst false (List.map srw v1.f5))]))]⟩ ∧ spec_l01Order.j0 q_ v0 v1 = some r) ?_ (fun hj0 => ?_)
     ·skip
      rintro _ ⟨q_, hqj0, rfl, h⟩
      cases q_ with
      | zero => exact absurd h (by simp [spec_l01Order.j0])
      | succ kj0 =>
      rw [spec_l01Order.j0] at h
      revert h
      refine go 2 ?_
      refine grs ?_
      refine gr_run ?_
      refine bind_e (fun v9 e9 => gr_call [] (spec_l01CompareInts.con e9) ?_)
      clear e9
      refine gr_run ?_
      refine gr_done ?_
      refine ret_e (fun hr_ => ?_)
      subst hr_
      exact ret_ Tryz.func139 []
     ·refine bif_e (fun c5 => ?_) (fun c5 => ?_)
      ·refine bif_e (fun c6 => ?_) (fun c6 => ?_)
       ·refine go 7 ?_
        refine good_cut_f (fun st => ∃ (q_ : Nat), q_ ≤ kl0 ∧ st = ⟨[(2, .ptr 2 1 0), (3, .ptr 3 1 0), (5, .p (.int .i64 v8))], [(2, (1, .cells [.p (.int .i64 v0.f0), .p (.int .i64 v0.f1), .p (.int .i64 v0.f2), .p (.str v0.f3), .p (.lst false (List.map en130 v0.f4)), .p (.lst false (List.map srw v0.f5))])), (3, (1, .cells [.p (.int .i64 v1.f0), .p (.int .i64 v1.f1), .p (.int .i64 v1.f2), .p (.str v1.f3), .p (.lst false (List.map en130 v1.f4)), .p (.lst false (List.map srw v1.f5))]))]⟩ ∧ spec_l01Order.j1 q_ v8 v0 v1 = some r) ?_ (fun hj1 => ?_)
        ·clear c5 c6
         rintro _ ⟨q_, hqj1, rfl, h⟩
         cases q_ with
         | zero => exact absurd h (by simp [spec_l01Order.j1])
         | succ kj1 =>
         rw [spec_l01Order.j1] at h
         revert h
         refine bind_e (fun v15 e15 => ?_)
         replace e15 := nf_ (ix_en en130 e15)
         refine bind_e (fun v16 e16 => ?_)
         replace e16 := nf_ (ix_en en130 e16)
         refine go 2 ?_
         refine grs ?_
         refine gr_run ?_
         refine bind_e (fun v17 e17 => gr_call [] (spec_l01Order_ih _ (by omega) _ _ _ e17) ?_)
         clear e17
         refine gr_run ?_
         refine gr_done ?_
         refine bif_e (fun c7 => ?_) (fun c7 => ?_)
         ·refine go 6 ?_
          exact fun h => good_again hl0 (by omega) ⟨_, ⟨by omega, _, rfl, h⟩, frle_, memle_⟩
         ·refine go 5 ?_
          refine ret_e (fun hr_ => ?_)
          subst hr_
          exact ret_ Tryz.func139 []
        ·refine bif_e (fun c8 => ?_) (fun c8 => ?_)
         ·refine bind_e (fun v10 e10 => ?_)
          replace e10 := nf_ (ix_en srw e10)
          refine bind_e (fun v11 e11 => ?_)
          replace e11 := nf_ (ix_en srw e11)
          refine grs ?_
          refine gr_run ?_
          refine gr_done ?_
          refine bif_e (fun c9 => ?_) (fun c9 => ?_)
          ·refine go 1 ?_
           exact fun h => good_jump hj1 ⟨_, ⟨_, by omega, rfl, h⟩, frle_, memle_⟩
          ·refine go 2 ?_
           refine grs ?_
           refine gr_run ?_
           refine bind_e (fun v14 e14 => gr_call [] (spec_l01CompareTexts.con e14) ?_)
           clear e14
           refine gr_run ?_
           refine gr_done ?_
           refine ret_e (fun hr_ => ?_)
           subst hr_
           exact ret_ Tryz.func139 []
         ·refine grs ?_
          refine gr_run ?_
          refine gr_done ?_
          refine go 1 ?_
          exact fun h => good_jump hj1 ⟨_, ⟨_, by omega, rfl, h⟩, frle_, memle_⟩
       ·refine go 2 ?_
        exact fun h => good_jump hj0 ⟨_, ⟨_, by omega, rfl, h⟩, frle_, memle_⟩
      ·refine go 2 ?_
       exact fun h => good_jump hj0 ⟨_, ⟨_, by omega, rfl, h⟩, frle_, memle_⟩
    ·refine go 22 ?_
     refine grs ?_
     refine gr_run ?_
     refine bind_e (fun v7 e7 => gr_call [] (spec_l01CompareInts.con e7) ?_)
     clear e7
     refine gr_run ?_
     refine gr_done ?_
     refine ret_e (fun hr_ => ?_)
     subst hr_
     exact ret_ Tryz.func139 []
   ·refine go 17 ?_
    refine grs ?_
    refine gr_run ?_
    refine bind_e (fun v6 e6 => gr_call [] (spec_l01CompareInts.con e6) ?_)
    clear e6
    refine gr_run ?_
    refine gr_done ?_
    refine ret_e (fun hr_ => ?_)
    subst hr_
    exact ret_ Tryz.func139 []
 ·refine go 7 ?_
  refine grs ?_
  refine gr_run ?_
  refine bind_e (fun v2 e2 => gr_call [] (spec_l01Rank.con e2) ?_)
  clear e2
  refine gr_run ?_
  refine bind_e (fun v3 e3 => gr_call [] (spec_l01Rank.con e3) ?_)
  clear e3
  refine bind_e (fun v4 e4 => gr_call [] (spec_l01CompareInts.con e4) ?_)
  clear e4
  refine gr_run ?_
  refine gr_done ?_
  refine ret_e (fun hr_ => ?_)
  subst hr_
  exact ret_ Tryz.func139 []
theorem spec_l01Order.all {K : Kn} [KOk K] (k : Nat) : spec_l01Order.C K k := by
 induction k using Nat.strongRecOn with
 | _ k ih => exact spec_l01Order.con1 k ih
theorem spec_l01Order.con {K : Kn} [KOk K] {k : Nat} {v0 : S130} {v1 : S130} {r : Int} (h : spec_l01Order.f k v0 v1 = some r) : Con K Tryz.prog 139 [.agg [.p (.int .i64 v0.f0), .p (.int .i64 v0.f1), .p (.int .i64 v0.f2), .p (.str v0.f3), .p (.lst false (List.map en130 v0.f4)), .p (.lst false (List.map srw v0.f5))], .agg [.p (.int .i64 v1.f0), .p (.int .i64 v1.f1), .p (.int .i64 v1.f2), .p (.str v1.f3), .p (.lst false (List.map en130 v1.f4)), .p (.lst false (List.map srw v1.f5))]] [] (.p (.int .i64 r)) [] := (spec_l01Order.all k) _ _ r h
def spec_CompareValues.f (k : Nat) (v0 : ByteArray) (v1 : ByteArray) : Option (Int) := ((spec_l01Read.f k v0).bind fun v2 => ((spec_l01Read.f k v1).bind fun v3 => (bif decide (v2.f0 < 0) then (some 0) else (bif decide (v3.f0 < 0) then (some 0) else ((spec_l01Order.f k v2 v3).bind fun v4 => (some v4))))))
set_option maxRecDepth 100000 in
set_option maxHeartbeats 4000000 in
theorem spec_CompareValues.con {K : Kn} [KOk K] {k : Nat} {v0 : ByteArray} {v1 : ByteArray} {r : Int} (h : spec_CompareValues.f k v0 v1 = some r) : Con K Tryz.prog 102 [.p (.str v0), .p (.str v1)] [] (.p (.int .i64 r)) [] := by
 rw [spec_CompareValues.f] at h
 refine con_intro 22 [] Tryz.func102 (by kernel_rfl) rfl rfl (by kernel_rfl) fun ι0 w0 hk0 => ?_
 revert h
 refine go 3 ?_
 refine grs ?_
 refine gr_run ?_
 refine bind_e (fun v2 e2 => gr_call [] (spec_l01Read.con e2) ?_)
 clear e2
 refine gr_run ?_
 refine gr_done ?_
 refine go 1 ?_
 refine grs ?_
 refine gr_run ?_
 refine bind_e (fun v3 e3 => gr_call [] (spec_l01Read.con e3) ?_)
 clear e3
 refine gr_run ?_
 refine gr_done ?_
 refine bif_e (fun c1 => ?_) (fun c1 => ?_)
 ·refine go 6 ?_
  refine ret_e (fun hr_ => ?_)
  subst hr_
  exact ret_ Tryz.func102 []
 ·refine bif_e (fun c2 => ?_) (fun c2 => ?_)
  ·refine go 6 ?_
   refine ret_e (fun hr_ => ?_)
   subst hr_
   exact ret_ Tryz.func102 []
  ·refine go 6 ?_
   refine grs ?_
   refine gr_run ?_
   refine bind_e (fun v4 e4 => gr_call [] (spec_l01Order.con e4) ?_)
   clear e4
   refine gr_run ?_
   refine gr_done ?_
   refine ret_e (fun hr_ => ?_)
   subst hr_
   exact ret_ Tryz.func102 []
mutual
def spec_l05Side.l0 : Nat → (List ByteArray) → (List ByteArray) → Int → Option (Int)
 | 0, _, _, _ => none
 | k + 1, v0, v1, v2 => (bif decide (v2 < (v1.length : Int)) then ((ix v0 v2).bind fun v3 => ((ix v1 v2).bind fun v4 => ((spec_CompareValues.f k v3 v4).bind fun v5 => (bif (v5 == 0) then (spec_l05Side.l0 k v0 v1 (IntKind.i64.wrap (v2 + 1))) else (some v5))))) else (some 0))
def spec_l05Side.f : Nat → (List ByteArray) → (List ByteArray) → Option (Int)
 | 0, _, _ => none
 | k + 1, v0, v1 => (spec_l05Side.l0 k v0 v1 0)
end
set_option maxRecDepth 100000 in
set_option maxHeartbeats 4000000 in
theorem spec_l05Side.con {K : Kn} [KOk K] {k : Nat} {v0 : (List ByteArray)} {v1 : (List ByteArray)} {r : Int} (h : spec_l05Side.f k v0 v1 = some r) : Con K Tryz.prog 66 [.p (.lst false (List.map srw v0)), .p (.lst false (List.map srw v1))] [] (.p (.int .i64 r)) [] := by
 cases k with
 | zero => exact absurd h (by simp [spec_l05Side.f])
 | succ k =>
 rw [spec_l05Side.f] at h
 refine con_intro 25 [] Tryz.func66 (by kernel_rfl) rfl rfl (by kernel_rfl) fun ι0 w0 hk0 => ?_
 revert h
 refine go 6 ?_
 refine fun h => good_loop (fun n st => n ≤ k ∧ ∃ (v2 : _), st = ⟨[(0, .p (.lst false (List.map srw v0))), (1, .p (.lst false (List.map srw v1))), (5, .p (.int .i64 v2))], []⟩ ∧ spec_l05Side.l0 n v0 v1 v2 = some r) k ⟨_, ⟨Nat.le_refl _, _, rfl, h⟩, frle_, memle_⟩ ?_
 clear h
 rintro n _ ⟨hkl0, v2, rfl, h⟩ hl0
 cases n with
 | zero => exact absurd h (by simp [spec_l05Side.l0])
 | succ kl0 =>
 rw [spec_l05Side.l0] at h
 revert h
 refine bif_e (fun c1 => ?_) (fun c1 => ?_)
 ·refine bind_e (fun v3 e3 => ?_)
  replace e3 := nf_ (ix_en srw e3)
  refine bind_e (fun v4 e4 => ?_)
  replace e4 := nf_ (ix_en srw e4)
  refine go 8 ?_
  refine grs ?_
  refine gr_run ?_
  refine bind_e (fun v5 e5 => gr_call [] (spec_CompareValues.con e5) ?_)
  clear e5
  refine gr_run ?_
  refine gr_done ?_
  refine bif_e (fun c2 => ?_) (fun c2 => ?_)
  ·refine go 6 ?_
   exact fun h => good_again hl0 (by omega) ⟨_, ⟨by omega, _, rfl, h⟩, frle_, memle_⟩
  ·refine go 5 ?_
   refine ret_e (fun hr_ => ?_)
   subst hr_
   exact ret_ Tryz.func66 []
 ·refine go 7 ?_
  refine ret_e (fun hr_ => ?_)
  subst hr_
  exact ret_ Tryz.func66 []
def spec_l05Before.f (k : Nat) (v0 : S73) (v1 : S73) : Option (Bool) := ((spec_l05Side.f k v0.f0 v1.f0).bind fun v2 => (bif decide (v2 < 0) then (some true) else (bif (v2 == 0) then (some (decide (v0.f1 < v1.f1))) else (some false))))
set_option maxRecDepth 100000 in
set_option maxHeartbeats 4000000 in
theorem spec_l05Before.con {K : Kn} [KOk K] {k : Nat} {v0 : S73} {v1 : S73} {r : Bool} (h : spec_l05Before.f k v0 v1 = some r) : Con K Tryz.prog 61 [.agg [.p (.lst false (List.map srw v0.f0)), .p (.int .i64 v0.f1)], .agg [.p (.lst false (List.map srw v1.f0)), .p (.int .i64 v1.f1)]] [] (.p (.bool r)) [] := by
 rw [spec_l05Before.f] at h
 refine con_intro 24 [] Tryz.func61 (by kernel_rfl) rfl rfl (by kernel_rfl) fun ι0 w0 hk0 => ?_
 revert h
 refine go 3 ?_
 refine grs ?_
 refine gr_run ?_
 refine bind_e (fun v2 e2 => gr_call [] (spec_l05Side.con e2) ?_)
 clear e2
 refine gr_run ?_
 refine gr_done ?_
 refine bif_e (fun c1 => ?_) (fun c1 => ?_)
 ·refine go 2 ?_
  refine ret_e (fun hr_ => ?_)
  subst hr_
  exact ret_ Tryz.func61 []
 ·refine bif_e (fun c2 => ?_) (fun c2 => ?_)
  ·refine go 2 ?_
   refine ret_e (fun hr_ => ?_)
   subst hr_
   exact ret_ Tryz.func61 []
  ·refine go 2 ?_
   refine ret_e (fun hr_ => ?_)
   subst hr_
   exact ret_ Tryz.func61 []
mutual
def spec_IndexFault.l1 : Nat → (List S73) → Int → Int → Option (Int)
 | 0, _, _, _ => none
 | k + 1, v0, v1, v9 => (bif decide (v9 < v1) then ((ix v0 v9).bind fun v10 => ((ix v0 v1).bind fun v11 => (bif (v10.f1 == v11.f1) then (some 1) else (spec_IndexFault.l1 k v0 v1 (IntKind.i64.wrap (v9 + 1)))))) else (spec_IndexFault.l0 k v0 (IntKind.i64.wrap (v1 + 1))))
def spec_IndexFault.j0 : Nat → (List S73) → Int → Option (Int)
 | 0, _, _ => none
 | k + 1, v0, v1 => (spec_IndexFault.l1 k v0 v1 0)
def spec_IndexFault.l0 : Nat → (List S73) → Int → Option (Int)
 | 0, _, _ => none
 | k + 1, v0, v1 => (bif decide (v1 < (v0.length : Int)) then ((ix v0 v1).bind fun v2 => (bif decide ((v2.f0.length : Int) < 1) then (some 1) else (bif decide (3 < (v2.f0.length : Int)) then (some 1) else ((ix v0 0).bind fun v3 => (bif ((v2.f0.length : Int) == (v3.f0.length : Int)) then ((spec_l05Values.f k v2.f0).bind fun v5 => (bif v5 then (bif decide (0 < v1) then ((ix v0 (IntKind.i64.wrap (v1 - 1))).bind fun v6 => ((spec_l05Before.f k v6 v2).bind fun v8 => (bif v8 then (spec_IndexFault.j0 k v0 v1) else (some 1)))) else (spec_IndexFault.j0 k v0 v1)) else (some 1))) else (some 1)))))) else (some 0))
def spec_IndexFault.f : Nat → (List S73) → Option (Int)
 | 0, _ => none
 | k + 1, v0 => (bif decide (1000 < (v0.length : Int)) then (some 1) else (spec_IndexFault.l0 k v0 0))
end
set_option maxRecDepth 100000 in
set_option maxHeartbeats 4000000 in
theorem spec_IndexFault.con {K : Kn} [KOk K] {k : Nat} {v0 : (List S73)} {r : Int} (h : spec_IndexFault.f k v0 = some r) : Con K Tryz.prog 15 [.p (.lst false (List.map en73 v0))] [] (.p (.int .i64 r)) [] := by
 cases k with
 | zero => exact absurd h (by simp [spec_IndexFault.f])
 | succ k =>
 rw [spec_IndexFault.f] at h
 refine con_intro 78 [] Tryz.func15 (by kernel_rfl) rfl rfl (by kernel_rfl) fun ι0 w0 hk0 => ?_
 revert h
 refine bif_e (fun c1 => ?_) (fun c1 => ?_)
 ·refine go 8 ?_
  refine ret_e (fun hr_ => ?_)
  subst hr_
  exact ret_ Tryz.func15 []
 ·refine go 11 ?_
  refine fun h => good_loop (fun n st => n ≤ k ∧ ∃ (v1 : _), st = ⟨[(0, .p (.lst false (List.map en73 v0))), (3, .p (.int .i64 v1))], []⟩ ∧ spec_IndexFault.l0 n v0 v1 = some r) k ⟨_, ⟨Nat.le_refl _, _, rfl, h⟩, frle_, memle_⟩ ?_
  clear c1
  clear h
  rintro n _ ⟨hkl0, v1, rfl, h⟩ hl0
  cases n with
  | zero => exact absurd h (by simp [spec_IndexFault.l0])
  | succ kl0 =>
  rw [spec_IndexFault.l0] at h
  revert h
  refine bif_e (fun c2 => ?_) (fun c2 => ?_)
  ·refine bind_e (fun v2 e2 => ?_)
   replace e2 := nf_ (ix_en en73 e2)
   refine go 11 ?_
   refine good_cut_f (fun st => ∃ (q_ : Nat), q_ ≤ kl0 ∧ st = ⟨[(0, .p (.lst false (List.map en73 v0))), (3, .p (.int .i64 v1))], []⟩ ∧ spec_IndexFault.j0 q_ v0 v1 = some r) ?_ (fun hj0 => ?_)
   ·clear c2 e2
    rintro _ ⟨q_, hqj0, rfl, h⟩
    cases q_ with
    | zero => exact absurd h (by simp [spec_IndexFault.j0])
    | succ kj0 =>
    rw [spec_IndexFault.j0] at h
    revert h
    refine go 4 ?_
    refine fun h => good_loop (fun n st => n ≤ kj0 ∧ ∃ (v9 : _), st = ⟨[(0, .p (.lst false (List.map en73 v0))), (3, .p (.int .i64 v1)), (5, .p (.int .i64 v9))], []⟩ ∧ spec_IndexFault.l1 n v0 v1 v9 = some r) kj0 ⟨_, ⟨Nat.le_refl _, _, rfl, h⟩, frle_, memle_⟩ ?_
    clear h
    rintro n _ ⟨hkl1, v9, rfl, h⟩ hl1
    cases n with
    | zero => exact absurd h (by simp [spec_IndexFault.l1])
    | succ kl1 =>
    rw [spec_IndexFault.l1] at h
    revert h
    refine bif_e (fun c3 => ?_) (fun c3 => ?_)
    ·refine bind_e (fun v10 e10 => ?_)
     replace e10 := nf_ (ix_en en73 e10)
     refine bind_e (fun v11 e11 => ?_)
     replace e11 := nf_ (ix_en en73 e11)
     refine go 8 ?_
     refine grs ?_
     refine gr_run ?_
     refine gr_done ?_
     refine bif_e (fun c4 => ?_) (fun c4 => ?_)
     ·refine go 3 ?_
      refine ret_e (fun hr_ => ?_)
      subst hr_
      exact ret_ Tryz.func15 []
     ·refine go 4 ?_
      exact fun h => good_again hl1 (by omega) ⟨_, ⟨by omega, _, rfl, h⟩, frle_, memle_⟩
    ·refine go 7 ?_
     exact fun h => good_again hl0 (by omega) ⟨_, ⟨by omega, _, rfl, h⟩, frle_, memle_⟩
   ·refine bif_e (fun c5 => ?_) (fun c5 => ?_)
    ·refine grs ?_
     refine gr_run ?_
     refine gr_done ?_
     refine go 3 ?_
     refine ret_e (fun hr_ => ?_)
     subst hr_
     exact ret_ Tryz.func15 []
    ·refine bif_e (fun c6 => ?_) (fun c6 => ?_)
     ·refine grs ?_
      refine gr_run ?_
      refine gr_done ?_
      refine go 3 ?_
      refine ret_e (fun hr_ => ?_)
      subst hr_
      exact ret_ Tryz.func15 []
     ·refine bind_e (fun v3 e3 => ?_)
      replace e3 := nf_ (ix_en en73 e3)
      refine bif_e (fun c7 => ?_) (fun c7 => ?_)
      ·refine grs ?_
       refine gr_run ?_
       refine bind_e (fun v5 e5 => gr_call [] (spec_l05Values.con e5) ?_)
       clear e5
       refine bif_e (fun c8 => ?_) (fun c8 => ?_)
       ·refine bif_e (fun c9 => ?_) (fun c9 => ?_)
        ·refine bind_e (fun v6 e6 => ?_)
         replace e6 := nf_ (ix_en en73 e6)
         refine gr_run ?_
         refine bind_e (fun v8 e8 => gr_call [] (spec_l05Before.con e8) ?_)
         clear e8
         refine gr_run ?_
         refine gr_done ?_
         refine bif_e (fun c10 => ?_) (fun c10 => ?_)
         ·refine go 1 ?_
          exact fun h => good_jump hj0 ⟨_, ⟨_, by omega, rfl, h⟩, frle_, memle_⟩
         ·refine go 3 ?_
          refine ret_e (fun hr_ => ?_)
          subst hr_
          exact ret_ Tryz.func15 []
        ·refine gr_run ?_
         refine gr_done ?_
         refine go 1 ?_
         exact fun h => good_jump hj0 ⟨_, ⟨_, by omega, rfl, h⟩, frle_, memle_⟩
       ·refine gr_run ?_
        refine gr_done ?_
        refine go 3 ?_
        refine ret_e (fun hr_ => ?_)
        subst hr_
        exact ret_ Tryz.func15 []
      ·refine grs ?_
       refine gr_run ?_
       refine gr_done ?_
       refine go 3 ?_
       refine ret_e (fun hr_ => ?_)
       subst hr_
       exact ret_ Tryz.func15 []
  ·refine go 7 ?_
   refine ret_e (fun hr_ => ?_)
   subst hr_
   exact ret_ Tryz.func15 []
def spec_l05Ends.f (k : Nat) (v0 : (List S73)) (v1 : (List ByteArray)) : Option (Bool) := (bif decide ((v1.length : Int) ≤ 3) then (bif ((v0.length : Int) == 0) then ((spec_l05Values.f k v1).bind fun v2 => (some v2)) else ((ix v0 0).bind fun v3 => (bif decide ((v1.length : Int) ≤ (v3.f0.length : Int)) then ((spec_l05Values.f k v1).bind fun v4 => (some v4)) else (some false)))) else (some false))
set_option maxRecDepth 100000 in
set_option maxHeartbeats 4000000 in
theorem spec_l05Ends.con {K : Kn} [KOk K] {k : Nat} {v0 : (List S73)} {v1 : (List ByteArray)} {r : Bool} (h : spec_l05Ends.f k v0 v1 = some r) : Con K Tryz.prog 65 [.p (.lst false (List.map en73 v0)), .p (.lst false (List.map srw v1))] [] (.p (.bool r)) [] := by
 rw [spec_l05Ends.f] at h
 refine con_intro 27 [] Tryz.func65 (by kernel_rfl) rfl rfl (by kernel_rfl) fun ι0 w0 hk0 => ?_
 revert h
 refine bif_e (fun c1 => ?_) (fun c1 => ?_)
 ·refine bif_e (fun c2 => ?_) (fun c2 => ?_)
  ·refine go 3 ?_
   refine grs ?_
   refine gr_run ?_
   refine bind_e (fun v2 e2 => gr_call [] (spec_l05Values.con e2) ?_)
   clear e2
   refine gr_run ?_
   refine gr_done ?_
   refine ret_e (fun hr_ => ?_)
   subst hr_
   exact ret_ Tryz.func65 []
  ·refine bind_e (fun v3 e3 => ?_)
   replace e3 := nf_ (ix_en en73 e3)
   refine bif_e (fun c3 => ?_) (fun c3 => ?_)
   ·refine go 3 ?_
    refine grs ?_
    refine gr_run ?_
    refine bind_e (fun v4 e4 => gr_call [] (spec_l05Values.con e4) ?_)
    clear e4
    refine gr_run ?_
    refine gr_done ?_
    refine ret_e (fun hr_ => ?_)
    subst hr_
    exact ret_ Tryz.func65 []
   ·refine go 4 ?_
    refine ret_e (fun hr_ => ?_)
    subst hr_
    exact ret_ Tryz.func65 []
 ·refine go 4 ?_
  refine ret_e (fun hr_ => ?_)
  subst hr_
  exact ret_ Tryz.func65 []
mutual
def spec_FindFirst.l0 : Nat → (List S73) → (List ByteArray) → Int → Option (Int)
 | 0, _, _, _ => none
 | k + 1, v0, v1, v4 => (bif decide (v4 < (v0.length : Int)) then ((ix v0 v4).bind fun v5 => ((spec_l05Side.f k v5.f0 v1).bind fun v6 => (bif decide (0 ≤ v6) then (some v4) else (spec_FindFirst.l0 k v0 v1 (IntKind.i64.wrap (v4 + 1)))))) else (some (v0.length : Int)))
def spec_FindFirst.f : Nat → (List S73) → (List ByteArray) → Option (Int)
 | 0, _, _ => none
 | k + 1, v0, v1 => ((spec_IndexFault.f k v0).bind fun v2 => (bif (v2 == 0) then ((spec_l05Ends.f k v0 v1).bind fun v3 => (bif v3 then (spec_FindFirst.l0 k v0 v1 0) else (some (-1)))) else (some (-1))))
end
set_option maxRecDepth 100000 in
set_option maxHeartbeats 4000000 in
theorem spec_FindFirst.con {K : Kn} [KOk K] {k : Nat} {v0 : (List S73)} {v1 : (List ByteArray)} {r : Int} (h : spec_FindFirst.f k v0 v1 = some r) : Con K Tryz.prog 20 [.p (.lst false (List.map en73 v0)), .p (.lst false (List.map srw v1))] [] (.p (.int .i64 r)) [] := by
 cases k with
 | zero => exact absurd h (by simp [spec_FindFirst.f])
 | succ k =>
 rw [spec_FindFirst.f] at h
 refine con_intro 32 [] Tryz.func20 (by kernel_rfl) rfl rfl (by kernel_rfl) fun ι0 w0 hk0 => ?_
 revert h
 refine go 4 ?_
 refine grs ?_
 refine gr_run ?_
 refine bind_e (fun v2 e2 => gr_call [] (spec_IndexFault.con e2) ?_)
 clear e2
 refine bif_e (fun c1 => ?_) (fun c1 => ?_)
 ·refine gr_run ?_
  refine bind_e (fun v3 e3 => gr_call [] (spec_l05Ends.con e3) ?_)
  clear e3
  refine gr_run ?_
  refine gr_done ?_
  refine bif_e (fun c2 => ?_) (fun c2 => ?_)
  ·refine go 6 ?_
   refine fun h => good_loop (fun n st => n ≤ k ∧ ∃ (v4 : _), st = ⟨[(0, .p (.lst false (List.map en73 v0))), (1, .p (.lst false (List.map srw v1))), (5, .p (.int .i64 v4))], []⟩ ∧ spec_FindFirst.l0 n v0 v1 v4 = some r) k ⟨_, ⟨Nat.le_refl _, _, rfl, h⟩, frle_, memle_⟩ ?_
   clear c1 c2
   clear h
   rintro n _ ⟨hkl0, v4, rfl, h⟩ hl0
   cases n with
   | zero => exact absurd h (by simp [spec_FindFirst.l0])
   | succ kl0 =>
   rw [spec_FindFirst.l0] at h
   revert h
   refine bif_e (fun c3 => ?_) (fun c3 => ?_)
   ·refine bind_e (fun v5 e5 => ?_)
    replace e5 := nf_ (ix_en en73 e5)
    refine go 8 ?_
    refine grs ?_
    refine gr_run ?_
    refine bind_e (fun v6 e6 => gr_call [] (spec_l05Side.con e6) ?_)
    clear e6
    refine gr_run ?_
    refine gr_done ?_
    refine bif_e (fun c4 => ?_) (fun c4 => ?_)
    ·refine go 3 ?_
     refine ret_e (fun hr_ => ?_)
     subst hr_
     exact ret_ Tryz.func20 []
    ·refine go 4 ?_
     exact fun h => good_again hl0 (by omega) ⟨_, ⟨by omega, _, rfl, h⟩, frle_, memle_⟩
   ·refine go 7 ?_
    refine ret_e (fun hr_ => ?_)
    subst hr_
    exact ret_ Tryz.func20 []
  ·refine go 3 ?_
   refine ret_e (fun hr_ => ?_)
   subst hr_
   exact ret_ Tryz.func20 []
 ·refine gr_run ?_
  refine gr_done ?_
  refine go 3 ?_
  refine ret_e (fun hr_ => ?_)
  subst hr_
  exact ret_ Tryz.func20 []
mutual
def spec_FindRange_O.l0 : Nat → (List S73) → (List ByteArray) → (List ByteArray) → Bool → Bool → (List Int) → Int → Option ((List Int))
 | 0, _, _, _, _, _, _, _ => none
 | k + 1, v0, v1, v2, v8, v9, v12, v10 => (bif decide (v10 < (v0.length : Int)) then ((ix v0 v10).bind fun v13 => ((spec_l05Side.f k v13.f0 v1).bind fun v14 => ((spec_l05Side.f k v13.f0 v2).bind fun v16 => (bif decide (0 < (v1.length : Int)) then (bif decide (v14 < 0) then (spec_FindRange_O.l0 k v0 v1 v2 v8 v9 v12 (IntKind.i64.wrap (v10 + 1))) else (bif (v14 == 0) then (bif v8 then (bif decide (0 < (v2.length : Int)) then (bif decide (0 < v16) then (spec_FindRange_O.l0 k v0 v1 v2 true v9 v12 (IntKind.i64.wrap (v10 + 1))) else (bif (v16 == 0) then (bif v9 then ((app v12 ([v13.f1] : List Int)).bind fun v18 => (spec_FindRange_O.l0 k v0 v1 v2 true true v18 (IntKind.i64.wrap (v10 + 1)))) else (spec_FindRange_O.l0 k v0 v1 v2 true false v12 (IntKind.i64.wrap (v10 + 1)))) else ((app v12 ([v13.f1] : List Int)).bind fun v20 => (spec_FindRange_O.l0 k v0 v1 v2 true v9 v20 (IntKind.i64.wrap (v10 + 1)))))) else ((app v12 ([v13.f1] : List Int)).bind fun v22 => (spec_FindRange_O.l0 k v0 v1 v2 true v9 v22 (IntKind.i64.wrap (v10 + 1))))) else (spec_FindRange_O.l0 k v0 v1 v2 false v9 v12 (IntKind.i64.wrap (v10 + 1)))) else (bif decide (0 < (v2.length : Int)) then (bif decide (0 < v16) then (spec_FindRange_O.l0 k v0 v1 v2 v8 v9 v12 (IntKind.i64.wrap (v10 + 1))) else (bif (v16 == 0) then (bif v9 then ((app v12 ([v13.f1] : List Int)).bind fun v24 => (spec_FindRange_O.l0 k v0 v1 v2 v8 true v24 (IntKind.i64.wrap (v10 + 1)))) else (spec_FindRange_O.l0 k v0 v1 v2 v8 false v12 (IntKind.i64.wrap (v10 + 1)))) else ((app v12 ([v13.f1] : List Int)).bind fun v26 => (spec_FindRange_O.l0 k v0 v1 v2 v8 v9 v26 (IntKind.i64.wrap (v10 + 1)))))) else ((app v12 ([v13.f1] : List Int)).bind fun v28 => (spec_FindRange_O.l0 k v0 v1 v2 v8 v9 v28 (IntKind.i64.wrap (v10 + 1))))))) else (bif decide (0 < (v2.length : Int)) then (bif decide (0 < v16) then (spec_FindRange_O.l0 k v0 v1 v2 v8 v9 v12 (IntKind.i64.wrap (v10 + 1))) else (bif (v16 == 0) then (bif v9 then ((app v12 ([v13.f1] : List Int)).bind fun v30 => (spec_FindRange_O.l0 k v0 v1 v2 v8 true v30 (IntKind.i64.wrap (v10 + 1)))) else (spec_FindRange_O.l0 k v0 v1 v2 v8 false v12 (IntKind.i64.wrap (v10 + 1)))) else ((app v12 ([v13.f1] : List Int)).bind fun v32 => (spec_FindRange_O.l0 k v0 v1 v2 v8 v9 v32 (IntKind.i64.wrap (v10 + 1)))))) else ((app v12 ([v13.f1] : List Int)).bind fun v34 => (spec_FindRange_O.l0 k v0 v1 v2 v8 v9 v34 (IntKind.i64.wrap (v10 + 1))))))))) else (some v12))
def spec_FindRange_O.f : Nat → (List S73) → (List ByteArray) → (List ByteArray) → Bool → Bool → Option ((List Int))
 | 0, _, _, _, _, _ => none
 | k + 1, v0, v1, v2, v3, v4 => ((spec_IndexFault.f k v0).bind fun v5 => (bif (v5 == 0) then ((spec_l05Ends.f k v0 v1).bind fun v6 => (bif v6 then ((spec_l05Ends.f k v0 v2).bind fun v7 => (bif v7 then (spec_FindRange_O.l0 k v0 v1 v2 v3 v4 [] 0) else (some ([] : List Int)))) else (some ([] : List Int)))) else (some ([] : List Int))))
end
set_option maxRecDepth 100000 in
set_option maxHeartbeats 4000000 in
theorem spec_FindRange_O.con {K : Kn} [KOk K] {k : Nat} {v0 : (List S73)} {v1 : (List ByteArray)} {v2 : (List ByteArray)} {v3 : Bool} {v4 : Bool} {r : (List Int)} (h : spec_FindRange_O.f k v0 v1 v2 v3 v4 = some r) : Con K Tryz.prog 24 [.p (.lst false (List.map en73 v0)), .p (.lst false (List.map srw v1)), .p (.lst false (List.map srw v2)), .p (.bool v3), .p (.bool v4)] [] (.buf 2000 1 0 r.length) [(2000, (1, .buf 1 (List.map (irow .i64) r)))] := by
 cases k with
 | zero => exact absurd h (by simp [spec_FindRange_O.f])
 | succ k =>
 rw [spec_FindRange_O.f] at h
 refine con_intro 93 [91] Tryz.func24 (by kernel_rfl) rfl rfl (by kernel_rfl) fun ι0 w0 hk0 => ?_
 revert h
 refine go 6 ?_
 refine grs ?_
 refine gr_run ?_
 refine bind_e (fun v5 e5 => gr_call [] (spec_IndexFault.con e5) ?_)
 clear e5
 refine bif_e (fun c1 => ?_) (fun c1 => ?_)
 ·refine gr_run ?_
  refine bind_e (fun v6 e6 => gr_call [] (spec_l05Ends.con e6) ?_)
  clear e6
  refine bif_e (fun c2 => ?_) (fun c2 => ?_)
  ·refine gr_run ?_
   refine bind_e (fun v7 e7 => gr_call [] (spec_l05Ends.con e7) ?_)
   clear e7
   refine gr_run ?_
   refine gr_done ?_
   refine bif_e (fun c3 => ?_) (fun c3 => ?_)
   ·refine go 6 ?_
    refine adoptB_ 11 91 1 ?_
    refine fun h => good_loop (fun n st => n ≤ k ∧ ∃ (v8 : _) (v9 : _) (v10 : _) (v12 : _) (g11 : Nat), st = ⟨[(0, .p (.lst false (List.map en73 v0))), (1, .p (.lst false (List.map srw v1))), (2, .p (.lst false (List.map srw v2))), (3, .p (.bool v8)), (4, .p (.bool v9)), (11, .buf 91 g11 0 v12.length), (12, .p (.int .i64 v10))], [(91, (g11, .buf 1 (List.map (irow .i64) v12)))]⟩ ∧ spec_FindRange_O.l0 n v0 v1 v2 v8 v9 v12 v10 = some r) k ⟨_, ⟨Nat.le_refl _, _, _, _, _, 1, rfl, h⟩, frle_, memle_⟩ ?_
    clear c1 c2 c3
    clear h
    rintro n _ ⟨hkl0, v8, v9, v10, v12, g11, rfl, h⟩ hl0
    cases n with
    | zero => exact absurd h (by simp [spec_FindRange_O.l0])
    | succ kl0 =>
    rw [spec_FindRange_O.l0] at h
    revert h
    refine bif_e (fun c4 => ?_) (fun c4 => ?_)
    ·refine bind_e (fun v13 e13 => ?_)
     replace e13 := nf_ (ix_en en73 e13)
     refine go 8 ?_
     refine grs ?_
     refine gr_run ?_
     refine bind_e (fun v14 e14 => gr_call [] (spec_l05Side.con e14) ?_)
     clear e14
     refine gr_run ?_
     refine gr_done ?_
     refine go 1 ?_
     refine grs ?_
     refine gr_run ?_
     refine bind_e (fun v16 e16 => gr_call [] (spec_l05Side.con e16) ?_)
     clear e16
     refine gr_run ?_
     refine gr_done ?_
     refine bif_e (fun c5 => ?_) (fun c5 => ?_)
     ·refine bif_e (fun c6 => ?_) (fun c6 => ?_)
      ·refine go 6 ?_
       exact fun h => good_again hl0 (by omega) ⟨_, ⟨by omega, _, _, _, _, g11, rfl, h⟩, frle_, memle_⟩
      ·refine bif_e (fun c7 => ?_) (fun c7 => ?_)
       ·refine bif_e (fun c8 => ?_) (fun c8 => ?_)
        ·refine bif_e (fun c9 => ?_) (fun c9 => ?_)
         ·refine bif_e (fun c10 => ?_) (fun c10 => ?_)
          ·refine go 6 ?_
           exact fun h => good_again hl0 (by omega) ⟨_, ⟨by omega, _, _, _, _, g11, rfl, h⟩, frle_, memle_⟩
          ·refine bif_e (fun c11 => ?_) (fun c11 => ?_)
           ·refine bif_e (fun c12 => ?_) (fun c12 => ?_)
            ·refine bind_e (fun v18 e18 => ?_)
             replace e18 := nf_ (app_en (irow .i64) e18)
             refine go 8 ?_
             exact fun h => good_again hl0 (by omega) ⟨_, ⟨by omega, _, _, _, _, g11 + 1, rfl, h⟩, frle_, memle_⟩
            ·refine go 6 ?_
             exact fun h => good_again hl0 (by omega) ⟨_, ⟨by omega, _, _, _, _, g11, rfl, h⟩, frle_, memle_⟩
           ·refine bind_e (fun v20 e20 => ?_)
            replace e20 := nf_ (app_en (irow .i64) e20)
            refine go 8 ?_
            exact fun h => good_again hl0 (by omega) ⟨_, ⟨by omega, _, _, _, _, g11 + 1, rfl, h⟩, frle_, memle_⟩
         ·refine bind_e (fun v22 e22 => ?_)
          replace e22 := nf_ (app_en (irow .i64) e22)
          refine go 8 ?_
          exact fun h => good_again hl0 (by omega) ⟨_, ⟨by omega, _, _, _, _, g11 + 1, rfl, h⟩, frle_, memle_⟩
        ·refine go 6 ?_
         exact fun h => good_again hl0 (by omega) ⟨_, ⟨by omega, _, _, _, _, g11, rfl, h⟩, frle_, memle_⟩
       ·refine bif_e (fun c13 => ?_) (fun c13 => ?_)
        ·refine bif_e (fun c14 => ?_) (fun c14 => ?_)
         ·refine go 6 ?_
          exact fun h => good_again hl0 (by omega) ⟨_, ⟨by omega, _, _, _, _, g11, rfl, h⟩, frle_, memle_⟩
         ·refine bif_e (fun c15 => ?_) (fun c15 => ?_)
          ·refine bif_e (fun c16 => ?_) (fun c16 => ?_)
           ·refine bind_e (fun v24 e24 => ?_)
            replace e24 := nf_ (app_en (irow .i64) e24)
            refine go 8 ?_
            exact fun h => good_again hl0 (by omega) ⟨_, ⟨by omega, _, _, _, _, g11 + 1, rfl, h⟩, frle_, memle_⟩
           ·refine go 6 ?_
            exact fun h => good_again hl0 (by omega) ⟨_, ⟨by omega, _, _, _, _, g11, rfl, h⟩, frle_, memle_⟩
          ·refine bind_e (fun v26 e26 => ?_)
           replace e26 := nf_ (app_en (irow .i64) e26)
           refine go 8 ?_
           exact fun h => good_again hl0 (by omega) ⟨_, ⟨by omega, _, _, _, _, g11 + 1, rfl, h⟩, frle_, memle_⟩
        ·refine bind_e (fun v28 e28 => ?_)
         replace e28 := nf_ (app_en (irow .i64) e28)
         refine go 8 ?_
         exact fun h => good_again hl0 (by omega) ⟨_, ⟨by omega, _, _, _, _, g11 + 1, rfl, h⟩, frle_, memle_⟩
     ·refine bif_e (fun c17 => ?_) (fun c17 => ?_)
      ·refine bif_e (fun c18 => ?_) (fun c18 => ?_)
       ·refine go 6 ?_
        exact fun h => good_again hl0 (by omega) ⟨_, ⟨by omega, _, _, _, _, g11, rfl, h⟩, frle_, memle_⟩
       ·refine bif_e (fun c19 => ?_) (fun c19 => ?_)
        ·refine bif_e (fun c20 => ?_) (fun c20 => ?_)
         ·refine bind_e (fun v30 e30 => ?_)
          replace e30 := nf_ (app_en (irow .i64) e30)
          refine go 8 ?_
          exact fun h => good_again hl0 (by omega) ⟨_, ⟨by omega, _, _, _, _, g11 + 1, rfl, h⟩, frle_, memle_⟩
         ·refine go 6 ?_
          exact fun h => good_again hl0 (by omega) ⟨_, ⟨by omega, _, _, _, _, g11, rfl, h⟩, frle_, memle_⟩
        ·refine bind_e (fun v32 e32 => ?_)
         replace e32 := nf_ (app_en (irow .i64) e32)
         refine go 8 ?_
         exact fun h => good_again hl0 (by omega) ⟨_, ⟨by omega, _, _, _, _, g11 + 1, rfl, h⟩, frle_, memle_⟩
      ·refine bind_e (fun v34 e34 => ?_)
       replace e34 := nf_ (app_en (irow .i64) e34)
       refine go 8 ?_
       exact fun h => good_again hl0 (by omega) ⟨_, ⟨by omega, _, _, _, _, g11 + 1, rfl, h⟩, frle_, memle_⟩
    ·refine go 7 ?_
     refine ret_e (fun hr_ => ?_)
     subst hr_
     exact ret_ Tryz.func24 [(2000, (1, 91, g11))]
   ·refine go 3 ?_
    refine adoptB_ 10 2510 1 ?_
    refine ret_e (fun hr_ => ?_)
    subst hr_
    exact ret_ Tryz.func24 [(2000, (1, 2510, 1))]
  ·refine gr_run ?_
   refine gr_done ?_
   refine go 3 ?_
   refine adoptB_ 10 2510 1 ?_
   refine ret_e (fun hr_ => ?_)
   subst hr_
   exact ret_ Tryz.func24 [(2000, (1, 2510, 1))]
 ·refine gr_run ?_
  refine gr_done ?_
  refine go 3 ?_
  refine adoptB_ 10 2510 1 ?_
  refine ret_e (fun hr_ => ?_)
  subst hr_
  exact ret_ Tryz.func24 [(2000, (1, 2510, 1))]
def spec_l02Id.f (k : Nat) (v0 : Int) : Option (Bool) := (bif decide (1 ≤ v0) then (some (decide (v0 ≤ 1000000000000))) else (some false))
set_option maxRecDepth 100000 in
set_option maxHeartbeats 4000000 in
theorem spec_l02Id.con {K : Kn} [KOk K] {k : Nat} {v0 : Int} {r : Bool} (h : spec_l02Id.f k v0 = some r) : Con K Tryz.prog 107 [.p (.int .i64 v0)] [] (.p (.bool r)) [] := by
 rw [spec_l02Id.f] at h
 refine con_intro 9 [] Tryz.func107 (by kernel_rfl) rfl rfl (by kernel_rfl) fun ι0 w0 hk0 => ?_
 revert h
 refine bif_e (fun c1 => ?_) (fun c1 => ?_)
 ·refine go 4 ?_
  refine ret_e (fun hr_ => ?_)
  subst hr_
  exact ret_ Tryz.func107 []
 ·refine go 4 ?_
  refine ret_e (fun hr_ => ?_)
  subst hr_
  exact ret_ Tryz.func107 []
mutual
def spec_l02Labels.l0 : Nat → (List ByteArray) → Int → Option (Bool)
 | 0, _, _ => none
 | k + 1, v0, v2 => (bif decide (v2 < (v0.length : Int)) then ((ix v0 v2).bind fun v3 => ((spec_l01Name.f k v3).bind fun v4 => (bif v4 then (spec_l02Labels.l0 k v0 (IntKind.i64.wrap (v2 + 1))) else (some false)))) else (some true))
def spec_l02Labels.f : Nat → (List ByteArray) → Option (Bool)
 | 0, _ => none
 | k + 1, v0 => (bif decide (10 < (v0.length : Int)) then (some false) else ((spec_l01Rising.f k v0).bind fun v1 => (bif v1 then (spec_l02Labels.l0 k v0 0) else (some false))))
end
set_option maxRecDepth 100000 in
set_option maxHeartbeats 4000000 in
theorem spec_l02Labels.con {K : Kn} [KOk K] {k : Nat} {v0 : (List ByteArray)} {r : Bool} (h : spec_l02Labels.f k v0 = some r) : Con K Tryz.prog 108 [.p (.lst false (List.map srw v0))] [] (.p (.bool r)) [] := by
 cases k with
 | zero => exact absurd h (by simp [spec_l02Labels.f])
 | succ k =>
 rw [spec_l02Labels.f] at h
 refine con_intro 24 [] Tryz.func108 (by kernel_rfl) rfl rfl (by kernel_rfl) fun ι0 w0 hk0 => ?_
 revert h
 refine bif_e (fun c1 => ?_) (fun c1 => ?_)
 ·refine go 8 ?_
  refine ret_e (fun hr_ => ?_)
  subst hr_
  exact ret_ Tryz.func108 []
 ·refine go 4 ?_
  refine grs ?_
  refine gr_run ?_
  refine bind_e (fun v1 e1 => gr_call [] (spec_l01Rising.con e1) ?_)
  clear e1
  refine gr_run ?_
  refine gr_done ?_
  refine bif_e (fun c2 => ?_) (fun c2 => ?_)
  ·refine go 6 ?_
   refine fun h => good_loop (fun n st => n ≤ k ∧ ∃ (v2 : _), st = ⟨[(0, .p (.lst false (List.map srw v0))), (3, .p (.int .i64 v2))], []⟩ ∧ spec_l02Labels.l0 n v0 v2 = some r) k ⟨_, ⟨Nat.le_refl _, _, rfl, h⟩, frle_, memle_⟩ ?_
   clear c1 c2
   clear h
   rintro n _ ⟨hkl0, v2, rfl, h⟩ hl0
   cases n with
   | zero => exact absurd h (by simp [spec_l02Labels.l0])
   | succ kl0 =>
   rw [spec_l02Labels.l0] at h
   revert h
   refine bif_e (fun c3 => ?_) (fun c3 => ?_)
   ·refine bind_e (fun v3 e3 => ?_)
    replace e3 := nf_ (ix_en srw e3)
    refine go 8 ?_
    refine grs ?_
    refine gr_run ?_
    refine bind_e (fun v4 e4 => gr_call [] (spec_l01Name.con e4) ?_)
    clear e4
    refine gr_run ?_
    refine gr_done ?_
    refine bif_e (fun c4 => ?_) (fun c4 => ?_)
    ·refine go 4 ?_
     exact fun h => good_again hl0 (by omega) ⟨_, ⟨by omega, _, rfl, h⟩, frle_, memle_⟩
    ·refine go 3 ?_
     refine ret_e (fun hr_ => ?_)
     subst hr_
     exact ret_ Tryz.func108 []
   ·refine go 7 ?_
    refine ret_e (fun hr_ => ?_)
    subst hr_
    exact ret_ Tryz.func108 []
  ·refine go 3 ?_
   refine ret_e (fun hr_ => ?_)
   subst hr_
   exact ret_ Tryz.func108 []
end Go.Ab
