/- What the functions compute, and their contracts, part 5. No condition beyond KOk. -/
import Derived.Test.YtaddedbombndlaaAbX
import Derived.Test.YtaddedbombndlaaAbF4
namespace Go.Ab
open Go.Proofs
set_option linter.unusedVariables false
set_option linter.unusedSimpArgs false
def impl_readTest.f (k : Nat) (v0 : ByteArray) : Option (S149 × Bool) := (bif decide (200 < (v0.size : Int)) then (some ((⟨0, (⟨#[]⟩ : ByteArray), ([] : (List S149))⟩ : S149), false)) else ((impl_testReader_or.f k (⟨v0, 0, 0, false⟩ : S163)).bind fun v1 => (bif v1.2.f3 then (some (v1.1, false)) else (bif (v1.2.f1 == (v0.size : Int)) then ((impl_test_show.f k v1.1).bind fun v2 => (bif decide (v2 = v0) then (some (v1.1, true)) else (some (v1.1, false)))) else (some (v1.1, false))))))
set_option maxRecDepth 100000 in
set_option maxHeartbeats 4000000 in
theorem impl_readTest.con {K : Kn} [KOk K] {k : Nat} {v0 : ByteArray} {r : S149 × Bool} (h : impl_readTest.f k v0 = some r) : Con K Try.prog 106 [.p (.str v0)] [] (.tup [.agg [.p (.int .u8 r.1.f0), .p (.str r.1.f1), .p (.lst false (List.map en149 r.1.f2))], .p (.bool r.2)]) [] := by
 rw [impl_readTest.f] at h
 refine con_intro 36 [] Try.func106 (by kernel_rfl) rfl rfl (by kernel_rfl) fun ι0 w0 hk0 => ?_
 revert h
 refine bif_e (fun c1 => ?_) (fun c1 => ?_)
 ·refine go 8 ?_
  refine ret_e (fun hr_ => ?_)
  subst hr_
  exact ret_ Try.func106 []
 ·refine go 10 ?_
  refine grs ?_
  refine gr_run ?_
  refine bind_e (fun v1 e1 => gr_call [(1000, (0, 12, 1))] (impl_testReader_or.con e1) ?_)
  clear e1
  refine gr_run ?_
  refine gr_done ?_
  refine bif_e (fun c2 => ?_) (fun c2 => ?_)
  ·refine go 6 ?_
   refine ret_e (fun hr_ => ?_)
   subst hr_
   exact ret_ Try.func106 []
  ·refine bif_e (fun c3 => ?_) (fun c3 => ?_)
   ·refine go 2 ?_
    refine grs ?_
    refine gr_run ?_
    refine bind_e (fun v2 e2 => gr_call [] (impl_test_show.con e2) ?_)
    clear e2
    refine gr_run ?_
    refine gr_done ?_
    refine bif_e (fun c4 => ?_) (fun c4 => ?_)
    ·refine go 4 ?_
     refine ret_e (fun hr_ => ?_)
     subst hr_
     exact ret_ Try.func106 []
    ·refine go 3 ?_
     refine ret_e (fun hr_ => ?_)
     subst hr_
     exact ret_ Try.func106 []
   ·refine go 6 ?_
    refine ret_e (fun hr_ => ?_)
    subst hr_
    exact ret_ Try.func106 []
def impl_LabelsFault.f (k : Nat) (v0 : ByteArray) : Option (Int) := ((impl_readTest.f k v0).bind fun v1 => (bif v1.2 then (some 0) else (some 1)))
set_option maxRecDepth 100000 in
set_option maxHeartbeats 4000000 in
theorem impl_LabelsFault.con {K : Kn} [KOk K] {k : Nat} {v0 : ByteArray} {r : Int} (h : impl_LabelsFault.f k v0 = some r) : Con K Try.prog 87 [.p (.str v0)] [] (.p (.int .i64 r)) [] := by
 rw [impl_LabelsFault.f] at h
 refine con_intro 12 [] Try.func87 (by kernel_rfl) rfl rfl (by kernel_rfl) fun ι0 w0 hk0 => ?_
 revert h
 refine go 4 ?_
 refine grs ?_
 refine gr_run ?_
 refine bind_e (fun v1 e1 => gr_call [] (impl_readTest.con e1) ?_)
 clear e1
 refine gr_run ?_
 refine gr_done ?_
 refine bif_e (fun c1 => ?_) (fun c1 => ?_)
 ·refine go 6 ?_
  refine ret_e (fun hr_ => ?_)
  subst hr_
  exact ret_ Try.func87 []
 ·refine go 5 ?_
  refine ret_e (fun hr_ => ?_)
  subst hr_
  exact ret_ Try.func87 []
mutual
def impl_patternOk.j0 : Nat → S49 → Int → (Bool × (List (ByteArray × Int))) → Option (Bool)
 | 0, _, _, _ => none
 | k + 1, v0, v2, v6 => (impl_patternOk.l0 k v0 (IntKind.i64.wrap (v2 + 1)) v6.2)
def impl_patternOk.l1 : Nat → S49 → Int → (List (ByteArray × Int)) → Option (Bool)
 | 0, _, _, _ => none
 | k + 1, v0, v8, v3 => (bif decide (v8 < (v0.f3.length : Int)) then ((ix v0.f3 v8).bind fun v10 => (bif decide (v10.f0 = (⟨#[]⟩ : ByteArray)) then (bif decide (v10.f1 = (⟨#[]⟩ : ByteArray)) then (impl_patternOk.l1 k v0 (IntKind.i64.wrap (v8 + 1)) v3) else ((impl_LabelsFault.f k v10.f1).bind fun v11 => (bif (v11 == 0) then (impl_patternOk.l1 k v0 (IntKind.i64.wrap (v8 + 1)) v3) else (some false)))) else ((impl_free.f k v10.f0).bind fun v12 => (bif v12 then (bif decide (0 < (tget v3 v10.f0 0)) then (some false) else (bif decide (v10.f1 = (⟨#[]⟩ : ByteArray)) then (impl_patternOk.l1 k v0 (IntKind.i64.wrap (v8 + 1)) v3) else ((impl_LabelsFault.f k v10.f1).bind fun v13 => (bif (v13 == 0) then (impl_patternOk.l1 k v0 (IntKind.i64.wrap (v8 + 1)) v3) else (some false))))) else (some false))))) else (some true))
def impl_patternOk.l0 : Nat → S49 → Int → (List (ByteArray × Int)) → Option (Bool)
 | 0, _, _, _ => none
 | k + 1, v0, v2, v3 => (bif decide (v2 < (v0.f4.length : Int)) then ((ix v0.f4 v2).bind fun v5 => ((impl_patternOk_1.f k v5.f0 v3).bind fun v6 => (bif v6.1 then ((impl_risingNames.f k v5.f1 10).bind fun v7 => (bif v7 then (bif decide (v5.f2 < 1) then (some false) else (bif decide (3 < v5.f2) then (some false) else (bif v5.f3 then (bif decide (v5.f4 < 0) then (some false) else (bif decide (v5.f5 < v5.f4) then (some false) else (bif decide (v5.f5 < 1) then (some false) else (bif decide (10 < v5.f5) then (some false) else (impl_patternOk.j0 k v0 v2 v6))))) else (bif (v5.f4 == 0) then (bif (v5.f5 == 0) then (impl_patternOk.j0 k v0 v2 v6) else (some false)) else (some false))))) else (some false))) else (some false)))) else (impl_patternOk.l1 k v0 0 v3))
def impl_patternOk.f : Nat → S49 → Option (Bool)
 | 0, _ => none
 | k + 1, v0 => (bif decide ((v0.f3.length : Int) < 1) then (some false) else (bif decide (10 < (v0.f3.length : Int)) then (some false) else (bif ((v0.f4.length : Int) == (IntKind.i64.wrap ((v0.f3.length : Int) - 1))) then (bif decide (v0.f1 < 0) then (some false) else (bif decide (2 < v0.f1) then (some false) else ((impl_patternOk_1.f k v0.f0 ([] : List (ByteArray × Int))).bind fun v1 => (bif v1.1 then (impl_patternOk.l0 k v0 0 v1.2) else (some false))))) else (some false))))
end
set_option maxRecDepth 100000 in
set_option maxHeartbeats 4000000 in
theorem impl_patternOk.con {K : Kn} [KOk K] {k : Nat} {v0 : S49} {r : Bool} (h : impl_patternOk.f k v0 = some r) : Con K Try.prog 44 [.agg [.p (.str v0.f0), .p (.int .i64 v0.f1), .p (.bool v0.f2), .p (.lst false (List.map en124 v0.f3)), .p (.lst false (List.map en127 v0.f4))]] [] (.p (.bool r)) [] := by
 cases k with
 | zero => exact absurd h (by simp [impl_patternOk.f])
 | succ k =>
 rw [impl_patternOk.f] at h
 refine con_intro 149 [] Try.func44 (by kernel_rfl) rfl rfl (by kernel_rfl) fun ι0 w0 hk0 => ?_
 revert h
 refine bif_e (fun c1 => ?_) (fun c1 => ?_)
 ·refine go 8 ?_
  refine ret_e (fun hr_ => ?_)
  subst hr_
  exact ret_ Try.func44 []
 ·refine bif_e (fun c2 => ?_) (fun c2 => ?_)
  ·refine go 8 ?_
   refine ret_e (fun hr_ => ?_)
   subst hr_
   exact ret_ Try.func44 []
  ·refine bif_e (fun c3 => ?_) (fun c3 => ?_)
   ·refine bif_e (fun c4 => ?_) (fun c4 => ?_)
    ·refine go 8 ?_
     refine ret_e (fun hr_ => ?_)
     subst hr_
     exact ret_ Try.func44 []
    ·refine bif_e (fun c5 => ?_) (fun c5 => ?_)
     ·refine go 8 ?_
      refine ret_e (fun hr_ => ?_)
      subst hr_
      exact ret_ Try.func44 []
     ·refine go 13 ?_
      refine grs ?_
      refine gr_run ?_
      refine bind_e (fun v1 e1 => gr_call [(1000, (0, 3, 1)), (1500, (0, 39, 1))] (impl_patternOk_1.con e1) ?_)
      clear e1
      refine gr_run ?_
      refine gr_done ?_
      refine bif_e (fun c6 => ?_) (fun c6 => ?_)
      ·refine go 6 ?_
       refine fun h => good_loop (fun n st => n ≤ k ∧ ∃ (v2 : _) (v3 : _) (g4 : Nat), st = ⟨[(1, .ptr 1 1 0), (3, .ptr 3 1 0), (4, .clo 85 [] [.ptr 3 1 0]), (47, .p (.lst false (List.map en127 v0.f4))), (48, .p (.int .i64 (v0.f4.length : Int))), (49, .p (.int .i64 v2))], [(1, (1, .cells [.p (.str v0.f0), .p (.int .i64 v0.f1), .p (.bool v0.f2), .p (.lst false (List.map en124 v0.f3)), .p (.lst false (List.map en127 v0.f4))])), (39, (1, .map (.str) false (List.map (es (irow .i64)) v3))), (3, (1, .cells [.mp 39 1])), (6, (g4, .gone))]⟩ ∧ impl_patternOk.l0 n v0 v2 v3 = some r) k ⟨_, ⟨Nat.le_refl _, _, _, 0, rfl, h⟩, frle_, memle_⟩ ?_
       clear c1 c2 c3 c4 c5 c6
       clear h
       rintro n _ ⟨hkl0, v2, v3, g4, rfl, h⟩ hl0
       cases n with
       | zero => exact absurd h (by simp [impl_patternOk.l0])
       | succ kl0 =>
       rw [impl_patternOk.l0] at h
       revert h
       refine bif_e (fun c7 => ?_) (fun c7 => ?_)
       ·refine bind_e (fun v5 e5 => ?_)
        replace e5 := nf_ (ix_en en127 e5)
        refine go 11 ?_
        refine grs ?_
        refine gr_run ?_
        refine bind_e (fun v6 e6 => gr_call [(1000, (0, 3, 1)), (1500, (0, 39, 1))] (impl_patternOk_1.con e6) ?_)
        clear e6
        refine bif_e (fun c8 => ?_) (fun c8 => ?_)
        ·refine gr_run ?_
         refine bind_e (fun v7 e7 => gr_call [] (impl_risingNames.con e7) ?_)
         clear e7
         refine bif_e (fun c9 => ?_) (fun c9 => ?_)
         ·refine bif_e (fun c10 => ?_) (fun c10 => ?_)
          ·refine gr_run ?_
           refine gr_done ?_
           refine go 3 ?_
           refine ret_e (fun hr_ => ?_)
           subst hr_
           exact ret_ Try.func44 []
          ·refine gr_run ?_
           refine gr_done ?_
           refine bif_e (fun c11 => ?_) (fun c11 => ?_)
           ·refine go 3 ?_
            refine ret_e (fun hr_ => ?_)
            subst hr_
            exact ret_ Try.func44 []
           ·refine go 3 ?_
            refine good_cut_f (fun st => ∃ (q_ : Nat), q_ ≤ kl0 ∧ st = ⟨[(1, .ptr 1 1 0), (3, .ptr 3 1 0), (4, .clo 85 [] [.ptr 3 1 0]), (47, .p (.lst false (List.map en127 v0.f4))), (48, .p (.int .i64 (v0.f4.length : Int))), (49, .p (.int .i64 v2))], [(1, (1, .cells [.p (.str v0.f0), .p (.int .i64 v0.f1), .p (.bool v0.f2), .p (.lst false (List.map en124 v0.f3)), .p (.lst false (List.map en127 v0.f4))])), (39, (1, .map (.str) false (List.map (es (irow .i64)) v6.2))), (3, (1, .cells [.mp 39 1])), (6, (g4 + 1, .gone))]⟩ ∧ impl_patternOk.j0 q_ v0 v2 v6 = some r) ?_ (fun hj0 => ?_)
            ·clear c7 e5 c8 c9 c10 c11
             rintro _ ⟨q_, hqj0, rfl, h⟩
             cases q_ with
             | zero => exact absurd h (by simp [impl_patternOk.j0])
             | succ kj0 =>
             rw [impl_patternOk.j0] at h
             revert h
             refine go 3 ?_
             exact fun h => good_again hl0 (by omega) ⟨_, ⟨by omega, _, _, g4 + 1, rfl, h⟩, frle_, memle_⟩
            ·refine bif_e (fun c12 => ?_) (fun c12 => ?_)
             ·refine bif_e (fun c13 => ?_) (fun c13 => ?_)
              ·refine go 4 ?_
               refine ret_e (fun hr_ => ?_)
               subst hr_
               exact ret_ Try.func44 []
              ·refine bif_e (fun c14 => ?_) (fun c14 => ?_)
               ·refine go 4 ?_
                refine ret_e (fun hr_ => ?_)
                subst hr_
                exact ret_ Try.func44 []
               ·refine bif_e (fun c15 => ?_) (fun c15 => ?_)
                ·refine go 4 ?_
                 refine ret_e (fun hr_ => ?_)
                 subst hr_
                 exact ret_ Try.func44 []
                ·refine bif_e (fun c16 => ?_) (fun c16 => ?_)
                 ·refine go 4 ?_
                  refine ret_e (fun hr_ => ?_)
                  subst hr_
                  exact ret_ Try.func44 []
                 ·refine go 2 ?_
                  exact fun h => good_jump hj0 ⟨_, ⟨_, by omega, rfl, h⟩, frle_, memle_⟩
             ·refine bif_e (fun c17 => ?_) (fun c17 => ?_)
              ·refine bif_e (fun c18 => ?_) (fun c18 => ?_)
               ·refine go 2 ?_
                exact fun h => good_jump hj0 ⟨_, ⟨_, by omega, rfl, h⟩, frle_, memle_⟩
               ·refine go 4 ?_
                refine ret_e (fun hr_ => ?_)
                subst hr_
                exact ret_ Try.func44 []
              ·refine go 4 ?_
               refine ret_e (fun hr_ => ?_)
               subst hr_
               exact ret_ Try.func44 []
         ·refine gr_run ?_
          refine gr_done ?_
          refine go 3 ?_
          refine ret_e (fun hr_ => ?_)
          subst hr_
          exact ret_ Try.func44 []
        ·refine gr_run ?_
         refine gr_done ?_
         refine go 3 ?_
         refine ret_e (fun hr_ => ?_)
         subst hr_
         exact ret_ Try.func44 []
       ·refine go 9 ?_
        refine fun h => good_loop (fun n st => n ≤ kl0 ∧ ∃ (v8 : _) (g9 : Nat), st = ⟨[(3, .ptr 3 1 0), (115, .p (.lst false (List.map en124 v0.f3))), (116, .p (.int .i64 (v0.f3.length : Int))), (117, .p (.int .i64 v8))], [(1, (1, .gone)), (39, (1, .map (.str) false (List.map (es (irow .i64)) v3))), (3, (1, .cells [.mp 39 1])), (6, (g4, .gone)), (8, (g9, .gone))]⟩ ∧ impl_patternOk.l1 n v0 v8 v3 = some r) kl0 ⟨_, ⟨Nat.le_refl _, _, 0, rfl, h⟩, frle_, memle_⟩ ?_
        clear c7
        clear h
        rintro n _ ⟨hkl1, v8, g9, rfl, h⟩ hl1
        cases n with
        | zero => exact absurd h (by simp [impl_patternOk.l1])
        | succ kl1 =>
        rw [impl_patternOk.l1] at h
        revert h
        refine bif_e (fun c19 => ?_) (fun c19 => ?_)
        ·refine bind_e (fun v10 e10 => ?_)
         replace e10 := nf_ (ix_en en124 e10)
         refine bif_e (fun c20 => ?_) (fun c20 => ?_)
         ·refine bif_e (fun c21 => ?_) (fun c21 => ?_)
          ·refine go 15 ?_
           exact fun h => good_again hl1 (by omega) ⟨_, ⟨by omega, _, g9 + 1, rfl, h⟩, frle_, memle_⟩
          ·refine go 10 ?_
           refine grs ?_
           refine gr_run ?_
           refine bind_e (fun v11 e11 => gr_call [] (impl_LabelsFault.con e11) ?_)
           clear e11
           refine gr_run ?_
           refine gr_done ?_
           refine bif_e (fun c22 => ?_) (fun c22 => ?_)
           ·refine go 4 ?_
            exact fun h => good_again hl1 (by omega) ⟨_, ⟨by omega, _, g9 + 1, rfl, h⟩, frle_, memle_⟩
           ·refine go 3 ?_
            refine ret_e (fun hr_ => ?_)
            subst hr_
            exact ret_ Try.func44 []
         ·refine go 10 ?_
          refine grs ?_
          refine gr_run ?_
          refine bind_e (fun v12 e12 => gr_call [] (impl_free.con e12) ?_)
          clear e12
          refine bif_e (fun c23 => ?_) (fun c23 => ?_)
          ·refine bif_e (fun c24 => ?_) (fun c24 => ?_)
           ·refine gr_run ?_
            refine gr_done ?_
            refine go 3 ?_
            refine ret_e (fun hr_ => ?_)
            subst hr_
            exact ret_ Try.func44 []
           ·refine bif_e (fun c25 => ?_) (fun c25 => ?_)
            ·refine gr_run ?_
             refine gr_done ?_
             refine go 4 ?_
             exact fun h => good_again hl1 (by omega) ⟨_, ⟨by omega, _, g9 + 1, rfl, h⟩, frle_, memle_⟩
            ·refine gr_run ?_
             refine bind_e (fun v13 e13 => gr_call [] (impl_LabelsFault.con e13) ?_)
             clear e13
             refine gr_run ?_
             refine gr_done ?_
             refine bif_e (fun c26 => ?_) (fun c26 => ?_)
             ·refine go 4 ?_
              exact fun h => good_again hl1 (by omega) ⟨_, ⟨by omega, _, g9 + 1, rfl, h⟩, frle_, memle_⟩
             ·refine go 3 ?_
              refine ret_e (fun hr_ => ?_)
              subst hr_
              exact ret_ Try.func44 []
          ·refine gr_run ?_
           refine gr_done ?_
           refine go 3 ?_
           refine ret_e (fun hr_ => ?_)
           subst hr_
           exact ret_ Try.func44 []
        ·refine go 7 ?_
         refine ret_e (fun hr_ => ?_)
         subst hr_
         exact ret_ Try.func44 []
      ·refine go 3 ?_
       refine ret_e (fun hr_ => ?_)
       subst hr_
       exact ret_ Try.func44 []
   ·refine go 8 ?_
    refine ret_e (fun hr_ => ?_)
    subst hr_
    exact ret_ Try.func44 []
mutual
def impl_insert_bv_O.j1 : Nat → (List ByteArray) → ByteArray → Int → Option ((List ByteArray))
 | 0, _, _, _ => none
 | k + 1, v1, v0, v2 => ((mks (⟨#[]⟩ : ByteArray) 0 (IntKind.i64.wrap ((v1.length : Int) + 1))).bind fun v7 => ((lsub v1 0 v2).bind fun v8 => ((app v7 v8).bind fun v9 => ((app v9 ([v0] : List ByteArray)).bind fun v10 => ((lsub v1 v2 (v1.length : Int)).bind fun v11 => ((app v10 v11).bind fun v12 => (some v12)))))))
def impl_insert_bv_O.j0 : Nat → (List ByteArray) → ByteArray → Int → Option ((List ByteArray))
 | 0, _, _, _ => none
 | k + 1, v1, v0, v2 => (bif decide (v2 < (v1.length : Int)) then ((inr v2 v1.length).bind fun v5 => ((v1[(Int.toNat v2)]?).bind fun v6 => (bif decide (v6 = v0) then (some v1) else (impl_insert_bv_O.j1 k v1 v0 v2)))) else (impl_insert_bv_O.j1 k v1 v0 v2))
def impl_insert_bv_O.l0 : Nat → (List ByteArray) → ByteArray → Int → Option ((List ByteArray))
 | 0, _, _, _ => none
 | k + 1, v1, v0, v2 => (bif decide (v2 < (v1.length : Int)) then ((inr v2 v1.length).bind fun v3 => ((v1[(Int.toNat v2)]?).bind fun v4 => (bif slt v4 v0 then (impl_insert_bv_O.l0 k v1 v0 (IntKind.i64.wrap (v2 + 1))) else (impl_insert_bv_O.j0 k v1 v0 v2)))) else (impl_insert_bv_O.j0 k v1 v0 v2))
def impl_insert_bv_O.f : Nat → ByteArray → (List ByteArray) → Option ((List ByteArray))
 | 0, _, _ => none
 | k + 1, v0, v1 => (impl_insert_bv_O.l0 k v1 v0 0)
end
set_option maxRecDepth 100000 in
set_option maxHeartbeats 4000000 in
theorem impl_insert_bv_O.con {K : Kn} [KOk K] {k : Nat} {v0 : ByteArray} {v1 : (List ByteArray)} {r : (List ByteArray)} (h : impl_insert_bv_O.f k v0 v1 = some r) : Con K Try.prog 67 [.buf 1000 0 0 v1.length, .p (.str v0)] [(1000, (0, .buf 1 (List.map srw v1)))] (.buf 2000 1 0 r.length) [(2000, (1, .buf 1 (List.map srw r))), (1000, (0, .gone))] := by
 cases k with
 | zero => exact absurd h (by simp [impl_insert_bv_O.f])
 | succ k =>
 rw [impl_insert_bv_O.f] at h
 refine con_intro 52 [42, 46, 51] Try.func67 (by kernel_rfl) rfl rfl (by kernel_rfl) fun ι0 w0 hk0 => ?_
 revert h
 refine go 6 ?_
 refine fun h => good_loop (fun n st => n ≤ k ∧ ∃ (v2 : _), st = ⟨[(0, .buf 1000 0 0 v1.length), (1, .p (.str v0)), (5, .p (.int .i64 v2))], [(1000, (0, .buf 1 (List.map srw v1)))]⟩ ∧ impl_insert_bv_O.l0 n v1 v0 v2 = some r) k ⟨_, ⟨Nat.le_refl _, _, rfl, h⟩, frle_, memle_⟩ ?_
 clear h
 rintro n _ ⟨hkl0, v2, rfl, h⟩ hl0
 cases n with
 | zero => exact absurd h (by simp [impl_insert_bv_O.l0])
 | succ kl0 =>
 rw [impl_insert_bv_O.l0] at h
 revert h
 refine go 2 ?_
 refine good_cut_f (fun st => ∃ (q_ : Nat), q_ ≤ kl0 ∧ st = ⟨[(0, .buf 1000 0 0 v1.length), (1, .p (.str v0)), (5, .p (.int .i64 v2))], [(1000, (0, .buf 1 (List.map srw v1)))]⟩ ∧ impl_insert_bv_O.j0 q_ v1 v0 v2 = some r) ?_ (fun hj0 => ?_)
 ·skip
  rintro _ ⟨q_, hqj0, rfl, h⟩
  cases q_ with
  | zero => exact absurd h (by simp [impl_insert_bv_O.j0])
  | succ kj0 =>
  rw [impl_insert_bv_O.j0] at h
  revert h
  refine go 3 ?_
  refine good_cut_f (fun st => ∃ (q_ : Nat), q_ ≤ kj0 ∧ st = ⟨[(0, .buf 1000 0 0 v1.length), (1, .p (.str v0)), (5, .p (.int .i64 v2))], [(1000, (0, .buf 1 (List.map srw v1)))]⟩ ∧ impl_insert_bv_O.j1 q_ v1 v0 v2 = some r) ?_ (fun hj1 => ?_)
  ·skip
   rintro _ ⟨q_, hqj1, rfl, h⟩
   cases q_ with
   | zero => exact absurd h (by simp [impl_insert_bv_O.j1])
   | succ kj1 =>
   rw [impl_insert_bv_O.j1] at h
   revert h
   refine go 2 ?_
   refine freeze_ 0 ?_
   refine bind_e (fun v7 e7 => ?_)
   replace e7 := nf_ (mks_en srw e7)
   refine bind_e (fun v8 e8 => ?_)
   replace e8 := nf_ (lsub_en srw e8)
   refine bind_e (fun v9 e9 => ?_)
   replace e9 := nf_ (app_en srw e9)
   refine bind_e (fun v10 e10 => ?_)
   replace e10 := nf_ (app_en srw e10)
   refine bind_e (fun v11 e11 => ?_)
   replace e11 := nf_ (lsub_en srw e11)
   refine bind_e (fun v12 e12 => ?_)
   replace e12 := nf_ (app_en srw e12)
   refine go 7 ?_
   refine ret_e (fun hr_ => ?_)
   subst hr_
   exact ret_ Try.func67 [(2000, (1, 37, 4)), (1000, (0, 1000, 0))]
  ·refine bif_e (fun c1 => ?_) (fun c1 => ?_)
   ·refine bind_e (fun v5 e5 => ?_)
    refine bind_e (fun v6 e6 => ?_)
    replace e6 := nf_ (gx_en srw e6)
    refine bif_e (fun c2 => ?_) (fun c2 => ?_)
    ·refine go 4 ?_
     refine moveB_ 4 2504 1000 ?_
     refine ret_e (fun hr_ => ?_)
     subst hr_
     exact ret_ Try.func67 [(2000, (1, 2504, 1)), (1000, (0, 1000, 0))]
    ·refine go 2 ?_
     exact fun h => good_jump hj1 ⟨_, ⟨_, by omega, rfl, h⟩, frle_, memle_⟩
   ·refine go 2 ?_
    exact fun h => good_jump hj1 ⟨_, ⟨_, by omega, rfl, h⟩, frle_, memle_⟩
 ·refine bif_e (fun c3 => ?_) (fun c3 => ?_)
  ·refine bind_e (fun v3 e3 => ?_)
   refine bind_e (fun v4 e4 => ?_)
   replace e4 := nf_ (gx_en srw e4)
   refine bif_e (fun c4 => ?_) (fun c4 => ?_)
   ·refine go 6 ?_
    exact fun h => good_again hl0 (by omega) ⟨_, ⟨by omega, _, rfl, h⟩, frle_, memle_⟩
   ·refine go 2 ?_
    exact fun h => good_jump hj0 ⟨_, ⟨_, by omega, rfl, h⟩, frle_, memle_⟩
  ·refine go 2 ?_
   exact fun h => good_jump hj0 ⟨_, ⟨_, by omega, rfl, h⟩, frle_, memle_⟩
mutual
def impl_Pattern_names_O.j1 : Nat → (List ByteArray) → S49 → Int → Option ((List ByteArray))
 | 0, _, _, _ => none
 | k + 1, v13, v0, v5 => (impl_Pattern_names_O.l0 k v13 v0 (IntKind.i64.wrap (v5 + 1)))
def impl_Pattern_names_O.l1 : Nat → (List ByteArray) → S49 → Int → Option ((List ByteArray))
 | 0, _, _, _ => none
 | k + 1, v17, v0, v15 => (bif decide (v15 < (v0.f4.length : Int)) then ((ix v0.f4 v15).bind fun v20 => (bif decide (v20.f0 = (⟨#[]⟩ : ByteArray)) then (impl_Pattern_names_O.l1 k v17 v0 (IntKind.i64.wrap (v15 + 1))) else ((impl_insert_bv_O.f k v20.f0 v17).bind fun v21 => (impl_Pattern_names_O.l1 k v21 v0 (IntKind.i64.wrap (v15 + 1)))))) else (some v17))
def impl_Pattern_names_O.l0 : Nat → (List ByteArray) → S49 → Int → Option ((List ByteArray))
 | 0, _, _, _ => none
 | k + 1, v7, v0, v5 => (bif decide (v5 < (v0.f3.length : Int)) then ((ix v0.f3 v5).bind fun v10 => (bif decide (v10.f0 = (⟨#[]⟩ : ByteArray)) then (impl_Pattern_names_O.j1 k v7 v0 v5) else ((impl_insert_bv_O.f k v10.f0 v7).bind fun v11 => (impl_Pattern_names_O.j1 k v11 v0 v5)))) else (impl_Pattern_names_O.l1 k v7 v0 0))
def impl_Pattern_names_O.j0 : Nat → (List ByteArray) → S49 → Option ((List ByteArray))
 | 0, _, _ => none
 | k + 1, v3, v0 => (impl_Pattern_names_O.l0 k v3 v0 0)
def impl_Pattern_names_O.f : Nat → S49 → Option ((List ByteArray))
 | 0, _ => none
 | k + 1, v0 => (bif decide (v0.f0 = (⟨#[]⟩ : ByteArray)) then (impl_Pattern_names_O.j0 k ([] : List ByteArray) v0) else ((impl_insert_bv_O.f k v0.f0 ([] : List ByteArray)).bind fun v1 => (impl_Pattern_names_O.j0 k v1 v0)))
end
set_option maxRecDepth 100000 in
set_option maxHeartbeats 4000000 in
theorem impl_Pattern_names_O.con {K : Kn} [KOk K] {k : Nat} {v0 : S49} {r : (List ByteArray)} (h : impl_Pattern_names_O.f k v0 = some r) : Con K Try.prog 45 [.agg [.p (.str v0.f0), .p (.int .i64 v0.f1), .p (.bool v0.f2), .p (.lst false (List.map en124 v0.f3)), .p (.lst false (List.map en127 v0.f4))]] [] (.buf 2000 1 0 r.length) [(2000, (1, .buf 1 (List.map srw r)))] := by
 cases k with
 | zero => exact absurd h (by simp [impl_Pattern_names_O.f])
 | succ k =>
 rw [impl_Pattern_names_O.f] at h
 refine con_intro 46 [] Try.func45 (by kernel_rfl) rfl rfl (by kernel_rfl) fun ι0 w0 hk0 => ?_
 revert h
 refine go 4 ?_
 refine adoptB_ 3 2603 1 ?_
 refine go 1 ?_
 refine good_cut (fun st => ∃ (v3 : _) (g2 : Nat) (g4 : Nat) (q_ : Nat), q_ ≤ k ∧ st = ⟨[(1, .ptr 1 1 0), (3, .buf 2603 g2 0 v3.length)], [(1, (1, .cells [.p (.str v0.f0), .p (.int .i64 v0.f1), .p (.bool v0.f2), .p (.lst false (List.map en124 v0.f3)), .p (.lst false (List.map en127 v0.f4))])), (2603, (g2, .buf 1 (List.map srw v3))), (14, (g4, .gone))]⟩ ∧ impl_Pattern_names_O.j0 q_ v3 v0 = some r) ?_ (fun hj0 => ?_)
 ·skip
  rintro _ ⟨v3, g2, g4, q_, hqj0, rfl, h⟩
  cases q_ with
  | zero => exact absurd h (by simp [impl_Pattern_names_O.j0])
  | succ kj0 =>
  rw [impl_Pattern_names_O.j0] at h
  revert h
  refine go 4 ?_
  refine fun h => good_loop (fun n st => n ≤ kj0 ∧ ∃ (v5 : _) (v7 : _) (g6 : Nat) (g8 : Nat) (g9 : Nat), st = ⟨[(1, .ptr 1 1 0), (3, .buf 2603 g6 0 v7.length), (16, .p (.lst false (List.map en124 v0.f3))), (17, .p (.int .i64 (v0.f3.length : Int))), (18, .p (.int .i64 v5))], [(1, (1, .cells [.p (.str v0.f0), .p (.int .i64 v0.f1), .p (.bool v0.f2), .p (.lst false (List.map en124 v0.f3)), .p (.lst false (List.map en127 v0.f4))])), (2603, (g6, .buf 1 (List.map srw v7))), (14, (g4, .gone)), (5, (g8, .gone)), (28, (g9, .gone))]⟩ ∧ impl_Pattern_names_O.l0 n v7 v0 v5 = some r) kj0 ⟨_, ⟨Nat.le_refl _, _, _, g2, 0, 0, rfl, h⟩, frle_, memle_⟩ ?_
  clear h
  rintro n _ ⟨hkl0, v5, v7, g6, g8, g9, rfl, h⟩ hl0
  cases n with
  | zero => exact absurd h (by simp [impl_Pattern_names_O.l0])
  | succ kl0 =>
  rw [impl_Pattern_names_O.l0] at h
  revert h
  refine bif_e (fun c1 => ?_) (fun c1 => ?_)
  ·refine go 6 ?_
   refine good_cut (fun st => ∃ (v13 : _) (g12 : Nat) (g14 : Nat) (q_ : Nat), q_ ≤ kl0 ∧ st = ⟨[(1, .ptr 1 1 0), (3, .buf 2603 g12 0 v13.length), (16, .p (.lst false (List.map en124 v0.f3))), (17, .p (.int .i64 (v0.f3.length : Int))), (18, .p (.int .i64 v5))], [(1, (1, .cells [.p (.str v0.f0), .p (.int .i64 v0.f1), .p (.bool v0.f2), .p (.lst false (List.map en124 v0.f3)), .p (.lst false (List.map en127 v0.f4))])), (2603, (g12, .buf 1 (List.map srw v13))), (14, (g4, .gone)), (5, (g8 + 1, .gone)), (28, (g14, .gone))]⟩ ∧ impl_Pattern_names_O.j1 q_ v13 v0 v5 = some r) ?_ (fun hj1 => ?_)
   ·clear c1
    rintro _ ⟨v13, g12, g14, q_, hqj1, rfl, h⟩
    cases q_ with
    | zero => exact absurd h (by simp [impl_Pattern_names_O.j1])
    | succ kj1 =>
    rw [impl_Pattern_names_O.j1] at h
    revert h
    refine go 1 ?_
    exact fun h => good_again hl0 (by omega) ⟨_, ⟨by omega, _, _, g12, g8 + 1, g14, rfl, h⟩, frle_, memle_⟩
   ·refine bind_e (fun v10 e10 => ?_)
    replace e10 := nf_ (ix_en en124 e10)
    refine bif_e (fun c2 => ?_) (fun c2 => ?_)
    ·refine go 8 ?_
     exact fun h => good_jump hj1 ⟨_, ⟨_, g6, g9, _, by omega, rfl, h⟩, frle_, memle_⟩
    ·refine go 6 ?_
     refine grs ?_
     refine gr_run ?_
     refine bind_e (fun v11 e11 => gr_call [(2000, (1, 28, g9 + 1)), (1000, (0, 2603, g6))] (impl_insert_bv_O.con e11) ?_)
     clear e11
     refine gr_run ?_
     refine gr_done ?_
     refine moveB_ 3 2603 28 ?_
     refine go 1 ?_
     exact fun h => good_jump hj1 ⟨_, ⟨_, g6 + 1, g9 + 1, _, by omega, rfl, h⟩, frle_, memle_⟩
  ·refine go 9 ?_
   refine fun h => good_loop (fun n st => n ≤ kl0 ∧ ∃ (v15 : _) (v17 : _) (g16 : Nat) (g18 : Nat) (g19 : Nat), st = ⟨[(3, .buf 2603 g16 0 v17.length), (31, .p (.lst false (List.map en127 v0.f4))), (32, .p (.int .i64 (v0.f4.length : Int))), (33, .p (.int .i64 v15))], [(1, (1, .gone)), (2603, (g16, .buf 1 (List.map srw v17))), (14, (g4, .gone)), (5, (g8, .gone)), (28, (g9, .gone)), (7, (g18, .gone)), (43, (g19, .gone))]⟩ ∧ impl_Pattern_names_O.l1 n v17 v0 v15 = some r) kl0 ⟨_, ⟨Nat.le_refl _, _, _, g6, 0, 0, rfl, h⟩, frle_, memle_⟩ ?_
   clear c1
   clear h
   rintro n _ ⟨hkl1, v15, v17, g16, g18, g19, rfl, h⟩ hl1
   cases n with
   | zero => exact absurd h (by simp [impl_Pattern_names_O.l1])
   | succ kl1 =>
   rw [impl_Pattern_names_O.l1] at h
   revert h
   refine bif_e (fun c3 => ?_) (fun c3 => ?_)
   ·refine bind_e (fun v20 e20 => ?_)
    replace e20 := nf_ (ix_en en127 e20)
    refine bif_e (fun c4 => ?_) (fun c4 => ?_)
    ·refine go 15 ?_
     exact fun h => good_again hl1 (by omega) ⟨_, ⟨by omega, _, _, g16, g18 + 1, g19, rfl, h⟩, frle_, memle_⟩
    ·refine go 12 ?_
     refine grs ?_
     refine gr_run ?_
     refine bind_e (fun v21 e21 => gr_call [(2000, (1, 43, g19 + 1)), (1000, (0, 2603, g16))] (impl_insert_bv_O.con e21) ?_)
     clear e21
     refine gr_run ?_
     refine gr_done ?_
     refine moveB_ 3 2603 43 ?_
     refine go 2 ?_
     exact fun h => good_again hl1 (by omega) ⟨_, ⟨by omega, _, _, g16 + 1, g18 + 1, g19 + 1, rfl, h⟩, frle_, memle_⟩
   ·refine go 7 ?_
    refine ret_e (fun hr_ => ?_)
    subst hr_
    exact ret_ Try.func45 [(2000, (1, 2603, g16))]
 ·refine bif_e (fun c5 => ?_) (fun c5 => ?_)
  ·refine go 4 ?_
   exact fun h => good_jump hj0 ⟨_, ⟨_, 1, 0, _, by omega, rfl, h⟩, frle_, memle_⟩
  ·refine go 3 ?_
   refine grs ?_
   refine gr_run ?_
   refine bind_e (fun v1 e1 => gr_call [(2000, (1, 14, 1)), (1000, (0, 2603, 1))] (impl_insert_bv_O.con e1) ?_)
   clear e1
   refine gr_run ?_
   refine gr_done ?_
   refine moveB_ 3 2603 14 ?_
   exact fun h => good_jump hj0 ⟨_, ⟨_, 2, 1, _, by omega, rfl, h⟩, frle_, memle_⟩
def impl_NamesIn_O.f (k : Nat) (v0 : S49) : Option ((List ByteArray)) := ((impl_patternOk.f k v0).bind fun v1 => (bif v1 then ((impl_Pattern_names_O.f k v0).bind fun v2 => (some v2)) else (some ([] : List ByteArray))))
set_option maxRecDepth 100000 in
set_option maxHeartbeats 4000000 in
theorem impl_NamesIn_O.con {K : Kn} [KOk K] {k : Nat} {v0 : S49} {r : (List ByteArray)} (h : impl_NamesIn_O.f k v0 = some r) : Con K Try.prog 17 [.agg [.p (.str v0.f0), .p (.int .i64 v0.f1), .p (.bool v0.f2), .p (.lst false (List.map en124 v0.f3)), .p (.lst false (List.map en127 v0.f4))]] [] (.buf 2000 1 0 r.length) [(2000, (1, .buf 1 (List.map srw r)))] := by
 rw [impl_NamesIn_O.f] at h
 refine con_intro 8 [] Try.func17 (by kernel_rfl) rfl rfl (by kernel_rfl) fun ι0 w0 hk0 => ?_
 revert h
 refine go 4 ?_
 refine grs ?_
 refine gr_run ?_
 refine bind_e (fun v1 e1 => gr_call [] (impl_patternOk.con e1) ?_)
 clear e1
 refine gr_run ?_
 refine gr_done ?_
 refine bif_e (fun c1 => ?_) (fun c1 => ?_)
 ·refine go 3 ?_
  refine grs ?_
  refine gr_run ?_
  refine bind_e (fun v2 e2 => gr_call [(2000, (1, 7, 1))] (impl_Pattern_names_O.con e2) ?_)
  clear e2
  refine gr_run ?_
  refine gr_done ?_
  refine ret_e (fun hr_ => ?_)
  subst hr_
  exact ret_ Try.func17 [(2000, (1, 7, 1))]
 ·refine go 3 ?_
  refine adoptB_ 2 2502 1 ?_
  refine ret_e (fun hr_ => ?_)
  subst hr_
  exact ret_ Try.func17 [(2000, (1, 2502, 1))]
end Go.Ab
