/- What the functions compute, and their contracts, part 5. No condition beyond KOk. -/
import Derived.Test.YtfjckgcbgepndaaDoorAbX
import Derived.Test.YtfjckgcbgepndaaDoorAbF4
namespace Go.Ab
open Go.Proofs
set_option linter.unusedVariables false
set_option linter.unusedSimpArgs false
def impl_readTest.f (k : Nat) (v0 : ByteArray) : Option (S77 × Bool) := (bif decide (200 < (v0.size : Int)) then (some ((⟨0, (⟨#[]⟩ : ByteArray), ([] : (List S77))⟩ : S77), false)) else ((impl_testReader_or.f k (⟨v0, 0, 0, false⟩ : S91)).bind fun v1 => (bif v1.2.f3 then (some (v1.1, false)) else (bif (v1.2.f1 == (v0.size : Int)) then ((impl_test_show.f k v1.1).bind fun v2 => (bif decide (v2 = v0) then (some (v1.1, true)) else (some (v1.1, false)))) else (some (v1.1, false))))))
set_option maxRecDepth 100000 in
set_option maxHeartbeats 4000000 in
theorem impl_readTest.con {K : Kn} [KOk K] {k : Nat} {v0 : ByteArray} {r : S77 × Bool} (h : impl_readTest.f k v0 = some r) : Con K Tryd.prog 46 [.p (.str v0)] [] (.tup [.agg [.p (.int .u8 r.1.f0), .p (.str r.1.f1), .p (.lst false (List.map en77 r.1.f2))], .p (.bool r.2)]) [] := by
 rw [impl_readTest.f] at h
 refine con_intro 36 [] Tryd.func46 (by kernel_rfl) rfl rfl (by kernel_rfl) fun ι0 w0 hk0 => ?_
 revert h
 refine bif_e (fun c1 => ?_) (fun c1 => ?_)
 ·refine go 8 ?_
  refine ret_e (fun hr_ => ?_)
  subst hr_
  exact ret_ Tryd.func46 []
 ·refine go 10 ?_
  refine grs ?_
  refine gr_run ?_
  refine bind_e (fun v1 e1 => gr_call [(1000, (0, 12, 1))] (impl_testReader_or.con e1) ?_)
  clear e1
  refine gr_run ?_
  refine gr_done ?_
  refine bif_e (fun c2 => ?_) (fun c2 => ?_)
  ·refine go 6 ?_
   refine ret_e (fun hr_ => ?_)
   subst hr_
   exact ret_ Tryd.func46 []
  ·refine bif_e (fun c3 => ?_) (fun c3 => ?_)
   ·refine go 2 ?_
    refine grs ?_
    refine gr_run ?_
    refine bind_e (fun v2 e2 => gr_call [] (impl_test_show.con e2) ?_)
    clear e2
    refine gr_run ?_
    refine gr_done ?_
    refine bif_e (fun c4 => ?_) (fun c4 => ?_)
    ·refine go 4 ?_
     refine ret_e (fun hr_ => ?_)
     subst hr_
     exact ret_ Tryd.func46 []
    ·refine go 3 ?_
     refine ret_e (fun hr_ => ?_)
     subst hr_
     exact ret_ Tryd.func46 []
   ·refine go 6 ?_
    refine ret_e (fun hr_ => ?_)
    subst hr_
    exact ret_ Tryd.func46 []
def impl_LabelsFault.f (k : Nat) (v0 : ByteArray) : Option (Int) := ((impl_readTest.f k v0).bind fun v1 => (bif v1.2 then (some 0) else (some 1)))
set_option maxRecDepth 100000 in
set_option maxHeartbeats 4000000 in
theorem impl_LabelsFault.con {K : Kn} [KOk K] {k : Nat} {v0 : ByteArray} {r : Int} (h : impl_LabelsFault.f k v0 = some r) : Con K Tryd.prog 33 [.p (.str v0)] [] (.p (.int .i64 r)) [] := by
 rw [impl_LabelsFault.f] at h
 refine con_intro 12 [] Tryd.func33 (by kernel_rfl) rfl rfl (by kernel_rfl) fun ι0 w0 hk0 => ?_
 revert h
 refine go 4 ?_
 refine grs ?_
 refine gr_run ?_
 refine bind_e (fun v1 e1 => gr_call [] (impl_readTest.con e1) ?_)
 clear e1
 refine gr_run ?_
 refine gr_done ?_
 refine bif_e (fun c1 => ?_) (fun c1 => ?_)
 ·refine go 6 ?_
  refine ret_e (fun hr_ => ?_)
  subst hr_
  exact ret_ Tryd.func33 []
 ·refine go 5 ?_
  refine ret_e (fun hr_ => ?_)
  subst hr_
  exact ret_ Tryd.func33 []
mutual
def impl_patternOk.j0 : Nat → S30 → Int → (Bool × (List (ByteArray × Int))) → Option (Bool)
 | 0, _, _, _ => none
 | k + 1, v0, v2, v6 => (impl_patternOk.l0 k v0 (IntKind.i64.wrap (v2 + 1)) v6.2)
def impl_patternOk.l1 : Nat → S30 → Int → (List (ByteArray × Int)) → Option (Bool)
 | 0, _, _, _ => none
 | k + 1, v0, v8, v3 => (bif decide (v8 < (v0.f3.length : Int)) then ((ix v0.f3 v8).bind fun v10 => (bif decide (v10.f0 = (⟨#[]⟩ : ByteArray)) then (bif decide (v10.f1 = (⟨#[]⟩ : ByteArray)) then (impl_patternOk.l1 k v0 (IntKind.i64.wrap (v8 + 1)) v3) else ((impl_LabelsFault.f k v10.f1).bind fun v11 => (bif (v11 == 0) then (impl_patternOk.l1 k v0 (IntKind.i64.wrap (v8 + 1)) v3) else (some false)))) else ((impl_free.f k v10.f0).bind fun v12 => (bif v12 then (bif decide (0 < (tget v3 v10.f0 0)) then (some false) else (bif decide (v10.f1 = (⟨#[]⟩ : ByteArray)) then (impl_patternOk.l1 k v0 (IntKind.i64.wrap (v8 + 1)) v3) else ((impl_LabelsFault.f k v10.f1).bind fun v13 => (bif (v13 == 0) then (impl_patternOk.l1 k v0 (IntKind.i64.wrap (v8 + 1)) v3) else (some false))))) else (some false))))) else (some true))
def impl_patternOk.l0 : Nat → S30 → Int → (List (ByteArray × Int)) → Option (Bool)
 | 0, _, _, _ => none
 | k + 1, v0, v2, v3 => (bif decide (v2 < (v0.f4.length : Int)) then ((ix v0.f4 v2).bind fun v5 => ((impl_patternOk_1.f k v5.f0 v3).bind fun v6 => (bif v6.1 then ((impl_risingNames.f k v5.f1 10).bind fun v7 => (bif v7 then (bif decide (v5.f2 < 1) then (some false) else (bif decide (3 < v5.f2) then (some false) else (bif v5.f3 then (bif decide (v5.f4 < 0) then (some false) else (bif decide (v5.f5 < v5.f4) then (some false) else (bif decide (v5.f5 < 1) then (some false) else (bif decide (10 < v5.f5) then (some false) else (impl_patternOk.j0 k v0 v2 v6))))) else (bif (v5.f4 == 0) then (bif (v5.f5 == 0) then (impl_patternOk.j0 k v0 v2 v6) else (some false)) else (some false))))) else (some false))) else (some false)))) else (impl_patternOk.l1 k v0 0 v3))
def impl_patternOk.f : Nat → S30 → Option (Bool)
 | 0, _ => none
 | k + 1, v0 => (bif decide ((v0.f3.length : Int) < 1) then (some false) else (bif decide (10 < (v0.f3.length : Int)) then (some false) else (bif ((v0.f4.length : Int) == (IntKind.i64.wrap ((v0.f3.length : Int) - 1))) then (bif decide (v0.f1 < 0) then (some false) else (bif decide (2 < v0.f1) then (some false) else ((impl_patternOk_1.f k v0.f0 ([] : List (ByteArray × Int))).bind fun v1 => (bif v1.1 then (impl_patternOk.l0 k v0 0 v1.2) else (some false))))) else (some false))))
end
set_option maxRecDepth 100000 in
set_option maxHeartbeats 4000000 in
theorem impl_patternOk.con {K : Kn} [KOk K] {k : Nat} {v0 : S30} {r : Bool} (h : impl_patternOk.f k v0 = some r) : Con K Tryd.prog 15 [.agg [.p (.str v0.f0), .p (.int .i64 v0.f1), .p (.bool v0.f2), .p (.lst false (List.map en45 v0.f3)), .p (.lst false (List.map en49 v0.f4))]] [] (.p (.bool r)) [] := by
 cases k with
 | zero => exact absurd h (by simp [impl_patternOk.f])
 | succ k =>
 rw [impl_patternOk.f] at h
 refine con_intro 149 [] Tryd.func15 (by kernel_rfl) rfl rfl (by kernel_rfl) fun ι0 w0 hk0 => ?_
 revert h
 refine bif_e (fun c1 => ?_) (fun c1 => ?_)
 ·refine go 8 ?_
  refine ret_e (fun hr_ => ?_)
  subst hr_
  exact ret_ Tryd.func15 []
 ·refine bif_e (fun c2 => ?_) (fun c2 => ?_)
  ·refine go 8 ?_
   refine ret_e (fun hr_ => ?_)
   subst hr_
   exact ret_ Tryd.func15 []
  ·refine bif_e (fun c3 => ?_) (fun c3 => ?_)
   ·refine bif_e (fun c4 => ?_) (fun c4 => ?_)
    ·refine go 8 ?_
     refine ret_e (fun hr_ => ?_)
     subst hr_
     exact ret_ Tryd.func15 []
    ·refine bif_e (fun c5 => ?_) (fun c5 => ?_)
     ·refine go 8 ?_
      refine ret_e (fun hr_ => ?_)
      subst hr_
      exact ret_ Tryd.func15 []
     ·refine go 13 ?_
      refine grs ?_
      refine gr_run ?_
      refine bind_e (fun v1 e1 => gr_call [(1000, (0, 3, 1)), (1500, (0, 39, 1))] (impl_patternOk_1.con e1) ?_)
      clear e1
      refine gr_run ?_
      refine gr_done ?_
      refine bif_e (fun c6 => ?_) (fun c6 => ?_)
      ·refine go 6 ?_
       refine fun h => good_loop (fun n st => n ≤ k ∧ ∃ (v2 : _) (v3 : _) (g4 : Nat), st = ⟨[(1, .ptr 1 1 0), (3, .ptr 3 1 0), (4, .clo 30 [] [.ptr 3 1 0]), (47, .p (.lst false (List.map en49 v0.f4))), (48, .p (.int .i64 (v0.f4.length : Int))), (49, .p (.int .i64 v2))], [(1, (1, .cells [.p (.str v0.f0), .p (.int .i64 v0.f1), .p (.bool v0.f2), .p (.lst false (List.map en45 v0.f3)), .p (.lst false (List.map en49 v0.f4))])), (39, (1, .map (.str) false (List.map (es (irow .i64)) v3))), (3, (1, .cells [.mp 39 1])), (6, (g4, .gone))]⟩ ∧ impl_patternOk.l0 n v0 v2 v3 = some r) k ⟨_, ⟨Nat.le_refl _, _, _, 0, rfl, h⟩, frle_, memle_⟩ ?_
       clear c1 c2 c3 c4 c5 c6
       clear h
       rintro n _ ⟨hkl0, v2, v3, g4, rfl, h⟩ hl0
       cases n with
       | zero => exact absurd h (by simp [impl_patternOk.l0])
       | succ kl0 =>
       rw [impl_patternOk.l0] at h
       revert h
       refine bif_e (fun c7 => ?_) (fun c7 => ?_)
       ·refine bind_e (fun v5 e5 => ?_)
        replace e5 := nf_ (ix_en en49 e5)
        refine go 11 ?_
        refine grs ?_
        refine gr_run ?_
        refine bind_e (fun v6 e6 => gr_call [(1000, (0, 3, 1)), (1500, (0, 39, 1))] (impl_patternOk_1.con e6) ?_)
        clear e6
        refine bif_e (fun c8 => ?_) (fun c8 => ?_)
        ·refine gr_run ?_
         refine bind_e (fun v7 e7 => gr_call [] (impl_risingNames.con e7) ?_)
         clear e7
         refine bif_e (fun c9 => ?_) (fun c9 => ?_)
         ·refine bif_e (fun c10 => ?_) (fun c10 => ?_)
          ·refine gr_run ?_
           refine gr_done ?_
           refine go 3 ?_
           refine ret_e (fun hr_ => ?_)
           subst hr_
           exact ret_ Tryd.func15 []
          ·refine gr_run ?_
           refine gr_done ?_
           refine bif_e (fun c11 => ?_) (fun c11 => ?_)
           ·refine go 3 ?_
            refine ret_e (fun hr_ => ?_)
            subst hr_
            exact ret_ Tryd.func15 []
           ·refine go 3 ?_
            refine good_cut_f (fun st => ∃ (q_ : Nat), q_ ≤ kl0 ∧ st = ⟨[(1, .ptr 1 1 0), (3, .ptr 3 1 0), (4, .clo 30 [] [.ptr 3 1 0]), (47, .p (.lst false (List.map en49 v0.f4))), (48, .p (.int .i64 (v0.f4.length : Int))), (49, .p (.int .i64 v2))], [(1, (1, .cells [.p (.str v0.f0), .p (.int .i64 v0.f1), .p (.bool v0.f2), .p (.lst false (List.map en45 v0.f3)), .p (.lst false (List.map en49 v0.f4))])), (39, (1, .map (.str) false (List.map (es (irow .i64)) v6.2))), (3, (1, .cells [.mp 39 1])), (6, (g4 + 1, .gone))]⟩ ∧ impl_patternOk.j0 q_ v0 v2 v6 = some r) ?_ (fun hj0 => ?_)
            ·clear c7 e5 c8 c9 c10 c11
             rintro _ ⟨q_, hqj0, rfl, h⟩
             cases q_ with
             | zero => exact absurd h (by simp [impl_patternOk.j0])
             | succ kj0 =>
             rw [impl_patternOk.j0] at h
             revert h
             refine go 3 ?_
             exact fun h => good_again hl0 (by omega) ⟨_, ⟨by omega, _, _, g4 + 1, rfl, h⟩, frle_, memle_⟩
            ·refine bif_e (fun c12 => ?_) (fun c12 => ?_)
             ·refine bif_e (fun c13 => ?_) (fun c13 => ?_)
              ·refine go 4 ?_
               refine ret_e (fun hr_ => ?_)
               subst hr_
               exact ret_ Tryd.func15 []
              ·refine bif_e (fun c14 => ?_) (fun c14 => ?_)
               ·refine go 4 ?_
                refine ret_e (fun hr_ => ?_)
                subst hr_
                exact ret_ Tryd.func15 []
               ·refine bif_e (fun c15 => ?_) (fun c15 => ?_)
                ·refine go 4 ?_
                 refine ret_e (fun hr_ => ?_)
                 subst hr_
                 exact ret_ Tryd.func15 []
                ·refine bif_e (fun c16 => ?_) (fun c16 => ?_)
                 ·refine go 4 ?_
                  refine ret_e (fun hr_ => ?_)
                  subst hr_
                  exact ret_ Tryd.func15 []
                 ·refine go 2 ?_
                  exact fun h => good_jump hj0 ⟨_, ⟨_, by omega, rfl, h⟩, frle_, memle_⟩
             ·refine bif_e (fun c17 => ?_) (fun c17 => ?_)
              ·refine bif_e (fun c18 => ?_) (fun c18 => ?_)
               ·refine go 2 ?_
                exact fun h => good_jump hj0 ⟨_, ⟨_, by omega, rfl, h⟩, frle_, memle_⟩
               ·refine go 4 ?_
                refine ret_e (fun hr_ => ?_)
                subst hr_
                exact ret_ Tryd.func15 []
              ·refine go 4 ?_
               refine ret_e (fun hr_ => ?_)
               subst hr_
               exact ret_ Tryd.func15 []
         ·refine gr_run ?_
          refine gr_done ?_
          refine go 3 ?_
          refine ret_e (fun hr_ => ?_)
          subst hr_
          exact ret_ Tryd.func15 []
        ·refine gr_run ?_
         refine gr_done ?_
         refine go 3 ?_
         refine ret_e (fun hr_ => ?_)
         subst hr_
         exact ret_ Tryd.func15 []
       ·refine go 9 ?_
        refine fun h => good_loop (fun n st => n ≤ kl0 ∧ ∃ (v8 : _) (g9 : Nat), st = ⟨[(3, .ptr 3 1 0), (115, .p (.lst false (List.map en45 v0.f3))), (116, .p (.int .i64 (v0.f3.length : Int))), (117, .p (.int .i64 v8))], [(1, (1, .gone)), (39, (1, .map (.str) false (List.map (es (irow .i64)) v3))), (3, (1, .cells [.mp 39 1])), (6, (g4, .gone)), (8, (g9, .gone))]⟩ ∧ impl_patternOk.l1 n v0 v8 v3 = some r) kl0 ⟨_, ⟨Nat.le_refl _, _, 0, rfl, h⟩, frle_, memle_⟩ ?_
        clear c7
        clear h
        rintro n _ ⟨hkl1, v8, g9, rfl, h⟩ hl1
        cases n with
        | zero => exact absurd h (by simp [impl_patternOk.l1])
        | succ kl1 =>
        rw [impl_patternOk.l1] at h
        revert h
        refine bif_e (fun c19 => ?_) (fun c19 => ?_)
        ·refine bind_e (fun v10 e10 => ?_)
         replace e10 := nf_ (ix_en en45 e10)
         refine bif_e (fun c20 => ?_) (fun c20 => ?_)
         ·refine bif_e (fun c21 => ?_) (fun c21 => ?_)
          ·refine go 15 ?_
           exact fun h => good_again hl1 (by omega) ⟨_, ⟨by omega, _, g9 + 1, rfl, h⟩, frle_, memle_⟩
          ·refine go 10 ?_
           refine grs ?_
           refine gr_run ?_
           refine bind_e (fun v11 e11 => gr_call [] (impl_LabelsFault.con e11) ?_)
           clear e11
           refine gr_run ?_
           refine gr_done ?_
           refine bif_e (fun c22 => ?_) (fun c22 => ?_)
           ·refine go 4 ?_
            exact fun h => good_again hl1 (by omega) ⟨_, ⟨by omega, _, g9 + 1, rfl, h⟩, frle_, memle_⟩
           ·refine go 3 ?_
            refine ret_e (fun hr_ => ?_)
            subst hr_
            exact ret_ Tryd.func15 []
         ·refine go 10 ?_
          refine grs ?_
          refine gr_run ?_
          refine bind_e (fun v12 e12 => gr_call [] (impl_free.con e12) ?_)
          clear e12
          refine bif_e (fun c23 => ?_) (fun c23 => ?_)
          ·refine bif_e (fun c24 => ?_) (fun c24 => ?_)
           ·refine gr_run ?_
            refine gr_done ?_
            refine go 3 ?_
            refine ret_e (fun hr_ => ?_)
            subst hr_
            exact ret_ Tryd.func15 []
           ·refine bif_e (fun c25 => ?_) (fun c25 => ?_)
            ·refine gr_run ?_
             refine gr_done ?_
             refine go 4 ?_
             exact fun h => good_again hl1 (by omega) ⟨_, ⟨by omega, _, g9 + 1, rfl, h⟩, frle_, memle_⟩
            ·refine gr_run ?_
             refine bind_e (fun v13 e13 => gr_call [] (impl_LabelsFault.con e13) ?_)
             clear e13
             refine gr_run ?_
             refine gr_done ?_
             refine bif_e (fun c26 => ?_) (fun c26 => ?_)
             ·refine go 4 ?_
              exact fun h => good_again hl1 (by omega) ⟨_, ⟨by omega, _, g9 + 1, rfl, h⟩, frle_, memle_⟩
             ·refine go 3 ?_
              refine ret_e (fun hr_ => ?_)
              subst hr_
              exact ret_ Tryd.func15 []
          ·refine gr_run ?_
           refine gr_done ?_
           refine go 3 ?_
           refine ret_e (fun hr_ => ?_)
           subst hr_
           exact ret_ Tryd.func15 []
        ·refine go 7 ?_
         refine ret_e (fun hr_ => ?_)
         subst hr_
         exact ret_ Tryd.func15 []
      ·refine go 3 ?_
       refine ret_e (fun hr_ => ?_)
       subst hr_
       exact ret_ Tryd.func15 []
   ·refine go 8 ?_
    refine ret_e (fun hr_ => ?_)
    subst hr_
    exact ret_ Tryd.func15 []
def impl_num.f (k : Nat) (v0 : Int) : Option (ByteArray) := ((strconv_FormatInt.f k v0 10).bind fun v1 => (some v1))
set_option maxRecDepth 100000 in
set_option maxHeartbeats 4000000 in
theorem impl_num.con {K : Kn} [KOk K] {k : Nat} {v0 : Int} {r : ByteArray} (h : impl_num.f k v0 = some r) : Con K Tryd.prog 48 [.p (.int .i64 v0)] [] (.p (.str r)) [] := by
 rw [impl_num.f] at h
 refine con_intro 5 [] Tryd.func48 (by kernel_rfl) rfl rfl (by kernel_rfl) fun ι0 w0 hk0 => ?_
 revert h
 refine go 3 ?_
 refine grs ?_
 refine gr_run ?_
 refine bind_e (fun v1 e1 => gr_call [] (strconv_FormatInt.con e1) ?_)
 clear e1
 refine gr_run ?_
 refine gr_done ?_
 refine ret_e (fun hr_ => ?_)
 subst hr_
 exact ret_ Tryd.func48 []
mutual
def impl_PatEdge_show.j1 : Nat → ByteArray → S49 → Bool → Option (ByteArray)
 | 0, _, _, _ => none
 | k + 1, v12, v0, v13 => (bif (v0.f2 == 1) then ((cat v12 (⟨#[93, 45, 62]⟩ : ByteArray)).bind fun v14 => (some v14)) else (bif (v0.f2 == 2) then ((cat (⟨#[60]⟩ : ByteArray) v12).bind fun v15 => ((cat v15 (⟨#[93, 45]⟩ : ByteArray)).bind fun v16 => (some v16))) else ((cat v12 (⟨#[93, 45]⟩ : ByteArray)).bind fun v17 => (some v17))))
def impl_PatEdge_show.j0 : Nat → ByteArray → S49 → Option (ByteArray)
 | 0, _, _ => none
 | k + 1, v5, v0 => (bif v0.f3 then ((impl_num.f k v0.f4).bind fun v6 => ((cat (⟨#[42]⟩ : ByteArray) v6).bind fun v7 => ((cat v7 (⟨#[46, 46]⟩ : ByteArray)).bind fun v8 => ((impl_num.f k v0.f5).bind fun v9 => ((cat v8 v9).bind fun v10 => ((cat v5 v10).bind fun v11 => (impl_PatEdge_show.j1 k v11 v0 true))))))) else (impl_PatEdge_show.j1 k v5 v0 false))
def impl_PatEdge_show.f : Nat → S49 → Option (ByteArray)
 | 0, _ => none
 | k + 1, v0 => ((cat (⟨#[45, 91]⟩ : ByteArray) v0.f0).bind fun v1 => (bif decide (0 < (v0.f1.length : Int)) then ((strings_Join.f k v0.f1 (⟨#[124]⟩ : ByteArray)).bind fun v2 => ((cat (⟨#[58]⟩ : ByteArray) v2).bind fun v3 => ((cat v1 v3).bind fun v4 => (impl_PatEdge_show.j0 k v4 v0)))) else (impl_PatEdge_show.j0 k v1 v0)))
end
set_option maxRecDepth 100000 in
set_option maxHeartbeats 4000000 in
theorem impl_PatEdge_show.con {K : Kn} [KOk K] {k : Nat} {v0 : S49} {r : ByteArray} (h : impl_PatEdge_show.f k v0 = some r) : Con K Tryd.prog 34 [.agg [.p (.str v0.f0), .p (.lst false (List.map srw v0.f1)), .p (.int .i64 v0.f2), .p (.bool v0.f3), .p (.int .i64 v0.f4), .p (.int .i64 v0.f5)]] [] (.p (.str r)) [] := by
 cases k with
 | zero => exact absurd h (by simp [impl_PatEdge_show.f])
 | succ k =>
 rw [impl_PatEdge_show.f] at h
 refine con_intro 43 [] Tryd.func34 (by kernel_rfl) rfl rfl (by kernel_rfl) fun ι0 w0 hk0 => ?_
 revert h
 refine bind_e (fun v1 e1 => ?_)
 refine go 5 ?_
 refine good_cut (fun st => ∃ (v5 : _) (q_ : Nat), q_ ≤ k ∧ st = ⟨[(1, .ptr 1 1 0), (3, .p (.str v5))], [(1, (1, .cells [.p (.str v0.f0), .p (.lst false (List.map srw v0.f1)), .p (.int .i64 v0.f2), .p (.bool v0.f3), .p (.int .i64 v0.f4), .p (.int .i64 v0.f5)]))]⟩ ∧ impl_PatEdge_show.j0 q_ v5 v0 = some r) ?_ (fun hj0 => ?_)
 ·clear e1
  rintro _ ⟨v5, q_, hqj0, rfl, h⟩
  cases q_ with
  | zero => exact absurd h (by simp [impl_PatEdge_show.j0])
  | succ kj0 =>
  rw [impl_PatEdge_show.j0] at h
  revert h
  refine go 1 ?_
  refine good_cut (fun st => ∃ (v12 : _) (v13 : _) (q_ : Nat), q_ ≤ kj0 ∧ st = ⟨[(1, .ptr 1 1 0), (3, .p (.str v12))], [(1, (1, .cells [.p (.str v0.f0), .p (.lst false (List.map srw v0.f1)), .p (.int .i64 v0.f2), .p (.bool v13), .p (.int .i64 v0.f4), .p (.int .i64 v0.f5)]))]⟩ ∧ impl_PatEdge_show.j1 q_ v12 v0 v13 = some r) ?_ (fun hj1 => ?_)
  ·skip
   rintro _ ⟨v12, v13, q_, hqj1, rfl, h⟩
   cases q_ with
   | zero => exact absurd h (by simp [impl_PatEdge_show.j1])
   | succ kj1 =>
   rw [impl_PatEdge_show.j1] at h
   revert h
   refine bif_e (fun c1 => ?_) (fun c1 => ?_)
   ·refine bind_e (fun v14 e14 => ?_)
    refine go 9 ?_
    refine ret_e (fun hr_ => ?_)
    subst hr_
    exact ret_ Tryd.func34 []
   ·refine bif_e (fun c2 => ?_) (fun c2 => ?_)
    ·refine bind_e (fun v15 e15 => ?_)
     refine bind_e (fun v16 e16 => ?_)
     refine go 12 ?_
     refine ret_e (fun hr_ => ?_)
     subst hr_
     exact ret_ Tryd.func34 []
    ·refine bind_e (fun v17 e17 => ?_)
     refine go 14 ?_
     refine ret_e (fun hr_ => ?_)
     subst hr_
     exact ret_ Tryd.func34 []
  ·refine bif_e (fun c3 => ?_) (fun c3 => ?_)
   ·refine go 3 ?_
    refine grs ?_
    refine gr_run ?_
    refine bind_e (fun v6 e6 => gr_call [] (impl_num.con e6) ?_)
    clear e6
    refine bind_e (fun v7 e7 => ?_)
    refine bind_e (fun v8 e8 => ?_)
    refine gr_run ?_
    refine bind_e (fun v9 e9 => gr_call [] (impl_num.con e9) ?_)
    clear e9
    refine bind_e (fun v10 e10 => ?_)
    refine bind_e (fun v11 e11 => ?_)
    refine gr_run ?_
    refine gr_done ?_
    exact fun h => good_jump hj1 ⟨_, ⟨_, _, _, by omega, rfl, h⟩, frle_, memle_⟩
   ·refine go 4 ?_
    exact fun h => good_jump hj1 ⟨_, ⟨_, _, _, by omega, rfl, h⟩, frle_, memle_⟩
 ·refine bif_e (fun c4 => ?_) (fun c4 => ?_)
  ·refine go 3 ?_
   refine grs ?_
   refine gr_run ?_
   refine bind_e (fun v2 e2 => gr_call [] (strings_Join.con e2) ?_)
   clear e2
   refine bind_e (fun v3 e3 => ?_)
   refine bind_e (fun v4 e4 => ?_)
   refine gr_run ?_
   refine gr_done ?_
   exact fun h => good_jump hj0 ⟨_, ⟨_, _, by omega, rfl, h⟩, frle_, memle_⟩
  ·refine go 4 ?_
   exact fun h => good_jump hj0 ⟨_, ⟨_, _, by omega, rfl, h⟩, frle_, memle_⟩
mutual
def impl_Pattern_show.j2 : Nat → ByteArray → S30 → Int → Bool → S45 → Option (ByteArray)
 | 0, _, _, _, _, _ => none
 | k + 1, v15, v0, v9, v7, v11 => ((cat (⟨#[40]⟩ : ByteArray) v11.f0).bind fun v16 => ((cat v15 v16).bind fun v17 => (bif decide (v11.f1 = (⟨#[]⟩ : ByteArray)) then ((cat v17 (⟨#[41]⟩ : ByteArray)).bind fun v18 => (impl_Pattern_show.l0 k v18 v0 (IntKind.i64.wrap (v9 + 1)) v7)) else ((cat (⟨#[58]⟩ : ByteArray) v11.f1).bind fun v19 => ((cat v17 v19).bind fun v20 => ((cat v20 (⟨#[41]⟩ : ByteArray)).bind fun v21 => (impl_Pattern_show.l0 k v21 v0 (IntKind.i64.wrap (v9 + 1)) v7)))))))
def impl_Pattern_show.l0 : Nat → ByteArray → S30 → Int → Bool → Option (ByteArray)
 | 0, _, _, _, _ => none
 | k + 1, v8, v0, v9, v7 => (bif decide (v9 < (v0.f3.length : Int)) then ((ix v0.f3 v9).bind fun v11 => (bif decide (0 < v9) then ((ix v0.f4 (IntKind.i64.wrap (v9 - 1))).bind fun v12 => ((impl_PatEdge_show.f k v12).bind fun v13 => ((cat v8 v13).bind fun v14 => (impl_Pattern_show.j2 k v14 v0 v9 v7 v11)))) else (impl_Pattern_show.j2 k v8 v0 v9 v7 v11))) else (some v8))
def impl_Pattern_show.j1 : Nat → ByteArray → S30 → Bool → Option (ByteArray)
 | 0, _, _, _ => none
 | k + 1, v6, v0, v7 => (impl_Pattern_show.l0 k v6 v0 0 v7)
def impl_Pattern_show.j0 : Nat → ByteArray → S30 → Option (ByteArray)
 | 0, _, _ => none
 | k + 1, v2, v0 => ((ix ([(⟨#[]⟩ : ByteArray), (⟨#[119, 97, 108, 107, 32]⟩ : ByteArray), (⟨#[115, 105, 109, 112, 108, 101, 32]⟩ : ByteArray)] : List ByteArray) v0.f1).bind fun v3 => ((cat v2 v3).bind fun v4 => (bif v0.f2 then ((cat v4 (⟨#[115, 104, 111, 114, 116, 101, 115, 116, 32]⟩ : ByteArray)).bind fun v5 => (impl_Pattern_show.j1 k v5 v0 true)) else (impl_Pattern_show.j1 k v4 v0 false))))
def impl_Pattern_show.f : Nat → S30 → Option (ByteArray)
 | 0, _ => none
 | k + 1, v0 => (bif decide (v0.f0 = (⟨#[]⟩ : ByteArray)) then (impl_Pattern_show.j0 k (⟨#[]⟩ : ByteArray) v0) else ((cat v0.f0 (⟨#[32, 61, 32]⟩ : ByteArray)).bind fun v1 => (impl_Pattern_show.j0 k v1 v0)))
end
set_option maxRecDepth 100000 in
set_option maxHeartbeats 4000000 in
theorem impl_Pattern_show.con {K : Kn} [KOk K] {k : Nat} {v0 : S30} {r : ByteArray} (h : impl_Pattern_show.f k v0 = some r) : Con K Tryd.prog 16 [.agg [.p (.str v0.f0), .p (.int .i64 v0.f1), .p (.bool v0.f2), .p (.lst false (List.map en45 v0.f3)), .p (.lst false (List.map en49 v0.f4))]] [] (.p (.str r)) [] := by
 cases k with
 | zero => exact absurd h (by simp [impl_Pattern_show.f])
 | succ k =>
 rw [impl_Pattern_show.f] at h
 refine con_intro 59 [] Tryd.func16 (by kernel_rfl) rfl rfl (by kernel_rfl) fun ι0 w0 hk0 => ?_
 revert h
 refine go 5 ?_
 refine good_cut (fun st => ∃ (v2 : _) (q_ : Nat), q_ ≤ k ∧ st = ⟨[(1, .ptr 1 1 0), (3, .p (.str v2))], [(1, (1, .cells [.p (.str v0.f0), .p (.int .i64 v0.f1), .p (.bool v0.f2), .p (.lst false (List.map en45 v0.f3)), .p (.lst false (List.map en49 v0.f4))]))]⟩ ∧ impl_Pattern_show.j0 q_ v2 v0 = some r) ?_ (fun hj0 => ?_)
 ·skip
  rintro _ ⟨v2, q_, hqj0, rfl, h⟩
  cases q_ with
  | zero => exact absurd h (by simp [impl_Pattern_show.j0])
  | succ kj0 =>
  rw [impl_Pattern_show.j0] at h
  revert h
  refine bind_e (fun v3 e3 => ?_)
  replace e3 := nf_ (ix_en srw e3)
  refine bind_e (fun v4 e4 => ?_)
  refine go 3 ?_
  refine good_cut (fun st => ∃ (v6 : _) (v7 : _) (q_ : Nat), q_ ≤ kj0 ∧ st = ⟨[(1, .ptr 1 1 0), (3, .p (.str v6))], [(1, (1, .cells [.p (.str v0.f0), .p (.int .i64 v0.f1), .p (.bool v7), .p (.lst false (List.map en45 v0.f3)), .p (.lst false (List.map en49 v0.f4))]))]⟩ ∧ impl_Pattern_show.j1 q_ v6 v0 v7 = some r) ?_ (fun hj1 => ?_)
  ·clear e3 e4
   rintro _ ⟨v6, v7, q_, hqj1, rfl, h⟩
   cases q_ with
   | zero => exact absurd h (by simp [impl_Pattern_show.j1])
   | succ kj1 =>
   rw [impl_Pattern_show.j1] at h
   revert h
   refine go 4 ?_
   refine fun h => good_loop (fun n st => n ≤ kj1 ∧ ∃ (v8 : _) (v9 : _) (g10 : Nat), st = ⟨[(1, .ptr 1 1 0), (3, .p (.str v8)), (24, .p (.lst false (List.map en45 v0.f3))), (25, .p (.int .i64 (v0.f3.length : Int))), (26, .p (.int .i64 v9))], [(1, (1, .cells [.p (.str v0.f0), .p (.int .i64 v0.f1), .p (.bool v7), .p (.lst false (List.map en45 v0.f3)), .p (.lst false (List.map en49 v0.f4))])), (5, (g10, .gone))]⟩ ∧ impl_Pattern_show.l0 n v8 v0 v9 v7 = some r) kj1 ⟨_, ⟨Nat.le_refl _, _, _, 0, rfl, h⟩, frle_, memle_⟩ ?_
   clear h
   rintro n _ ⟨hkl0, v8, v9, g10, rfl, h⟩ hl0
   cases n with
   | zero => exact absurd h (by simp [impl_Pattern_show.l0])
   | succ kl0 =>
   rw [impl_Pattern_show.l0] at h
   revert h
   refine bif_e (fun c1 => ?_) (fun c1 => ?_)
   ·refine bind_e (fun v11 e11 => ?_)
    replace e11 := nf_ (ix_en en45 e11)
    refine go 10 ?_
    refine good_cut (fun st => ∃ (v15 : _) (q_ : Nat), q_ ≤ kl0 ∧ st = ⟨[(1, .ptr 1 1 0), (3, .p (.str v15)), (5, .ptr 5 (g10 + 1) 0), (24, .p (.lst false (List.map en45 v0.f3))), (25, .p (.int .i64 (v0.f3.length : Int))), (26, .p (.int .i64 v9))], [(1, (1, .cells [.p (.str v0.f0), .p (.int .i64 v0.f1), .p (.bool v7), .p (.lst false (List.map en45 v0.f3)), .p (.lst false (List.map en49 v0.f4))])), (5, (g10 + 1, .cells [.p (.str v11.f0), .p (.str v11.f1)]))]⟩ ∧ impl_Pattern_show.j2 q_ v15 v0 v9 v7 v11 = some r) ?_ (fun hj2 => ?_)
    ·clear c1 e11
     rintro _ ⟨v15, q_, hqj2, rfl, h⟩
     cases q_ with
     | zero => exact absurd h (by simp [impl_Pattern_show.j2])
     | succ kj2 =>
     rw [impl_Pattern_show.j2] at h
     revert h
     refine bind_e (fun v16 e16 => ?_)
     refine bind_e (fun v17 e17 => ?_)
     refine bif_e (fun c2 => ?_) (fun c2 => ?_)
     ·refine bind_e (fun v18 e18 => ?_)
      refine go 10 ?_
      exact fun h => good_again hl0 (by omega) ⟨_, ⟨by omega, _, _, g10 + 1, rfl, h⟩, frle_, memle_⟩
     ·refine bind_e (fun v19 e19 => ?_)
      refine bind_e (fun v20 e20 => ?_)
      refine bind_e (fun v21 e21 => ?_)
      refine go 10 ?_
      exact fun h => good_again hl0 (by omega) ⟨_, ⟨by omega, _, _, g10 + 1, rfl, h⟩, frle_, memle_⟩
    ·refine bif_e (fun c3 => ?_) (fun c3 => ?_)
     ·refine bind_e (fun v12 e12 => ?_)
      replace e12 := nf_ (ix_en en49 e12)
      refine go 3 ?_
      refine grs ?_
      refine gr_run ?_
      refine bind_e (fun v13 e13 => gr_call [] (impl_PatEdge_show.con e13) ?_)
      clear e13
      refine bind_e (fun v14 e14 => ?_)
      refine gr_run ?_
      refine gr_done ?_
      exact fun h => good_jump hj2 ⟨_, ⟨_, _, by omega, rfl, h⟩, frle_, memle_⟩
     ·refine go 4 ?_
      exact fun h => good_jump hj2 ⟨_, ⟨_, _, by omega, rfl, h⟩, frle_, memle_⟩
   ·refine go 7 ?_
    refine ret_e (fun hr_ => ?_)
    subst hr_
    exact ret_ Tryd.func16 []
  ·refine bif_e (fun c4 => ?_) (fun c4 => ?_)
   ·refine bind_e (fun v5 e5 => ?_)
    refine go 4 ?_
    exact fun h => good_jump hj1 ⟨_, ⟨_, _, _, by omega, rfl, h⟩, frle_, memle_⟩
   ·refine go 4 ?_
    exact fun h => good_jump hj1 ⟨_, ⟨_, _, _, by omega, rfl, h⟩, frle_, memle_⟩
 ·refine bif_e (fun c5 => ?_) (fun c5 => ?_)
  ·refine go 4 ?_
   exact fun h => good_jump hj0 ⟨_, ⟨_, _, by omega, rfl, h⟩, frle_, memle_⟩
  ·refine bind_e (fun v1 e1 => ?_)
   refine go 4 ?_
   exact fun h => good_jump hj0 ⟨_, ⟨_, _, by omega, rfl, h⟩, frle_, memle_⟩
def impl_ShowPattern.f (k : Nat) (v0 : S30) : Option (ByteArray) := ((impl_patternOk.f k v0).bind fun v1 => (bif v1 then ((impl_Pattern_show.f k v0).bind fun v2 => (some v2)) else (some (⟨#[]⟩ : ByteArray))))
set_option maxRecDepth 100000 in
set_option maxHeartbeats 4000000 in
theorem impl_ShowPattern.con {K : Kn} [KOk K] {k : Nat} {v0 : S30} {r : ByteArray} (h : impl_ShowPattern.f k v0 = some r) : Con K Tryd.prog 7 [.agg [.p (.str v0.f0), .p (.int .i64 v0.f1), .p (.bool v0.f2), .p (.lst false (List.map en45 v0.f3)), .p (.lst false (List.map en49 v0.f4))]] [] (.p (.str r)) [] := by
 rw [impl_ShowPattern.f] at h
 refine con_intro 8 [] Tryd.func7 (by kernel_rfl) rfl rfl (by kernel_rfl) fun ι0 w0 hk0 => ?_
 revert h
 refine go 4 ?_
 refine grs ?_
 refine gr_run ?_
 refine bind_e (fun v1 e1 => gr_call [] (impl_patternOk.con e1) ?_)
 clear e1
 refine gr_run ?_
 refine gr_done ?_
 refine bif_e (fun c1 => ?_) (fun c1 => ?_)
 ·refine go 3 ?_
  refine grs ?_
  refine gr_run ?_
  refine bind_e (fun v2 e2 => gr_call [] (impl_Pattern_show.con e2) ?_)
  clear e2
  refine gr_run ?_
  refine gr_done ?_
  refine ret_e (fun hr_ => ?_)
  subst hr_
  exact ret_ Tryd.func7 []
 ·refine go 3 ?_
  refine ret_e (fun hr_ => ?_)
  subst hr_
  exact ret_ Tryd.func7 []
end Go.Ab
