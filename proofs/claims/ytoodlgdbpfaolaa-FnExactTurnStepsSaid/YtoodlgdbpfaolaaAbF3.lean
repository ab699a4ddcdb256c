/- What the functions compute, and their contracts, part 3. No condition beyond KOk. -/
import Derived.Test.YtoodlgdbpfaolaaAbX
import Derived.Test.YtoodlgdbpfaolaaAbF2
namespace Go.Ab
open Go.Proofs
set_option linter.unusedVariables false
set_option linter.unusedSimpArgs false
def spec_l09Second.f (k : Nat) (v0 : (List S31)) (v1 : Int) : Option (Int) := ((spec_l09End.f k v0 (IntKind.i64.wrap (v1 + 1)) 1).bind fun v2 => (some v2))
set_option maxRecDepth 100000 in
set_option maxHeartbeats 4000000 in
theorem spec_l09Second.con {K : Kn} [KOk K] {k : Nat} {v0 : (List S31)} {v1 : Int} {r : Int} (h : spec_l09Second.f k v0 v1 = some r) : Con K Try.prog 20 [.p (.lst false (List.map en31 v0)), .p (.int .i64 v1)] [] (.p (.int .i64 r)) [] := by
 rw [spec_l09Second.f] at h
 refine con_intro 9 [] Try.func20 (by kernel_rfl) rfl rfl (by kernel_rfl) fun ι0 w0 hk0 => ?_
 revert h
 refine go 3 ?_
 refine grs ?_
 refine gr_run ?_
 refine bind_e (fun v2 e2 => gr_call [] (spec_l09End.con e2) ?_)
 clear e2
 refine gr_run ?_
 refine gr_done ?_
 refine ret_e (fun hr_ => ?_)
 subst hr_
 exact ret_ Try.func20 []
def spec_l09Turn.f : Nat → (List S31) → Int → Option ((List S31))
 | 0, _, _ => none
 | k + 1, v0, v1 => ((ix v0 v1).bind fun v2 => (bif (v2.f0 == 1) then (some ([(⟨2, v2.f1, 0⟩ : S31)] : List S31)) else (bif (v2.f0 == 2) then (some ([(⟨1, v2.f1, 0⟩ : S31)] : List S31)) else (bif (v2.f0 == 3) then (some ([v2] : List S31)) else (bif (v2.f0 == 4) then ((spec_l09Second.f k v0 v1).bind fun v3 => ((spec_l09Turn.f k v0 v3).bind fun v4 => ((app ([v2] : List S31) v4).bind fun v5 => ((spec_l09Turn.f k v0 (IntKind.i64.wrap (v1 + 1))).bind fun v6 => ((app v5 v6).bind fun v7 => (some v7)))))) else (bif (v2.f0 == 5) then ((spec_l09Turn.f k v0 (IntKind.i64.wrap (v1 + 1))).bind fun v8 => ((app ([v2] : List S31) v8).bind fun v9 => ((spec_l09Second.f k v0 v1).bind fun v10 => ((spec_l09Turn.f k v0 v10).bind fun v11 => ((app v9 v11).bind fun v12 => (some v12)))))) else ((spec_l09Turn.f k v0 (IntKind.i64.wrap (v1 + 1))).bind fun v13 => ((app ([v2] : List S31) v13).bind fun v14 => (some v14)))))))))
def spec_l09Turn.C (K : Kn) (k : Nat) : Prop := ∀ (v0 : (List S31)) (v1 : Int) (r : (List S31)), spec_l09Turn.f k v0 v1 = some r → Con K Try.prog 13 [.p (.lst false (List.map en31 v0)), .p (.int .i64 v1)] [] (.p (.lst false (List.map en31 r))) []
set_option maxRecDepth 100000 in
set_option maxHeartbeats 4000000 in
theorem spec_l09Turn.con1 {K : Kn} [KOk K] (k : Nat) (spec_l09Turn_ih : ∀ m, m < k → spec_l09Turn.C K m) : spec_l09Turn.C K k := by
 intro v0 v1 r h
 cases k with
 | zero => exact absurd h (by simp [spec_l09Turn.f])
 | succ k =>
 rw [spec_l09Turn.f] at h
 refine con_intro 65 [] Try.func13 (by kernel_rfl) rfl rfl (by kernel_rfl) fun ι0 w0 hk0 => ?_
 revert h
 refine bind_e (fun v2 e2 => ?_)
 replace e2 := nf_ (ix_en en31 e2)
 refine bif_e (fun c1 => ?_) (fun c1 => ?_)
 ·refine go 13 ?_
  refine ret_e (fun hr_ => ?_)
  subst hr_
  exact ret_ Try.func13 []
 ·refine bif_e (fun c2 => ?_) (fun c2 => ?_)
  ·refine go 16 ?_
   refine ret_e (fun hr_ => ?_)
   subst hr_
   exact ret_ Try.func13 []
  ·refine bif_e (fun c3 => ?_) (fun c3 => ?_)
   ·refine go 19 ?_
    refine ret_e (fun hr_ => ?_)
    subst hr_
    exact ret_ Try.func13 []
   ·refine bif_e (fun c4 => ?_) (fun c4 => ?_)
    ·refine go 21 ?_
     refine grs ?_
     refine gr_run ?_
     refine bind_e (fun v3 e3 => gr_call [] (spec_l09Second.con e3) ?_)
     clear e3
     refine bind_e (fun v4 e4 => gr_call [] (spec_l09Turn_ih _ (by omega) _ _ _ e4) ?_)
     clear e4
     refine bind_e (fun v5 e5 => ?_)
     replace e5 := nf_ (app_en en31 e5)
     refine gr_run ?_
     refine bind_e (fun v6 e6 => gr_call [] (spec_l09Turn_ih _ (by omega) _ _ _ e6) ?_)
     clear e6
     refine bind_e (fun v7 e7 => ?_)
     replace e7 := nf_ (app_en en31 e7)
     refine gr_run ?_
     refine gr_done ?_
     refine ret_e (fun hr_ => ?_)
     subst hr_
     exact ret_ Try.func13 []
    ·refine bif_e (fun c5 => ?_) (fun c5 => ?_)
     ·refine go 24 ?_
      refine grs ?_
      refine gr_run ?_
      refine bind_e (fun v8 e8 => gr_call [] (spec_l09Turn_ih _ (by omega) _ _ _ e8) ?_)
      clear e8
      refine bind_e (fun v9 e9 => ?_)
      replace e9 := nf_ (app_en en31 e9)
      refine gr_run ?_
      refine bind_e (fun v10 e10 => gr_call [] (spec_l09Second.con e10) ?_)
      clear e10
      refine bind_e (fun v11 e11 => gr_call [] (spec_l09Turn_ih _ (by omega) _ _ _ e11) ?_)
      clear e11
      refine bind_e (fun v12 e12 => ?_)
      replace e12 := nf_ (app_en en31 e12)
      refine gr_run ?_
      refine gr_done ?_
      refine ret_e (fun hr_ => ?_)
      subst hr_
      exact ret_ Try.func13 []
     ·refine go 26 ?_
      refine grs ?_
      refine gr_run ?_
      refine bind_e (fun v13 e13 => gr_call [] (spec_l09Turn_ih _ (by omega) _ _ _ e13) ?_)
      clear e13
      refine bind_e (fun v14 e14 => ?_)
      replace e14 := nf_ (app_en en31 e14)
      refine gr_run ?_
      refine gr_done ?_
      refine ret_e (fun hr_ => ?_)
      subst hr_
      exact ret_ Try.func13 []
theorem spec_l09Turn.all {K : Kn} [KOk K] (k : Nat) : spec_l09Turn.C K k := by
 induction k using Nat.strongRecOn with
 | _ k ih => exact spec_l09Turn.con1 k ih
theorem spec_l09Turn.con {K : Kn} [KOk K] {k : Nat} {v0 : (List S31)} {v1 : Int} {r : (List S31)} (h : spec_l09Turn.f k v0 v1 = some r) : Con K Try.prog 13 [.p (.lst false (List.map en31 v0)), .p (.int .i64 v1)] [] (.p (.lst false (List.map en31 r))) [] := (spec_l09Turn.all k) _ _ r h
def spec_l09Turn_O.f (k : Nat) (v0 : (List S31)) (v1 : Int) : Option ((List S31)) := ((ix v0 v1).bind fun v2 => (bif (v2.f0 == 1) then (some ([(⟨2, v2.f1, 0⟩ : S31)] : List S31)) else (bif (v2.f0 == 2) then (some ([(⟨1, v2.f1, 0⟩ : S31)] : List S31)) else (bif (v2.f0 == 3) then (some ([v2] : List S31)) else (bif (v2.f0 == 4) then ((spec_l09Second.f k v0 v1).bind fun v3 => ((spec_l09Turn.f k v0 v3).bind fun v4 => ((app ([v2] : List S31) v4).bind fun v5 => ((spec_l09Turn.f k v0 (IntKind.i64.wrap (v1 + 1))).bind fun v6 => ((app v5 v6).bind fun v7 => (some v7)))))) else (bif (v2.f0 == 5) then ((spec_l09Turn.f k v0 (IntKind.i64.wrap (v1 + 1))).bind fun v8 => ((app ([v2] : List S31) v8).bind fun v9 => ((spec_l09Second.f k v0 v1).bind fun v10 => ((spec_l09Turn.f k v0 v10).bind fun v11 => ((app v9 v11).bind fun v12 => (some v12)))))) else ((spec_l09Turn.f k v0 (IntKind.i64.wrap (v1 + 1))).bind fun v13 => ((app ([v2] : List S31) v13).bind fun v14 => (some v14)))))))))
set_option maxRecDepth 100000 in
set_option maxHeartbeats 4000000 in
theorem spec_l09Turn_O.con {K : Kn} [KOk K] {k : Nat} {v0 : (List S31)} {v1 : Int} {r : (List S31)} (h : spec_l09Turn_O.f k v0 v1 = some r) : Con K Try.prog 13 [.p (.lst false (List.map en31 v0)), .p (.int .i64 v1)] [] (.buf 2000 1 0 r.length) [(2000, (1, .buf 3 (List.map en31 r)))] := by
 rw [spec_l09Turn_O.f] at h
 refine con_intro 65 [17, 23, 27, 31, 37, 42, 46, 51, 57, 59, 64] Try.func13 (by kernel_rfl) rfl rfl (by kernel_rfl) fun ι0 w0 hk0 => ?_
 revert h
 refine bind_e (fun v2 e2 => ?_)
 replace e2 := nf_ (ix_en en31 e2)
 refine bif_e (fun c1 => ?_) (fun c1 => ?_)
 ·refine go 13 ?_
  refine ret_e (fun hr_ => ?_)
  subst hr_
  exact ret_ Try.func13 [(2000, (1, 17, 1))]
 ·refine bif_e (fun c2 => ?_) (fun c2 => ?_)
  ·refine go 16 ?_
   refine ret_e (fun hr_ => ?_)
   subst hr_
   exact ret_ Try.func13 [(2000, (1, 23, 1))]
  ·refine bif_e (fun c3 => ?_) (fun c3 => ?_)
   ·refine go 19 ?_
    refine ret_e (fun hr_ => ?_)
    subst hr_
    exact ret_ Try.func13 [(2000, (1, 27, 1))]
   ·refine bif_e (fun c4 => ?_) (fun c4 => ?_)
    ·refine go 21 ?_
     refine grs ?_
     refine gr_run ?_
     refine bind_e (fun v3 e3 => gr_call [] (spec_l09Second.con e3) ?_)
     clear e3
     refine bind_e (fun v4 e4 => gr_call [] (spec_l09Turn.con e4) ?_)
     clear e4
     refine bind_e (fun v5 e5 => ?_)
     replace e5 := nf_ (app_en en31 e5)
     refine gr_run ?_
     refine bind_e (fun v6 e6 => gr_call [] (spec_l09Turn.con e6) ?_)
     clear e6
     refine bind_e (fun v7 e7 => ?_)
     replace e7 := nf_ (app_en en31 e7)
     refine gr_run ?_
     refine gr_done ?_
     refine ret_e (fun hr_ => ?_)
     subst hr_
     exact ret_ Try.func13 [(2000, (1, 31, 3))]
    ·refine bif_e (fun c5 => ?_) (fun c5 => ?_)
     ·refine go 24 ?_
      refine grs ?_
      refine gr_run ?_
      refine bind_e (fun v8 e8 => gr_call [] (spec_l09Turn.con e8) ?_)
      clear e8
      refine bind_e (fun v9 e9 => ?_)
      replace e9 := nf_ (app_en en31 e9)
      refine gr_run ?_
      refine bind_e (fun v10 e10 => gr_call [] (spec_l09Second.con e10) ?_)
      clear e10
      refine bind_e (fun v11 e11 => gr_call [] (spec_l09Turn.con e11) ?_)
      clear e11
      refine bind_e (fun v12 e12 => ?_)
      replace e12 := nf_ (app_en en31 e12)
      refine gr_run ?_
      refine gr_done ?_
      refine ret_e (fun hr_ => ?_)
      subst hr_
      exact ret_ Try.func13 [(2000, (1, 46, 3))]
     ·refine go 26 ?_
      refine grs ?_
      refine gr_run ?_
      refine bind_e (fun v13 e13 => gr_call [] (spec_l09Turn.con e13) ?_)
      clear e13
      refine bind_e (fun v14 e14 => ?_)
      replace e14 := nf_ (app_en en31 e14)
      refine gr_run ?_
      refine gr_done ?_
      refine ret_e (fun hr_ => ?_)
      subst hr_
      exact ret_ Try.func13 [(2000, (1, 59, 2))]
def spec_TurnSteps_O.f (k : Nat) (v0 : (List S31)) : Option ((List S31)) := ((spec_StepsFault.f k v0).bind fun v1 => (bif (v1 == 0) then ((spec_l09Turn_O.f k v0 0).bind fun v2 => (some v2)) else (some ([] : List S31))))
set_option maxRecDepth 100000 in
set_option maxHeartbeats 4000000 in
theorem spec_TurnSteps_O.con {K : Kn} [KOk K] {k : Nat} {v0 : (List S31)} {r : (List S31)} (h : spec_TurnSteps_O.f k v0 = some r) : Con K Try.prog 5 [.p (.lst false (List.map en31 v0))] [] (.buf 2000 1 0 r.length) [(2000, (1, .buf 3 (List.map en31 r)))] := by
 rw [spec_TurnSteps_O.f] at h
 refine con_intro 9 [] Try.func5 (by kernel_rfl) rfl rfl (by kernel_rfl) fun ι0 w0 hk0 => ?_
 revert h
 refine go 4 ?_
 refine grs ?_
 refine gr_run ?_
 refine bind_e (fun v1 e1 => gr_call [] (spec_StepsFault.con e1) ?_)
 clear e1
 refine gr_run ?_
 refine gr_done ?_
 refine bif_e (fun c1 => ?_) (fun c1 => ?_)
 ·refine go 3 ?_
  refine grs ?_
  refine gr_run ?_
  refine bind_e (fun v2 e2 => gr_call [(2000, (1, 8, 1))] (spec_l09Turn_O.con e2) ?_)
  clear e2
  refine gr_run ?_
  refine gr_done ?_
  refine ret_e (fun hr_ => ?_)
  subst hr_
  exact ret_ Try.func5 [(2000, (1, 8, 1))]
 ·refine go 3 ?_
  refine adoptB_ 2 2502 3 ?_
  refine ret_e (fun hr_ => ?_)
  subst hr_
  exact ret_ Try.func5 [(2000, (1, 2502, 1))]
end Go.Ab
