/- What the functions compute, and their contracts, part 7. No condition beyond KOk. -/
import Derived.Test.YtkjoeomgnkfljaaGreatDoorAbX
import Derived.Test.YtkjoeomgnkfljaaGreatDoorAbF5
import Derived.Test.YtkjoeomgnkfljaaGreatDoorAbF6
namespace Go.Ab
open Go.Proofs
set_option linter.unusedVariables false
set_option linter.unusedSimpArgs false
def impl_nodeOk.f (k : Nat) (v0 : S94) : Option (Bool) := ((impl_idOk.f k v0.f0).bind fun v1 => (bif v1 then ((impl_risingNames.f k v0.f1 10).bind fun v2 => (bif v2 then ((impl_fieldsOk.f k v0.f2).bind fun v3 => (some v3)) else (some false))) else (some false)))
set_option maxRecDepth 100000 in
set_option maxHeartbeats 4000000 in
theorem impl_nodeOk.con {K : Kn} [KOk K] {k : Nat} {v0 : S94} {r : Bool} (h : impl_nodeOk.f k v0 = some r) : Con K Tryz.prog 147 [.agg [.p (.int .i64 v0.f0), .p (.lst false (List.map srw v0.f1)), .p (.lst false (List.map en193 v0.f2))]] [] (.p (.bool r)) [] := by
 rw [impl_nodeOk.f] at h
 refine con_intro 16 [] Tryz.func147 (by kernel_rfl) rfl rfl (by kernel_rfl) fun ι0 w0 hk0 => ?_
 revert h
 refine go 3 ?_
 refine grs ?_
 refine gr_run ?_
 refine bind_e (fun v1 e1 => gr_call [] (impl_idOk.con e1) ?_)
 clear e1
 refine bif_e (fun c1 => ?_) (fun c1 => ?_)
 ·refine gr_run ?_
  refine bind_e (fun v2 e2 => gr_call [] (impl_risingNames.con e2) ?_)
  clear e2
  refine bif_e (fun c2 => ?_) (fun c2 => ?_)
  ·refine gr_run ?_
   refine bind_e (fun v3 e3 => gr_call [] (impl_fieldsOk.con e3) ?_)
   clear e3
   refine gr_run ?_
   refine gr_done ?_
   refine ret_e (fun hr_ => ?_)
   subst hr_
   exact ret_ Tryz.func147 []
  ·refine gr_run ?_
   refine gr_done ?_
   refine ret_e (fun hr_ => ?_)
   subst hr_
   exact ret_ Tryz.func147 []
 ·refine gr_run ?_
  refine gr_done ?_
  refine ret_e (fun hr_ => ?_)
  subst hr_
  exact ret_ Tryz.func147 []
def impl_edgeOk.f (k : Nat) (v0 : S110) : Option (Bool) := ((impl_idOk.f k v0.f0).bind fun v1 => (bif v1 then ((impl_isName.f k v0.f1).bind fun v2 => (bif v2 then ((impl_idOk.f k v0.f2).bind fun v3 => (bif v3 then ((impl_idOk.f k v0.f3).bind fun v4 => (bif v4 then ((impl_fieldsOk.f k v0.f4).bind fun v5 => (some v5)) else (some false))) else (some false))) else (some false))) else (some false)))
set_option maxRecDepth 100000 in
set_option maxHeartbeats 4000000 in
theorem impl_edgeOk.con {K : Kn} [KOk K] {k : Nat} {v0 : S110} {r : Bool} (h : impl_edgeOk.f k v0 = some r) : Con K Tryz.prog 148 [.agg [.p (.int .i64 v0.f0), .p (.str v0.f1), .p (.int .i64 v0.f2), .p (.int .i64 v0.f3), .p (.lst false (List.map en193 v0.f4))]] [] (.p (.bool r)) [] := by
 rw [impl_edgeOk.f] at h
 refine con_intro 26 [] Tryz.func148 (by kernel_rfl) rfl rfl (by kernel_rfl) fun ι0 w0 hk0 => ?_
 revert h
 refine go 3 ?_
 refine grs ?_
 refine gr_run ?_
 refine bind_e (fun v1 e1 => gr_call [] (impl_idOk.con e1) ?_)
 clear e1
 refine bif_e (fun c1 => ?_) (fun c1 => ?_)
 ·refine gr_run ?_
  refine bind_e (fun v2 e2 => gr_call [] (impl_isName.con e2) ?_)
  clear e2
  refine bif_e (fun c2 => ?_) (fun c2 => ?_)
  ·refine gr_run ?_
   refine bind_e (fun v3 e3 => gr_call [] (impl_idOk.con e3) ?_)
   clear e3
   refine bif_e (fun c3 => ?_) (fun c3 => ?_)
   ·refine gr_run ?_
    refine bind_e (fun v4 e4 => gr_call [] (impl_idOk.con e4) ?_)
    clear e4
    refine bif_e (fun c4 => ?_) (fun c4 => ?_)
    ·refine gr_run ?_
     refine bind_e (fun v5 e5 => gr_call [] (impl_fieldsOk.con e5) ?_)
     clear e5
     refine gr_run ?_
     refine gr_done ?_
     refine ret_e (fun hr_ => ?_)
     subst hr_
     exact ret_ Tryz.func148 []
    ·refine gr_run ?_
     refine gr_done ?_
     refine ret_e (fun hr_ => ?_)
     subst hr_
     exact ret_ Tryz.func148 []
   ·refine gr_run ?_
    refine gr_done ?_
    refine ret_e (fun hr_ => ?_)
    subst hr_
    exact ret_ Tryz.func148 []
  ·refine gr_run ?_
   refine gr_done ?_
   refine ret_e (fun hr_ => ?_)
   subst hr_
   exact ret_ Tryz.func148 []
 ·refine gr_run ?_
  refine gr_done ?_
  refine ret_e (fun hr_ => ?_)
  subst hr_
  exact ret_ Tryz.func148 []
def impl_Change_ok.f (k : Nat) (v0 : S145) : Option (Bool) := (bif (v0.f0 == 1) then ((impl_nodeOk.f k v0.f1).bind fun v1 => (some v1)) else (bif (v0.f0 == 2) then ((impl_idOk.f k v0.f1.f0).bind fun v2 => (some v2)) else (bif (v0.f0 == 3) then ((impl_edgeOk.f k v0.f2).bind fun v3 => (some v3)) else (bif (v0.f0 == 4) then ((impl_idOk.f k v0.f2.f0).bind fun v4 => (some v4)) else (bif (v0.f0 == 5) then ((impl_idOk.f k v0.f1.f0).bind fun v5 => (bif v5 then ((impl_risingNames.f k v0.f1.f1 10).bind fun v6 => (some v6)) else (some false))) else (bif (v0.f0 == 6) then ((impl_read.f k v0.f3).bind fun v7 => (bif v7.2 then (bif (v7.1.f0 == 8) then ((impl_isName.f k v0.f4).bind fun v8 => (bif v8 then (bif decide (v0.f5 = (⟨#[110, 117, 108, 108]⟩ : ByteArray)) then (some true) else ((impl_fieldValue.f k v0.f5).bind fun v9 => (some v9))) else (some false))) else (bif (v7.1.f0 == 9) then ((impl_isName.f k v0.f4).bind fun v10 => (bif v10 then (bif decide (v0.f5 = (⟨#[110, 117, 108, 108]⟩ : ByteArray)) then (some true) else ((impl_fieldValue.f k v0.f5).bind fun v11 => (some v11))) else (some false))) else (some false))) else (some false))) else (some false)))))))
set_option maxRecDepth 100000 in
set_option maxHeartbeats 4000000 in
theorem impl_Change_ok.con {K : Kn} [KOk K] {k : Nat} {v0 : S145} {r : Bool} (h : impl_Change_ok.f k v0 = some r) : Con K Tryz.prog 143 [.agg [.p (.int .i64 v0.f0), .p (.int .i64 v0.f1.f0), .p (.lst false (List.map srw v0.f1.f1)), .p (.lst false (List.map en193 v0.f1.f2)), .p (.int .i64 v0.f2.f0), .p (.str v0.f2.f1), .p (.int .i64 v0.f2.f2), .p (.int .i64 v0.f2.f3), .p (.lst false (List.map en193 v0.f2.f4)), .p (.str v0.f3), .p (.str v0.f4), .p (.str v0.f5)]] [] (.p (.bool r)) [] := by
 rw [impl_Change_ok.f] at h
 refine con_intro 75 [] Tryz.func143 (by kernel_rfl) rfl rfl (by kernel_rfl) fun ι0 w0 hk0 => ?_
 revert h
 refine bif_e (fun c1 => ?_) (fun c1 => ?_)
 ·refine go 10 ?_
  refine grs ?_
  refine gr_run ?_
  refine bind_e (fun v1 e1 => gr_call [] (impl_nodeOk.con e1) ?_)
  clear e1
  refine gr_run ?_
  refine gr_done ?_
  refine ret_e (fun hr_ => ?_)
  subst hr_
  exact ret_ Tryz.func143 []
 ·refine bif_e (fun c2 => ?_) (fun c2 => ?_)
  ·refine go 13 ?_
   refine grs ?_
   refine gr_run ?_
   refine bind_e (fun v2 e2 => gr_call [] (impl_idOk.con e2) ?_)
   clear e2
   refine gr_run ?_
   refine gr_done ?_
   refine ret_e (fun hr_ => ?_)
   subst hr_
   exact ret_ Tryz.func143 []
  ·refine bif_e (fun c3 => ?_) (fun c3 => ?_)
   ·refine go 16 ?_
    refine grs ?_
    refine gr_run ?_
    refine bind_e (fun v3 e3 => gr_call [] (impl_edgeOk.con e3) ?_)
    clear e3
    refine gr_run ?_
    refine gr_done ?_
    refine ret_e (fun hr_ => ?_)
    subst hr_
    exact ret_ Tryz.func143 []
   ·refine bif_e (fun c4 => ?_) (fun c4 => ?_)
    ·refine go 19 ?_
     refine grs ?_
     refine gr_run ?_
     refine bind_e (fun v4 e4 => gr_call [] (impl_idOk.con e4) ?_)
     clear e4
     refine gr_run ?_
     refine gr_done ?_
     refine ret_e (fun hr_ => ?_)
     subst hr_
     exact ret_ Tryz.func143 []
    ·refine bif_e (fun c5 => ?_) (fun c5 => ?_)
     ·refine go 22 ?_
      refine grs ?_
      refine gr_run ?_
      refine bind_e (fun v5 e5 => gr_call [] (impl_idOk.con e5) ?_)
      clear e5
      refine bif_e (fun c6 => ?_) (fun c6 => ?_)
      ·refine gr_run ?_
       refine bind_e (fun v6 e6 => gr_call [] (impl_risingNames.con e6) ?_)
       clear e6
       refine gr_run ?_
       refine gr_done ?_
       refine ret_e (fun hr_ => ?_)
       subst hr_
       exact ret_ Tryz.func143 []
      ·refine gr_run ?_
       refine gr_done ?_
       refine ret_e (fun hr_ => ?_)
       subst hr_
       exact ret_ Tryz.func143 []
     ·refine bif_e (fun c7 => ?_) (fun c7 => ?_)
      ·refine go 25 ?_
       refine grs ?_
       refine gr_run ?_
       refine bind_e (fun v7 e7 => gr_call [] (impl_read.con e7) ?_)
       clear e7
       refine gr_run ?_
       refine gr_done ?_
       refine bif_e (fun c8 => ?_) (fun c8 => ?_)
       ·refine bif_e (fun c9 => ?_) (fun c9 => ?_)
        ·refine go 1 ?_
         refine grs ?_
         refine gr_run ?_
         refine bind_e (fun v8 e8 => gr_call [] (impl_isName.con e8) ?_)
         clear e8
         refine bif_e (fun c10 => ?_) (fun c10 => ?_)
         ·refine bif_e (fun c11 => ?_) (fun c11 => ?_)
          ·refine gr_run ?_
           refine gr_done ?_
           refine ret_e (fun hr_ => ?_)
           subst hr_
           exact ret_ Tryz.func143 []
          ·refine gr_run ?_
           refine bind_e (fun v9 e9 => gr_call [] (impl_fieldValue.con e9) ?_)
           clear e9
           refine gr_run ?_
           refine gr_done ?_
           refine ret_e (fun hr_ => ?_)
           subst hr_
           exact ret_ Tryz.func143 []
         ·refine gr_run ?_
          refine gr_done ?_
          refine ret_e (fun hr_ => ?_)
          subst hr_
          exact ret_ Tryz.func143 []
        ·refine bif_e (fun c12 => ?_) (fun c12 => ?_)
         ·refine go 1 ?_
          refine grs ?_
          refine gr_run ?_
          refine bind_e (fun v10 e10 => gr_call [] (impl_isName.con e10) ?_)
          clear e10
          refine bif_e (fun c13 => ?_) (fun c13 => ?_)
          ·refine bif_e (fun c14 => ?_) (fun c14 => ?_)
           ·refine gr_run ?_
            refine gr_done ?_
            refine ret_e (fun hr_ => ?_)
            subst hr_
            exact ret_ Tryz.func143 []
           ·refine gr_run ?_
            refine bind_e (fun v11 e11 => gr_call [] (impl_fieldValue.con e11) ?_)
            clear e11
            refine gr_run ?_
            refine gr_done ?_
            refine ret_e (fun hr_ => ?_)
            subst hr_
            exact ret_ Tryz.func143 []
          ·refine gr_run ?_
           refine gr_done ?_
           refine ret_e (fun hr_ => ?_)
           subst hr_
           exact ret_ Tryz.func143 []
         ·refine go 2 ?_
          refine ret_e (fun hr_ => ?_)
          subst hr_
          exact ret_ Tryz.func143 []
       ·refine go 2 ?_
        refine ret_e (fun hr_ => ?_)
        subst hr_
        exact ret_ Tryz.func143 []
      ·refine go 28 ?_
       refine ret_e (fun hr_ => ?_)
       subst hr_
       exact ret_ Tryz.func143 []
def impl_num.f (k : Nat) (v0 : Int) : Option (ByteArray) := ((strconv_FormatInt.f k v0 10).bind fun v1 => (some v1))
set_option maxRecDepth 100000 in
set_option maxHeartbeats 4000000 in
theorem impl_num.con {K : Kn} [KOk K] {k : Nat} {v0 : Int} {r : ByteArray} (h : impl_num.f k v0 = some r) : Con K Tryz.prog 194 [.p (.int .i64 v0)] [] (.p (.str r)) [] := by
 rw [impl_num.f] at h
 refine con_intro 5 [] Tryz.func194 (by kernel_rfl) rfl rfl (by kernel_rfl) fun ι0 w0 hk0 => ?_
 revert h
 refine go 3 ?_
 refine grs ?_
 refine gr_run ?_
 refine bind_e (fun v1 e1 => gr_call [] (strconv_FormatInt.con e1) ?_)
 clear e1
 refine gr_run ?_
 refine gr_done ?_
 refine ret_e (fun hr_ => ?_)
 subst hr_
 exact ret_ Tryz.func194 []
mutual
def impl_mapText.l0 : Nat → ByteArray → (List S193) → Int → Option (ByteArray)
 | 0, _, _, _ => none
 | k + 1, v1, v0, v2 => (bif decide (v2 < (v0.length : Int)) then ((ix v0 v2).bind fun v5 => (bif decide (0 < v2) then ((cat v1 (⟨#[44]⟩ : ByteArray)).bind fun v6 => ((cat v5.f0 (⟨#[58]⟩ : ByteArray)).bind fun v7 => ((cat v7 v5.f1).bind fun v8 => ((cat v6 v8).bind fun v9 => (impl_mapText.l0 k v9 v0 (IntKind.i64.wrap (v2 + 1))))))) else ((cat v5.f0 (⟨#[58]⟩ : ByteArray)).bind fun v10 => ((cat v10 v5.f1).bind fun v11 => ((cat v1 v11).bind fun v12 => (impl_mapText.l0 k v12 v0 (IntKind.i64.wrap (v2 + 1)))))))) else ((cat v1 (⟨#[125]⟩ : ByteArray)).bind fun v4 => (some v4)))
def impl_mapText.f : Nat → (List S193) → Option (ByteArray)
 | 0, _ => none
 | k + 1, v0 => (impl_mapText.l0 k (⟨#[123]⟩ : ByteArray) v0 0)
end
set_option maxRecDepth 100000 in
set_option maxHeartbeats 4000000 in
theorem impl_mapText.con {K : Kn} [KOk K] {k : Nat} {v0 : (List S193)} {r : ByteArray} (h : impl_mapText.f k v0 = some r) : Con K Tryz.prog 169 [.p (.lst false (List.map en193 v0))] [] (.p (.str r)) [] := by
 cases k with
 | zero => exact absurd h (by simp [impl_mapText.f])
 | succ k =>
 rw [impl_mapText.f] at h
 refine con_intro 28 [] Tryz.func169 (by kernel_rfl) rfl rfl (by kernel_rfl) fun ι0 w0 hk0 => ?_
 revert h
 refine go 8 ?_
 refine fun h => good_loop (fun n st => n ≤ k ∧ ∃ (v1 : _) (v2 : _) (g3 : Nat), st = ⟨[(3, .p (.str v1)), (6, .p (.lst false (List.map en193 v0))), (7, .p (.int .i64 (v0.length : Int))), (8, .p (.int .i64 v2))], [(5, (g3, .gone))]⟩ ∧ impl_mapText.l0 n v1 v0 v2 = some r) k ⟨_, ⟨Nat.le_refl _, _, _, 0, rfl, h⟩, frle_, memle_⟩ ?_
 clear h
 rintro n _ ⟨hkl0, v1, v2, g3, rfl, h⟩ hl0
 cases n with
 | zero => exact absurd h (by simp [impl_mapText.l0])
 | succ kl0 =>
 rw [impl_mapText.l0] at h
 revert h
 refine bif_e (fun c1 => ?_) (fun c1 => ?_)
 ·refine bind_e (fun v5 e5 => ?_)
  replace e5 := nf_ (ix_en en193 e5)
  refine bif_e (fun c2 => ?_) (fun c2 => ?_)
  ·refine bind_e (fun v6 e6 => ?_)
   refine bind_e (fun v7 e7 => ?_)
   refine bind_e (fun v8 e8 => ?_)
   refine bind_e (fun v9 e9 => ?_)
   refine go 17 ?_
   exact fun h => good_again hl0 (by omega) ⟨_, ⟨by omega, _, _, g3 + 1, rfl, h⟩, frle_, memle_⟩
  ·refine bind_e (fun v10 e10 => ?_)
   refine bind_e (fun v11 e11 => ?_)
   refine bind_e (fun v12 e12 => ?_)
   refine go 17 ?_
   exact fun h => good_again hl0 (by omega) ⟨_, ⟨by omega, _, _, g3 + 1, rfl, h⟩, frle_, memle_⟩
 ·refine bind_e (fun v4 e4 => ?_)
  refine go 7 ?_
  refine ret_e (fun hr_ => ?_)
  subst hr_
  exact ret_ Tryz.func169 []
mutual
def impl_showGraph.j0 : Nat → S31 → Int → ByteArray → Option (ByteArray)
 | 0, _, _, _ => none
 | k + 1, v0, v1, v16 => ((strings_Builder_WriteByte.f k 10 v16).bind fun v17 => (impl_showGraph.l0 k v0 (IntKind.i64.wrap (v1 + 1)) v17.2))
def impl_showGraph.l1 : Nat → S31 → Int → S94 → Int → ByteArray → Option (ByteArray)
 | 0, _, _, _, _, _ => none
 | k + 1, v0, v1, v4, v8, v9 => (bif decide (v8 < (v4.f1.length : Int)) then ((ix v4.f1 v8).bind fun v10 => ((cat (⟨#[32, 58]⟩ : ByteArray) v10).bind fun v11 => ((strings_Builder_WriteString.f k v11 v9).bind fun v12 => (impl_showGraph.l1 k v0 v1 v4 (IntKind.i64.wrap (v8 + 1)) v12.2.2)))) else (bif decide (0 < (v4.f2.length : Int)) then ((impl_mapText.f k v4.f2).bind fun v13 => ((cat (⟨#[32]⟩ : ByteArray) v13).bind fun v14 => ((strings_Builder_WriteString.f k v14 v9).bind fun v15 => (impl_showGraph.j0 k v0 v1 v15.2.2)))) else (impl_showGraph.j0 k v0 v1 v9)))
def impl_showGraph.l2 : Nat → S31 → Int → ByteArray → Option (ByteArray)
 | 0, _, _, _ => none
 | k + 1, v0, v18, v19 => (bif decide (v18 < (v0.f1.length : Int)) then ((ix v0.f1 v18).bind fun v22 => ((impl_num.f k v22.f0).bind fun v23 => ((cat (⟨#[101]⟩ : ByteArray) v23).bind fun v24 => ((cat v24 (⟨#[32, 110]⟩ : ByteArray)).bind fun v25 => ((impl_num.f k v22.f2).bind fun v26 => ((cat v25 v26).bind fun v27 => ((cat v27 (⟨#[32, 45]⟩ : ByteArray)).bind fun v28 => ((cat v28 v22.f1).bind fun v29 => ((cat v29 (⟨#[45, 62, 32, 110]⟩ : ByteArray)).bind fun v30 => ((impl_num.f k v22.f3).bind fun v31 => ((cat v30 v31).bind fun v32 => ((strings_Builder_WriteString.f k v32 v19).bind fun v33 => (bif decide (0 < (v22.f4.length : Int)) then ((impl_mapText.f k v22.f4).bind fun v34 => ((cat (⟨#[32]⟩ : ByteArray) v34).bind fun v35 => ((strings_Builder_WriteString.f k v35 v33.2.2).bind fun v36 => ((strings_Builder_WriteByte.f k 10 v36.2.2).bind fun v37 => (impl_showGraph.l2 k v0 (IntKind.i64.wrap (v18 + 1)) v37.2))))) else ((strings_Builder_WriteByte.f k 10 v33.2.2).bind fun v38 => (impl_showGraph.l2 k v0 (IntKind.i64.wrap (v18 + 1)) v38.2))))))))))))))) else ((strings_Builder_String.f k v19).bind fun v21 => (some v21.1)))
def impl_showGraph.l0 : Nat → S31 → Int → ByteArray → Option (ByteArray)
 | 0, _, _, _ => none
 | k + 1, v0, v1, v2 => (bif decide (v1 < (v0.f0.length : Int)) then ((ix v0.f0 v1).bind fun v4 => ((impl_num.f k v4.f0).bind fun v5 => ((cat (⟨#[110]⟩ : ByteArray) v5).bind fun v6 => ((strings_Builder_WriteString.f k v6 v2).bind fun v7 => (impl_showGraph.l1 k v0 v1 v4 0 v7.2.2))))) else (impl_showGraph.l2 k v0 0 v2))
def impl_showGraph.f : Nat → S31 → Option (ByteArray)
 | 0, _ => none
 | k + 1, v0 => (impl_showGraph.l0 k v0 0 (⟨#[]⟩ : ByteArray))
end
set_option maxRecDepth 100000 in
set_option maxHeartbeats 4000000 in
theorem impl_showGraph.con {K : Kn} [KOk K] {k : Nat} {v0 : S31} {r : ByteArray} (h : impl_showGraph.f k v0 = some r) : Con K Tryz.prog 224 [.agg [.p (.lst false (List.map en94 v0.f0)), .p (.lst false (List.map en110 v0.f1))]] [] (.p (.str r)) [] := by
 cases k with
 | zero => exact absurd h (by simp [impl_showGraph.f])
 | succ k =>
 rw [impl_showGraph.f] at h
 refine con_intro 82 [3] Tryz.func224 (by kernel_rfl) rfl rfl (by kernel_rfl) fun ι0 w0 hk0 => ?_
 revert h
 refine go 8 ?_
 refine fun h => good_loop (fun n st => n ≤ k ∧ ∃ (v1 : _) (v2 : _) (g3 : Nat), st = ⟨[(1, .ptr 1 1 0), (3, .ptr 3 1 0), (11, .p (.lst false (List.map en94 v0.f0))), (12, .p (.int .i64 (v0.f0.length : Int))), (13, .p (.int .i64 v1))], [(1, (1, .cells [.p (.lst false (List.map en94 v0.f0)), .p (.lst false (List.map en110 v0.f1))])), (3, (1, .bld 222 5 v2)), (5, (g3, .gone))]⟩ ∧ impl_showGraph.l0 n v0 v1 v2 = some r) k ⟨_, ⟨Nat.le_refl _, _, _, 0, rfl, h⟩, frle_, memle_⟩ ?_
 clear h
 rintro n _ ⟨hkl0, v1, v2, g3, rfl, h⟩ hl0
 cases n with
 | zero => exact absurd h (by simp [impl_showGraph.l0])
 | succ kl0 =>
 rw [impl_showGraph.l0] at h
 revert h
 refine bif_e (fun c1 => ?_) (fun c1 => ?_)
 ·refine bind_e (fun v4 e4 => ?_)
  replace e4 := nf_ (ix_en en94 e4)
  refine go 10 ?_
  refine grs ?_
  refine gr_run ?_
  refine bind_e (fun v5 e5 => gr_call [] (impl_num.con e5) ?_)
  clear e5
  refine bind_e (fun v6 e6 => ?_)
  refine gr_run ?_
  refine bind_e (fun v7 e7 => gr_call [(1000, (0, 3, 1))] (strings_Builder_WriteString.con e7) ?_)
  clear e7
  refine gr_done ?_
  refine go 4 ?_
  refine fun h => good_loop (fun n st => n ≤ kl0 ∧ ∃ (v8 : _) (v9 : _), st = ⟨[(1, .ptr 1 1 0), (3, .ptr 3 1 0), (5, .ptr 5 (g3 + 1) 0), (11, .p (.lst false (List.map en94 v0.f0))), (12, .p (.int .i64 (v0.f0.length : Int))), (13, .p (.int .i64 v1)), (23, .p (.lst false (List.map srw v4.f1))), (24, .p (.int .i64 (v4.f1.length : Int))), (25, .p (.int .i64 v8))], [(1, (1, .cells [.p (.lst false (List.map en94 v0.f0)), .p (.lst false (List.map en110 v0.f1))])), (3, (1, .bld 222 5 v9)), (5, (g3 + 1, .cells [.p (.int .i64 v4.f0), .p (.lst false (List.map srw v4.f1)), .p (.lst false (List.map en193 v4.f2))]))]⟩ ∧ impl_showGraph.l1 n v0 v1 v4 v8 v9 = some r) kl0 ⟨_, ⟨Nat.le_refl _, _, _, rfl, h⟩, frle_, memle_⟩ ?_
  clear c1 e4 e6
  clear h
  rintro n _ ⟨hkl1, v8, v9, rfl, h⟩ hl1
  cases n with
  | zero => exact absurd h (by simp [impl_showGraph.l1])
  | succ kl1 =>
  rw [impl_showGraph.l1] at h
  revert h
  refine bif_e (fun c2 => ?_) (fun c2 => ?_)
  ·refine bind_e (fun v10 e10 => ?_)
   replace e10 := nf_ (ix_en srw e10)
   refine bind_e (fun v11 e11 => ?_)
   refine go 9 ?_
   refine grs ?_
   refine gr_run ?_
   refine bind_e (fun v12 e12 => gr_call [(1000, (0, 3, 1))] (strings_Builder_WriteString.con e12) ?_)
   clear e12
   refine gr_done ?_
   refine go 2 ?_
   exact fun h => good_again hl1 (by omega) ⟨_, ⟨by omega, _, _, rfl, h⟩, frle_, memle_⟩
  ·refine go 6 ?_
   refine good_cut (fun st => ∃ (v16 : _) (q_ : Nat), q_ ≤ kl1 ∧ st = ⟨[(1, .ptr 1 1 0), (3, .ptr 3 1 0), (11, .p (.lst false (List.map en94 v0.f0))), (12, .p (.int .i64 (v0.f0.length : Int))), (13, .p (.int .i64 v1))], [(1, (1, .cells [.p (.lst false (List.map en94 v0.f0)), .p (.lst false (List.map en110 v0.f1))])), (3, (1, .bld 222 5 v16)), (5, (g3 + 1, .gone))]⟩ ∧ impl_showGraph.j0 q_ v0 v1 v16 = some r) ?_ (fun hj0 => ?_)
   ·clear c2
    rintro _ ⟨v16, q_, hqj0, rfl, h⟩
    cases q_ with
    | zero => exact absurd h (by simp [impl_showGraph.j0])
    | succ kj0 =>
    rw [impl_showGraph.j0] at h
    revert h
    refine grs ?_
    refine bind_e (fun v17 e17 => gr_call [(1000, (0, 3, 1))] (strings_Builder_WriteByte.con e17) ?_)
    clear e17
    refine gr_done ?_
    refine go 2 ?_
    exact fun h => good_again hl0 (by omega) ⟨_, ⟨by omega, _, _, g3 + 1, rfl, h⟩, frle_, memle_⟩
   ·refine bif_e (fun c3 => ?_) (fun c3 => ?_)
    ·refine go 3 ?_
     refine grs ?_
     refine gr_run ?_
     refine bind_e (fun v13 e13 => gr_call [] (impl_mapText.con e13) ?_)
     clear e13
     refine bind_e (fun v14 e14 => ?_)
     refine gr_run ?_
     refine bind_e (fun v15 e15 => gr_call [(1000, (0, 3, 1))] (strings_Builder_WriteString.con e15) ?_)
     clear e15
     refine gr_done ?_
     exact fun h => good_jump hj0 ⟨_, ⟨_, _, by omega, rfl, h⟩, frle_, memle_⟩
    ·refine go 4 ?_
     exact fun h => good_jump hj0 ⟨_, ⟨_, _, by omega, rfl, h⟩, frle_, memle_⟩
 ·refine go 9 ?_
  refine fun h => good_loop (fun n st => n ≤ kl0 ∧ ∃ (v18 : _) (v19 : _) (g20 : Nat), st = ⟨[(3, .ptr 3 1 0), (45, .p (.lst false (List.map en110 v0.f1))), (46, .p (.int .i64 (v0.f1.length : Int))), (47, .p (.int .i64 v18))], [(1, (1, .gone)), (3, (1, .bld 222 5 v19)), (5, (g3, .gone)), (9, (g20, .gone))]⟩ ∧ impl_showGraph.l2 n v0 v18 v19 = some r) kl0 ⟨_, ⟨Nat.le_refl _, _, _, 0, rfl, h⟩, frle_, memle_⟩ ?_
  clear c1
  clear h
  rintro n _ ⟨hkl2, v18, v19, g20, rfl, h⟩ hl2
  cases n with
  | zero => exact absurd h (by simp [impl_showGraph.l2])
  | succ kl2 =>
  rw [impl_showGraph.l2] at h
  revert h
  refine bif_e (fun c4 => ?_) (fun c4 => ?_)
  ·refine bind_e (fun v22 e22 => ?_)
   replace e22 := nf_ (ix_en en110 e22)
   refine go 10 ?_
   refine grs ?_
   refine gr_run ?_
   refine bind_e (fun v23 e23 => gr_call [] (impl_num.con e23) ?_)
   clear e23
   refine bind_e (fun v24 e24 => ?_)
   refine bind_e (fun v25 e25 => ?_)
   refine gr_run ?_
   refine bind_e (fun v26 e26 => gr_call [] (impl_num.con e26) ?_)
   clear e26
   refine bind_e (fun v27 e27 => ?_)
   refine bind_e (fun v28 e28 => ?_)
   refine bind_e (fun v29 e29 => ?_)
   refine bind_e (fun v30 e30 => ?_)
   refine gr_run ?_
   refine bind_e (fun v31 e31 => gr_call [] (impl_num.con e31) ?_)
   clear e31
   refine bind_e (fun v32 e32 => ?_)
   refine gr_run ?_
   refine bind_e (fun v33 e33 => gr_call [(1000, (0, 3, 1))] (strings_Builder_WriteString.con e33) ?_)
   clear e33
   refine gr_done ?_
   refine bif_e (fun c5 => ?_) (fun c5 => ?_)
   ·refine go 4 ?_
    refine grs ?_
    refine gr_run ?_
    refine bind_e (fun v34 e34 => gr_call [] (impl_mapText.con e34) ?_)
    clear e34
    refine bind_e (fun v35 e35 => ?_)
    refine gr_run ?_
    refine bind_e (fun v36 e36 => gr_call [(1000, (0, 3, 1))] (strings_Builder_WriteString.con e36) ?_)
    clear e36
    refine gr_done ?_
    refine grs ?_
    refine bind_e (fun v37 e37 => gr_call [(1000, (0, 3, 1))] (strings_Builder_WriteByte.con e37) ?_)
    clear e37
    refine gr_done ?_
    refine go 2 ?_
    exact fun h => good_again hl2 (by omega) ⟨_, ⟨by omega, _, _, g20 + 1, rfl, h⟩, frle_, memle_⟩
   ·refine go 5 ?_
    refine grs ?_
    refine bind_e (fun v38 e38 => gr_call [(1000, (0, 3, 1))] (strings_Builder_WriteByte.con e38) ?_)
    clear e38
    refine gr_done ?_
    refine go 2 ?_
    exact fun h => good_again hl2 (by omega) ⟨_, ⟨by omega, _, _, g20 + 1, rfl, h⟩, frle_, memle_⟩
  ·refine go 6 ?_
   refine grs ?_
   refine bind_e (fun v21 e21 => gr_call [(1000, (0, 3, 1))] (strings_Builder_String.con e21) ?_)
   clear e21
   refine gr_run ?_
   refine gr_done ?_
   refine ret_e (fun hr_ => ?_)
   subst hr_
   exact ret_ Tryz.func224 []
def internal_stringslite_HasSuffix.f (k : Nat) (v0 : ByteArray) (v1 : ByteArray) : Option (Bool) := (bif decide ((v1.size : Int) ≤ (v0.size : Int)) then ((sub v0 (IntKind.i64.wrap ((v0.size : Int) - (v1.size : Int))) (v0.size : Int)).bind fun v2 => (some (decide (v2 = v1)))) else (some false))
set_option maxRecDepth 100000 in
set_option maxHeartbeats 4000000 in
theorem internal_stringslite_HasSuffix.con {K : Kn} [KOk K] {k : Nat} {v0 : ByteArray} {v1 : ByteArray} {r : Bool} (h : internal_stringslite_HasSuffix.f k v0 v1 = some r) : Con K Tryz.prog 260 [.p (.str v0), .p (.str v1)] [] (.p (.bool r)) [] := by
 rw [internal_stringslite_HasSuffix.f] at h
 refine con_intro 21 [] Tryz.func260 (by kernel_rfl) rfl rfl (by kernel_rfl) fun ι0 w0 hk0 => ?_
 revert h
 refine bif_e (fun c1 => ?_) (fun c1 => ?_)
 ·refine bind_e (fun v2 e2 => ?_)
  refine go 4 ?_
  refine ret_e (fun hr_ => ?_)
  subst hr_
  exact ret_ Tryz.func260 []
 ·refine go 4 ?_
  refine ret_e (fun hr_ => ?_)
  subst hr_
  exact ret_ Tryz.func260 []
def internal_stringslite_TrimSuffix.f (k : Nat) (v0 : ByteArray) (v1 : ByteArray) : Option (ByteArray) := ((internal_stringslite_HasSuffix.f k v0 v1).bind fun v2 => (bif v2 then ((sub v0 0 (IntKind.i64.wrap ((v0.size : Int) - (v1.size : Int)))).bind fun v3 => (some v3)) else (some v0)))
set_option maxRecDepth 100000 in
set_option maxHeartbeats 4000000 in
theorem internal_stringslite_TrimSuffix.con {K : Kn} [KOk K] {k : Nat} {v0 : ByteArray} {v1 : ByteArray} {r : ByteArray} (h : internal_stringslite_TrimSuffix.f k v0 v1 = some r) : Con K Tryz.prog 246 [.p (.str v0), .p (.str v1)] [] (.p (.str r)) [] := by
 rw [internal_stringslite_TrimSuffix.f] at h
 refine con_intro 16 [] Tryz.func246 (by kernel_rfl) rfl rfl (by kernel_rfl) fun ι0 w0 hk0 => ?_
 revert h
 refine go 4 ?_
 refine grs ?_
 refine gr_run ?_
 refine bind_e (fun v2 e2 => gr_call [] (internal_stringslite_HasSuffix.con e2) ?_)
 clear e2
 refine gr_done ?_
 refine bif_e (fun c1 => ?_) (fun c1 => ?_)
 ·refine bind_e (fun v3 e3 => ?_)
  refine go 3 ?_
  refine ret_e (fun hr_ => ?_)
  subst hr_
  exact ret_ Tryz.func246 []
 ·refine go 4 ?_
  refine ret_e (fun hr_ => ?_)
  subst hr_
  exact ret_ Tryz.func246 []
def strings_TrimSuffix.f (k : Nat) (v0 : ByteArray) (v1 : ByteArray) : Option (ByteArray) := ((internal_stringslite_TrimSuffix.f k v0 v1).bind fun v2 => (some v2))
set_option maxRecDepth 100000 in
set_option maxHeartbeats 4000000 in
theorem strings_TrimSuffix.con {K : Kn} [KOk K] {k : Nat} {v0 : ByteArray} {v1 : ByteArray} {r : ByteArray} (h : strings_TrimSuffix.f k v0 v1 = some r) : Con K Tryz.prog 223 [.p (.str v0), .p (.str v1)] [] (.p (.str r)) [] := by
 rw [strings_TrimSuffix.f] at h
 refine con_intro 8 [] Tryz.func223 (by kernel_rfl) rfl rfl (by kernel_rfl) fun ι0 w0 hk0 => ?_
 revert h
 refine go 3 ?_
 refine grs ?_
 refine gr_run ?_
 refine bind_e (fun v2 e2 => gr_call [] (internal_stringslite_TrimSuffix.con e2) ?_)
 clear e2
 refine gr_run ?_
 refine gr_done ?_
 refine ret_e (fun hr_ => ?_)
 subst hr_
 exact ret_ Tryz.func223 []
def impl_lineOfNode.f (k : Nat) (v0 : S94) : Option (ByteArray) := ((impl_showGraph.f k (⟨([v0] : List S94), ([] : (List S110))⟩ : S31)).bind fun v1 => ((strings_TrimSuffix.f k v1 (⟨#[10]⟩ : ByteArray)).bind fun v2 => (some v2)))
set_option maxRecDepth 100000 in
set_option maxHeartbeats 4000000 in
theorem impl_lineOfNode.con {K : Kn} [KOk K] {k : Nat} {v0 : S94} {r : ByteArray} (h : impl_lineOfNode.f k v0 = some r) : Con K Tryz.prog 192 [.agg [.p (.int .i64 v0.f0), .p (.lst false (List.map srw v0.f1)), .p (.lst false (List.map en193 v0.f2))]] [] (.p (.str r)) [] := by
 rw [impl_lineOfNode.f] at h
 refine con_intro 8 [] Tryz.func192 (by kernel_rfl) rfl rfl (by kernel_rfl) fun ι0 w0 hk0 => ?_
 revert h
 refine go 3 ?_
 refine grs ?_
 refine gr_run ?_
 refine bind_e (fun v1 e1 => gr_call [] (impl_showGraph.con e1) ?_)
 clear e1
 refine bind_e (fun v2 e2 => gr_call [] (strings_TrimSuffix.con e2) ?_)
 clear e2
 refine gr_run ?_
 refine gr_done ?_
 refine ret_e (fun hr_ => ?_)
 subst hr_
 exact ret_ Tryz.func192 []
def impl_lineOfEdge.f (k : Nat) (v0 : S110) : Option (ByteArray) := ((impl_showGraph.f k (⟨([] : (List S94)), ([v0] : List S110)⟩ : S31)).bind fun v1 => ((strings_TrimSuffix.f k v1 (⟨#[10]⟩ : ByteArray)).bind fun v2 => (some v2)))
set_option maxRecDepth 100000 in
set_option maxHeartbeats 4000000 in
theorem impl_lineOfEdge.con {K : Kn} [KOk K] {k : Nat} {v0 : S110} {r : ByteArray} (h : impl_lineOfEdge.f k v0 = some r) : Con K Tryz.prog 193 [.agg [.p (.int .i64 v0.f0), .p (.str v0.f1), .p (.int .i64 v0.f2), .p (.int .i64 v0.f3), .p (.lst false (List.map en193 v0.f4))]] [] (.p (.str r)) [] := by
 rw [impl_lineOfEdge.f] at h
 refine con_intro 8 [] Tryz.func193 (by kernel_rfl) rfl rfl (by kernel_rfl) fun ι0 w0 hk0 => ?_
 revert h
 refine go 3 ?_
 refine grs ?_
 refine gr_run ?_
 refine bind_e (fun v1 e1 => gr_call [] (impl_showGraph.con e1) ?_)
 clear e1
 refine bind_e (fun v2 e2 => gr_call [] (strings_TrimSuffix.con e2) ?_)
 clear e2
 refine gr_run ?_
 refine gr_done ?_
 refine ret_e (fun hr_ => ?_)
 subst hr_
 exact ret_ Tryz.func193 []
def impl_Change_show.f (k : Nat) (v0 : S145) : Option (ByteArray) := (bif (v0.f0 == 1) then ((impl_lineOfNode.f k v0.f1).bind fun v1 => ((cat (⟨#[43]⟩ : ByteArray) v1).bind fun v2 => (some v2))) else (bif (v0.f0 == 3) then ((impl_lineOfEdge.f k v0.f2).bind fun v3 => ((cat (⟨#[43]⟩ : ByteArray) v3).bind fun v4 => (some v4))) else (bif (v0.f0 == 2) then ((impl_num.f k v0.f1.f0).bind fun v5 => ((cat (⟨#[45, 110]⟩ : ByteArray) v5).bind fun v6 => (some v6))) else (bif (v0.f0 == 4) then ((impl_num.f k v0.f2.f0).bind fun v7 => ((cat (⟨#[45, 101]⟩ : ByteArray) v7).bind fun v8 => (some v8))) else (bif (v0.f0 == 5) then ((impl_lineOfNode.f k (⟨v0.f1.f0, v0.f1.f1, ([] : (List S193))⟩ : S94)).bind fun v9 => ((cat (⟨#[61]⟩ : ByteArray) v9).bind fun v10 => (some v10))) else ((cat (⟨#[46]⟩ : ByteArray) v0.f3).bind fun v11 => ((cat v11 (⟨#[32]⟩ : ByteArray)).bind fun v12 => ((cat v12 v0.f4).bind fun v13 => ((cat v13 (⟨#[32]⟩ : ByteArray)).bind fun v14 => ((cat v14 v0.f5).bind fun v15 => (some v15)))))))))))
set_option maxRecDepth 100000 in
set_option maxHeartbeats 4000000 in
theorem impl_Change_show.con {K : Kn} [KOk K] {k : Nat} {v0 : S145} {r : ByteArray} (h : impl_Change_show.f k v0 = some r) : Con K Tryz.prog 145 [.agg [.p (.int .i64 v0.f0), .p (.int .i64 v0.f1.f0), .p (.lst false (List.map srw v0.f1.f1)), .p (.lst false (List.map en193 v0.f1.f2)), .p (.int .i64 v0.f2.f0), .p (.str v0.f2.f1), .p (.int .i64 v0.f2.f2), .p (.int .i64 v0.f2.f3), .p (.lst false (List.map en193 v0.f2.f4)), .p (.str v0.f3), .p (.str v0.f4), .p (.str v0.f5)]] [] (.p (.str r)) [] := by
 rw [impl_Change_show.f] at h
 refine con_intro 53 [] Tryz.func145 (by kernel_rfl) rfl rfl (by kernel_rfl) fun ι0 w0 hk0 => ?_
 revert h
 refine bif_e (fun c1 => ?_) (fun c1 => ?_)
 ·refine go 10 ?_
  refine grs ?_
  refine gr_run ?_
  refine bind_e (fun v1 e1 => gr_call [] (impl_lineOfNode.con e1) ?_)
  clear e1
  refine bind_e (fun v2 e2 => ?_)
  refine gr_run ?_
  refine gr_done ?_
  refine ret_e (fun hr_ => ?_)
  subst hr_
  exact ret_ Tryz.func145 []
 ·refine bif_e (fun c2 => ?_) (fun c2 => ?_)
  ·refine go 13 ?_
   refine grs ?_
   refine gr_run ?_
   refine bind_e (fun v3 e3 => gr_call [] (impl_lineOfEdge.con e3) ?_)
   clear e3
   refine bind_e (fun v4 e4 => ?_)
   refine gr_run ?_
   refine gr_done ?_
   refine ret_e (fun hr_ => ?_)
   subst hr_
   exact ret_ Tryz.func145 []
  ·refine bif_e (fun c3 => ?_) (fun c3 => ?_)
   ·refine go 16 ?_
    refine grs ?_
    refine gr_run ?_
    refine bind_e (fun v5 e5 => gr_call [] (impl_num.con e5) ?_)
    clear e5
    refine bind_e (fun v6 e6 => ?_)
    refine gr_run ?_
    refine gr_done ?_
    refine ret_e (fun hr_ => ?_)
    subst hr_
    exact ret_ Tryz.func145 []
   ·refine bif_e (fun c4 => ?_) (fun c4 => ?_)
    ·refine go 19 ?_
     refine grs ?_
     refine gr_run ?_
     refine bind_e (fun v7 e7 => gr_call [] (impl_num.con e7) ?_)
     clear e7
     refine bind_e (fun v8 e8 => ?_)
     refine gr_run ?_
     refine gr_done ?_
     refine ret_e (fun hr_ => ?_)
     subst hr_
     exact ret_ Tryz.func145 []
    ·refine bif_e (fun c5 => ?_) (fun c5 => ?_)
     ·refine go 22 ?_
      refine grs ?_
      refine gr_run ?_
      refine bind_e (fun v9 e9 => gr_call [] (impl_lineOfNode.con e9) ?_)
      clear e9
      refine bind_e (fun v10 e10 => ?_)
      refine gr_run ?_
      refine gr_done ?_
      refine ret_e (fun hr_ => ?_)
      subst hr_
      exact ret_ Tryz.func145 []
     ·refine bind_e (fun v11 e11 => ?_)
      refine bind_e (fun v12 e12 => ?_)
      refine bind_e (fun v13 e13 => ?_)
      refine bind_e (fun v14 e14 => ?_)
      refine bind_e (fun v15 e15 => ?_)
      refine go 25 ?_
      refine ret_e (fun hr_ => ?_)
      subst hr_
      exact ret_ Tryz.func145 []
mutual
def impl_changesText.l0 : Nat → (List S145) → Int → ByteArray → Option (ByteArray × Bool)
 | 0, _, _, _ => none
 | k + 1, v0, v1, v2 => (bif decide (v1 < (v0.length : Int)) then ((ix v0 v1).bind fun v5 => ((impl_Change_ok.f k v5).bind fun v6 => (bif v6 then ((impl_Change_show.f k v5).bind fun v7 => ((cat v7 (⟨#[10]⟩ : ByteArray)).bind fun v8 => ((strings_Builder_WriteString.f k v8 v2).bind fun v9 => (impl_changesText.l0 k v0 (IntKind.i64.wrap (v1 + 1)) v9.2.2)))) else (some ((⟨#[]⟩ : ByteArray), false))))) else ((strings_Builder_String.f k v2).bind fun v4 => (some (v4.1, true))))
def impl_changesText.f : Nat → (List S145) → Option (ByteArray × Bool)
 | 0, _ => none
 | k + 1, v0 => (impl_changesText.l0 k v0 0 (⟨#[]⟩ : ByteArray))
end
set_option maxRecDepth 100000 in
set_option maxHeartbeats 4000000 in
theorem impl_changesText.con {K : Kn} [KOk K] {k : Nat} {v0 : (List S145)} {r : ByteArray × Bool} (h : impl_changesText.f k v0 = some r) : Con K Tryz.prog 88 [.p (.lst false (List.map en145 v0))] [] (.tup [.p (.str r.1), .p (.bool r.2)]) [] := by
 cases k with
 | zero => exact absurd h (by simp [impl_changesText.f])
 | succ k =>
 rw [impl_changesText.f] at h
 refine con_intro 22 [4] Tryz.func88 (by kernel_rfl) rfl rfl (by kernel_rfl) fun ι0 w0 hk0 => ?_
 revert h
 refine go 8 ?_
 refine fun h => good_loop (fun n st => n ≤ k ∧ ∃ (v1 : _) (v2 : _) (g3 : Nat), st = ⟨[(4, .ptr 4 1 0), (7, .p (.lst false (List.map en145 v0))), (8, .p (.int .i64 (v0.length : Int))), (9, .p (.int .i64 v1))], [(4, (1, .bld 222 5 v2)), (6, (g3, .gone))]⟩ ∧ impl_changesText.l0 n v0 v1 v2 = some r) k ⟨_, ⟨Nat.le_refl _, _, _, 0, rfl, h⟩, frle_, memle_⟩ ?_
 clear h
 rintro n _ ⟨hkl0, v1, v2, g3, rfl, h⟩ hl0
 cases n with
 | zero => exact absurd h (by simp [impl_changesText.l0])
 | succ kl0 =>
 rw [impl_changesText.l0] at h
 revert h
 refine bif_e (fun c1 => ?_) (fun c1 => ?_)
 ·refine bind_e (fun v5 e5 => ?_)
  replace e5 := nf_ (ix_en en145 e5)
  refine go 11 ?_
  refine grs ?_
  refine gr_run ?_
  refine bind_e (fun v6 e6 => gr_call [] (impl_Change_ok.con e6) ?_)
  clear e6
  refine gr_run ?_
  refine gr_done ?_
  refine bif_e (fun c2 => ?_) (fun c2 => ?_)
  ·refine go 2 ?_
   refine grs ?_
   refine gr_run ?_
   refine bind_e (fun v7 e7 => gr_call [] (impl_Change_show.con e7) ?_)
   clear e7
   refine bind_e (fun v8 e8 => ?_)
   refine gr_run ?_
   refine bind_e (fun v9 e9 => gr_call [(1000, (0, 4, 1))] (strings_Builder_WriteString.con e9) ?_)
   clear e9
   refine gr_done ?_
   refine go 2 ?_
   exact fun h => good_again hl0 (by omega) ⟨_, ⟨by omega, _, _, g3 + 1, rfl, h⟩, frle_, memle_⟩
  ·refine go 3 ?_
   refine ret_e (fun hr_ => ?_)
   subst hr_
   exact ret_ Tryz.func88 []
 ·refine go 6 ?_
  refine grs ?_
  refine bind_e (fun v4 e4 => gr_call [(1000, (0, 4, 1))] (strings_Builder_String.con e4) ?_)
  clear e4
  refine gr_run ?_
  refine gr_done ?_
  refine ret_e (fun hr_ => ?_)
  subst hr_
  exact ret_ Tryz.func88 []
def impl_ShowChanges.f (k : Nat) (v0 : (List S145)) : Option (ByteArray) := (bif decide (1000 < (v0.length : Int)) then (some (⟨#[]⟩ : ByteArray)) else ((impl_changesText.f k v0).bind fun v1 => (bif v1.2 then (bif decide (65536 < (v1.1.size : Int)) then (some (⟨#[]⟩ : ByteArray)) else (some v1.1)) else (some (⟨#[]⟩ : ByteArray)))))
set_option maxRecDepth 100000 in
set_option maxHeartbeats 4000000 in
theorem impl_ShowChanges.con {K : Kn} [KOk K] {k : Nat} {v0 : (List S145)} {r : ByteArray} (h : impl_ShowChanges.f k v0 = some r) : Con K Tryz.prog 37 [.p (.lst false (List.map en145 v0))] [] (.p (.str r)) [] := by
 rw [impl_ShowChanges.f] at h
 refine con_intro 21 [] Tryz.func37 (by kernel_rfl) rfl rfl (by kernel_rfl) fun ι0 w0 hk0 => ?_
 revert h
 refine bif_e (fun c1 => ?_) (fun c1 => ?_)
 ·refine go 8 ?_
  refine ret_e (fun hr_ => ?_)
  subst hr_
  exact ret_ Tryz.func37 []
 ·refine go 8 ?_
  refine grs ?_
  refine gr_run ?_
  refine bind_e (fun v1 e1 => gr_call [] (impl_changesText.con e1) ?_)
  clear e1
  refine gr_run ?_
  refine gr_done ?_
  refine bif_e (fun c2 => ?_) (fun c2 => ?_)
  ·refine bif_e (fun c3 => ?_) (fun c3 => ?_)
   ·refine go 6 ?_
    refine ret_e (fun hr_ => ?_)
    subst hr_
    exact ret_ Tryz.func37 []
   ·refine go 7 ?_
    refine ret_e (fun hr_ => ?_)
    subst hr_
    exact ret_ Tryz.func37 []
  ·refine go 6 ?_
   refine ret_e (fun hr_ => ?_)
   subst hr_
   exact ret_ Tryz.func37 []
end Go.Ab
