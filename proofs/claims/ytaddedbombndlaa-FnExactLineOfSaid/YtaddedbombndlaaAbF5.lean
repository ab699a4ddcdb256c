/- What the functions compute, and their contracts, part 5. No condition beyond KOk. -/
import Derived.Test.YtaddedbombndlaaAbX
import Derived.Test.YtaddedbombndlaaAbF4
namespace Go.Ab
open Go.Proofs
set_option linter.unusedVariables false
set_option linter.unusedSimpArgs false
mutual
def impl_schemaOk.l1 : Nat → S33 → Int → S96 → Int → Option (Bool)
 | 0, _, _, _, _ => none
 | k + 1, v0, v1, v3, v10 => (bif decide (v10 < (v3.f1.length : Int)) then ((ix v3.f1 v10).bind fun v11 => ((impl_typeAt.f k v0 v11).bind fun v12 => (bif decide (v12 < 0) then (some false) else (impl_schemaOk.l1 k v0 v1 v3 (IntKind.i64.wrap (v10 + 1)))))) else (impl_schemaOk.l0 k v0 (IntKind.i64.wrap (v1 + 1))))
def impl_schemaOk.j0 : Nat → S33 → Int → S96 → Option (Bool)
 | 0, _, _, _ => none
 | k + 1, v0, v1, v3 => (impl_schemaOk.l1 k v0 v1 v3 0)
def impl_schemaOk.l4 : Nat → (List ByteArray) → S33 → Int → S96 → Int → (List ByteArray) → Int → Option (Bool)
 | 0, _, _, _, _, _, _, _ => none
 | k + 1, v22, v0, v13, v17, v19, v21, v23 => (bif decide (v23 < (v21.length : Int)) then ((ix v21 v23).bind fun v24 => ((impl_insert.f k v22 v24).bind fun v25 => (impl_schemaOk.l4 k v25 v0 v13 v17 v19 v21 (IntKind.i64.wrap (v23 + 1))))) else (impl_schemaOk.l3 k v22 v0 v13 v17 (IntKind.i64.wrap (v19 + 1))))
def impl_schemaOk.j1 : Nat → S33 → Int → (List ByteArray) → Int → S96 → Int → S96 → Option (Bool)
 | 0, _, _, _, _, _, _, _ => none
 | k + 1, v0, v13, v18, v27, v17, v33, v32 => (impl_schemaOk.l6 k v0 v13 v18 v27 v17 (IntKind.i64.wrap (v33 + 1)) v32)
def impl_schemaOk.l6 : Nat → S33 → Int → (List ByteArray) → Int → S96 → Int → S96 → Option (Bool)
 | 0, _, _, _, _, _, _, _ => none
 | k + 1, v0, v13, v18, v27, v17, v33, v32 => (bif decide (v33 < (v17.f2.length : Int)) then ((ix v17.f2 v33).bind fun v35 => ((impl_ruleOf.f k v32.f2 v35.f0).bind fun v36 => (bif decide (0 ≤ v36) then ((ix v32.f2 v36).bind fun v37 => (bif (v37.f1 == 0) then (bif v37.f2 then (bif v35.f2 then (impl_schemaOk.j1 k v0 v13 v18 v27 v17 v33 v32) else (some false)) else (impl_schemaOk.j1 k v0 v13 v18 v27 v17 v33 v32)) else (bif (v37.f1 == v35.f1) then (bif v37.f2 then (bif v35.f2 then (impl_schemaOk.j1 k v0 v13 v18 v27 v17 v33 v32) else (some false)) else (impl_schemaOk.j1 k v0 v13 v18 v27 v17 v33 v32)) else (some false)))) else (impl_schemaOk.j1 k v0 v13 v18 v27 v17 v33 v32)))) else (impl_schemaOk.l5 k v0 v13 v18 (IntKind.i64.wrap (v27 + 1)) v17))
def impl_schemaOk.l5 : Nat → S33 → Int → (List ByteArray) → Int → S96 → Option (Bool)
 | 0, _, _, _, _, _ => none
 | k + 1, v0, v13, v18, v27, v17 => (bif decide (v27 < (v18.length : Int)) then ((ix v18 v27).bind fun v30 => ((impl_typeAt.f k v0 v30).bind fun v31 => ((ix v0.f0 v31).bind fun v32 => (impl_schemaOk.l6 k v0 v13 v18 v27 v17 0 v32)))) else (impl_schemaOk.l2 k v0 (IntKind.i64.wrap (v13 + 1))))
def impl_schemaOk.l3 : Nat → (List ByteArray) → S33 → Int → S96 → Int → Option (Bool)
 | 0, _, _, _, _, _ => none
 | k + 1, v18, v0, v13, v17, v19 => (bif decide (v19 < (v17.f1.length : Int)) then ((ix v17.f1 v19).bind fun v20 => ((impl_line.f k v0 v20).bind fun v21 => (impl_schemaOk.l4 k v18 v0 v13 v17 v19 v21 0))) else ((slices_Contains.f k v18 v17.f0).bind fun v26 => (bif v26 then (some false) else (impl_schemaOk.l5 k v0 v13 v18 0 v17))))
def impl_schemaOk.j3 : Nat → S33 → Int → Option (Bool)
 | 0, _, _ => none
 | k + 1, v0, v41 => (impl_schemaOk.l7 k v0 (IntKind.i64.wrap (v41 + 1)))
def impl_schemaOk.j2 : Nat → Int → S33 → S99 → Option (Bool)
 | 0, _, _, _ => none
 | k + 1, v41, v0, v43 => (bif decide (0 < v41) then ((ix v0.f1 (IntKind.i64.wrap (v41 - 1))).bind fun v51 => ((slices_Compare.f k ([v51.f0, v51.f1, v51.f2] : List ByteArray) ([v43.f0, v43.f1, v43.f2] : List ByteArray)).bind fun v54 => (bif decide (0 ≤ v54) then (some false) else (impl_schemaOk.j3 k v0 v41)))) else (impl_schemaOk.j3 k v0 v41))
def impl_schemaOk.l8 : Nat → S33 → Int → Option (Bool)
 | 0, _, _ => none
 | k + 1, v0, v55 => (bif decide (v55 < (v0.f2.length : Int)) then ((ix v0.f2 v55).bind fun v57 => ((impl_typeAt.f k v0 v57.f0).bind fun v58 => (bif decide (v58 < 0) then (some false) else (bif decide (0 < v55) then ((ix v0.f2 (IntKind.i64.wrap (v55 - 1))).bind fun v59 => (bif slt v59.f0 v57.f0 then (bif ((v57.f1.length : Int) == 0) then (some false) else ((impl_risingNames.f k v57.f1 3).bind fun v60 => (bif v60 then (impl_schemaOk.l8 k v0 (IntKind.i64.wrap (v55 + 1))) else (some false)))) else (some false))) else (bif ((v57.f1.length : Int) == 0) then (some false) else ((impl_risingNames.f k v57.f1 3).bind fun v61 => (bif v61 then (impl_schemaOk.l8 k v0 (IntKind.i64.wrap (v55 + 1))) else (some false)))))))) else (some true))
def impl_schemaOk.l7 : Nat → S33 → Int → Option (Bool)
 | 0, _, _ => none
 | k + 1, v0, v41 => (bif decide (v41 < (v0.f1.length : Int)) then ((ix v0.f1 v41).bind fun v43 => ((impl_isName.f k v43.f0).bind fun v44 => (bif v44 then ((impl_typeAt.f k v0 v43.f1).bind fun v45 => (bif decide (v45 < 0) then (some false) else ((impl_typeAt.f k v0 v43.f2).bind fun v46 => (bif decide (v46 < 0) then (some false) else ((impl_rulesOk.f k v43.f3).bind fun v47 => (bif v47 then ((impl_countOk.f k v43.f4).bind fun v48 => (bif v48 then ((impl_countOk.f k v43.f5).bind fun v49 => (bif v49 then ((impl_countOk.f k v43.f6).bind fun v50 => (bif v50 then (bif (v43.f4 == 0) then (impl_schemaOk.j2 k v41 v0 v43) else (bif decide (v43.f4 < v43.f5) then (some false) else (impl_schemaOk.j2 k v41 v0 v43))) else (some false))) else (some false))) else (some false))) else (some false))))))) else (some false)))) else (impl_schemaOk.l8 k v0 0))
def impl_schemaOk.l2 : Nat → S33 → Int → Option (Bool)
 | 0, _, _ => none
 | k + 1, v0, v13 => (bif decide (v13 < (v0.f0.length : Int)) then ((ix v0.f0 v13).bind fun v17 => (impl_schemaOk.l3 k [] v0 v13 v17 0)) else (impl_schemaOk.l7 k v0 0))
def impl_schemaOk.l0 : Nat → S33 → Int → Option (Bool)
 | 0, _, _ => none
 | k + 1, v0, v1 => (bif decide (v1 < (v0.f0.length : Int)) then ((ix v0.f0 v1).bind fun v3 => ((impl_isName.f k v3.f0).bind fun v4 => (bif v4 then (bif decide (0 < v1) then ((ix v0.f0 (IntKind.i64.wrap (v1 - 1))).bind fun v5 => (bif slt v5.f0 v3.f0 then ((impl_risingNames.f k v3.f1 5).bind fun v6 => (bif v6 then ((impl_rulesOk.f k v3.f2).bind fun v7 => (bif v7 then (impl_schemaOk.j0 k v0 v1 v3) else (some false))) else (some false))) else (some false))) else ((impl_risingNames.f k v3.f1 5).bind fun v8 => (bif v8 then ((impl_rulesOk.f k v3.f2).bind fun v9 => (bif v9 then (impl_schemaOk.j0 k v0 v1 v3) else (some false))) else (some false)))) else (some false)))) else (impl_schemaOk.l2 k v0 0))
def impl_schemaOk.f : Nat → S33 → Option (Bool)
 | 0, _ => none
 | k + 1, v0 => (bif decide (20 < (v0.f0.length : Int)) then (some false) else (bif decide (20 < (v0.f1.length : Int)) then (some false) else (bif decide (10 < (v0.f2.length : Int)) then (some false) else (impl_schemaOk.l0 k v0 0))))
end
set_option maxRecDepth 100000 in
set_option maxHeartbeats 4000000 in
theorem impl_schemaOk.con {K : Kn} [KOk K] {k : Nat} {v0 : S33} {r : Bool} (h : impl_schemaOk.f k v0 = some r) : Con K Try.prog 28 [.agg [.p (.lst false (List.map en96 v0.f0)), .p (.lst false (List.map en99 v0.f1)), .p (.lst false (List.map en92 v0.f2)), .p (.bool v0.f3)]] [] (.p (.bool r)) [] := by
 cases k with
 | zero => exact absurd h (by simp [impl_schemaOk.f])
 | succ k =>
 rw [impl_schemaOk.f] at h
 refine con_intro 327 [] Try.func28 (by kernel_rfl) rfl rfl (by kernel_rfl) fun ι0 w0 hk0 => ?_
 revert h
 refine bif_e (fun c1 => ?_) (fun c1 => ?_)
 ·refine go 8 ?_
  refine ret_e (fun hr_ => ?_)
  subst hr_
  exact ret_ Try.func28 []
 ·refine bif_e (fun c2 => ?_) (fun c2 => ?_)
  ·refine go 8 ?_
   refine ret_e (fun hr_ => ?_)
   subst hr_
   exact ret_ Try.func28 []
  ·refine bif_e (fun c3 => ?_) (fun c3 => ?_)
   ·refine go 8 ?_
    refine ret_e (fun hr_ => ?_)
    subst hr_
    exact ret_ Try.func28 []
   ·refine go 11 ?_
    refine fun h => good_loop (fun n st => n ≤ k ∧ ∃ (v1 : _) (g2 : Nat), st = ⟨[(1, .ptr 1 1 0), (41, .p (.lst false (List.map en96 v0.f0))), (42, .p (.int .i64 (v0.f0.length : Int))), (43, .p (.int .i64 v1))], [(1, (1, .cells [.p (.lst false (List.map en96 v0.f0)), .p (.lst false (List.map en99 v0.f1)), .p (.lst false (List.map en92 v0.f2)), .p (.bool v0.f3)])), (4, (g2, .gone))]⟩ ∧ impl_schemaOk.l0 n v0 v1 = some r) k ⟨_, ⟨Nat.le_refl _, _, 0, rfl, h⟩, frle_, memle_⟩ ?_
    clear c1 c2 c3
    clear h
    rintro n _ ⟨hkl0, v1, g2, rfl, h⟩ hl0
    cases n with
    | zero => exact absurd h (by simp [impl_schemaOk.l0])
    | succ kl0 =>
    rw [impl_schemaOk.l0] at h
    revert h
    refine bif_e (fun c4 => ?_) (fun c4 => ?_)
    ·refine bind_e (fun v3 e3 => ?_)
     replace e3 := nf_ (ix_en en96 e3)
     refine go 11 ?_
     refine good_cut_f (fun st => ∃ (q_ : Nat), q_ ≤ kl0 ∧ st = ⟨[(1, .ptr 1 1 0), (4, .ptr 4 (g2 + 1) 0), (41, .p (.lst false (List.map en96 v0.f0))), (42, .p (.int .i64 (v0.f0.length : Int))), (43, .p (.int .i64 v1))], [(1, (1, .cells [.p (.lst false (List.map en96 v0.f0)), .p (.lst false (List.map en99 v0.f1)), .p (.lst false (List.map en92 v0.f2)), .p (.bool v0.f3)])), (4, (g2 + 1, .cells [.p (.str v3.f0), .p (.lst false (List.map srw v3.f1)), .p (.lst false (List.map en113 v3.f2)), .p (.bool v3.f3)]))]⟩ ∧ impl_schemaOk.j0 q_ v0 v1 v3 = some r) ?_ (fun hj0 => ?_)
     ·clear c4 e3
      rintro _ ⟨q_, hqj0, rfl, h⟩
      cases q_ with
      | zero => exact absurd h (by simp [impl_schemaOk.j0])
      | succ kj0 =>
      rw [impl_schemaOk.j0] at h
      revert h
      refine go 4 ?_
      refine fun h => good_loop (fun n st => n ≤ kj0 ∧ ∃ (v10 : _), st = ⟨[(1, .ptr 1 1 0), (41, .p (.lst false (List.map en96 v0.f0))), (42, .p (.int .i64 (v0.f0.length : Int))), (43, .p (.int .i64 v1)), (81, .p (.lst false (List.map srw v3.f1))), (82, .p (.int .i64 (v3.f1.length : Int))), (83, .p (.int .i64 v10))], [(1, (1, .cells [.p (.lst false (List.map en96 v0.f0)), .p (.lst false (List.map en99 v0.f1)), .p (.lst false (List.map en92 v0.f2)), .p (.bool v0.f3)])), (4, (g2 + 1, .gone))]⟩ ∧ impl_schemaOk.l1 n v0 v1 v3 v10 = some r) kj0 ⟨_, ⟨Nat.le_refl _, _, rfl, h⟩, frle_, memle_⟩ ?_
      clear h
      rintro n _ ⟨hkl1, v10, rfl, h⟩ hl1
      cases n with
      | zero => exact absurd h (by simp [impl_schemaOk.l1])
      | succ kl1 =>
      rw [impl_schemaOk.l1] at h
      revert h
      refine bif_e (fun c5 => ?_) (fun c5 => ?_)
      ·refine bind_e (fun v11 e11 => ?_)
       replace e11 := nf_ (ix_en srw e11)
       refine go 10 ?_
       refine grs ?_
       refine gr_run ?_
       refine bind_e (fun v12 e12 => gr_call [] (impl_typeAt.con e12) ?_)
       clear e12
       refine gr_run ?_
       refine gr_done ?_
       refine bif_e (fun c6 => ?_) (fun c6 => ?_)
       ·refine go 3 ?_
        refine ret_e (fun hr_ => ?_)
        subst hr_
        exact ret_ Try.func28 []
       ·refine go 4 ?_
        exact fun h => good_again hl1 (by omega) ⟨_, ⟨by omega, _, rfl, h⟩, frle_, memle_⟩
      ·refine go 7 ?_
       exact fun h => good_again hl0 (by omega) ⟨_, ⟨by omega, _, g2 + 1, rfl, h⟩, frle_, memle_⟩
     ·refine grs ?_
      refine gr_run ?_
      refine bind_e (fun v4 e4 => gr_call [] (impl_isName.con e4) ?_)
      clear e4
      refine bif_e (fun c7 => ?_) (fun c7 => ?_)
      ·refine bif_e (fun c8 => ?_) (fun c8 => ?_)
       ·refine bind_e (fun v5 e5 => ?_)
        replace e5 := nf_ (ix_en en96 e5)
        refine bif_e (fun c9 => ?_) (fun c9 => ?_)
        ·refine gr_run ?_
         refine bind_e (fun v6 e6 => gr_call [] (impl_risingNames.con e6) ?_)
         clear e6
         refine bif_e (fun c10 => ?_) (fun c10 => ?_)
         ·refine gr_run ?_
          refine bind_e (fun v7 e7 => gr_call [] (impl_rulesOk.con e7) ?_)
          clear e7
          refine gr_run ?_
          refine gr_done ?_
          refine bif_e (fun c11 => ?_) (fun c11 => ?_)
          ·refine go 1 ?_
           exact fun h => good_jump hj0 ⟨_, ⟨_, by omega, rfl, h⟩, frle_, memle_⟩
          ·refine go 3 ?_
           refine ret_e (fun hr_ => ?_)
           subst hr_
           exact ret_ Try.func28 []
         ·refine gr_run ?_
          refine gr_done ?_
          refine go 3 ?_
          refine ret_e (fun hr_ => ?_)
          subst hr_
          exact ret_ Try.func28 []
        ·refine gr_run ?_
         refine gr_done ?_
         refine go 3 ?_
         refine ret_e (fun hr_ => ?_)
         subst hr_
         exact ret_ Try.func28 []
       ·refine gr_run ?_
        refine bind_e (fun v8 e8 => gr_call [] (impl_risingNames.con e8) ?_)
        clear e8
        refine bif_e (fun c12 => ?_) (fun c12 => ?_)
        ·refine gr_run ?_
         refine bind_e (fun v9 e9 => gr_call [] (impl_rulesOk.con e9) ?_)
         clear e9
         refine gr_run ?_
         refine gr_done ?_
         refine bif_e (fun c13 => ?_) (fun c13 => ?_)
         ·refine go 1 ?_
          exact fun h => good_jump hj0 ⟨_, ⟨_, by omega, rfl, h⟩, frle_, memle_⟩
         ·refine go 3 ?_
          refine ret_e (fun hr_ => ?_)
          subst hr_
          exact ret_ Try.func28 []
        ·refine gr_run ?_
         refine gr_done ?_
         refine go 3 ?_
         refine ret_e (fun hr_ => ?_)
         subst hr_
         exact ret_ Try.func28 []
      ·refine gr_run ?_
       refine gr_done ?_
       refine go 3 ?_
       refine ret_e (fun hr_ => ?_)
       subst hr_
       exact ret_ Try.func28 []
    ·refine go 9 ?_
     refine fun h => good_loop (fun n st => n ≤ kl0 ∧ ∃ (v13 : _) (g14 : Nat) (g15 : Nat) (g16 : Nat), st = ⟨[(1, .ptr 1 1 0), (94, .p (.lst false (List.map en96 v0.f0))), (95, .p (.int .i64 (v0.f0.length : Int))), (96, .p (.int .i64 v13))], [(1, (1, .cells [.p (.lst false (List.map en96 v0.f0)), .p (.lst false (List.map en99 v0.f1)), .p (.lst false (List.map en92 v0.f2)), .p (.bool v0.f3)])), (4, (g2, .gone)), (8, (g14, .gone)), (16, (g15, .gone)), (18, (g16, .gone))]⟩ ∧ impl_schemaOk.l2 n v0 v13 = some r) kl0 ⟨_, ⟨Nat.le_refl _, _, 0, 0, 0, rfl, h⟩, frle_, memle_⟩ ?_
     clear c4
     clear h
     rintro n _ ⟨hkl2, v13, g14, g15, g16, rfl, h⟩ hl2
     cases n with
     | zero => exact absurd h (by simp [impl_schemaOk.l2])
     | succ kl2 =>
     rw [impl_schemaOk.l2] at h
     revert h
     refine bif_e (fun c14 => ?_) (fun c14 => ?_)
     ·refine bind_e (fun v17 e17 => ?_)
      replace e17 := nf_ (ix_en en96 e17)
      refine go 15 ?_
      refine fun h => good_loop (fun n st => n ≤ kl2 ∧ ∃ (v18 : _) (v19 : _), st = ⟨[(1, .ptr 1 1 0), (8, .ptr 8 (g14 + 1) 0), (9, .p (.lst false (List.map srw v18))), (94, .p (.lst false (List.map en96 v0.f0))), (95, .p (.int .i64 (v0.f0.length : Int))), (96, .p (.int .i64 v13)), (101, .p (.lst false (List.map srw v17.f1))), (102, .p (.int .i64 (v17.f1.length : Int))), (103, .p (.int .i64 v19))], [(1, (1, .cells [.p (.lst false (List.map en96 v0.f0)), .p (.lst false (List.map en99 v0.f1)), .p (.lst false (List.map en92 v0.f2)), .p (.bool v0.f3)])), (4, (g2, .gone)), (8, (g14 + 1, .cells [.p (.str v17.f0), .p (.lst false (List.map srw v17.f1)), .p (.lst false (List.map en113 v17.f2)), .p (.bool v17.f3)])), (16, (g15, .gone)), (18, (g16, .gone))]⟩ ∧ impl_schemaOk.l3 n v18 v0 v13 v17 v19 = some r) kl2 ⟨_, ⟨Nat.le_refl _, _, _, rfl, h⟩, frle_, memle_⟩ ?_
      clear c14 e17
      clear h
      rintro n _ ⟨hkl3, v18, v19, rfl, h⟩ hl3
      cases n with
      | zero => exact absurd h (by simp [impl_schemaOk.l3])
      | succ kl3 =>
      rw [impl_schemaOk.l3] at h
      revert h
      refine bif_e (fun c15 => ?_) (fun c15 => ?_)
      ·refine bind_e (fun v20 e20 => ?_)
       replace e20 := nf_ (ix_en srw e20)
       refine go 10 ?_
       refine grs ?_
       refine gr_run ?_
       refine bind_e (fun v21 e21 => gr_call [] (impl_line.con e21) ?_)
       clear e21
       refine gr_run ?_
       refine gr_done ?_
       refine go 1 ?_
       refine fun h => good_loop (fun n st => n ≤ kl3 ∧ ∃ (v22 : _) (v23 : _), st = ⟨[(1, .ptr 1 1 0), (8, .ptr 8 (g14 + 1) 0), (9, .p (.lst false (List.map srw v22))), (94, .p (.lst false (List.map en96 v0.f0))), (95, .p (.int .i64 (v0.f0.length : Int))), (96, .p (.int .i64 v13)), (101, .p (.lst false (List.map srw v17.f1))), (102, .p (.int .i64 (v17.f1.length : Int))), (103, .p (.int .i64 v19)), (109, .p (.lst false (List.map srw v21))), (110, .p (.int .i64 (v21.length : Int))), (111, .p (.int .i64 v23))], [(1, (1, .cells [.p (.lst false (List.map en96 v0.f0)), .p (.lst false (List.map en99 v0.f1)), .p (.lst false (List.map en92 v0.f2)), .p (.bool v0.f3)])), (4, (g2, .gone)), (8, (g14 + 1, .cells [.p (.str v17.f0), .p (.lst false (List.map srw v17.f1)), .p (.lst false (List.map en113 v17.f2)), .p (.bool v17.f3)])), (16, (g15, .gone)), (18, (g16, .gone))]⟩ ∧ impl_schemaOk.l4 n v22 v0 v13 v17 v19 v21 v23 = some r) kl3 ⟨_, ⟨Nat.le_refl _, _, _, rfl, h⟩, frle_, memle_⟩ ?_
       clear c15 e20
       clear h
       rintro n _ ⟨hkl4, v22, v23, rfl, h⟩ hl4
       cases n with
       | zero => exact absurd h (by simp [impl_schemaOk.l4])
       | succ kl4 =>
       rw [impl_schemaOk.l4] at h
       revert h
       refine bif_e (fun c16 => ?_) (fun c16 => ?_)
       ·refine bind_e (fun v24 e24 => ?_)
        replace e24 := nf_ (ix_en srw e24)
        refine go 9 ?_
        refine grs ?_
        refine gr_run ?_
        refine bind_e (fun v25 e25 => gr_call [] (impl_insert.con e25) ?_)
        clear e25
        refine gr_run ?_
        refine gr_done ?_
        refine go 2 ?_
        exact fun h => good_again hl4 (by omega) ⟨_, ⟨by omega, _, _, rfl, h⟩, frle_, memle_⟩
       ·refine go 7 ?_
        exact fun h => good_again hl3 (by omega) ⟨_, ⟨by omega, _, _, rfl, h⟩, frle_, memle_⟩
      ·refine go 7 ?_
       refine grs ?_
       refine gr_run ?_
       refine bind_e (fun v26 e26 => gr_call [] (slices_Contains.con e26) ?_)
       clear e26
       refine gr_done ?_
       refine bif_e (fun c17 => ?_) (fun c17 => ?_)
       ·refine go 3 ?_
        refine ret_e (fun hr_ => ?_)
        subst hr_
        exact ret_ Try.func28 []
       ·refine go 5 ?_
        refine fun h => good_loop (fun n st => n ≤ kl3 ∧ ∃ (v27 : _) (g28 : Nat) (g29 : Nat), st = ⟨[(1, .ptr 1 1 0), (8, .ptr 8 (g14 + 1) 0), (94, .p (.lst false (List.map en96 v0.f0))), (95, .p (.int .i64 (v0.f0.length : Int))), (96, .p (.int .i64 v13)), (124, .p (.lst false (List.map srw v18))), (125, .p (.int .i64 (v18.length : Int))), (126, .p (.int .i64 v27))], [(1, (1, .cells [.p (.lst false (List.map en96 v0.f0)), .p (.lst false (List.map en99 v0.f1)), .p (.lst false (List.map en92 v0.f2)), .p (.bool v0.f3)])), (4, (g2, .gone)), (8, (g14 + 1, .cells [.p (.str v17.f0), .p (.lst false (List.map srw v17.f1)), .p (.lst false (List.map en113 v17.f2)), .p (.bool v17.f3)])), (16, (g28, .gone)), (18, (g29, .gone))]⟩ ∧ impl_schemaOk.l5 n v0 v13 v18 v27 v17 = some r) kl3 ⟨_, ⟨Nat.le_refl _, _, g15, g16, rfl, h⟩, frle_, memle_⟩ ?_
        clear c15 c17
        clear h
        rintro n _ ⟨hkl5, v27, g28, g29, rfl, h⟩ hl5
        cases n with
        | zero => exact absurd h (by simp [impl_schemaOk.l5])
        | succ kl5 =>
        rw [impl_schemaOk.l5] at h
        revert h
        refine bif_e (fun c18 => ?_) (fun c18 => ?_)
        ·refine bind_e (fun v30 e30 => ?_)
         replace e30 := nf_ (ix_en srw e30)
         refine go 10 ?_
         refine grs ?_
         refine gr_run ?_
         refine bind_e (fun v31 e31 => gr_call [] (impl_typeAt.con e31) ?_)
         clear e31
         refine bind_e (fun v32 e32 => ?_)
         replace e32 := nf_ (ix_en en96 e32)
         refine gr_run ?_
         refine gr_done ?_
         refine go 3 ?_
         refine fun h => good_loop (fun n st => n ≤ kl5 ∧ ∃ (v33 : _) (g34 : Nat), st = ⟨[(1, .ptr 1 1 0), (8, .ptr 8 (g14 + 1) 0), (16, .ptr 16 (g28 + 1) 0), (94, .p (.lst false (List.map en96 v0.f0))), (95, .p (.int .i64 (v0.f0.length : Int))), (96, .p (.int .i64 v13)), (124, .p (.lst false (List.map srw v18))), (125, .p (.int .i64 (v18.length : Int))), (126, .p (.int .i64 v27)), (138, .p (.lst false (List.map en113 v17.f2))), (139, .p (.int .i64 (v17.f2.length : Int))), (140, .p (.int .i64 v33))], [(1, (1, .cells [.p (.lst false (List.map en96 v0.f0)), .p (.lst false (List.map en99 v0.f1)), .p (.lst false (List.map en92 v0.f2)), .p (.bool v0.f3)])), (4, (g2, .gone)), (8, (g14 + 1, .cells [.p (.str v17.f0), .p (.lst false (List.map srw v17.f1)), .p (.lst false (List.map en113 v17.f2)), .p (.bool v17.f3)])), (16, (g28 + 1, .cells [.p (.str v32.f0), .p (.lst false (List.map srw v32.f1)), .p (.lst false (List.map en113 v32.f2)), .p (.bool v32.f3)])), (18, (g34, .gone))]⟩ ∧ impl_schemaOk.l6 n v0 v13 v18 v27 v17 v33 v32 = some r) kl5 ⟨_, ⟨Nat.le_refl _, _, g29, rfl, h⟩, frle_, memle_⟩ ?_
         clear c18 e30 e32
         clear h
         rintro n _ ⟨hkl6, v33, g34, rfl, h⟩ hl6
         cases n with
         | zero => exact absurd h (by simp [impl_schemaOk.l6])
         | succ kl6 =>
         rw [impl_schemaOk.l6] at h
         revert h
         refine bif_e (fun c19 => ?_) (fun c19 => ?_)
         ·refine bind_e (fun v35 e35 => ?_)
          replace e35 := nf_ (ix_en en113 e35)
          refine go 10 ?_
          refine grs ?_
          refine gr_run ?_
          refine bind_e (fun v36 e36 => gr_call [] (impl_ruleOf.con e36) ?_)
          clear e36
          refine gr_run ?_
          refine gr_done ?_
          refine go 1 ?_
          refine good_cut_f (fun st => ∃ (q_ : Nat), q_ ≤ kl6 ∧ st = ⟨[(1, .ptr 1 1 0), (8, .ptr 8 (g14 + 1) 0), (16, .ptr 16 (g28 + 1) 0), (94, .p (.lst false (List.map en96 v0.f0))), (95, .p (.int .i64 (v0.f0.length : Int))), (96, .p (.int .i64 v13)), (124, .p (.lst false (List.map srw v18))), (125, .p (.int .i64 (v18.length : Int))), (126, .p (.int .i64 v27)), (138, .p (.lst false (List.map en113 v17.f2))), (139, .p (.int .i64 (v17.f2.length : Int))), (140, .p (.int .i64 v33))], [(1, (1, .cells [.p (.lst false (List.map en96 v0.f0)), .p (.lst false (List.map en99 v0.f1)), .p (.lst false (List.map en92 v0.f2)), .p (.bool v0.f3)])), (4, (g2, .gone)), (8, (g14 + 1, .cells [.p (.str v17.f0), .p (.lst false (List.map srw v17.f1)), .p (.lst false (List.map en113 v17.f2)), .p (.bool v17.f3)])), (16, (g28 + 1, .cells [.p (.str v32.f0), .p (.lst false (List.map srw v32.f1)), .p (.lst false (List.map en113 v32.f2)), .p (.bool v32.f3)])), (18, (g34 + 1, .gone))]⟩ ∧ impl_schemaOk.j1 q_ v0 v13 v18 v27 v17 v33 v32 = some r) ?_ (fun hj1 => ?_)
          ·clear c19 e35
           rintro _ ⟨q_, hqj1, rfl, h⟩
           cases q_ with
           | zero => exact absurd h (by simp [impl_schemaOk.j1])
           | succ kj1 =>
           rw [impl_schemaOk.j1] at h
           revert h
           refine go 3 ?_
           exact fun h => good_again hl6 (by omega) ⟨_, ⟨by omega, _, g34 + 1, rfl, h⟩, frle_, memle_⟩
          ·refine bif_e (fun c20 => ?_) (fun c20 => ?_)
           ·refine bind_e (fun v37 e37 => ?_)
            replace e37 := nf_ (ix_en en113 e37)
            refine bif_e (fun c21 => ?_) (fun c21 => ?_)
            ·refine bif_e (fun c22 => ?_) (fun c22 => ?_)
             ·refine grs ?_
              refine gr_run ?_
              refine gr_done ?_
              refine bif_e (fun c23 => ?_) (fun c23 => ?_)
              ·refine go 1 ?_
               exact fun h => good_jump hj1 ⟨_, ⟨_, by omega, rfl, h⟩, frle_, memle_⟩
              ·refine go 3 ?_
               refine ret_e (fun hr_ => ?_)
               subst hr_
               exact ret_ Try.func28 []
             ·refine grs ?_
              refine gr_run ?_
              refine gr_done ?_
              refine go 1 ?_
              exact fun h => good_jump hj1 ⟨_, ⟨_, by omega, rfl, h⟩, frle_, memle_⟩
            ·refine bif_e (fun c24 => ?_) (fun c24 => ?_)
             ·refine bif_e (fun c25 => ?_) (fun c25 => ?_)
              ·refine grs ?_
               refine gr_run ?_
               refine gr_done ?_
               refine bif_e (fun c26 => ?_) (fun c26 => ?_)
               ·refine go 1 ?_
                exact fun h => good_jump hj1 ⟨_, ⟨_, by omega, rfl, h⟩, frle_, memle_⟩
               ·refine go 3 ?_
                refine ret_e (fun hr_ => ?_)
                subst hr_
                exact ret_ Try.func28 []
              ·refine grs ?_
               refine gr_run ?_
               refine gr_done ?_
               refine go 1 ?_
               exact fun h => good_jump hj1 ⟨_, ⟨_, by omega, rfl, h⟩, frle_, memle_⟩
             ·refine grs ?_
              refine gr_run ?_
              refine gr_done ?_
              refine go 3 ?_
              refine ret_e (fun hr_ => ?_)
              subst hr_
              exact ret_ Try.func28 []
           ·refine grs ?_
            refine gr_run ?_
            refine gr_done ?_
            refine go 1 ?_
            exact fun h => good_jump hj1 ⟨_, ⟨_, by omega, rfl, h⟩, frle_, memle_⟩
         ·refine go 7 ?_
          exact fun h => good_again hl5 (by omega) ⟨_, ⟨by omega, _, g28 + 1, g34, rfl, h⟩, frle_, memle_⟩
        ·refine go 7 ?_
         exact fun h => good_again hl2 (by omega) ⟨_, ⟨by omega, _, g14 + 1, g28, g29, rfl, h⟩, frle_, memle_⟩
     ·refine go 9 ?_
      refine fun h => good_loop (fun n st => n ≤ kl2 ∧ ∃ (v41 : _) (g42 : Nat), st = ⟨[(1, .ptr 1 1 0), (188, .p (.lst false (List.map en99 v0.f1))), (189, .p (.int .i64 (v0.f1.length : Int))), (190, .p (.int .i64 v41))], [(1, (1, .cells [.p (.lst false (List.map en96 v0.f0)), .p (.lst false (List.map en99 v0.f1)), .p (.lst false (List.map en92 v0.f2)), .p (.bool v0.f3)])), (4, (g2, .gone)), (8, (g14, .gone)), (16, (g15, .gone)), (18, (g16, .gone)), (21, (g42, .gone))]⟩ ∧ impl_schemaOk.l7 n v0 v41 = some r) kl2 ⟨_, ⟨Nat.le_refl _, _, 0, rfl, h⟩, frle_, memle_⟩ ?_
      clear c14
      clear h
      rintro n _ ⟨hkl7, v41, g42, rfl, h⟩ hl7
      cases n with
      | zero => exact absurd h (by simp [impl_schemaOk.l7])
      | succ kl7 =>
      rw [impl_schemaOk.l7] at h
      revert h
      refine bif_e (fun c27 => ?_) (fun c27 => ?_)
      ·refine bind_e (fun v43 e43 => ?_)
       replace e43 := nf_ (ix_en en99 e43)
       refine go 11 ?_
       refine good_cut_f (fun st => ∃ (q_ : Nat), q_ ≤ kl7 ∧ st = ⟨[(1, .ptr 1 1 0), (20, .p (.int .i64 v41)), (21, .ptr 21 (g42 + 1) 0), (188, .p (.lst false (List.map en99 v0.f1))), (189, .p (.int .i64 (v0.f1.length : Int))), (190, .p (.int .i64 v41))], [(1, (1, .cells [.p (.lst false (List.map en96 v0.f0)), .p (.lst false (List.map en99 v0.f1)), .p (.lst false (List.map en92 v0.f2)), .p (.bool v0.f3)])), (4, (g2, .gone)), (8, (g14, .gone)), (16, (g15, .gone)), (18, (g16, .gone)), (21, (g42 + 1, .cells [.p (.str v43.f0), .p (.str v43.f1), .p (.str v43.f2), .p (.lst false (List.map en113 v43.f3)), .p (.int .i64 v43.f4), .p (.int .i64 v43.f5), .p (.int .i64 v43.f6)]))]⟩ ∧ impl_schemaOk.j2 q_ v41 v0 v43 = some r) ?_ (fun hj2 => ?_)
       ·clear c27 e43
        rintro _ ⟨q_, hqj2, rfl, h⟩
        cases q_ with
        | zero => exact absurd h (by simp [impl_schemaOk.j2])
        | succ kj2 =>
        rw [impl_schemaOk.j2] at h
        revert h
        refine go 2 ?_
        refine good_cut_f (fun st => ∃ (q_ : Nat), q_ ≤ kj2 ∧ st = ⟨[(1, .ptr 1 1 0), (188, .p (.lst false (List.map en99 v0.f1))), (189, .p (.int .i64 (v0.f1.length : Int))), (190, .p (.int .i64 v41))], [(1, (1, .cells [.p (.lst false (List.map en96 v0.f0)), .p (.lst false (List.map en99 v0.f1)), .p (.lst false (List.map en92 v0.f2)), .p (.bool v0.f3)])), (4, (g2, .gone)), (8, (g14, .gone)), (16, (g15, .gone)), (18, (g16, .gone)), (21, (g42 + 1, .gone))]⟩ ∧ impl_schemaOk.j3 q_ v0 v41 = some r) ?_ (fun hj3 => ?_)
        ·skip
         rintro _ ⟨q_, hqj3, rfl, h⟩
         cases q_ with
         | zero => exact absurd h (by simp [impl_schemaOk.j3])
         | succ kj3 =>
         rw [impl_schemaOk.j3] at h
         revert h
         refine go 3 ?_
         exact fun h => good_again hl7 (by omega) ⟨_, ⟨by omega, _, g42 + 1, rfl, h⟩, frle_, memle_⟩
        ·refine bif_e (fun c28 => ?_) (fun c28 => ?_)
         ·refine bind_e (fun v51 e51 => ?_)
          replace e51 := nf_ (ix_en en99 e51)
          refine grs ?_
          refine gr_run ?_
          refine bind_e (fun v54 e54 => gr_call [] (slices_Compare.con e54) ?_)
          clear e54
          refine gr_run ?_
          refine gr_done ?_
          refine bif_e (fun c29 => ?_) (fun c29 => ?_)
          ·refine go 3 ?_
           refine ret_e (fun hr_ => ?_)
           subst hr_
           exact ret_ Try.func28 []
          ·refine go 1 ?_
           exact fun h => good_jump hj3 ⟨_, ⟨_, by omega, rfl, h⟩, frle_, memle_⟩
         ·refine grs ?_
          refine gr_run ?_
          refine gr_done ?_
          refine go 1 ?_
          exact fun h => good_jump hj3 ⟨_, ⟨_, by omega, rfl, h⟩, frle_, memle_⟩
       ·refine grs ?_
        refine gr_run ?_
        refine bind_e (fun v44 e44 => gr_call [] (impl_isName.con e44) ?_)
        clear e44
        refine bif_e (fun c30 => ?_) (fun c30 => ?_)
        ·refine gr_run ?_
         refine bind_e (fun v45 e45 => gr_call [] (impl_typeAt.con e45) ?_)
         clear e45
         refine bif_e (fun c31 => ?_) (fun c31 => ?_)
         ·refine gr_run ?_
          refine gr_done ?_
          refine go 3 ?_
          refine ret_e (fun hr_ => ?_)
          subst hr_
          exact ret_ Try.func28 []
         ·refine gr_run ?_
          refine bind_e (fun v46 e46 => gr_call [] (impl_typeAt.con e46) ?_)
          clear e46
          refine bif_e (fun c32 => ?_) (fun c32 => ?_)
          ·refine gr_run ?_
           refine gr_done ?_
           refine go 3 ?_
           refine ret_e (fun hr_ => ?_)
           subst hr_
           exact ret_ Try.func28 []
          ·refine gr_run ?_
           refine bind_e (fun v47 e47 => gr_call [] (impl_rulesOk.con e47) ?_)
           clear e47
           refine bif_e (fun c33 => ?_) (fun c33 => ?_)
           ·refine gr_run ?_
            refine bind_e (fun v48 e48 => gr_call [] (impl_countOk.con e48) ?_)
            clear e48
            refine bif_e (fun c34 => ?_) (fun c34 => ?_)
            ·refine gr_run ?_
             refine bind_e (fun v49 e49 => gr_call [] (impl_countOk.con e49) ?_)
             clear e49
             refine bif_e (fun c35 => ?_) (fun c35 => ?_)
             ·refine gr_run ?_
              refine bind_e (fun v50 e50 => gr_call [] (impl_countOk.con e50) ?_)
              clear e50
              refine bif_e (fun c36 => ?_) (fun c36 => ?_)
              ·refine bif_e (fun c37 => ?_) (fun c37 => ?_)
               ·refine gr_run ?_
                refine gr_done ?_
                refine go 1 ?_
                exact fun h => good_jump hj2 ⟨_, ⟨_, by omega, rfl, h⟩, frle_, memle_⟩
               ·refine gr_run ?_
                refine gr_done ?_
                refine bif_e (fun c38 => ?_) (fun c38 => ?_)
                ·refine go 3 ?_
                 refine ret_e (fun hr_ => ?_)
                 subst hr_
                 exact ret_ Try.func28 []
                ·refine go 1 ?_
                 exact fun h => good_jump hj2 ⟨_, ⟨_, by omega, rfl, h⟩, frle_, memle_⟩
              ·refine gr_run ?_
               refine gr_done ?_
               refine go 3 ?_
               refine ret_e (fun hr_ => ?_)
               subst hr_
               exact ret_ Try.func28 []
             ·refine gr_run ?_
              refine gr_done ?_
              refine go 3 ?_
              refine ret_e (fun hr_ => ?_)
              subst hr_
              exact ret_ Try.func28 []
            ·refine gr_run ?_
             refine gr_done ?_
             refine go 3 ?_
             refine ret_e (fun hr_ => ?_)
             subst hr_
             exact ret_ Try.func28 []
           ·refine gr_run ?_
            refine gr_done ?_
            refine go 3 ?_
            refine ret_e (fun hr_ => ?_)
            subst hr_
            exact ret_ Try.func28 []
        ·refine gr_run ?_
         refine gr_done ?_
         refine go 3 ?_
         refine ret_e (fun hr_ => ?_)
         subst hr_
         exact ret_ Try.func28 []
      ·refine go 9 ?_
       refine fun h => good_loop (fun n st => n ≤ kl7 ∧ ∃ (v55 : _) (g56 : Nat), st = ⟨[(1, .ptr 1 1 0), (286, .p (.lst false (List.map en92 v0.f2))), (287, .p (.int .i64 (v0.f2.length : Int))), (288, .p (.int .i64 v55))], [(1, (1, .cells [.p (.lst false (List.map en96 v0.f0)), .p (.lst false (List.map en99 v0.f1)), .p (.lst false (List.map en92 v0.f2)), .p (.bool v0.f3)])), (4, (g2, .gone)), (8, (g14, .gone)), (16, (g15, .gone)), (18, (g16, .gone)), (21, (g42, .gone)), (23, (g56, .gone))]⟩ ∧ impl_schemaOk.l8 n v0 v55 = some r) kl7 ⟨_, ⟨Nat.le_refl _, _, 0, rfl, h⟩, frle_, memle_⟩ ?_
       clear c27
       clear h
       rintro n _ ⟨hkl8, v55, g56, rfl, h⟩ hl8
       cases n with
       | zero => exact absurd h (by simp [impl_schemaOk.l8])
       | succ kl8 =>
       rw [impl_schemaOk.l8] at h
       revert h
       refine bif_e (fun c39 => ?_) (fun c39 => ?_)
       ·refine bind_e (fun v57 e57 => ?_)
        replace e57 := nf_ (ix_en en92 e57)
        refine go 10 ?_
        refine grs ?_
        refine gr_run ?_
        refine bind_e (fun v58 e58 => gr_call [] (impl_typeAt.con e58) ?_)
        clear e58
        refine bif_e (fun c40 => ?_) (fun c40 => ?_)
        ·refine gr_run ?_
         refine gr_done ?_
         refine go 3 ?_
         refine ret_e (fun hr_ => ?_)
         subst hr_
         exact ret_ Try.func28 []
        ·refine bif_e (fun c41 => ?_) (fun c41 => ?_)
         ·refine bind_e (fun v59 e59 => ?_)
          replace e59 := nf_ (ix_en en92 e59)
          refine bif_e (fun c42 => ?_) (fun c42 => ?_)
          ·refine bif_e (fun c43 => ?_) (fun c43 => ?_)
           ·refine gr_run ?_
            refine gr_done ?_
            refine go 3 ?_
            refine ret_e (fun hr_ => ?_)
            subst hr_
            exact ret_ Try.func28 []
           ·refine gr_run ?_
            refine bind_e (fun v60 e60 => gr_call [] (impl_risingNames.con e60) ?_)
            clear e60
            refine gr_run ?_
            refine gr_done ?_
            refine bif_e (fun c44 => ?_) (fun c44 => ?_)
            ·refine go 4 ?_
             exact fun h => good_again hl8 (by omega) ⟨_, ⟨by omega, _, g56 + 1, rfl, h⟩, frle_, memle_⟩
            ·refine go 3 ?_
             refine ret_e (fun hr_ => ?_)
             subst hr_
             exact ret_ Try.func28 []
          ·refine gr_run ?_
           refine gr_done ?_
           refine go 3 ?_
           refine ret_e (fun hr_ => ?_)
           subst hr_
           exact ret_ Try.func28 []
         ·refine bif_e (fun c45 => ?_) (fun c45 => ?_)
          ·refine gr_run ?_
           refine gr_done ?_
           refine go 3 ?_
           refine ret_e (fun hr_ => ?_)
           subst hr_
           exact ret_ Try.func28 []
          ·refine gr_run ?_
           refine bind_e (fun v61 e61 => gr_call [] (impl_risingNames.con e61) ?_)
           clear e61
           refine gr_run ?_
           refine gr_done ?_
           refine bif_e (fun c46 => ?_) (fun c46 => ?_)
           ·refine go 4 ?_
            exact fun h => good_again hl8 (by omega) ⟨_, ⟨by omega, _, g56 + 1, rfl, h⟩, frle_, memle_⟩
           ·refine go 3 ?_
            refine ret_e (fun hr_ => ?_)
            subst hr_
            exact ret_ Try.func28 []
       ·refine go 7 ?_
        refine ret_e (fun hr_ => ?_)
        subst hr_
        exact ret_ Try.func28 []
def impl_line_O.f (k : Nat) (v0 : S33) (v1 : ByteArray) : Option ((List ByteArray)) := ((impl_line_1.f k v1 v0 ([] : List ByteArray)).bind fun v2 => (some v2.2))
set_option maxRecDepth 100000 in
set_option maxHeartbeats 4000000 in
theorem impl_line_O.con {K : Kn} [KOk K] {k : Nat} {v0 : S33} {v1 : ByteArray} {r : (List ByteArray)} (h : impl_line_O.f k v0 v1 = some r) : Con K Try.prog 29 [.agg [.p (.lst false (List.map en96 v0.f0)), .p (.lst false (List.map en99 v0.f1)), .p (.lst false (List.map en92 v0.f2)), .p (.bool v0.f3)], .p (.str v1)] [] (.buf 2000 1 0 r.length) [(2000, (1, .buf 1 (List.map srw r)))] := by
 rw [impl_line_O.f] at h
 refine con_intro 12 [] Try.func29 (by kernel_rfl) rfl rfl (by kernel_rfl) fun ι0 w0 hk0 => ?_
 revert h
 refine go 4 ?_
 refine adoptBc_ 5 0 7005 1 ?_
 refine go 5 ?_
 refine grs ?_
 refine gr_run ?_
 refine bind_e (fun v2 e2 => gr_call [(1501, (0, 7005, 1)), (1701, (1, 10001, 1)), (1000, (0, 2, 1)), (1001, (0, 5, 1)), (1002, (0, 6, 1))] (impl_line_1.con e2) ?_)
 clear e2
 refine gr_done ?_
 refine moveBc_ 5 0 7005 10001 ?_
 refine go 2 ?_
 refine ret_e (fun hr_ => ?_)
 subst hr_
 exact ret_ Try.func29 [(2000, (1, 7005, 2))]
def impl_LineOf_O.f (k : Nat) (v0 : S33) (v1 : ByteArray) : Option ((List ByteArray)) := ((impl_schemaOk.f k v0).bind fun v2 => (bif v2 then (bif decide (65536 < (v1.size : Int)) then (some ([] : List ByteArray)) else ((impl_line_O.f k v0 v1).bind fun v3 => (some v3))) else (some ([] : List ByteArray))))
set_option maxRecDepth 100000 in
set_option maxHeartbeats 4000000 in
theorem impl_LineOf_O.con {K : Kn} [KOk K] {k : Nat} {v0 : S33} {v1 : ByteArray} {r : (List ByteArray)} (h : impl_LineOf_O.f k v0 v1 = some r) : Con K Try.prog 8 [.agg [.p (.lst false (List.map en96 v0.f0)), .p (.lst false (List.map en99 v0.f1)), .p (.lst false (List.map en92 v0.f2)), .p (.bool v0.f3)], .p (.str v1)] [] (.buf 2000 1 0 r.length) [(2000, (1, .buf 1 (List.map srw r)))] := by
 rw [impl_LineOf_O.f] at h
 refine con_intro 16 [] Try.func8 (by kernel_rfl) rfl rfl (by kernel_rfl) fun ι0 w0 hk0 => ?_
 revert h
 refine go 4 ?_
 refine grs ?_
 refine gr_run ?_
 refine bind_e (fun v2 e2 => gr_call [] (impl_schemaOk.con e2) ?_)
 clear e2
 refine bif_e (fun c1 => ?_) (fun c1 => ?_)
 ·refine gr_run ?_
  refine gr_done ?_
  refine bif_e (fun c2 => ?_) (fun c2 => ?_)
  ·refine go 3 ?_
   refine adoptB_ 4 2504 1 ?_
   refine ret_e (fun hr_ => ?_)
   subst hr_
   exact ret_ Try.func8 [(2000, (1, 2504, 1))]
  ·refine go 3 ?_
   refine grs ?_
   refine gr_run ?_
   refine bind_e (fun v3 e3 => gr_call [(2000, (1, 15, 1))] (impl_line_O.con e3) ?_)
   clear e3
   refine gr_run ?_
   refine gr_done ?_
   refine ret_e (fun hr_ => ?_)
   subst hr_
   exact ret_ Try.func8 [(2000, (1, 15, 1))]
 ·refine gr_run ?_
  refine gr_done ?_
  refine go 3 ?_
  refine adoptB_ 4 2504 1 ?_
  refine ret_e (fun hr_ => ?_)
  subst hr_
  exact ret_ Try.func8 [(2000, (1, 2504, 1))]
end Go.Ab
