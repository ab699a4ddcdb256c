/- What the functions compute, and their contracts, part 3. No condition beyond KOk. -/
import Derived.Test.YtphfoghhcemfhaaAbX
import Derived.Test.YtphfoghhcemfhaaAbF2
namespace Go.Ab
open Go.Proofs
set_option linter.unusedVariables false
set_option linter.unusedSimpArgs false
def spec_l03Before.f (k : Nat) (v0 : S163) (v1 : S163) : Option (Bool) := (bif decide (v0.f0 = v1.f0) then (bif decide (v0.f1 = v1.f1) then (some (slt v0.f2 v1.f2)) else (some (slt v0.f1 v1.f1))) else (some (slt v0.f0 v1.f0)))
set_option maxRecDepth 100000 in
set_option maxHeartbeats 4000000 in
theorem spec_l03Before.con {K : Kn} [KOk K] {k : Nat} {v0 : S163} {v1 : S163} {r : Bool} (h : spec_l03Before.f k v0 v1 = some r) : Con K Try.prog 112 [.agg [.p (.str v0.f0), .p (.str v0.f1), .p (.str v0.f2), .p (.lst false (List.map en280 v0.f3)), .p (.int .i64 v0.f4), .p (.int .i64 v0.f5), .p (.int .i64 v0.f6)], .agg [.p (.str v1.f0), .p (.str v1.f1), .p (.str v1.f2), .p (.lst false (List.map en280 v1.f3)), .p (.int .i64 v1.f4), .p (.int .i64 v1.f5), .p (.int .i64 v1.f6)]] [] (.p (.bool r)) [] := by
 rw [spec_l03Before.f] at h
 refine con_intro 30 [] Try.func112 (by kernel_rfl) rfl rfl (by kernel_rfl) fun ι0 w0 hk0 => ?_
 revert h
 refine bif_e (fun c1 => ?_) (fun c1 => ?_)
 ·refine bif_e (fun c2 => ?_) (fun c2 => ?_)
  ·refine go 14 ?_
   refine ret_e (fun hr_ => ?_)
   subst hr_
   exact ret_ Try.func112 []
  ·refine go 13 ?_
   refine ret_e (fun hr_ => ?_)
   subst hr_
   exact ret_ Try.func112 []
 ·refine go 8 ?_
  refine ret_e (fun hr_ => ?_)
  subst hr_
  exact ret_ Try.func112 []
mutual
def spec_SchemaFault.j0 : Nat → Int → S65 → Option (Int)
 | 0, _, _ => none
 | k + 1, v1, v0 => (spec_SchemaFault.l0 k (IntKind.i64.wrap (v1 + 1)) v0)
def spec_SchemaFault.j1 : Nat → Int → S65 → Option (Int)
 | 0, _, _ => none
 | k + 1, v6, v0 => (spec_SchemaFault.l1 k (IntKind.i64.wrap (v6 + 1)) v0)
def spec_SchemaFault.l3 : Nat → Int → Int → S65 → S166 → Option (Int)
 | 0, _, _, _, _ => none
 | k + 1, v12, v19, v0, v14 => (bif decide (v19 < (v14.f1.length : Int)) then ((ix v14.f1 v19).bind fun v20 => ((spec_l01Name.f k v20).bind fun v21 => (bif v21 then (spec_SchemaFault.l3 k v12 (IntKind.i64.wrap (v19 + 1)) v0 v14) else (some 1)))) else (spec_SchemaFault.l2 k (IntKind.i64.wrap (v12 + 1)) v0))
def spec_SchemaFault.j2 : Nat → Int → S65 → S166 → Option (Int)
 | 0, _, _, _ => none
 | k + 1, v12, v0, v14 => (spec_SchemaFault.l3 k v12 0 v0 v14)
def spec_SchemaFault.l2 : Nat → Int → S65 → Option (Int)
 | 0, _, _ => none
 | k + 1, v12, v0 => (bif decide (v12 < (v0.f2.length : Int)) then ((ix v0.f2 v12).bind fun v14 => ((spec_l03Type.f k v0 v14.f0).bind fun v15 => (bif decide (v15 < 0) then (some 1) else (bif decide (0 < v12) then ((ix v0.f2 (IntKind.i64.wrap (v12 - 1))).bind fun v16 => (bif slt v16.f0 v14.f0 then (bif decide ((v14.f1.length : Int) < 1) then (some 1) else (bif decide (3 < (v14.f1.length : Int)) then (some 1) else ((spec_l01Rising.f k v14.f1).bind fun v17 => (bif v17 then (spec_SchemaFault.j2 k v12 v0 v14) else (some 1))))) else (some 1))) else (bif decide ((v14.f1.length : Int) < 1) then (some 1) else (bif decide (3 < (v14.f1.length : Int)) then (some 1) else ((spec_l01Rising.f k v14.f1).bind fun v18 => (bif v18 then (spec_SchemaFault.j2 k v12 v0 v14) else (some 1))))))))) else (some 0))
def spec_SchemaFault.l1 : Nat → Int → S65 → Option (Int)
 | 0, _, _ => none
 | k + 1, v6, v0 => (bif decide (v6 < (v0.f1.length : Int)) then ((ix v0.f1 v6).bind fun v7 => ((spec_l03EdgeType.f k v0 v7).bind fun v8 => (bif v8 then (bif decide (0 < v6) then ((ix v0.f1 (IntKind.i64.wrap (v6 - 1))).bind fun v9 => ((spec_l03Before.f k v9 v7).bind fun v11 => (bif v11 then (spec_SchemaFault.j1 k v6 v0) else (some 1)))) else (spec_SchemaFault.j1 k v6 v0)) else (some 1)))) else (spec_SchemaFault.l2 k 0 v0))
def spec_SchemaFault.l0 : Nat → Int → S65 → Option (Int)
 | 0, _, _ => none
 | k + 1, v1, v0 => (bif decide (v1 < (v0.f0.length : Int)) then ((ix v0.f0 v1).bind fun v2 => ((spec_l03NodeType.f k v0 v2).bind fun v3 => (bif v3 then (bif decide (0 < v1) then ((ix v0.f0 (IntKind.i64.wrap (v1 - 1))).bind fun v4 => (bif slt v4.f0 v2.f0 then (spec_SchemaFault.j0 k v1 v0) else (some 1))) else (spec_SchemaFault.j0 k v1 v0)) else (some 1)))) else (spec_SchemaFault.l1 k 0 v0))
def spec_SchemaFault.f : Nat → S65 → Option (Int)
 | 0, _ => none
 | k + 1, v0 => (bif decide (20 < (v0.f0.length : Int)) then (some 1) else (bif decide (20 < (v0.f1.length : Int)) then (some 1) else (bif decide (10 < (v0.f2.length : Int)) then (some 1) else (spec_SchemaFault.l0 k 0 v0))))
end
set_option maxRecDepth 100000 in
set_option maxHeartbeats 4000000 in
theorem spec_SchemaFault.con {K : Kn} [KOk K] {k : Nat} {v0 : S65} {r : Int} (h : spec_SchemaFault.f k v0 = some r) : Con K Try.prog 38 [.agg [.p (.lst false (List.map en160 v0.f0)), .p (.lst false (List.map en163 v0.f1)), .p (.lst false (List.map en166 v0.f2)), .p (.bool v0.f3)]] [] (.p (.int .i64 r)) [] := by
 cases k with
 | zero => exact absurd h (by simp [spec_SchemaFault.f])
 | succ k =>
 rw [spec_SchemaFault.f] at h
 refine con_intro 158 [] Try.func38 (by kernel_rfl) rfl rfl (by kernel_rfl) fun ι0 w0 hk0 => ?_
 revert h
 refine bif_e (fun c1 => ?_) (fun c1 => ?_)
 ·refine go 8 ?_
  refine ret_e (fun hr_ => ?_)
  subst hr_
  exact ret_ Try.func38 []
 ·refine bif_e (fun c2 => ?_) (fun c2 => ?_)
  ·refine go 8 ?_
   refine ret_e (fun hr_ => ?_)
   subst hr_
   exact ret_ Try.func38 []
  ·refine bif_e (fun c3 => ?_) (fun c3 => ?_)
   ·refine go 8 ?_
    refine ret_e (fun hr_ => ?_)
    subst hr_
    exact ret_ Try.func38 []
   ·refine go 11 ?_
    refine fun h => good_loop (fun n st => n ≤ k ∧ ∃ (v1 : _), st = ⟨[(1, .ptr 1 1 0), (3, .p (.int .i64 v1))], [(1, (1, .cells [.p (.lst false (List.map en160 v0.f0)), .p (.lst false (List.map en163 v0.f1)), .p (.lst false (List.map en166 v0.f2)), .p (.bool v0.f3)]))]⟩ ∧ spec_SchemaFault.l0 n v1 v0 = some r) k ⟨_, ⟨Nat.le_refl _, _, rfl, h⟩, frle_, memle_⟩ ?_
    clear c1 c2 c3
    clear h
    rintro n _ ⟨hkl0, v1, rfl, h⟩ hl0
    cases n with
    | zero => exact absurd h (by simp [spec_SchemaFault.l0])
    | succ kl0 =>
    rw [spec_SchemaFault.l0] at h
    revert h
    refine bif_e (fun c4 => ?_) (fun c4 => ?_)
    ·refine go 8 ?_
     refine good_cut_f (fun st => ∃ (q_ : Nat), q_ ≤ kl0 ∧ st = ⟨[(1, .ptr 1 1 0), (3, .p (.int .i64 v1))], [(1, (1, .cells [.p (.lst false (List.map en160 v0.f0)), .p (.lst false (List.map en163 v0.f1)), .p (.lst false (List.map en166 v0.f2)), .p (.bool v0.f3)]))]⟩ ∧ spec_SchemaFault.j0 q_ v1 v0 = some r) ?_ (fun hj0 => ?_)
     ·clear c4
      rintro _ ⟨q_, hqj0, rfl, h⟩
      cases q_ with
      | zero => exact absurd h (by simp [spec_SchemaFault.j0])
      | succ kj0 =>
      rw [spec_SchemaFault.j0] at h
      revert h
      refine go 3 ?_
      exact fun h => good_again hl0 (by omega) ⟨_, ⟨by omega, _, rfl, h⟩, frle_, memle_⟩
     ·refine bind_e (fun v2 e2 => ?_)
      replace e2 := nf_ (ix_en en160 e2)
      refine grs ?_
      refine gr_run ?_
      refine bind_e (fun v3 e3 => gr_call [] (spec_l03NodeType.con e3) ?_)
      clear e3
      refine bif_e (fun c5 => ?_) (fun c5 => ?_)
      ·refine bif_e (fun c6 => ?_) (fun c6 => ?_)
       ·refine bind_e (fun v4 e4 => ?_)
        replace e4 := nf_ (ix_en en160 e4)
        refine gr_run ?_
        refine gr_done ?_
        refine bif_e (fun c7 => ?_) (fun c7 => ?_)
        ·refine go 1 ?_
         exact fun h => good_jump hj0 ⟨_, ⟨_, by omega, rfl, h⟩, frle_, memle_⟩
        ·refine go 3 ?_
         refine ret_e (fun hr_ => ?_)
         subst hr_
         exact ret_ Try.func38 []
       ·refine gr_run ?_
        refine gr_done ?_
        refine go 1 ?_
        exact fun h => good_jump hj0 ⟨_, ⟨_, by omega, rfl, h⟩, frle_, memle_⟩
      ·refine gr_run ?_
       refine gr_done ?_
       refine go 3 ?_
       refine ret_e (fun hr_ => ?_)
       subst hr_
       exact ret_ Try.func38 []
    ·refine go 9 ?_
     refine fun h => good_loop (fun n st => n ≤ kl0 ∧ ∃ (v6 : _), st = ⟨[(1, .ptr 1 1 0), (4, .p (.int .i64 v6))], [(1, (1, .cells [.p (.lst false (List.map en160 v0.f0)), .p (.lst false (List.map en163 v0.f1)), .p (.lst false (List.map en166 v0.f2)), .p (.bool v0.f3)]))]⟩ ∧ spec_SchemaFault.l1 n v6 v0 = some r) kl0 ⟨_, ⟨Nat.le_refl _, _, rfl, h⟩, frle_, memle_⟩ ?_
     clear c4
     clear h
     rintro n _ ⟨hkl1, v6, rfl, h⟩ hl1
     cases n with
     | zero => exact absurd h (by simp [spec_SchemaFault.l1])
     | succ kl1 =>
     rw [spec_SchemaFault.l1] at h
     revert h
     refine bif_e (fun c8 => ?_) (fun c8 => ?_)
     ·refine go 8 ?_
      refine good_cut_f (fun st => ∃ (q_ : Nat), q_ ≤ kl1 ∧ st = ⟨[(1, .ptr 1 1 0), (4, .p (.int .i64 v6))], [(1, (1, .cells [.p (.lst false (List.map en160 v0.f0)), .p (.lst false (List.map en163 v0.f1)), .p (.lst false (List.map en166 v0.f2)), .p (.bool v0.f3)]))]⟩ ∧ spec_SchemaFault.j1 q_ v6 v0 = some r) ?_ (fun hj1 => ?_)
      ·clear c8
       rintro _ ⟨q_, hqj1, rfl, h⟩
       cases q_ with
       | zero => exact absurd h (by simp [spec_SchemaFault.j1])
       | succ kj1 =>
       rw [spec_SchemaFault.j1] at h
       revert h
       refine go 3 ?_
       exact fun h => good_again hl1 (by omega) ⟨_, ⟨by omega, _, rfl, h⟩, frle_, memle_⟩
      ·refine bind_e (fun v7 e7 => ?_)
       replace e7 := nf_ (ix_en en163 e7)
       refine grs ?_
       refine gr_run ?_
       refine bind_e (fun v8 e8 => gr_call [] (spec_l03EdgeType.con e8) ?_)
       clear e8
       refine bif_e (fun c9 => ?_) (fun c9 => ?_)
       ·refine bif_e (fun c10 => ?_) (fun c10 => ?_)
        ·refine bind_e (fun v9 e9 => ?_)
         replace e9 := nf_ (ix_en en163 e9)
         refine gr_run ?_
         refine bind_e (fun v11 e11 => gr_call [] (spec_l03Before.con e11) ?_)
         clear e11
         refine gr_run ?_
         refine gr_done ?_
         refine bif_e (fun c11 => ?_) (fun c11 => ?_)
         ·refine go 1 ?_
          exact fun h => good_jump hj1 ⟨_, ⟨_, by omega, rfl, h⟩, frle_, memle_⟩
         ·refine go 3 ?_
          refine ret_e (fun hr_ => ?_)
          subst hr_
          exact ret_ Try.func38 []
        ·refine gr_run ?_
         refine gr_done ?_
         refine go 1 ?_
         exact fun h => good_jump hj1 ⟨_, ⟨_, by omega, rfl, h⟩, frle_, memle_⟩
       ·refine gr_run ?_
        refine gr_done ?_
        refine go 3 ?_
        refine ret_e (fun hr_ => ?_)
        subst hr_
        exact ret_ Try.func38 []
     ·refine go 9 ?_
      refine fun h => good_loop (fun n st => n ≤ kl1 ∧ ∃ (v12 : _) (g13 : Nat), st = ⟨[(1, .ptr 1 1 0), (5, .p (.int .i64 v12))], [(1, (1, .cells [.p (.lst false (List.map en160 v0.f0)), .p (.lst false (List.map en163 v0.f1)), .p (.lst false (List.map en166 v0.f2)), .p (.bool v0.f3)])), (6, (g13, .gone))]⟩ ∧ spec_SchemaFault.l2 n v12 v0 = some r) kl1 ⟨_, ⟨Nat.le_refl _, _, 0, rfl, h⟩, frle_, memle_⟩ ?_
      clear c8
      clear h
      rintro n _ ⟨hkl2, v12, g13, rfl, h⟩ hl2
      cases n with
      | zero => exact absurd h (by simp [spec_SchemaFault.l2])
      | succ kl2 =>
      rw [spec_SchemaFault.l2] at h
      revert h
      refine bif_e (fun c12 => ?_) (fun c12 => ?_)
      ·refine bind_e (fun v14 e14 => ?_)
       replace e14 := nf_ (ix_en en166 e14)
       refine go 11 ?_
       refine good_cut_f (fun st => ∃ (q_ : Nat), q_ ≤ kl2 ∧ st = ⟨[(1, .ptr 1 1 0), (5, .p (.int .i64 v12)), (6, .ptr 6 (g13 + 1) 0)], [(1, (1, .cells [.p (.lst false (List.map en160 v0.f0)), .p (.lst false (List.map en163 v0.f1)), .p (.lst false (List.map en166 v0.f2)), .p (.bool v0.f3)])), (6, (g13 + 1, .cells [.p (.str v14.f0), .p (.lst false (List.map srw v14.f1))]))]⟩ ∧ spec_SchemaFault.j2 q_ v12 v0 v14 = some r) ?_ (fun hj2 => ?_)
       ·clear c12 e14
        rintro _ ⟨q_, hqj2, rfl, h⟩
        cases q_ with
        | zero => exact absurd h (by simp [spec_SchemaFault.j2])
        | succ kj2 =>
        rw [spec_SchemaFault.j2] at h
        revert h
        refine go 4 ?_
        refine fun h => good_loop (fun n st => n ≤ kj2 ∧ ∃ (v19 : _), st = ⟨[(1, .ptr 1 1 0), (5, .p (.int .i64 v12)), (6, .ptr 6 (g13 + 1) 0), (7, .p (.int .i64 v19))], [(1, (1, .cells [.p (.lst false (List.map en160 v0.f0)), .p (.lst false (List.map en163 v0.f1)), .p (.lst false (List.map en166 v0.f2)), .p (.bool v0.f3)])), (6, (g13 + 1, .cells [.p (.str v14.f0), .p (.lst false (List.map srw v14.f1))]))]⟩ ∧ spec_SchemaFault.l3 n v12 v19 v0 v14 = some r) kj2 ⟨_, ⟨Nat.le_refl _, _, rfl, h⟩, frle_, memle_⟩ ?_
        clear h
        rintro n _ ⟨hkl3, v19, rfl, h⟩ hl3
        cases n with
        | zero => exact absurd h (by simp [spec_SchemaFault.l3])
        | succ kl3 =>
        rw [spec_SchemaFault.l3] at h
        revert h
        refine bif_e (fun c13 => ?_) (fun c13 => ?_)
        ·refine bind_e (fun v20 e20 => ?_)
         replace e20 := nf_ (ix_en srw e20)
         refine go 8 ?_
         refine grs ?_
         refine gr_run ?_
         refine bind_e (fun v21 e21 => gr_call [] (spec_l01Name.con e21) ?_)
         clear e21
         refine gr_run ?_
         refine gr_done ?_
         refine bif_e (fun c14 => ?_) (fun c14 => ?_)
         ·refine go 4 ?_
          exact fun h => good_again hl3 (by omega) ⟨_, ⟨by omega, _, rfl, h⟩, frle_, memle_⟩
         ·refine go 3 ?_
          refine ret_e (fun hr_ => ?_)
          subst hr_
          exact ret_ Try.func38 []
        ·refine go 7 ?_
         exact fun h => good_again hl2 (by omega) ⟨_, ⟨by omega, _, g13 + 1, rfl, h⟩, frle_, memle_⟩
       ·refine grs ?_
        refine gr_run ?_
        refine bind_e (fun v15 e15 => gr_call [] (spec_l03Type.con e15) ?_)
        clear e15
        refine bif_e (fun c15 => ?_) (fun c15 => ?_)
        ·refine gr_run ?_
         refine gr_done ?_
         refine go 3 ?_
         refine ret_e (fun hr_ => ?_)
         subst hr_
         exact ret_ Try.func38 []
        ·refine bif_e (fun c16 => ?_) (fun c16 => ?_)
         ·refine bind_e (fun v16 e16 => ?_)
          replace e16 := nf_ (ix_en en166 e16)
          refine bif_e (fun c17 => ?_) (fun c17 => ?_)
          ·refine bif_e (fun c18 => ?_) (fun c18 => ?_)
           ·refine gr_run ?_
            refine gr_done ?_
            refine go 3 ?_
            refine ret_e (fun hr_ => ?_)
            subst hr_
            exact ret_ Try.func38 []
           ·refine bif_e (fun c19 => ?_) (fun c19 => ?_)
            ·refine gr_run ?_
             refine gr_done ?_
             refine go 3 ?_
             refine ret_e (fun hr_ => ?_)
             subst hr_
             exact ret_ Try.func38 []
            ·refine gr_run ?_
             refine bind_e (fun v17 e17 => gr_call [] (spec_l01Rising.con e17) ?_)
             clear e17
             refine gr_run ?_
             refine gr_done ?_
             refine bif_e (fun c20 => ?_) (fun c20 => ?_)
             ·refine go 1 ?_
              exact fun h => good_jump hj2 ⟨_, ⟨_, by omega, rfl, h⟩, frle_, memle_⟩
             ·refine go 3 ?_
              refine ret_e (fun hr_ => ?_)
              subst hr_
              exact ret_ Try.func38 []
          ·refine gr_run ?_
           refine gr_done ?_
           refine go 3 ?_
           refine ret_e (fun hr_ => ?_)
           subst hr_
           exact ret_ Try.func38 []
         ·refine bif_e (fun c21 => ?_) (fun c21 => ?_)
          ·refine gr_run ?_
           refine gr_done ?_
           refine go 3 ?_
           refine ret_e (fun hr_ => ?_)
           subst hr_
           exact ret_ Try.func38 []
          ·refine bif_e (fun c22 => ?_) (fun c22 => ?_)
           ·refine gr_run ?_
            refine gr_done ?_
            refine go 3 ?_
            refine ret_e (fun hr_ => ?_)
            subst hr_
            exact ret_ Try.func38 []
           ·refine gr_run ?_
            refine bind_e (fun v18 e18 => gr_call [] (spec_l01Rising.con e18) ?_)
            clear e18
            refine gr_run ?_
            refine gr_done ?_
            refine bif_e (fun c23 => ?_) (fun c23 => ?_)
            ·refine go 1 ?_
             exact fun h => good_jump hj2 ⟨_, ⟨_, by omega, rfl, h⟩, frle_, memle_⟩
            ·refine go 3 ?_
             refine ret_e (fun hr_ => ?_)
             subst hr_
             exact ret_ Try.func38 []
      ·refine go 7 ?_
       refine ret_e (fun hr_ => ?_)
       subst hr_
       exact ret_ Try.func38 []
mutual
def spec_l03Of.l0 : Nat → (List ByteArray) → (List ByteArray) → Int → S65 → Option ((List ByteArray))
 | 0, _, _, _, _ => none
 | k + 1, v1, v2, v3, v0 => (bif decide (v3 < (v1.length : Int)) then ((ix v1 v3).bind fun v6 => ((spec_l03Line.f k v0 v6).bind fun v7 => ((app v2 v7).bind fun v8 => (spec_l03Of.l0 k v1 v8 (IntKind.i64.wrap (v3 + 1)) v0)))) else ((spec_l03Sort.f k v2).bind fun v5 => (some v5)))
def spec_l03Of.f : Nat → S65 → (List ByteArray) → Option ((List ByteArray))
 | 0, _, _ => none
 | k + 1, v0, v1 => (spec_l03Of.l0 k v1 ([] : List ByteArray) 0 v0)
end
set_option maxRecDepth 100000 in
set_option maxHeartbeats 4000000 in
theorem spec_l03Of.con {K : Kn} [KOk K] {k : Nat} {v0 : S65} {v1 : (List ByteArray)} {r : (List ByteArray)} (h : spec_l03Of.f k v0 v1 = some r) : Con K Try.prog 133 [.agg [.p (.lst false (List.map en160 v0.f0)), .p (.lst false (List.map en163 v0.f1)), .p (.lst false (List.map en166 v0.f2)), .p (.bool v0.f3)], .p (.lst false (List.map srw v1))] [] (.p (.lst false (List.map srw r))) [] := by
 cases k with
 | zero => exact absurd h (by simp [spec_l03Of.f])
 | succ k =>
 rw [spec_l03Of.f] at h
 refine con_intro 24 [] Try.func133 (by kernel_rfl) rfl rfl (by kernel_rfl) fun ι0 w0 hk0 => ?_
 revert h
 refine go 8 ?_
 refine adoptF_ 5 21 1 ?_
 refine fun h => good_loop (fun n st => n ≤ k ∧ ∃ (v2 : _) (v3 : _) (g4 : Nat), st = ⟨[(1, .p (.lst false (List.map srw v1))), (2, .ptr 2 1 0), (5, .tip 21 g4 (List.map srw v2)), (6, .p (.int .i64 v3))], [(2, (1, .cells [.p (.lst false (List.map en160 v0.f0)), .p (.lst false (List.map en163 v0.f1)), .p (.lst false (List.map en166 v0.f2)), .p (.bool v0.f3)])), (21, (g4, .tip 1 (v2).length))]⟩ ∧ spec_l03Of.l0 n v1 v2 v3 v0 = some r) k ⟨_, ⟨Nat.le_refl _, _, _, 1, rfl, h⟩, frle_, memle_⟩ ?_
 clear h
 rintro n _ ⟨hkl0, v2, v3, g4, rfl, h⟩ hl0
 cases n with
 | zero => exact absurd h (by simp [spec_l03Of.l0])
 | succ kl0 =>
 rw [spec_l03Of.l0] at h
 revert h
 refine bif_e (fun c1 => ?_) (fun c1 => ?_)
 ·refine bind_e (fun v6 e6 => ?_)
  replace e6 := nf_ (ix_en srw e6)
  refine go 7 ?_
  refine grs ?_
  refine gr_run ?_
  refine bind_e (fun v7 e7 => gr_call [] (spec_l03Line.con e7) ?_)
  clear e7
  refine bind_e (fun v8 e8 => ?_)
  replace e8 := nf_ (app_en srw e8)
  refine gr_run ?_
  refine gr_done ?_
  refine go 2 ?_
  exact fun h => good_again hl0 (by omega) ⟨_, ⟨by omega, _, _, g4, rfl, h⟩, frle_, memle_⟩
 ·refine go 6 ?_
  refine grs ?_
  refine gr_run ?_
  refine bind_e (fun v5 e5 => gr_call [] (spec_l03Sort.con e5) ?_)
  clear e5
  refine gr_run ?_
  refine gr_done ?_
  refine ret_e (fun hr_ => ?_)
  subst hr_
  exact ret_ Try.func133 []
def spec_IsOf.f (k : Nat) (v0 : S65) (v1 : (List ByteArray)) (v2 : ByteArray) : Option (Bool) := (bif decide (1000 < (v1.length : Int)) then (some false) else (bif decide (65536 < (v2.size : Int)) then (some false) else ((spec_SchemaFault.f k v0).bind fun v3 => (bif (v3 == 0) then ((spec_l03Of.f k v0 v1).bind fun v4 => ((spec_l01InTexts.f k v4 v2).bind fun v5 => (some v5))) else (some false)))))
set_option maxRecDepth 100000 in
set_option maxHeartbeats 4000000 in
theorem spec_IsOf.con {K : Kn} [KOk K] {k : Nat} {v0 : S65} {v1 : (List ByteArray)} {v2 : ByteArray} {r : Bool} (h : spec_IsOf.f k v0 v1 v2 = some r) : Con K Try.prog 48 [.agg [.p (.lst false (List.map en160 v0.f0)), .p (.lst false (List.map en163 v0.f1)), .p (.lst false (List.map en166 v0.f2)), .p (.bool v0.f3)], .p (.lst false (List.map srw v1)), .p (.str v2)] [] (.p (.bool r)) [] := by
 rw [spec_IsOf.f] at h
 refine con_intro 25 [] Try.func48 (by kernel_rfl) rfl rfl (by kernel_rfl) fun ι0 w0 hk0 => ?_
 revert h
 refine bif_e (fun c1 => ?_) (fun c1 => ?_)
 ·refine go 8 ?_
  refine ret_e (fun hr_ => ?_)
  subst hr_
  exact ret_ Try.func48 []
 ·refine bif_e (fun c2 => ?_) (fun c2 => ?_)
  ·refine go 8 ?_
   refine ret_e (fun hr_ => ?_)
   subst hr_
   exact ret_ Try.func48 []
  ·refine go 4 ?_
   refine grs ?_
   refine gr_run ?_
   refine bind_e (fun v3 e3 => gr_call [] (spec_SchemaFault.con e3) ?_)
   clear e3
   refine gr_run ?_
   refine gr_done ?_
   refine bif_e (fun c3 => ?_) (fun c3 => ?_)
   ·refine go 3 ?_
    refine grs ?_
    refine gr_run ?_
    refine bind_e (fun v4 e4 => gr_call [] (spec_l03Of.con e4) ?_)
    clear e4
    refine gr_run ?_
    refine bind_e (fun v5 e5 => gr_call [] (spec_l01InTexts.con e5) ?_)
    clear e5
    refine gr_run ?_
    refine gr_done ?_
    refine ret_e (fun hr_ => ?_)
    subst hr_
    exact ret_ Try.func48 []
   ·refine go 3 ?_
    refine ret_e (fun hr_ => ?_)
    subst hr_
    exact ret_ Try.func48 []
mutual
def spec_l02SameTexts.l0 : Nat → (List ByteArray) → (List ByteArray) → Int → Option (Bool)
 | 0, _, _, _ => none
 | k + 1, v0, v1, v2 => (bif decide (v2 < (v0.length : Int)) then ((ix v0 v2).bind fun v3 => ((ix v1 v2).bind fun v4 => (bif decide (v3 = v4) then (spec_l02SameTexts.l0 k v0 v1 (IntKind.i64.wrap (v2 + 1))) else (some false)))) else (some true))
def spec_l02SameTexts.f : Nat → (List ByteArray) → (List ByteArray) → Option (Bool)
 | 0, _, _ => none
 | k + 1, v0, v1 => (bif ((v0.length : Int) == (v1.length : Int)) then (spec_l02SameTexts.l0 k v0 v1 0) else (some false))
end
set_option maxRecDepth 100000 in
set_option maxHeartbeats 4000000 in
theorem spec_l02SameTexts.con {K : Kn} [KOk K] {k : Nat} {v0 : (List ByteArray)} {v1 : (List ByteArray)} {r : Bool} (h : spec_l02SameTexts.f k v0 v1 = some r) : Con K Try.prog 148 [.p (.lst false (List.map srw v0)), .p (.lst false (List.map srw v1))] [] (.p (.bool r)) [] := by
 cases k with
 | zero => exact absurd h (by simp [spec_l02SameTexts.f])
 | succ k =>
 rw [spec_l02SameTexts.f] at h
 refine con_intro 26 [] Try.func148 (by kernel_rfl) rfl rfl (by kernel_rfl) fun ι0 w0 hk0 => ?_
 revert h
 refine bif_e (fun c1 => ?_) (fun c1 => ?_)
 ·refine go 11 ?_
  refine fun h => good_loop (fun n st => n ≤ k ∧ ∃ (v2 : _), st = ⟨[(0, .p (.lst false (List.map srw v0))), (1, .p (.lst false (List.map srw v1))), (5, .p (.int .i64 v2))], []⟩ ∧ spec_l02SameTexts.l0 n v0 v1 v2 = some r) k ⟨_, ⟨Nat.le_refl _, _, rfl, h⟩, frle_, memle_⟩ ?_
  clear c1
  clear h
  rintro n _ ⟨hkl0, v2, rfl, h⟩ hl0
  cases n with
  | zero => exact absurd h (by simp [spec_l02SameTexts.l0])
  | succ kl0 =>
  rw [spec_l02SameTexts.l0] at h
  revert h
  refine bif_e (fun c2 => ?_) (fun c2 => ?_)
  ·refine bind_e (fun v3 e3 => ?_)
   replace e3 := nf_ (ix_en srw e3)
   refine bind_e (fun v4 e4 => ?_)
   replace e4 := nf_ (ix_en srw e4)
   refine go 8 ?_
   refine grs ?_
   refine gr_run ?_
   refine gr_done ?_
   refine bif_e (fun c3 => ?_) (fun c3 => ?_)
   ·refine go 4 ?_
    exact fun h => good_again hl0 (by omega) ⟨_, ⟨by omega, _, rfl, h⟩, frle_, memle_⟩
   ·refine go 3 ?_
    refine ret_e (fun hr_ => ?_)
    subst hr_
    exact ret_ Try.func148 []
  ·refine go 7 ?_
   refine ret_e (fun hr_ => ?_)
   subst hr_
   exact ret_ Try.func148 []
 ·refine go 8 ?_
  refine ret_e (fun hr_ => ?_)
  subst hr_
  exact ret_ Try.func148 []
mutual
def spec_l03WeakerRules.l0 : Nat → (List S280) → (List S280) → Int → Option (Bool)
 | 0, _, _, _ => none
 | k + 1, v0, v1, v2 => (bif decide (v2 < (v0.length : Int)) then ((ix v0 v2).bind fun v3 => ((ix v1 v2).bind fun v4 => (bif decide (v3.f0 = v4.f0) then (bif (v4.f1 == 0) then (bif v4.f2 then (bif v3.f2 then (spec_l03WeakerRules.l0 k v0 v1 (IntKind.i64.wrap (v2 + 1))) else (some false)) else (spec_l03WeakerRules.l0 k v0 v1 (IntKind.i64.wrap (v2 + 1)))) else (bif (v4.f1 == v3.f1) then (bif v4.f2 then (bif v3.f2 then (spec_l03WeakerRules.l0 k v0 v1 (IntKind.i64.wrap (v2 + 1))) else (some false)) else (spec_l03WeakerRules.l0 k v0 v1 (IntKind.i64.wrap (v2 + 1)))) else (some false))) else (some false)))) else (some true))
def spec_l03WeakerRules.f : Nat → (List S280) → (List S280) → Option (Bool)
 | 0, _, _ => none
 | k + 1, v0, v1 => (bif ((v0.length : Int) == (v1.length : Int)) then (spec_l03WeakerRules.l0 k v0 v1 0) else (some false))
end
set_option maxRecDepth 100000 in
set_option maxHeartbeats 4000000 in
theorem spec_l03WeakerRules.con {K : Kn} [KOk K] {k : Nat} {v0 : (List S280)} {v1 : (List S280)} {r : Bool} (h : spec_l03WeakerRules.f k v0 v1 = some r) : Con K Try.prog 149 [.p (.lst false (List.map en280 v0)), .p (.lst false (List.map en280 v1))] [] (.p (.bool r)) [] := by
 cases k with
 | zero => exact absurd h (by simp [spec_l03WeakerRules.f])
 | succ k =>
 rw [spec_l03WeakerRules.f] at h
 refine con_intro 64 [] Try.func149 (by kernel_rfl) rfl rfl (by kernel_rfl) fun ι0 w0 hk0 => ?_
 revert h
 refine bif_e (fun c1 => ?_) (fun c1 => ?_)
 ·refine go 11 ?_
  refine fun h => good_loop (fun n st => n ≤ k ∧ ∃ (v2 : _), st = ⟨[(0, .p (.lst false (List.map en280 v0))), (1, .p (.lst false (List.map en280 v1))), (5, .p (.int .i64 v2))], []⟩ ∧ spec_l03WeakerRules.l0 n v0 v1 v2 = some r) k ⟨_, ⟨Nat.le_refl _, _, rfl, h⟩, frle_, memle_⟩ ?_
  clear c1
  clear h
  rintro n _ ⟨hkl0, v2, rfl, h⟩ hl0
  cases n with
  | zero => exact absurd h (by simp [spec_l03WeakerRules.l0])
  | succ kl0 =>
  rw [spec_l03WeakerRules.l0] at h
  revert h
  refine bif_e (fun c2 => ?_) (fun c2 => ?_)
  ·refine bind_e (fun v3 e3 => ?_)
   replace e3 := nf_ (ix_en en280 e3)
   refine bind_e (fun v4 e4 => ?_)
   replace e4 := nf_ (ix_en en280 e4)
   refine bif_e (fun c3 => ?_) (fun c3 => ?_)
   ·refine bif_e (fun c4 => ?_) (fun c4 => ?_)
    ·refine bif_e (fun c5 => ?_) (fun c5 => ?_)
     ·refine go 8 ?_
      refine grs ?_
      refine gr_run ?_
      refine gr_done ?_
      refine bif_e (fun c6 => ?_) (fun c6 => ?_)
      ·refine go 4 ?_
       exact fun h => good_again hl0 (by omega) ⟨_, ⟨by omega, _, rfl, h⟩, frle_, memle_⟩
      ·refine go 3 ?_
       refine ret_e (fun hr_ => ?_)
       subst hr_
       exact ret_ Try.func149 []
     ·refine go 8 ?_
      refine grs ?_
      refine gr_run ?_
      refine gr_done ?_
      refine go 4 ?_
      exact fun h => good_again hl0 (by omega) ⟨_, ⟨by omega, _, rfl, h⟩, frle_, memle_⟩
    ·refine bif_e (fun c7 => ?_) (fun c7 => ?_)
     ·refine bif_e (fun c8 => ?_) (fun c8 => ?_)
      ·refine go 8 ?_
       refine grs ?_
       refine gr_run ?_
       refine gr_done ?_
       refine bif_e (fun c9 => ?_) (fun c9 => ?_)
       ·refine go 4 ?_
        exact fun h => good_again hl0 (by omega) ⟨_, ⟨by omega, _, rfl, h⟩, frle_, memle_⟩
       ·refine go 3 ?_
        refine ret_e (fun hr_ => ?_)
        subst hr_
        exact ret_ Try.func149 []
      ·refine go 8 ?_
       refine grs ?_
       refine gr_run ?_
       refine gr_done ?_
       refine go 4 ?_
       exact fun h => good_again hl0 (by omega) ⟨_, ⟨by omega, _, rfl, h⟩, frle_, memle_⟩
     ·refine go 8 ?_
      refine grs ?_
      refine gr_run ?_
      refine gr_done ?_
      refine go 3 ?_
      refine ret_e (fun hr_ => ?_)
      subst hr_
      exact ret_ Try.func149 []
   ·refine go 8 ?_
    refine grs ?_
    refine gr_run ?_
    refine gr_done ?_
    refine go 3 ?_
    refine ret_e (fun hr_ => ?_)
    subst hr_
    exact ret_ Try.func149 []
  ·refine go 7 ?_
   refine ret_e (fun hr_ => ?_)
   subst hr_
   exact ret_ Try.func149 []
 ·refine go 8 ?_
  refine ret_e (fun hr_ => ?_)
  subst hr_
  exact ret_ Try.func149 []
def spec_l03Most.f (k : Nat) (v0 : Int) (v1 : Int) : Option (Bool) := (bif (v1 == 0) then (some true) else (bif (v0 == 0) then (some false) else (some (decide (v0 ≤ v1)))))
set_option maxRecDepth 100000 in
set_option maxHeartbeats 4000000 in
theorem spec_l03Most.con {K : Kn} [KOk K] {k : Nat} {v0 : Int} {v1 : Int} {r : Bool} (h : spec_l03Most.f k v0 v1 = some r) : Con K Try.prog 150 [.p (.int .i64 v0), .p (.int .i64 v1)] [] (.p (.bool r)) [] := by
 rw [spec_l03Most.f] at h
 refine con_intro 16 [] Try.func150 (by kernel_rfl) rfl rfl (by kernel_rfl) fun ι0 w0 hk0 => ?_
 revert h
 refine bif_e (fun c1 => ?_) (fun c1 => ?_)
 ·refine go 4 ?_
  refine ret_e (fun hr_ => ?_)
  subst hr_
  exact ret_ Try.func150 []
 ·refine bif_e (fun c2 => ?_) (fun c2 => ?_)
  ·refine go 4 ?_
   refine ret_e (fun hr_ => ?_)
   subst hr_
   exact ret_ Try.func150 []
  ·refine go 4 ?_
   refine ret_e (fun hr_ => ?_)
   subst hr_
   exact ret_ Try.func150 []
mutual
def spec_Weaker.j1 : Nat → Int → S65 → Bool → S65 → Bool → Option (Bool)
 | 0, _, _, _, _, _ => none
 | k + 1, v6, v0, v4, v1, v5 => (spec_Weaker.l0 k (IntKind.i64.wrap (v6 + 1)) v0 v4 v1 v5)
def spec_Weaker.l3 : Nat → Int → Bool → Int → S65 → Bool → S65 → Bool → Option (Bool)
 | 0, _, _, _, _, _, _, _ => none
 | k + 1, v22, v23, v24, v0, v4, v1, v5 => (bif decide (v24 < (v0.f2.length : Int)) then (bif v23 then (spec_Weaker.l3 k v22 true (IntKind.i64.wrap (v24 + 1)) v0 v4 v1 v5) else ((ix v0.f2 v24).bind fun v25 => ((ix v1.f2 v22).bind fun v26 => (bif decide (v25.f0 = v26.f0) then ((spec_l02SameTexts.f k v25.f1 v26.f1).bind fun v29 => (spec_Weaker.l3 k v22 v29 (IntKind.i64.wrap (v24 + 1)) v0 v4 v1 v5)) else (spec_Weaker.l3 k v22 false (IntKind.i64.wrap (v24 + 1)) v0 v4 v1 v5))))) else (bif v23 then (spec_Weaker.l2 k (IntKind.i64.wrap (v22 + 1)) v0 v4 v1 v5) else (some false)))
def spec_Weaker.l2 : Nat → Int → S65 → Bool → S65 → Bool → Option (Bool)
 | 0, _, _, _, _, _ => none
 | k + 1, v22, v0, v4, v1, v5 => (bif decide (v22 < (v1.f2.length : Int)) then (spec_Weaker.l3 k v22 false 0 v0 v4 v1 v5) else (some true))
def spec_Weaker.l1 : Nat → Int → S65 → Bool → S65 → Bool → Option (Bool)
 | 0, _, _, _, _, _ => none
 | k + 1, v14, v0, v4, v1, v5 => (bif decide (v14 < (v0.f1.length : Int)) then ((ix v0.f1 v14).bind fun v17 => ((ix v1.f1 v14).bind fun v18 => (bif decide (v17.f0 = v18.f0) then (bif decide (v17.f1 = v18.f1) then (bif decide (v17.f2 = v18.f2) then ((spec_l03WeakerRules.f k v17.f3 v18.f3).bind fun v19 => (bif v19 then ((spec_l03Most.f k v17.f4 v18.f4).bind fun v20 => (bif v20 then ((spec_l03Most.f k v17.f6 v18.f6).bind fun v21 => (bif v21 then (bif decide (v17.f5 < v18.f5) then (some false) else (spec_Weaker.l1 k (IntKind.i64.wrap (v14 + 1)) v0 v4 v1 v5)) else (some false))) else (some false))) else (some false))) else (some false)) else (some false)) else (some false)))) else (spec_Weaker.l2 k 0 v0 v4 v1 v5))
def spec_Weaker.l0 : Nat → Int → S65 → Bool → S65 → Bool → Option (Bool)
 | 0, _, _, _, _, _ => none
 | k + 1, v6, v0, v4, v1, v5 => (bif decide (v6 < (v0.f0.length : Int)) then ((ix v0.f0 v6).bind fun v9 => ((ix v1.f0 v6).bind fun v10 => (bif decide (v9.f0 = v10.f0) then ((spec_l02SameTexts.f k v9.f1 v10.f1).bind fun v11 => (bif v11 then (bif v10.f3 then (bif v9.f3 then ((spec_l03WeakerRules.f k v9.f2 v10.f2).bind fun v12 => (bif v12 then (spec_Weaker.j1 k v6 v0 v4 v1 v5) else (some false))) else (some false)) else ((spec_l03WeakerRules.f k v9.f2 v10.f2).bind fun v13 => (bif v13 then (spec_Weaker.j1 k v6 v0 v4 v1 v5) else (some false)))) else (some false))) else (some false)))) else (spec_Weaker.l1 k 0 v0 v4 v1 v5))
def spec_Weaker.j0 : Nat → S65 → Bool → S65 → Bool → Option (Bool)
 | 0, _, _, _, _ => none
 | k + 1, v0, v4, v1, v5 => (spec_Weaker.l0 k 0 v0 v4 v1 v5)
def spec_Weaker.f : Nat → S65 → S65 → Option (Bool)
 | 0, _, _ => none
 | k + 1, v0, v1 => ((spec_SchemaFault.f k v0).bind fun v2 => (bif (v2 == 0) then ((spec_SchemaFault.f k v1).bind fun v3 => (bif (v3 == 0) then (bif ((v0.f0.length : Int) == (v1.f0.length : Int)) then (bif ((v0.f1.length : Int) == (v1.f1.length : Int)) then (bif v1.f3 then (bif v0.f3 then (spec_Weaker.j0 k v0 true v1 true) else (some false)) else (spec_Weaker.j0 k v0 v0.f3 v1 false)) else (some false)) else (some false)) else (some false))) else (some false)))
end
set_option maxRecDepth 100000 in
set_option maxHeartbeats 4000000 in
theorem spec_Weaker.con {K : Kn} [KOk K] {k : Nat} {v0 : S65} {v1 : S65} {r : Bool} (h : spec_Weaker.f k v0 v1 = some r) : Con K Try.prog 59 [.agg [.p (.lst false (List.map en160 v0.f0)), .p (.lst false (List.map en163 v0.f1)), .p (.lst false (List.map en166 v0.f2)), .p (.bool v0.f3)], .agg [.p (.lst false (List.map en160 v1.f0)), .p (.lst false (List.map en163 v1.f1)), .p (.lst false (List.map en166 v1.f2)), .p (.bool v1.f3)]] [] (.p (.bool r)) [] := by
 cases k with
 | zero => exact absurd h (by simp [spec_Weaker.f])
 | succ k =>
 rw [spec_Weaker.f] at h
 refine con_intro 210 [] Try.func59 (by kernel_rfl) rfl rfl (by kernel_rfl) fun ι0 w0 hk0 => ?_
 revert h
 refine go 4 ?_
 refine good_cut_f (fun st => ∃ (v4 : _) (v5 : _) (q_ : Nat), q_ ≤ k ∧ st = ⟨[(2, .ptr 2 1 0), (3, .ptr 3 1 0)], [(2, (1, .cells [.p (.lst false (List.map en160 v0.f0)), .p (.lst false (List.map en163 v0.f1)), .p (.lst false (List.map en166 v0.f2)), .p (.bool v4)])), (3, (1, .cells [.p (.lst false (List.map en160 v1.f0)), .p (.lst false (List.map en163 v1.f1)), .p (.lst false (List.map en166 v1.f2)), .p (.bool v5)]))]⟩ ∧ spec_Weaker.j0 q_ v0 v4 v1 v5 = some r) ?_ (fun hj0 => ?_)
 ·skip
  rintro _ ⟨v4, v5, q_, hqj0, rfl, h⟩
  cases q_ with
  | zero => exact absurd h (by simp [spec_Weaker.j0])
  | succ kj0 =>
  rw [spec_Weaker.j0] at h
  revert h
  refine go 5 ?_
  refine fun h => good_loop (fun n st => n ≤ kj0 ∧ ∃ (v6 : _) (g7 : Nat) (g8 : Nat), st = ⟨[(2, .ptr 2 1 0), (3, .ptr 3 1 0), (5, .p (.int .i64 v6))], [(2, (1, .cells [.p (.lst false (List.map en160 v0.f0)), .p (.lst false (List.map en163 v0.f1)), .p (.lst false (List.map en166 v0.f2)), .p (.bool v4)])), (3, (1, .cells [.p (.lst false (List.map en160 v1.f0)), .p (.lst false (List.map en163 v1.f1)), .p (.lst false (List.map en166 v1.f2)), .p (.bool v5)])), (6, (g7, .gone)), (7, (g8, .gone))]⟩ ∧ spec_Weaker.l0 n v6 v0 v4 v1 v5 = some r) kj0 ⟨_, ⟨Nat.le_refl _, _, 0, 0, rfl, h⟩, frle_, memle_⟩ ?_
  clear h
  rintro n _ ⟨hkl0, v6, g7, g8, rfl, h⟩ hl0
  cases n with
  | zero => exact absurd h (by simp [spec_Weaker.l0])
  | succ kl0 =>
  rw [spec_Weaker.l0] at h
  revert h
  refine bif_e (fun c1 => ?_) (fun c1 => ?_)
  ·refine bind_e (fun v9 e9 => ?_)
   replace e9 := nf_ (ix_en en160 e9)
   refine bind_e (fun v10 e10 => ?_)
   replace e10 := nf_ (ix_en en160 e10)
   refine go 12 ?_
   refine good_cut_f (fun st => ∃ (q_ : Nat), q_ ≤ kl0 ∧ st = ⟨[(2, .ptr 2 1 0), (3, .ptr 3 1 0), (5, .p (.int .i64 v6))], [(2, (1, .cells [.p (.lst false (List.map en160 v0.f0)), .p (.lst false (List.map en163 v0.f1)), .p (.lst false (List.map en166 v0.f2)), .p (.bool v4)])), (3, (1, .cells [.p (.lst false (List.map en160 v1.f0)), .p (.lst false (List.map en163 v1.f1)), .p (.lst false (List.map en166 v1.f2)), .p (.bool v5)])), (6, (g7 + 1, .gone)), (7, (g8 + 1, .gone))]⟩ ∧ spec_Weaker.j1 q_ v6 v0 v4 v1 v5 = some r) ?_ (fun hj1 => ?_)
   ·clear c1 e9 e10
    rintro _ ⟨q_, hqj1, rfl, h⟩
    cases q_ with
    | zero => exact absurd h (by simp [spec_Weaker.j1])
    | succ kj1 =>
    rw [spec_Weaker.j1] at h
    revert h
    refine go 3 ?_
    exact fun h => good_again hl0 (by omega) ⟨_, ⟨by omega, _, g7 + 1, g8 + 1, rfl, h⟩, frle_, memle_⟩
   ·refine bif_e (fun c2 => ?_) (fun c2 => ?_)
    ·refine grs ?_
     refine gr_run ?_
     refine bind_e (fun v11 e11 => gr_call [] (spec_l02SameTexts.con e11) ?_)
     clear e11
     refine bif_e (fun c3 => ?_) (fun c3 => ?_)
     ·refine bif_e (fun c4 => ?_) (fun c4 => ?_)
      ·refine bif_e (fun c5 => ?_) (fun c5 => ?_)
       ·refine gr_run ?_
        refine bind_e (fun v12 e12 => gr_call [] (spec_l03WeakerRules.con e12) ?_)
        clear e12
        refine gr_run ?_
        refine gr_done ?_
        refine bif_e (fun c6 => ?_) (fun c6 => ?_)
        ·refine go 1 ?_
         exact fun h => good_jump hj1 ⟨_, ⟨_, by omega, rfl, h⟩, frle_, memle_⟩
        ·refine go 3 ?_
         refine ret_e (fun hr_ => ?_)
         subst hr_
         exact ret_ Try.func59 []
       ·refine gr_run ?_
        refine gr_done ?_
        refine go 3 ?_
        refine ret_e (fun hr_ => ?_)
        subst hr_
        exact ret_ Try.func59 []
      ·refine gr_run ?_
       refine bind_e (fun v13 e13 => gr_call [] (spec_l03WeakerRules.con e13) ?_)
       clear e13
       refine gr_run ?_
       refine gr_done ?_
       refine bif_e (fun c7 => ?_) (fun c7 => ?_)
       ·refine go 1 ?_
        exact fun h => good_jump hj1 ⟨_, ⟨_, by omega, rfl, h⟩, frle_, memle_⟩
       ·refine go 3 ?_
        refine ret_e (fun hr_ => ?_)
        subst hr_
        exact ret_ Try.func59 []
     ·refine gr_run ?_
      refine gr_done ?_
      refine go 3 ?_
      refine ret_e (fun hr_ => ?_)
      subst hr_
      exact ret_ Try.func59 []
    ·refine go 4 ?_
     refine ret_e (fun hr_ => ?_)
     subst hr_
     exact ret_ Try.func59 []
  ·refine go 9 ?_
   refine fun h => good_loop (fun n st => n ≤ kl0 ∧ ∃ (v14 : _) (g15 : Nat) (g16 : Nat), st = ⟨[(2, .ptr 2 1 0), (3, .ptr 3 1 0), (8, .p (.int .i64 v14))], [(2, (1, .cells [.p (.lst false (List.map en160 v0.f0)), .p (.lst false (List.map en163 v0.f1)), .p (.lst false (List.map en166 v0.f2)), .p (.bool v4)])), (3, (1, .cells [.p (.lst false (List.map en160 v1.f0)), .p (.lst false (List.map en163 v1.f1)), .p (.lst false (List.map en166 v1.f2)), .p (.bool v5)])), (6, (g7, .gone)), (7, (g8, .gone)), (9, (g15, .gone)), (10, (g16, .gone))]⟩ ∧ spec_Weaker.l1 n v14 v0 v4 v1 v5 = some r) kl0 ⟨_, ⟨Nat.le_refl _, _, 0, 0, rfl, h⟩, frle_, memle_⟩ ?_
   clear c1
   clear h
   rintro n _ ⟨hkl1, v14, g15, g16, rfl, h⟩ hl1
   cases n with
   | zero => exact absurd h (by simp [spec_Weaker.l1])
   | succ kl1 =>
   rw [spec_Weaker.l1] at h
   revert h
   refine bif_e (fun c8 => ?_) (fun c8 => ?_)
   ·refine bind_e (fun v17 e17 => ?_)
    replace e17 := nf_ (ix_en en163 e17)
    refine bind_e (fun v18 e18 => ?_)
    replace e18 := nf_ (ix_en en163 e18)
    refine bif_e (fun c9 => ?_) (fun c9 => ?_)
    ·refine bif_e (fun c10 => ?_) (fun c10 => ?_)
     ·refine bif_e (fun c11 => ?_) (fun c11 => ?_)
      ·refine go 12 ?_
       refine grs ?_
       refine gr_run ?_
       refine bind_e (fun v19 e19 => gr_call [] (spec_l03WeakerRules.con e19) ?_)
       clear e19
       refine bif_e (fun c12 => ?_) (fun c12 => ?_)
       ·refine gr_run ?_
        refine bind_e (fun v20 e20 => gr_call [] (spec_l03Most.con e20) ?_)
        clear e20
        refine bif_e (fun c13 => ?_) (fun c13 => ?_)
        ·refine gr_run ?_
         refine bind_e (fun v21 e21 => gr_call [] (spec_l03Most.con e21) ?_)
         clear e21
         refine bif_e (fun c14 => ?_) (fun c14 => ?_)
         ·refine gr_run ?_
          refine gr_done ?_
          refine bif_e (fun c15 => ?_) (fun c15 => ?_)
          ·refine go 3 ?_
           refine ret_e (fun hr_ => ?_)
           subst hr_
           exact ret_ Try.func59 []
          ·refine go 4 ?_
           exact fun h => good_again hl1 (by omega) ⟨_, ⟨by omega, _, g15 + 1, g16 + 1, rfl, h⟩, frle_, memle_⟩
         ·refine gr_run ?_
          refine gr_done ?_
          refine go 3 ?_
          refine ret_e (fun hr_ => ?_)
          subst hr_
          exact ret_ Try.func59 []
        ·refine gr_run ?_
         refine gr_done ?_
         refine go 3 ?_
         refine ret_e (fun hr_ => ?_)
         subst hr_
         exact ret_ Try.func59 []
       ·refine gr_run ?_
        refine gr_done ?_
        refine go 3 ?_
        refine ret_e (fun hr_ => ?_)
        subst hr_
        exact ret_ Try.func59 []
      ·refine go 16 ?_
       refine ret_e (fun hr_ => ?_)
       subst hr_
       exact ret_ Try.func59 []
     ·refine go 16 ?_
      refine ret_e (fun hr_ => ?_)
      subst hr_
      exact ret_ Try.func59 []
    ·refine go 16 ?_
     refine ret_e (fun hr_ => ?_)
     subst hr_
     exact ret_ Try.func59 []
   ·refine go 9 ?_
    refine fun h => good_loop (fun n st => n ≤ kl1 ∧ ∃ (v22 : _), st = ⟨[(2, .ptr 2 1 0), (3, .ptr 3 1 0), (11, .p (.int .i64 v22))], [(2, (1, .cells [.p (.lst false (List.map en160 v0.f0)), .p (.lst false (List.map en163 v0.f1)), .p (.lst false (List.map en166 v0.f2)), .p (.bool v4)])), (3, (1, .cells [.p (.lst false (List.map en160 v1.f0)), .p (.lst false (List.map en163 v1.f1)), .p (.lst false (List.map en166 v1.f2)), .p (.bool v5)])), (6, (g7, .gone)), (7, (g8, .gone)), (9, (g15, .gone)), (10, (g16, .gone))]⟩ ∧ spec_Weaker.l2 n v22 v0 v4 v1 v5 = some r) kl1 ⟨_, ⟨Nat.le_refl _, _, rfl, h⟩, frle_, memle_⟩ ?_
    clear c8
    clear h
    rintro n _ ⟨hkl2, v22, rfl, h⟩ hl2
    cases n with
    | zero => exact absurd h (by simp [spec_Weaker.l2])
    | succ kl2 =>
    rw [spec_Weaker.l2] at h
    revert h
    refine bif_e (fun c16 => ?_) (fun c16 => ?_)
    ·refine go 13 ?_
     refine fun h => good_loop (fun n st => n ≤ kl2 ∧ ∃ (v23 : _) (v24 : _), st = ⟨[(2, .ptr 2 1 0), (3, .ptr 3 1 0), (11, .p (.int .i64 v22)), (12, .p (.bool v23)), (13, .p (.int .i64 v24))], [(2, (1, .cells [.p (.lst false (List.map en160 v0.f0)), .p (.lst false (List.map en163 v0.f1)), .p (.lst false (List.map en166 v0.f2)), .p (.bool v4)])), (3, (1, .cells [.p (.lst false (List.map en160 v1.f0)), .p (.lst false (List.map en163 v1.f1)), .p (.lst false (List.map en166 v1.f2)), .p (.bool v5)])), (6, (g7, .gone)), (7, (g8, .gone)), (9, (g15, .gone)), (10, (g16, .gone))]⟩ ∧ spec_Weaker.l3 n v22 v23 v24 v0 v4 v1 v5 = some r) kl2 ⟨_, ⟨Nat.le_refl _, _, _, rfl, h⟩, frle_, memle_⟩ ?_
     clear c16
     clear h
     rintro n _ ⟨hkl3, v23, v24, rfl, h⟩ hl3
     cases n with
     | zero => exact absurd h (by simp [spec_Weaker.l3])
     | succ kl3 =>
     rw [spec_Weaker.l3] at h
     revert h
     refine bif_e (fun c17 => ?_) (fun c17 => ?_)
     ·refine bif_e (fun c18 => ?_) (fun c18 => ?_)
      ·refine go 7 ?_
       refine grs ?_
       refine gr_run ?_
       refine gr_done ?_
       refine go 2 ?_
       exact fun h => good_again hl3 (by omega) ⟨_, ⟨by omega, _, _, rfl, h⟩, frle_, memle_⟩
      ·refine bind_e (fun v25 e25 => ?_)
       replace e25 := nf_ (ix_en en166 e25)
       refine bind_e (fun v26 e26 => ?_)
       replace e26 := nf_ (ix_en en166 e26)
       refine bif_e (fun c19 => ?_) (fun c19 => ?_)
       ·refine go 7 ?_
        refine grs ?_
        refine gr_run ?_
        refine bind_e (fun v29 e29 => gr_call [] (spec_l02SameTexts.con e29) ?_)
        clear e29
        refine gr_run ?_
        refine gr_done ?_
        refine go 2 ?_
        exact fun h => good_again hl3 (by omega) ⟨_, ⟨by omega, _, _, rfl, h⟩, frle_, memle_⟩
       ·refine go 7 ?_
        refine grs ?_
        refine gr_run ?_
        refine gr_done ?_
        refine go 2 ?_
        exact fun h => good_again hl3 (by omega) ⟨_, ⟨by omega, _, _, rfl, h⟩, frle_, memle_⟩
     ·refine bif_e (fun c20 => ?_) (fun c20 => ?_)
      ·refine go 11 ?_
       exact fun h => good_again hl2 (by omega) ⟨_, ⟨by omega, _, rfl, h⟩, frle_, memle_⟩
      ·refine go 10 ?_
       refine ret_e (fun hr_ => ?_)
       subst hr_
       exact ret_ Try.func59 []
    ·refine go 7 ?_
     refine ret_e (fun hr_ => ?_)
     subst hr_
     exact ret_ Try.func59 []
 ·refine grs ?_
  refine gr_run ?_
  refine bind_e (fun v2 e2 => gr_call [] (spec_SchemaFault.con e2) ?_)
  clear e2
  refine bif_e (fun c21 => ?_) (fun c21 => ?_)
  ·refine gr_run ?_
   refine bind_e (fun v3 e3 => gr_call [] (spec_SchemaFault.con e3) ?_)
   clear e3
   refine bif_e (fun c22 => ?_) (fun c22 => ?_)
   ·refine bif_e (fun c23 => ?_) (fun c23 => ?_)
    ·refine bif_e (fun c24 => ?_) (fun c24 => ?_)
     ·refine bif_e (fun c25 => ?_) (fun c25 => ?_)
      ·refine gr_run ?_
       refine gr_done ?_
       refine bif_e (fun c26 => ?_) (fun c26 => ?_)
       ·refine go 1 ?_
        exact fun h => good_jump hj0 ⟨_, ⟨_, _, _, by omega, rfl, h⟩, frle_, memle_⟩
       ·refine go 3 ?_
        refine ret_e (fun hr_ => ?_)
        subst hr_
        exact ret_ Try.func59 []
      ·refine gr_run ?_
       refine gr_done ?_
       refine go 1 ?_
       exact fun h => good_jump hj0 ⟨_, ⟨_, _, _, by omega, rfl, h⟩, frle_, memle_⟩
     ·refine gr_run ?_
      refine gr_done ?_
      refine go 3 ?_
      refine ret_e (fun hr_ => ?_)
      subst hr_
      exact ret_ Try.func59 []
    ·refine gr_run ?_
     refine gr_done ?_
     refine go 3 ?_
     refine ret_e (fun hr_ => ?_)
     subst hr_
     exact ret_ Try.func59 []
   ·refine gr_run ?_
    refine gr_done ?_
    refine go 3 ?_
    refine ret_e (fun hr_ => ?_)
    subst hr_
    exact ret_ Try.func59 []
  ·refine gr_run ?_
   refine gr_done ?_
   refine go 3 ?_
   refine ret_e (fun hr_ => ?_)
   subst hr_
   exact ret_ Try.func59 []
end Go.Ab
