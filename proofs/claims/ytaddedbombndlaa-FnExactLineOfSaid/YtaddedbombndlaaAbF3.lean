/- What the functions compute, and their contracts, part 3. No condition beyond KOk. -/
import Derived.Test.YtaddedbombndlaaAbX
import Derived.Test.YtaddedbombndlaaAbF2
namespace Go.Ab
open Go.Proofs
set_option linter.unusedVariables false
set_option linter.unusedSimpArgs false
def spec_l03Before.f (k : Nat) (v0 : S99) (v1 : S99) : Option (Bool) := (bif decide (v0.f0 = v1.f0) then (bif decide (v0.f1 = v1.f1) then (some (slt v0.f2 v1.f2)) else (some (slt v0.f1 v1.f1))) else (some (slt v0.f0 v1.f0)))
set_option maxRecDepth 100000 in
set_option maxHeartbeats 4000000 in
theorem spec_l03Before.con {K : Kn} [KOk K] {k : Nat} {v0 : S99} {v1 : S99} {r : Bool} (h : spec_l03Before.f k v0 v1 = some r) : Con K Try.prog 55 [.agg [.p (.str v0.f0), .p (.str v0.f1), .p (.str v0.f2), .p (.lst false (List.map en113 v0.f3)), .p (.int .i64 v0.f4), .p (.int .i64 v0.f5), .p (.int .i64 v0.f6)], .agg [.p (.str v1.f0), .p (.str v1.f1), .p (.str v1.f2), .p (.lst false (List.map en113 v1.f3)), .p (.int .i64 v1.f4), .p (.int .i64 v1.f5), .p (.int .i64 v1.f6)]] [] (.p (.bool r)) [] := by
 rw [spec_l03Before.f] at h
 refine con_intro 30 [] Try.func55 (by kernel_rfl) rfl rfl (by kernel_rfl) fun ι0 w0 hk0 => ?_
 revert h
 refine bif_e (fun c1 => ?_) (fun c1 => ?_)
 ·refine bif_e (fun c2 => ?_) (fun c2 => ?_)
  ·refine go 14 ?_
   refine ret_e (fun hr_ => ?_)
   subst hr_
   exact ret_ Try.func55 []
  ·refine go 13 ?_
   refine ret_e (fun hr_ => ?_)
   subst hr_
   exact ret_ Try.func55 []
 ·refine go 8 ?_
  refine ret_e (fun hr_ => ?_)
  subst hr_
  exact ret_ Try.func55 []
mutual
def spec_SchemaFault.j0 : Nat → Int → S33 → Option (Int)
 | 0, _, _ => none
 | k + 1, v1, v0 => (spec_SchemaFault.l0 k (IntKind.i64.wrap (v1 + 1)) v0)
def spec_SchemaFault.j1 : Nat → Int → S33 → Option (Int)
 | 0, _, _ => none
 | k + 1, v6, v0 => (spec_SchemaFault.l1 k (IntKind.i64.wrap (v6 + 1)) v0)
def spec_SchemaFault.l3 : Nat → Int → Int → S33 → S92 → Option (Int)
 | 0, _, _, _, _ => none
 | k + 1, v12, v19, v0, v14 => (bif decide (v19 < (v14.f1.length : Int)) then ((ix v14.f1 v19).bind fun v20 => ((spec_l01Name.f k v20).bind fun v21 => (bif v21 then (spec_SchemaFault.l3 k v12 (IntKind.i64.wrap (v19 + 1)) v0 v14) else (some 1)))) else (spec_SchemaFault.l2 k (IntKind.i64.wrap (v12 + 1)) v0))
def spec_SchemaFault.j2 : Nat → Int → S33 → S92 → Option (Int)
 | 0, _, _, _ => none
 | k + 1, v12, v0, v14 => (spec_SchemaFault.l3 k v12 0 v0 v14)
def spec_SchemaFault.l2 : Nat → Int → S33 → Option (Int)
 | 0, _, _ => none
 | k + 1, v12, v0 => (bif decide (v12 < (v0.f2.length : Int)) then ((ix v0.f2 v12).bind fun v14 => ((spec_l03Type.f k v0 v14.f0).bind fun v15 => (bif decide (v15 < 0) then (some 1) else (bif decide (0 < v12) then ((ix v0.f2 (IntKind.i64.wrap (v12 - 1))).bind fun v16 => (bif slt v16.f0 v14.f0 then (bif decide ((v14.f1.length : Int) < 1) then (some 1) else (bif decide (3 < (v14.f1.length : Int)) then (some 1) else ((spec_l01Rising.f k v14.f1).bind fun v17 => (bif v17 then (spec_SchemaFault.j2 k v12 v0 v14) else (some 1))))) else (some 1))) else (bif decide ((v14.f1.length : Int) < 1) then (some 1) else (bif decide (3 < (v14.f1.length : Int)) then (some 1) else ((spec_l01Rising.f k v14.f1).bind fun v18 => (bif v18 then (spec_SchemaFault.j2 k v12 v0 v14) else (some 1))))))))) else (some 0))
def spec_SchemaFault.l1 : Nat → Int → S33 → Option (Int)
 | 0, _, _ => none
 | k + 1, v6, v0 => (bif decide (v6 < (v0.f1.length : Int)) then ((ix v0.f1 v6).bind fun v7 => ((spec_l03EdgeType.f k v0 v7).bind fun v8 => (bif v8 then (bif decide (0 < v6) then ((ix v0.f1 (IntKind.i64.wrap (v6 - 1))).bind fun v9 => ((spec_l03Before.f k v9 v7).bind fun v11 => (bif v11 then (spec_SchemaFault.j1 k v6 v0) else (some 1)))) else (spec_SchemaFault.j1 k v6 v0)) else (some 1)))) else (spec_SchemaFault.l2 k 0 v0))
def spec_SchemaFault.l0 : Nat → Int → S33 → Option (Int)
 | 0, _, _ => none
 | k + 1, v1, v0 => (bif decide (v1 < (v0.f0.length : Int)) then ((ix v0.f0 v1).bind fun v2 => ((spec_l03NodeType.f k v0 v2).bind fun v3 => (bif v3 then (bif decide (0 < v1) then ((ix v0.f0 (IntKind.i64.wrap (v1 - 1))).bind fun v4 => (bif slt v4.f0 v2.f0 then (spec_SchemaFault.j0 k v1 v0) else (some 1))) else (spec_SchemaFault.j0 k v1 v0)) else (some 1)))) else (spec_SchemaFault.l1 k 0 v0))
def spec_SchemaFault.f : Nat → S33 → Option (Int)
 | 0, _ => none
 | k + 1, v0 => (bif decide (20 < (v0.f0.length : Int)) then (some 1) else (bif decide (20 < (v0.f1.length : Int)) then (some 1) else (bif decide (10 < (v0.f2.length : Int)) then (some 1) else (spec_SchemaFault.l0 k 0 v0))))
end
set_option maxRecDepth 100000 in
set_option maxHeartbeats 4000000 in
theorem spec_SchemaFault.con {K : Kn} [KOk K] {k : Nat} {v0 : S33} {r : Int} (h : spec_SchemaFault.f k v0 = some r) : Con K Try.prog 23 [.agg [.p (.lst false (List.map en96 v0.f0)), .p (.lst false (List.map en99 v0.f1)), .p (.lst false (List.map en92 v0.f2)), .p (.bool v0.f3)]] [] (.p (.int .i64 r)) [] := by
 cases k with
 | zero => exact absurd h (by simp [spec_SchemaFault.f])
 | succ k =>
 rw [spec_SchemaFault.f] at h
 refine con_intro 158 [] Try.func23 (by kernel_rfl) rfl rfl (by kernel_rfl) fun ι0 w0 hk0 => ?_
 revert h
 refine bif_e (fun c1 => ?_) (fun c1 => ?_)
 ·refine go 8 ?_
  refine ret_e (fun hr_ => ?_)
  subst hr_
  exact ret_ Try.func23 []
 ·refine bif_e (fun c2 => ?_) (fun c2 => ?_)
  ·refine go 8 ?_
   refine ret_e (fun hr_ => ?_)
   subst hr_
   exact ret_ Try.func23 []
  ·refine bif_e (fun c3 => ?_) (fun c3 => ?_)
   ·refine go 8 ?_
    refine ret_e (fun hr_ => ?_)
    subst hr_
    exact ret_ Try.func23 []
   ·refine go 11 ?_
    refine fun h => good_loop (fun n st => n ≤ k ∧ ∃ (v1 : _), st = ⟨[(1, .ptr 1 1 0), (3, .p (.int .i64 v1))], [(1, (1, .cells [.p (.lst false (List.map en96 v0.f0)), .p (.lst false (List.map en99 v0.f1)), .p (.lst false (List.map en92 v0.f2)), .p (.bool v0.f3)]))]⟩ ∧ spec_SchemaFault.l0 n v1 v0 = some r) k ⟨_, ⟨Nat.le_refl _, _, rfl, h⟩, frle_, memle_⟩ ?_
    clear c1 c2 c3
    clear h
    rintro n _ ⟨hkl0, v1, rfl, h⟩ hl0
    cases n with
    | zero => exact absurd h (by simp [spec_SchemaFault.l0])
    | succ kl0 =>
    rw [spec_SchemaFault.l0] at h
    revert h
    refine bif_e (fun c4 => ?_) (fun c4 => ?_)
    ·refine go 8 ?_
     refine good_cut_f (fun st => ∃ (q_ : Nat), q_ ≤ kl0 ∧ st = ⟨[(1, .ptr 1 1 0), (3, .p (.int .i64 v1))], [(1, (1, .cells [.p (.lst false (List.map en96 v0.f0)), .p (.lst false (List.map en99 v0.f1)), .p (.lst false (List.map en92 v0.f2)), .p (.bool v0.f3)]))]⟩ ∧ spec_SchemaFault.j0 q_ v1 v0 = some r) ?_ (fun hj0 => ?_)
     ·clear c4
      rintro _ ⟨q_, hqj0, rfl, h⟩
      cases q_ with
      | zero => exact absurd h (by simp [spec_SchemaFault.j0])
      | succ kj0 =>
      rw [spec_SchemaFault.j0] at h
      revert h
      refine go 3 ?_
      exact fun h => good_again hl0 (by omega) ⟨_, ⟨by omega, _, rfl, h⟩, frle_, memle_⟩
     ·refine bind_e (fun v2 e2 => ?_)
      replace e2 := nf_ (ix_en en96 e2)
      refine grs ?_
      refine gr_run ?_
      refine bind_e (fun v3 e3 => gr_call [] (spec_l03NodeType.con e3) ?_)
      clear e3
      refine bif_e (fun c5 => ?_) (fun c5 => ?_)
      ·refine bif_e (fun c6 => ?_) (fun c6 => ?_)
       ·refine bind_e (fun v4 e4 => ?_)
        replace e4 := nf_ (ix_en en96 e4)
        refine gr_run ?_
        refine gr_done ?_
        refine bif_e (fun c7 => ?_) (fun c7 => ?_)
        ·refine go 1 ?_
         exact fun h => good_jump hj0 ⟨_, ⟨_, by omega, rfl, h⟩, frle_, memle_⟩
        ·refine go 3 ?_
         refine ret_e (fun hr_ => ?_)
         subst hr_
         exact ret_ Try.func23 []
       ·refine gr_run ?_
        refine gr_done ?_
        refine go 1 ?_
        exact fun h => good_jump hj0 ⟨_, ⟨_, by omega, rfl, h⟩, frle_, memle_⟩
      ·refine gr_run ?_
       refine gr_done ?_
       refine go 3 ?_
       refine ret_e (fun hr_ => ?_)
       subst hr_
       exact ret_ Try.func23 []
    ·refine go 9 ?_
     refine fun h => good_loop (fun n st => n ≤ kl0 ∧ ∃ (v6 : _), st = ⟨[(1, .ptr 1 1 0), (4, .p (.int .i64 v6))], [(1, (1, .cells [.p (.lst false (List.map en96 v0.f0)), .p (.lst false (List.map en99 v0.f1)), .p (.lst false (List.map en92 v0.f2)), .p (.bool v0.f3)]))]⟩ ∧ spec_SchemaFault.l1 n v6 v0 = some r) kl0 ⟨_, ⟨Nat.le_refl _, _, rfl, h⟩, frle_, memle_⟩ ?_
     clear c4
     clear h
     rintro n _ ⟨hkl1, v6, rfl, h⟩ hl1
     cases n with
     | zero => exact absurd h (by simp [spec_SchemaFault.l1])
     | succ kl1 =>
     rw [spec_SchemaFault.l1] at h
     revert h
     refine bif_e (fun c8 => ?_) (fun c8 => ?_)
     ·refine go 8 ?_
      refine good_cut_f (fun st => ∃ (q_ : Nat), q_ ≤ kl1 ∧ st = ⟨[(1, .ptr 1 1 0), (4, .p (.int .i64 v6))], [(1, (1, .cells [.p (.lst false (List.map en96 v0.f0)), .p (.lst false (List.map en99 v0.f1)), .p (.lst false (List.map en92 v0.f2)), .p (.bool v0.f3)]))]⟩ ∧ spec_SchemaFault.j1 q_ v6 v0 = some r) ?_ (fun hj1 => ?_)
      ·clear c8
       rintro _ ⟨q_, hqj1, rfl, h⟩
       cases q_ with
       | zero => exact absurd h (by simp [spec_SchemaFault.j1])
       | succ kj1 =>
       rw [spec_SchemaFault.j1] at h
       revert h
       refine go 3 ?_
       exact fun h => good_again hl1 (by omega) ⟨_, ⟨by omega, _, rfl, h⟩, frle_, memle_⟩
      ·refine bind_e (fun v7 e7 => ?_)
       replace e7 := nf_ (ix_en en99 e7)
       refine grs ?_
       refine gr_run ?_
       refine bind_e (fun v8 e8 => gr_call [] (spec_l03EdgeType.con e8) ?_)
       clear e8
       refine bif_e (fun c9 => ?_) (fun c9 => ?_)
       ·refine bif_e (fun c10 => ?_) (fun c10 => ?_)
        ·refine bind_e (fun v9 e9 => ?_)
         replace e9 := nf_ (ix_en en99 e9)
         refine gr_run ?_
         refine bind_e (fun v11 e11 => gr_call [] (spec_l03Before.con e11) ?_)
         clear e11
         refine gr_run ?_
         refine gr_done ?_
         refine bif_e (fun c11 => ?_) (fun c11 => ?_)
         ·refine go 1 ?_
          exact fun h => good_jump hj1 ⟨_, ⟨_, by omega, rfl, h⟩, frle_, memle_⟩
         ·refine go 3 ?_
          refine ret_e (fun hr_ => ?_)
          subst hr_
          exact ret_ Try.func23 []
        ·refine gr_run ?_
         refine gr_done ?_
         refine go 1 ?_
         exact fun h => good_jump hj1 ⟨_, ⟨_, by omega, rfl, h⟩, frle_, memle_⟩
       ·refine gr_run ?_
        refine gr_done ?_
        refine go 3 ?_
        refine ret_e (fun hr_ => ?_)
        subst hr_
        exact ret_ Try.func23 []
     ·refine go 9 ?_
      refine fun h => good_loop (fun n st => n ≤ kl1 ∧ ∃ (v12 : _) (g13 : Nat), st = ⟨[(1, .ptr 1 1 0), (5, .p (.int .i64 v12))], [(1, (1, .cells [.p (.lst false (List.map en96 v0.f0)), .p (.lst false (List.map en99 v0.f1)), .p (.lst false (List.map en92 v0.f2)), .p (.bool v0.f3)])), (6, (g13, .gone))]⟩ ∧ spec_SchemaFault.l2 n v12 v0 = some r) kl1 ⟨_, ⟨Nat.le_refl _, _, 0, rfl, h⟩, frle_, memle_⟩ ?_
      clear c8
      clear h
      rintro n _ ⟨hkl2, v12, g13, rfl, h⟩ hl2
      cases n with
      | zero => exact absurd h (by simp [spec_SchemaFault.l2])
      | succ kl2 =>
      rw [spec_SchemaFault.l2] at h
      revert h
      refine bif_e (fun c12 => ?_) (fun c12 => ?_)
      ·refine bind_e (fun v14 e14 => ?_)
       replace e14 := nf_ (ix_en en92 e14)
       refine go 11 ?_
       refine good_cut_f (fun st => ∃ (q_ : Nat), q_ ≤ kl2 ∧ st = ⟨[(1, .ptr 1 1 0), (5, .p (.int .i64 v12)), (6, .ptr 6 (g13 + 1) 0)], [(1, (1, .cells [.p (.lst false (List.map en96 v0.f0)), .p (.lst false (List.map en99 v0.f1)), .p (.lst false (List.map en92 v0.f2)), .p (.bool v0.f3)])), (6, (g13 + 1, .cells [.p (.str v14.f0), .p (.lst false (List.map srw v14.f1))]))]⟩ ∧ spec_SchemaFault.j2 q_ v12 v0 v14 = some r) ?_ (fun hj2 => ?_)
       ·clear c12 e14
        rintro _ ⟨q_, hqj2, rfl, h⟩
        cases q_ with
        | zero => exact absurd h (by simp [spec_SchemaFault.j2])
        | succ kj2 =>
        rw [spec_SchemaFault.j2] at h
        revert h
        refine go 4 ?_
        refine fun h => good_loop (fun n st => n ≤ kj2 ∧ ∃ (v19 : _), st = ⟨[(1, .ptr 1 1 0), (5, .p (.int .i64 v12)), (6, .ptr 6 (g13 + 1) 0), (7, .p (.int .i64 v19))], [(1, (1, .cells [.p (.lst false (List.map en96 v0.f0)), .p (.lst false (List.map en99 v0.f1)), .p (.lst false (List.map en92 v0.f2)), .p (.bool v0.f3)])), (6, (g13 + 1, .cells [.p (.str v14.f0), .p (.lst false (List.map srw v14.f1))]))]⟩ ∧ spec_SchemaFault.l3 n v12 v19 v0 v14 = some r) kj2 ⟨_, ⟨Nat.le_refl _, _, rfl, h⟩, frle_, memle_⟩ ?_
        clear h
        rintro n _ ⟨hkl3, v19, rfl, h⟩ hl3
        cases n with
        | zero => exact absurd h (by simp [spec_SchemaFault.l3])
        | succ kl3 =>
        rw [spec_SchemaFault.l3] at h
        revert h
        refine bif_e (fun c13 => ?_) (fun c13 => ?_)
        ·refine bind_e (fun v20 e20 => ?_)
         replace e20 := nf_ (ix_en srw e20)
         refine go 8 ?_
         refine grs ?_
         refine gr_run ?_
         refine bind_e (fun v21 e21 => gr_call [] (spec_l01Name.con e21) ?_)
         clear e21
         refine gr_run ?_
         refine gr_done ?_
         refine bif_e (fun c14 => ?_) (fun c14 => ?_)
         ·refine go 4 ?_
          exact fun h => good_again hl3 (by omega) ⟨_, ⟨by omega, _, rfl, h⟩, frle_, memle_⟩
         ·refine go 3 ?_
          refine ret_e (fun hr_ => ?_)
          subst hr_
          exact ret_ Try.func23 []
        ·refine go 7 ?_
         exact fun h => good_again hl2 (by omega) ⟨_, ⟨by omega, _, g13 + 1, rfl, h⟩, frle_, memle_⟩
       ·refine grs ?_
        refine gr_run ?_
        refine bind_e (fun v15 e15 => gr_call [] (spec_l03Type.con e15) ?_)
        clear e15
        refine bif_e (fun c15 => ?_) (fun c15 => ?_)
        ·refine gr_run ?_
         refine gr_done ?_
         refine go 3 ?_
         refine ret_e (fun hr_ => ?_)
         subst hr_
         exact ret_ Try.func23 []
        ·refine bif_e (fun c16 => ?_) (fun c16 => ?_)
         ·refine bind_e (fun v16 e16 => ?_)
          replace e16 := nf_ (ix_en en92 e16)
          refine bif_e (fun c17 => ?_) (fun c17 => ?_)
          ·refine bif_e (fun c18 => ?_) (fun c18 => ?_)
           ·refine gr_run ?_
            refine gr_done ?_
            refine go 3 ?_
            refine ret_e (fun hr_ => ?_)
            subst hr_
            exact ret_ Try.func23 []
           ·refine bif_e (fun c19 => ?_) (fun c19 => ?_)
            ·refine gr_run ?_
             refine gr_done ?_
             refine go 3 ?_
             refine ret_e (fun hr_ => ?_)
             subst hr_
             exact ret_ Try.func23 []
            ·refine gr_run ?_
             refine bind_e (fun v17 e17 => gr_call [] (spec_l01Rising.con e17) ?_)
             clear e17
             refine gr_run ?_
             refine gr_done ?_
             refine bif_e (fun c20 => ?_) (fun c20 => ?_)
             ·refine go 1 ?_
              exact fun h => good_jump hj2 ⟨_, ⟨_, by omega, rfl, h⟩, frle_, memle_⟩
             ·refine go 3 ?_
              refine ret_e (fun hr_ => ?_)
              subst hr_
              exact ret_ Try.func23 []
          ·refine gr_run ?_
           refine gr_done ?_
           refine go 3 ?_
           refine ret_e (fun hr_ => ?_)
           subst hr_
           exact ret_ Try.func23 []
         ·refine bif_e (fun c21 => ?_) (fun c21 => ?_)
          ·refine gr_run ?_
           refine gr_done ?_
           refine go 3 ?_
           refine ret_e (fun hr_ => ?_)
           subst hr_
           exact ret_ Try.func23 []
          ·refine bif_e (fun c22 => ?_) (fun c22 => ?_)
           ·refine gr_run ?_
            refine gr_done ?_
            refine go 3 ?_
            refine ret_e (fun hr_ => ?_)
            subst hr_
            exact ret_ Try.func23 []
           ·refine gr_run ?_
            refine bind_e (fun v18 e18 => gr_call [] (spec_l01Rising.con e18) ?_)
            clear e18
            refine gr_run ?_
            refine gr_done ?_
            refine bif_e (fun c23 => ?_) (fun c23 => ?_)
            ·refine go 1 ?_
             exact fun h => good_jump hj2 ⟨_, ⟨_, by omega, rfl, h⟩, frle_, memle_⟩
            ·refine go 3 ?_
             refine ret_e (fun hr_ => ?_)
             subst hr_
             exact ret_ Try.func23 []
      ·refine go 7 ?_
       refine ret_e (fun hr_ => ?_)
       subst hr_
       exact ret_ Try.func23 []
mutual
def spec_l03Sort_b_O.j1 : Nat → Nat → (List ByteArray) → Int → Int → (List ByteArray) → Option ((List ByteArray))
 | 0, _, _, _, _, _ => none
 | k + 1, v0, v4, v2, v5, v1 => ((bnd v5 (v4.length : Int) (v4.length : Int)).bind fun v14 => ((spec_l01Texts_b.f k (v4.length - Int.toNat v5) (Int.toNat v5) v4).bind fun v15 => ((bnd 0 v5 (v4.length : Int)).bind fun v16 => ((inr v2 v0).bind fun v17 => ((v1[(Int.toNat v2)]?).bind fun v18 => ((app (List.take (Int.toNat v5) v4) ([v18] : List ByteArray)).bind fun v19 => ((app v19 v15).bind fun v20 => (spec_l03Sort_b_O.l0 k v0 v20 (IntKind.i64.wrap (v2 + 1)) v1))))))))
def spec_l03Sort_b_O.j0 : Nat → Nat → (List ByteArray) → Int → Int → (List ByteArray) → Option ((List ByteArray))
 | 0, _, _, _, _, _ => none
 | k + 1, v0, v4, v2, v5, v1 => (bif decide (0 < v5) then ((inr (IntKind.i64.wrap (v5 - 1)) v4.length).bind fun v10 => ((v4[(Int.toNat (IntKind.i64.wrap (v5 - 1)))]?).bind fun v11 => ((inr v2 v0).bind fun v12 => ((v1[(Int.toNat v2)]?).bind fun v13 => (bif decide (v11 = v13) then (spec_l03Sort_b_O.l0 k v0 v4 (IntKind.i64.wrap (v2 + 1)) v1) else (spec_l03Sort_b_O.j1 k v0 v4 v2 v5 v1)))))) else (spec_l03Sort_b_O.j1 k v0 v4 v2 v5 v1))
def spec_l03Sort_b_O.l1 : Nat → Nat → (List ByteArray) → Int → Int → (List ByteArray) → Option ((List ByteArray))
 | 0, _, _, _, _, _ => none
 | k + 1, v0, v4, v2, v5, v1 => (bif decide (0 < v5) then ((inr (IntKind.i64.wrap (v5 - 1)) v4.length).bind fun v6 => ((v4[(Int.toNat (IntKind.i64.wrap (v5 - 1)))]?).bind fun v7 => ((inr v2 v0).bind fun v8 => ((v1[(Int.toNat v2)]?).bind fun v9 => (bif slt v9 v7 then (spec_l03Sort_b_O.l1 k v0 v4 v2 (IntKind.i64.wrap (v5 - 1)) v1) else (spec_l03Sort_b_O.j0 k v0 v4 v2 v5 v1)))))) else (spec_l03Sort_b_O.j0 k v0 v4 v2 v5 v1))
def spec_l03Sort_b_O.l0 : Nat → Nat → (List ByteArray) → Int → (List ByteArray) → Option ((List ByteArray))
 | 0, _, _, _, _ => none
 | k + 1, v0, v4, v2, v1 => (bif decide (v2 < (v0 : Int)) then (spec_l03Sort_b_O.l1 k v0 v4 v2 (v4.length : Int) v1) else (some v4))
def spec_l03Sort_b_O.f : Nat → Nat → (List ByteArray) → Option ((List ByteArray))
 | 0, _, _ => none
 | k + 1, v0, v1 => (spec_l03Sort_b_O.l0 k v0 ([] : List ByteArray) 0 v1)
end
set_option maxRecDepth 100000 in
set_option maxHeartbeats 4000000 in
theorem spec_l03Sort_b_O.con {K : Kn} [KOk K] {k : Nat} {v0 : Nat} {v1 : (List ByteArray)} {r : (List ByteArray)} (h : spec_l03Sort_b_O.f k v0 v1 = some r) : Con K Try.prog 41 [.buf 1000 0 0 v0] [(1000, (0, .buf 1 (List.map srw v1)))] (.buf 2000 1 0 r.length) [(2000, (1, .buf 1 (List.map srw r))), (1000, (0, .buf 1 (List.map srw v1)))] := by
 cases k with
 | zero => exact absurd h (by simp [spec_l03Sort_b_O.f])
 | succ k =>
 rw [spec_l03Sort_b_O.f] at h
 refine con_intro 62 [58, 60] Try.func41 (by kernel_rfl) rfl rfl (by kernel_rfl) fun ι0 w0 hk0 => ?_
 revert h
 refine go 8 ?_
 refine adoptB_ 3 2603 1 ?_
 refine fun h => good_loop (fun n st => n ≤ k ∧ ∃ (v2 : _) (v4 : _) (g3 : Nat), st = ⟨[(0, .buf 1000 0 0 v0), (3, .buf 2603 g3 0 v4.length), (4, .p (.int .i64 v2))], [(1000, (0, .buf 1 (List.map srw v1))), (2603, (g3, .buf 1 (List.map srw v4)))]⟩ ∧ spec_l03Sort_b_O.l0 n v0 v4 v2 v1 = some r) k ⟨_, ⟨Nat.le_refl _, _, _, 1, rfl, h⟩, frle_, memle_⟩ ?_
 clear h
 rintro n _ ⟨hkl0, v2, v4, g3, rfl, h⟩ hl0
 cases n with
 | zero => exact absurd h (by simp [spec_l03Sort_b_O.l0])
 | succ kl0 =>
 rw [spec_l03Sort_b_O.l0] at h
 revert h
 refine bif_e (fun c1 => ?_) (fun c1 => ?_)
 ·refine go 11 ?_
  refine fun h => good_loop (fun n st => n ≤ kl0 ∧ ∃ (v5 : _), st = ⟨[(0, .buf 1000 0 0 v0), (3, .buf 2603 g3 0 v4.length), (4, .p (.int .i64 v2)), (5, .p (.int .i64 v5))], [(1000, (0, .buf 1 (List.map srw v1))), (2603, (g3, .buf 1 (List.map srw v4)))]⟩ ∧ spec_l03Sort_b_O.l1 n v0 v4 v2 v5 v1 = some r) kl0 ⟨_, ⟨Nat.le_refl _, _, rfl, h⟩, frle_, memle_⟩ ?_
  clear c1
  clear h
  rintro n _ ⟨hkl1, v5, rfl, h⟩ hl1
  cases n with
  | zero => exact absurd h (by simp [spec_l03Sort_b_O.l1])
  | succ kl1 =>
  rw [spec_l03Sort_b_O.l1] at h
  revert h
  refine go 2 ?_
  refine good_cut_f (fun st => ∃ (q_ : Nat), q_ ≤ kl1 ∧ st = ⟨[(0, .buf 1000 0 0 v0), (3, .buf 2603 g3 0 v4.length), (4, .p (.int .i64 v2)), (5, .p (.int .i64 v5))], [(1000, (0, .buf 1 (List.map srw v1))), (2603, (g3, .buf 1 (List.map srw v4)))]⟩ ∧ spec_l03Sort_b_O.j0 q_ v0 v4 v2 v5 v1 = some r) ?_ (fun hj0 => ?_)
  ·skip
   rintro _ ⟨q_, hqj0, rfl, h⟩
   cases q_ with
   | zero => exact absurd h (by simp [spec_l03Sort_b_O.j0])
   | succ kj0 =>
   rw [spec_l03Sort_b_O.j0] at h
   revert h
   refine go 3 ?_
   refine good_cut_f (fun st => ∃ (q_ : Nat), q_ ≤ kj0 ∧ st = ⟨[(0, .buf 1000 0 0 v0), (3, .buf 2603 g3 0 v4.length), (4, .p (.int .i64 v2)), (5, .p (.int .i64 v5))], [(1000, (0, .buf 1 (List.map srw v1))), (2603, (g3, .buf 1 (List.map srw v4)))]⟩ ∧ spec_l03Sort_b_O.j1 q_ v0 v4 v2 v5 v1 = some r) ?_ (fun hj1 => ?_)
   ·skip
    rintro _ ⟨q_, hqj1, rfl, h⟩
    cases q_ with
    | zero => exact absurd h (by simp [spec_l03Sort_b_O.j1])
    | succ kj1 =>
    rw [spec_l03Sort_b_O.j1] at h
    revert h
    refine bind_e (fun v14 e14 => ?_)
    refine go 2 ?_
    refine grs ?_
    refine gr_run ?_
    refine bind_e (fun v15 e15 => gr_call [(1000, (0, 2603, g3))] (spec_l01Texts_b.con e15) ?_)
    clear e15
    refine gr_run ?_
    refine gr_done ?_
    refine bind_e (fun v16 e16 => ?_)
    refine bind_e (fun v17 e17 => ?_)
    refine bind_e (fun v18 e18 => ?_)
    replace e18 := nf_ (gx_en srw e18)
    refine bind_e (fun v19 e19 => ?_)
    replace e19 := nf_ (app_en srw e19)
    refine bind_e (fun v20 e20 => ?_)
    replace e20 := nf_ (app_en srw e20)
    refine grs ?_
    refine gr_run ?_
    refine gr_done ?_
    refine go 2 ?_
    exact fun h => good_again hl0 (by omega) ⟨_, ⟨by omega, _, _, g3 + 2, rfl, h⟩, frle_, memle_⟩
   ·refine bif_e (fun c2 => ?_) (fun c2 => ?_)
    ·refine bind_e (fun v10 e10 => ?_)
     refine bind_e (fun v11 e11 => ?_)
     replace e11 := nf_ (gx_en srw e11)
     refine bind_e (fun v12 e12 => ?_)
     refine bind_e (fun v13 e13 => ?_)
     replace e13 := nf_ (gx_en srw e13)
     refine grs ?_
     refine gr_run ?_
     refine gr_done ?_
     refine bif_e (fun c3 => ?_) (fun c3 => ?_)
     ·refine go 3 ?_
      exact fun h => good_again hl0 (by omega) ⟨_, ⟨by omega, _, _, g3, rfl, h⟩, frle_, memle_⟩
     ·refine go 1 ?_
      exact fun h => good_jump hj1 ⟨_, ⟨_, by omega, rfl, h⟩, frle_, memle_⟩
    ·refine grs ?_
     refine gr_run ?_
     refine gr_done ?_
     refine go 1 ?_
     exact fun h => good_jump hj1 ⟨_, ⟨_, by omega, rfl, h⟩, frle_, memle_⟩
  ·refine bif_e (fun c4 => ?_) (fun c4 => ?_)
   ·refine bind_e (fun v6 e6 => ?_)
    refine bind_e (fun v7 e7 => ?_)
    replace e7 := nf_ (gx_en srw e7)
    refine bind_e (fun v8 e8 => ?_)
    refine bind_e (fun v9 e9 => ?_)
    replace e9 := nf_ (gx_en srw e9)
    refine grs ?_
    refine gr_run ?_
    refine gr_done ?_
    refine bif_e (fun c5 => ?_) (fun c5 => ?_)
    ·refine go 5 ?_
     exact fun h => good_again hl1 (by omega) ⟨_, ⟨by omega, _, rfl, h⟩, frle_, memle_⟩
    ·refine go 1 ?_
     exact fun h => good_jump hj0 ⟨_, ⟨_, by omega, rfl, h⟩, frle_, memle_⟩
   ·refine grs ?_
    refine gr_run ?_
    refine gr_done ?_
    refine go 1 ?_
    exact fun h => good_jump hj0 ⟨_, ⟨_, by omega, rfl, h⟩, frle_, memle_⟩
 ·refine go 7 ?_
  refine ret_e (fun hr_ => ?_)
  subst hr_
  exact ret_ Try.func41 [(2000, (1, 2603, g3)), (1000, (0, 1000, 0))]
mutual
def spec_l01InTexts_bv.l0 : Nat → Nat → ByteArray → Int → (List ByteArray) → Option (Bool)
 | 0, _, _, _, _ => none
 | k + 1, v0, v1, v3, v2 => (bif decide (v3 < (v0 : Int)) then ((inr v3 v0).bind fun v4 => ((v2[(Int.toNat v3)]?).bind fun v5 => (bif decide (v5 = v1) then (some true) else (spec_l01InTexts_bv.l0 k v0 v1 (IntKind.i64.wrap (v3 + 1)) v2)))) else (some false))
def spec_l01InTexts_bv.f : Nat → Nat → ByteArray → (List ByteArray) → Option (Bool)
 | 0, _, _, _ => none
 | k + 1, v0, v1, v2 => (spec_l01InTexts_bv.l0 k v0 v1 0 v2)
end
set_option maxRecDepth 100000 in
set_option maxHeartbeats 4000000 in
theorem spec_l01InTexts_bv.con {K : Kn} [KOk K] {k : Nat} {v0 : Nat} {v1 : ByteArray} {v2 : (List ByteArray)} {r : Bool} (h : spec_l01InTexts_bv.f k v0 v1 v2 = some r) : Con K Try.prog 59 [.buf 1000 0 0 v0, .p (.str v1)] [(1000, (0, .buf 1 (List.map srw v2)))] (.p (.bool r)) [(1000, (0, .buf 1 (List.map srw v2)))] := by
 cases k with
 | zero => exact absurd h (by simp [spec_l01InTexts_bv.f])
 | succ k =>
 rw [spec_l01InTexts_bv.f] at h
 refine con_intro 18 [] Try.func59 (by kernel_rfl) rfl rfl (by kernel_rfl) fun ι0 w0 hk0 => ?_
 revert h
 refine go 6 ?_
 refine fun h => good_loop (fun n st => n ≤ k ∧ ∃ (v3 : _), st = ⟨[(0, .buf 1000 0 0 v0), (1, .p (.str v1)), (5, .p (.int .i64 v3))], [(1000, (0, .buf 1 (List.map srw v2)))]⟩ ∧ spec_l01InTexts_bv.l0 n v0 v1 v3 v2 = some r) k ⟨_, ⟨Nat.le_refl _, _, rfl, h⟩, frle_, memle_⟩ ?_
 clear h
 rintro n _ ⟨hkl0, v3, rfl, h⟩ hl0
 cases n with
 | zero => exact absurd h (by simp [spec_l01InTexts_bv.l0])
 | succ kl0 =>
 rw [spec_l01InTexts_bv.l0] at h
 revert h
 refine bif_e (fun c1 => ?_) (fun c1 => ?_)
 ·refine bind_e (fun v4 e4 => ?_)
  refine bind_e (fun v5 e5 => ?_)
  replace e5 := nf_ (gx_en srw e5)
  refine bif_e (fun c2 => ?_) (fun c2 => ?_)
  ·refine go 12 ?_
   refine ret_e (fun hr_ => ?_)
   subst hr_
   exact ret_ Try.func59 [(1000, (0, 1000, 0))]
  ·refine go 13 ?_
   exact fun h => good_again hl0 (by omega) ⟨_, ⟨by omega, _, rfl, h⟩, frle_, memle_⟩
 ·refine go 7 ?_
  refine ret_e (fun hr_ => ?_)
  subst hr_
  exact ret_ Try.func59 [(1000, (0, 1000, 0))]
mutual
def spec_l03Line_O.j0 : Nat → (List ByteArray) → Option ((List ByteArray))
 | 0, _ => none
 | k + 1, v6 => ((spec_l03Sort_b_O.f k v6.length v6).bind fun v7 => (some v7))
def spec_l03Line_O.l1 : Nat → (List ByteArray) → Int → Int → Int → S33 → Option ((List ByteArray))
 | 0, _, _, _, _, _ => none
 | k + 1, v13, v4, v10, v11, v0 => ((ix v0.f0 v10).bind fun v14 => (bif decide (v11 < (v14.f1.length : Int)) then ((ix v14.f1 v11).bind fun v16 => ((spec_l01InTexts_bv.f k v13.length v16 v13).bind fun v17 => (bif v17 then (spec_l03Line_O.l1 k v13 v4 v10 (IntKind.i64.wrap (v11 + 1)) v0) else ((app v13 ([v16] : List ByteArray)).bind fun v20 => (spec_l03Line_O.l1 k v20 v4 v10 (IntKind.i64.wrap (v11 + 1)) v0))))) else (spec_l03Line_O.l0 k v13 (IntKind.i64.wrap (v4 + 1)) v0)))
def spec_l03Line_O.l0 : Nat → (List ByteArray) → Int → S33 → Option ((List ByteArray))
 | 0, _, _, _ => none
 | k + 1, v6, v4, v0 => (bif decide (v4 < (v6.length : Int)) then (bif decide (v4 ≤ 20) then ((inr v4 v6.length).bind fun v8 => ((v6[(Int.toNat v4)]?).bind fun v9 => ((spec_l03Type.f k v0 v9).bind fun v10 => (bif decide (v10 < 0) then (spec_l03Line_O.l0 k v6 (IntKind.i64.wrap (v4 + 1)) v0) else (spec_l03Line_O.l1 k v6 v4 v10 0 v0))))) else (spec_l03Line_O.j0 k v6)) else (spec_l03Line_O.j0 k v6))
def spec_l03Line_O.f : Nat → S33 → ByteArray → Option ((List ByteArray))
 | 0, _, _ => none
 | k + 1, v0, v1 => ((spec_l03Type.f k v0 v1).bind fun v2 => (bif decide (v2 < 0) then (some ([] : List ByteArray)) else ((app ([] : List ByteArray) ([v1] : List ByteArray)).bind fun v3 => (spec_l03Line_O.l0 k v3 0 v0))))
end
set_option maxRecDepth 100000 in
set_option maxHeartbeats 4000000 in
theorem spec_l03Line_O.con {K : Kn} [KOk K] {k : Nat} {v0 : S33} {v1 : ByteArray} {r : (List ByteArray)} (h : spec_l03Line_O.f k v0 v1 = some r) : Con K Try.prog 24 [.agg [.p (.lst false (List.map en96 v0.f0)), .p (.lst false (List.map en99 v0.f1)), .p (.lst false (List.map en92 v0.f2)), .p (.bool v0.f3)], .p (.str v1)] [] (.buf 2000 1 0 r.length) [(2000, (1, .buf 1 (List.map srw r)))] := by
 cases k with
 | zero => exact absurd h (by simp [spec_l03Line_O.f])
 | succ k =>
 rw [spec_l03Line_O.f] at h
 refine con_intro 74 [18, 71] Try.func24 (by kernel_rfl) rfl rfl (by kernel_rfl) fun ι0 w0 hk0 => ?_
 revert h
 refine go 6 ?_
 refine grs ?_
 refine gr_run ?_
 refine bind_e (fun v2 e2 => gr_call [] (spec_l03Type.con e2) ?_)
 clear e2
 refine gr_run ?_
 refine gr_done ?_
 refine bif_e (fun c1 => ?_) (fun c1 => ?_)
 ·refine go 3 ?_
  refine adoptB_ 4 2504 1 ?_
  refine ret_e (fun hr_ => ?_)
  subst hr_
  exact ret_ Try.func24 [(2000, (1, 2504, 1))]
 ·refine bind_e (fun v3 e3 => ?_)
  replace e3 := nf_ (app_en srw e3)
  refine go 8 ?_
  refine fun h => good_loop (fun n st => n ≤ k ∧ ∃ (v4 : _) (v6 : _) (g5 : Nat), st = ⟨[(2, .ptr 2 1 0), (5, .buf 18 g5 0 v6.length), (6, .p (.int .i64 v4))], [(2, (1, .cells [.p (.lst false (List.map en96 v0.f0)), .p (.lst false (List.map en99 v0.f1)), .p (.lst false (List.map en92 v0.f2)), .p (.bool v0.f3)])), (18, (g5, .buf 1 (List.map srw v6)))]⟩ ∧ spec_l03Line_O.l0 n v6 v4 v0 = some r) k ⟨_, ⟨Nat.le_refl _, _, _, 1, rfl, h⟩, frle_, memle_⟩ ?_
  clear c1 e3
  clear h
  rintro n _ ⟨hkl0, v4, v6, g5, rfl, h⟩ hl0
  cases n with
  | zero => exact absurd h (by simp [spec_l03Line_O.l0])
  | succ kl0 =>
  rw [spec_l03Line_O.l0] at h
  revert h
  refine go 2 ?_
  refine good_cut_f (fun st => ∃ (q_ : Nat), q_ ≤ kl0 ∧ st = ⟨[(5, .buf 18 g5 0 v6.length)], [(2, (1, .gone)), (18, (g5, .buf 1 (List.map srw v6)))]⟩ ∧ spec_l03Line_O.j0 q_ v6 = some r) ?_ (fun hj0 => ?_)
  ·skip
   rintro _ ⟨q_, hqj0, rfl, h⟩
   cases q_ with
   | zero => exact absurd h (by simp [spec_l03Line_O.j0])
   | succ kj0 =>
   rw [spec_l03Line_O.j0] at h
   revert h
   refine go 2 ?_
   refine grs ?_
   refine gr_run ?_
   refine bind_e (fun v7 e7 => gr_call [(2000, (1, 73, 1)), (1000, (0, 18, g5))] (spec_l03Sort_b_O.con e7) ?_)
   clear e7
   refine gr_run ?_
   refine gr_done ?_
   refine ret_e (fun hr_ => ?_)
   subst hr_
   exact ret_ Try.func24 [(2000, (1, 73, 1))]
  ·refine bif_e (fun c2 => ?_) (fun c2 => ?_)
   ·refine bif_e (fun c3 => ?_) (fun c3 => ?_)
    ·refine bind_e (fun v8 e8 => ?_)
     refine bind_e (fun v9 e9 => ?_)
     replace e9 := nf_ (gx_en srw e9)
     refine go 6 ?_
     refine grs ?_
     refine gr_run ?_
     refine bind_e (fun v10 e10 => gr_call [] (spec_l03Type.con e10) ?_)
     clear e10
     refine gr_run ?_
     refine gr_done ?_
     refine bif_e (fun c4 => ?_) (fun c4 => ?_)
     ·refine go 6 ?_
      exact fun h => good_again hl0 (by omega) ⟨_, ⟨by omega, _, _, g5, rfl, h⟩, frle_, memle_⟩
     ·refine go 8 ?_
      refine fun h => good_loop (fun n st => n ≤ kl0 ∧ ∃ (v11 : _) (v13 : _) (g12 : Nat), st = ⟨[(2, .ptr 2 1 0), (5, .buf 18 g12 0 v13.length), (6, .p (.int .i64 v4)), (7, .p (.int .i64 v10)), (8, .p (.int .i64 v11))], [(2, (1, .cells [.p (.lst false (List.map en96 v0.f0)), .p (.lst false (List.map en99 v0.f1)), .p (.lst false (List.map en92 v0.f2)), .p (.bool v0.f3)])), (18, (g12, .buf 1 (List.map srw v13)))]⟩ ∧ spec_l03Line_O.l1 n v13 v4 v10 v11 v0 = some r) kl0 ⟨_, ⟨Nat.le_refl _, _, _, g5, rfl, h⟩, frle_, memle_⟩ ?_
      clear c2 c3 e8 e9 c4
      clear h
      rintro n _ ⟨hkl1, v11, v13, g12, rfl, h⟩ hl1
      cases n with
      | zero => exact absurd h (by simp [spec_l03Line_O.l1])
      | succ kl1 =>
      rw [spec_l03Line_O.l1] at h
      revert h
      refine bind_e (fun v14 e14 => ?_)
      replace e14 := nf_ (ix_en en96 e14)
      refine bif_e (fun c5 => ?_) (fun c5 => ?_)
      ·refine bind_e (fun v16 e16 => ?_)
       replace e16 := nf_ (ix_en srw e16)
       refine go 8 ?_
       refine grs ?_
       refine gr_run ?_
       refine bind_e (fun v17 e17 => gr_call [(1000, (0, 18, g12))] (spec_l01InTexts_bv.con e17) ?_)
       clear e17
       refine gr_run ?_
       refine gr_done ?_
       refine bif_e (fun c6 => ?_) (fun c6 => ?_)
       ·refine go 4 ?_
        exact fun h => good_again hl1 (by omega) ⟨_, ⟨by omega, _, _, g12, rfl, h⟩, frle_, memle_⟩
       ·refine bind_e (fun v20 e20 => ?_)
        replace e20 := nf_ (app_en srw e20)
        refine go 4 ?_
        exact fun h => good_again hl1 (by omega) ⟨_, ⟨by omega, _, _, g12 + 1, rfl, h⟩, frle_, memle_⟩
      ·refine go 7 ?_
       exact fun h => good_again hl0 (by omega) ⟨_, ⟨by omega, _, _, g12, rfl, h⟩, frle_, memle_⟩
    ·refine go 2 ?_
     exact fun h => good_jump hj0 ⟨_, ⟨_, by omega, rfl, h⟩, frle_, memle_⟩
   ·refine go 2 ?_
    exact fun h => good_jump hj0 ⟨_, ⟨_, by omega, rfl, h⟩, frle_, memle_⟩
def spec_LineOf_O.f (k : Nat) (v0 : S33) (v1 : ByteArray) : Option ((List ByteArray)) := (bif decide (65536 < (v1.size : Int)) then (some ([] : List ByteArray)) else ((spec_SchemaFault.f k v0).bind fun v2 => (bif (v2 == 0) then ((spec_l03Line_O.f k v0 v1).bind fun v3 => (some v3)) else (some ([] : List ByteArray)))))
set_option maxRecDepth 100000 in
set_option maxHeartbeats 4000000 in
theorem spec_LineOf_O.con {K : Kn} [KOk K] {k : Nat} {v0 : S33} {v1 : ByteArray} {r : (List ByteArray)} (h : spec_LineOf_O.f k v0 v1 = some r) : Con K Try.prog 6 [.agg [.p (.lst false (List.map en96 v0.f0)), .p (.lst false (List.map en99 v0.f1)), .p (.lst false (List.map en92 v0.f2)), .p (.bool v0.f3)], .p (.str v1)] [] (.buf 2000 1 0 r.length) [(2000, (1, .buf 1 (List.map srw r)))] := by
 rw [spec_LineOf_O.f] at h
 refine con_intro 17 [] Try.func6 (by kernel_rfl) rfl rfl (by kernel_rfl) fun ι0 w0 hk0 => ?_
 revert h
 refine bif_e (fun c1 => ?_) (fun c1 => ?_)
 ·refine go 8 ?_
  refine adoptB_ 4 2504 1 ?_
  refine ret_e (fun hr_ => ?_)
  subst hr_
  exact ret_ Try.func6 [(2000, (1, 2504, 1))]
 ·refine go 4 ?_
  refine grs ?_
  refine gr_run ?_
  refine bind_e (fun v2 e2 => gr_call [] (spec_SchemaFault.con e2) ?_)
  clear e2
  refine gr_run ?_
  refine gr_done ?_
  refine bif_e (fun c2 => ?_) (fun c2 => ?_)
  ·refine go 3 ?_
   refine grs ?_
   refine gr_run ?_
   refine bind_e (fun v3 e3 => gr_call [(2000, (1, 16, 1))] (spec_l03Line_O.con e3) ?_)
   clear e3
   refine gr_run ?_
   refine gr_done ?_
   refine ret_e (fun hr_ => ?_)
   subst hr_
   exact ret_ Try.func6 [(2000, (1, 16, 1))]
  ·refine go 3 ?_
   refine adoptB_ 4 2504 1 ?_
   refine ret_e (fun hr_ => ?_)
   subst hr_
   exact ret_ Try.func6 [(2000, (1, 2504, 1))]
end Go.Ab
