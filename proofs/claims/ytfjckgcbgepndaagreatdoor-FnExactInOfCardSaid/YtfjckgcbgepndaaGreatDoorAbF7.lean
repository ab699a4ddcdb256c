/- What the functions compute, and their contracts, part 7. No condition beyond KOk. -/
import Derived.Test.YtfjckgcbgepndaaGreatDoorAbX
import Derived.Test.YtfjckgcbgepndaaGreatDoorAbF5
import Derived.Test.YtfjckgcbgepndaaGreatDoorAbF6
namespace Go.Ab
open Go.Proofs
set_option linter.unusedVariables false
set_option linter.unusedSimpArgs false
mutual
def impl_compareTexts.l0 : Nat → (List ByteArray) → (List ByteArray) → Int → Int → Option (Int)
 | 0, _, _, _, _ => none
 | k + 1, v0, v1, v2, v3 => (bif decide (v3 < v2) then ((ix v0 v3).bind fun v6 => ((impl_read.f k v6).bind fun v7 => ((ix v1 v3).bind fun v8 => ((impl_read.f k v8).bind fun v9 => ((impl_order.f k v7.1 v9.1).bind fun v10 => (bif (v10 == 0) then (impl_compareTexts.l0 k v0 v1 v2 (IntKind.i64.wrap (v3 + 1))) else (some v10))))))) else (some 0))
def impl_compareTexts.f : Nat → (List ByteArray) → (List ByteArray) → Int → Option (Int)
 | 0, _, _, _ => none
 | k + 1, v0, v1, v2 => (impl_compareTexts.l0 k v0 v1 v2 0)
end
set_option maxRecDepth 100000 in
set_option maxHeartbeats 4000000 in
theorem impl_compareTexts.con {K : Kn} [KOk K] {k : Nat} {v0 : (List ByteArray)} {v1 : (List ByteArray)} {v2 : Int} {r : Int} (h : impl_compareTexts.f k v0 v1 v2 = some r) : Con K Tryz.prog 68 [.p (.lst false (List.map srw v0)), .p (.lst false (List.map srw v1)), .p (.int .i64 v2)] [] (.p (.int .i64 r)) [] := by
 cases k with
 | zero => exact absurd h (by simp [impl_compareTexts.f])
 | succ k =>
 rw [impl_compareTexts.f] at h
 refine con_intro 40 [] Tryz.func68 (by kernel_rfl) rfl rfl (by kernel_rfl) fun ι0 w0 hk0 => ?_
 revert h
 refine go 6 ?_
 refine fun h => good_loop (fun n st => n ≤ k ∧ ∃ (v3 : _) (g4 : Nat) (g5 : Nat), st = ⟨[(0, .p (.lst false (List.map srw v0))), (1, .p (.lst false (List.map srw v1))), (2, .p (.int .i64 v2)), (7, .p (.int .i64 v3))], [(8, (g4, .gone)), (10, (g5, .gone))]⟩ ∧ impl_compareTexts.l0 n v0 v1 v2 v3 = some r) k ⟨_, ⟨Nat.le_refl _, _, 0, 0, rfl, h⟩, frle_, memle_⟩ ?_
 clear h
 rintro n _ ⟨hkl0, v3, g4, g5, rfl, h⟩ hl0
 cases n with
 | zero => exact absurd h (by simp [impl_compareTexts.l0])
 | succ kl0 =>
 rw [impl_compareTexts.l0] at h
 revert h
 refine bif_e (fun c1 => ?_) (fun c1 => ?_)
 ·refine bind_e (fun v6 e6 => ?_)
  replace e6 := nf_ (ix_en srw e6)
  refine go 8 ?_
  refine grs ?_
  refine gr_run ?_
  refine bind_e (fun v7 e7 => gr_call [] (impl_read.con e7) ?_)
  clear e7
  refine gr_run ?_
  refine gr_done ?_
  refine bind_e (fun v8 e8 => ?_)
  replace e8 := nf_ (ix_en srw e8)
  refine go 1 ?_
  refine grs ?_
  refine gr_run ?_
  refine bind_e (fun v9 e9 => gr_call [] (impl_read.con e9) ?_)
  clear e9
  refine gr_run ?_
  refine gr_done ?_
  refine go 1 ?_
  refine grs ?_
  refine gr_run ?_
  refine bind_e (fun v10 e10 => gr_call [] (impl_order.con e10) ?_)
  clear e10
  refine gr_run ?_
  refine gr_done ?_
  refine bif_e (fun c2 => ?_) (fun c2 => ?_)
  ·refine go 6 ?_
   exact fun h => good_again hl0 (by omega) ⟨_, ⟨by omega, _, g4 + 1, g5 + 1, rfl, h⟩, frle_, memle_⟩
  ·refine go 5 ?_
   refine ret_e (fun hr_ => ?_)
   subst hr_
   exact ret_ Tryz.func68 []
 ·refine go 7 ?_
  refine ret_e (fun hr_ => ?_)
  subst hr_
  exact ret_ Tryz.func68 []
def impl_entryOrder.f (k : Nat) (v0 : S73) (v1 : S73) : Option (Int) := ((impl_compareTexts.f k v0.f0 v1.f0 (v0.f0.length : Int)).bind fun v2 => (bif (v2 == 0) then ((impl_sign.f k v0.f1 v1.f1).bind fun v3 => (some v3)) else (some v2)))
set_option maxRecDepth 100000 in
set_option maxHeartbeats 4000000 in
theorem impl_entryOrder.con {K : Kn} [KOk K] {k : Nat} {v0 : S73} {v1 : S73} {r : Int} (h : impl_entryOrder.f k v0 v1 = some r) : Con K Tryz.prog 101 [.agg [.p (.lst false (List.map srw v0.f0)), .p (.int .i64 v0.f1)], .agg [.p (.lst false (List.map srw v1.f0)), .p (.int .i64 v1.f1)]] [] (.p (.int .i64 r)) [] := by
 rw [impl_entryOrder.f] at h
 refine con_intro 22 [] Tryz.func101 (by kernel_rfl) rfl rfl (by kernel_rfl) fun ι0 w0 hk0 => ?_
 revert h
 refine go 4 ?_
 refine grs ?_
 refine gr_run ?_
 refine bind_e (fun v2 e2 => gr_call [] (impl_compareTexts.con e2) ?_)
 clear e2
 refine gr_run ?_
 refine gr_done ?_
 refine bif_e (fun c1 => ?_) (fun c1 => ?_)
 ·refine go 5 ?_
  refine grs ?_
  refine gr_run ?_
  refine bind_e (fun v3 e3 => gr_call [] (impl_sign.con e3) ?_)
  clear e3
  refine gr_run ?_
  refine gr_done ?_
  refine ret_e (fun hr_ => ?_)
  subst hr_
  exact ret_ Tryz.func101 []
 ·refine go 5 ?_
  refine ret_e (fun hr_ => ?_)
  subst hr_
  exact ret_ Tryz.func101 []
mutual
def impl_indexOk.l0 : Nat → (List S73) → Int → (List (Int × Int)) → Option (Bool)
 | 0, _, _, _ => none
 | k + 1, v0, v1, v2 => (bif decide (v1 < (v0.length : Int)) then ((ix v0 v1).bind fun v4 => (bif decide ((v4.f0.length : Int) < 1) then (some false) else (bif decide (3 < (v4.f0.length : Int)) then (some false) else ((ix v0 0).bind fun v5 => (bif ((v4.f0.length : Int) == (v5.f0.length : Int)) then ((impl_valuesOk.f k v4.f0).bind fun v6 => (bif v6 then (bif decide (1 < (tget (tput v2 v4.f1 (IntKind.i64.wrap ((tget v2 v4.f1 0) + 1))) v4.f1 0)) then (some false) else (bif decide (0 < v1) then ((ix v0 (IntKind.i64.wrap (v1 - 1))).bind fun v7 => ((impl_entryOrder.f k v7 v4).bind fun v8 => (bif decide (0 ≤ v8) then (some false) else (impl_indexOk.l0 k v0 (IntKind.i64.wrap (v1 + 1)) (tput v2 v4.f1 (IntKind.i64.wrap ((tget v2 v4.f1 0) + 1))))))) else (impl_indexOk.l0 k v0 (IntKind.i64.wrap (v1 + 1)) (tput v2 v4.f1 (IntKind.i64.wrap ((tget v2 v4.f1 0) + 1)))))) else (some false))) else (some false)))))) else (some true))
def impl_indexOk.f : Nat → (List S73) → Option (Bool)
 | 0, _ => none
 | k + 1, v0 => (impl_indexOk.l0 k v0 0 ([] : List (Int × Int)))
end
set_option maxRecDepth 100000 in
set_option maxHeartbeats 4000000 in
theorem impl_indexOk.con {K : Kn} [KOk K] {k : Nat} {v0 : (List S73)} {r : Bool} (h : impl_indexOk.f k v0 = some r) : Con K Tryz.prog 63 [.p (.lst false (List.map en73 v0))] [] (.p (.bool r)) [] := by
 cases k with
 | zero => exact absurd h (by simp [impl_indexOk.f])
 | succ k =>
 rw [impl_indexOk.f] at h
 refine con_intro 68 [] Tryz.func63 (by kernel_rfl) rfl rfl (by kernel_rfl) fun ι0 w0 hk0 => ?_
 revert h
 refine go 8 ?_
 refine fun h => good_loop (fun n st => n ≤ k ∧ ∃ (v1 : _) (v2 : _) (g3 : Nat), st = ⟨[(0, .p (.lst false (List.map en73 v0))), (3, .mp 6 1), (7, .p (.lst false (List.map en73 v0))), (8, .p (.int .i64 (v0.length : Int))), (9, .p (.int .i64 v1))], [(6, (1, .map (.int .i64) false (List.map (ei .i64 (irow .i64)) v2))), (5, (g3, .gone))]⟩ ∧ impl_indexOk.l0 n v0 v1 v2 = some r) k ⟨_, ⟨Nat.le_refl _, _, _, 0, rfl, h⟩, frle_, memle_⟩ ?_
 clear h
 rintro n _ ⟨hkl0, v1, v2, g3, rfl, h⟩ hl0
 cases n with
 | zero => exact absurd h (by simp [impl_indexOk.l0])
 | succ kl0 =>
 rw [impl_indexOk.l0] at h
 revert h
 refine bif_e (fun c1 => ?_) (fun c1 => ?_)
 ·refine bind_e (fun v4 e4 => ?_)
  replace e4 := nf_ (ix_en en73 e4)
  refine bif_e (fun c2 => ?_) (fun c2 => ?_)
  ·refine go 12 ?_
   refine grs ?_
   refine gr_run ?_
   refine gr_done ?_
   refine go 3 ?_
   refine ret_e (fun hr_ => ?_)
   subst hr_
   exact ret_ Tryz.func63 []
  ·refine bif_e (fun c3 => ?_) (fun c3 => ?_)
   ·refine go 12 ?_
    refine grs ?_
    refine gr_run ?_
    refine gr_done ?_
    refine go 3 ?_
    refine ret_e (fun hr_ => ?_)
    subst hr_
    exact ret_ Tryz.func63 []
   ·refine bind_e (fun v5 e5 => ?_)
    replace e5 := nf_ (ix_en en73 e5)
    refine bif_e (fun c4 => ?_) (fun c4 => ?_)
    ·refine go 12 ?_
     refine grs ?_
     refine gr_run ?_
     refine bind_e (fun v6 e6 => gr_call [] (impl_valuesOk.con e6) ?_)
     clear e6
     refine bif_e (fun c5 => ?_) (fun c5 => ?_)
     ·refine bif_e (fun c6 => ?_) (fun c6 => ?_)
      ·refine gr_run ?_
       refine gr_done ?_
       refine go 3 ?_
       refine ret_e (fun hr_ => ?_)
       subst hr_
       exact ret_ Tryz.func63 []
      ·refine bif_e (fun c7 => ?_) (fun c7 => ?_)
       ·refine bind_e (fun v7 e7 => ?_)
        replace e7 := nf_ (ix_en en73 e7)
        refine gr_run ?_
        refine bind_e (fun v8 e8 => gr_call [] (impl_entryOrder.con e8) ?_)
        clear e8
        refine gr_run ?_
        refine gr_done ?_
        refine bif_e (fun c8 => ?_) (fun c8 => ?_)
        ·refine go 3 ?_
         refine ret_e (fun hr_ => ?_)
         subst hr_
         exact ret_ Tryz.func63 []
        ·refine go 4 ?_
         exact fun h => good_again hl0 (by omega) ⟨_, ⟨by omega, _, _, g3 + 1, rfl, h⟩, frle_, memle_⟩
       ·refine gr_run ?_
        refine gr_done ?_
        refine go 4 ?_
        exact fun h => good_again hl0 (by omega) ⟨_, ⟨by omega, _, _, g3 + 1, rfl, h⟩, frle_, memle_⟩
     ·refine gr_run ?_
      refine gr_done ?_
      refine go 3 ?_
      refine ret_e (fun hr_ => ?_)
      subst hr_
      exact ret_ Tryz.func63 []
    ·refine go 12 ?_
     refine grs ?_
     refine gr_run ?_
     refine gr_done ?_
     refine go 3 ?_
     refine ret_e (fun hr_ => ?_)
     subst hr_
     exact ret_ Tryz.func63 []
 ·refine go 7 ?_
  refine ret_e (fun hr_ => ?_)
  subst hr_
  exact ret_ Tryz.func63 []
def impl_IndexFault.f (k : Nat) (v0 : (List S73)) : Option (Int) := (bif decide (1000 < (v0.length : Int)) then (some 1) else ((impl_indexOk.f k v0).bind fun v1 => (bif v1 then (some 0) else (some 1))))
set_option maxRecDepth 100000 in
set_option maxHeartbeats 4000000 in
theorem impl_IndexFault.con {K : Kn} [KOk K] {k : Nat} {v0 : (List S73)} {r : Int} (h : impl_IndexFault.f k v0 = some r) : Con K Tryz.prog 17 [.p (.lst false (List.map en73 v0))] [] (.p (.int .i64 r)) [] := by
 rw [impl_IndexFault.f] at h
 refine con_intro 11 [] Tryz.func17 (by kernel_rfl) rfl rfl (by kernel_rfl) fun ι0 w0 hk0 => ?_
 revert h
 refine bif_e (fun c1 => ?_) (fun c1 => ?_)
 ·refine go 8 ?_
  refine ret_e (fun hr_ => ?_)
  subst hr_
  exact ret_ Tryz.func17 []
 ·refine go 4 ?_
  refine grs ?_
  refine gr_run ?_
  refine bind_e (fun v1 e1 => gr_call [] (impl_indexOk.con e1) ?_)
  clear e1
  refine gr_run ?_
  refine gr_done ?_
  refine bif_e (fun c2 => ?_) (fun c2 => ?_)
  ·refine go 4 ?_
   refine ret_e (fun hr_ => ?_)
   subst hr_
   exact ret_ Tryz.func17 []
  ·refine go 3 ?_
   refine ret_e (fun hr_ => ?_)
   subst hr_
   exact ret_ Tryz.func17 []
def impl_endOk.f (k : Nat) (v0 : (List S73)) (v1 : (List ByteArray)) : Option (Bool) := (bif decide ((v1.length : Int) ≤ 3) then (bif ((v0.length : Int) == 0) then ((impl_valuesOk.f k v1).bind fun v2 => (some v2)) else ((ix v0 0).bind fun v3 => (bif decide ((v1.length : Int) ≤ (v3.f0.length : Int)) then ((impl_valuesOk.f k v1).bind fun v4 => (some v4)) else (some false)))) else (some false))
set_option maxRecDepth 100000 in
set_option maxHeartbeats 4000000 in
theorem impl_endOk.con {K : Kn} [KOk K] {k : Nat} {v0 : (List S73)} {v1 : (List ByteArray)} {r : Bool} (h : impl_endOk.f k v0 v1 = some r) : Con K Tryz.prog 67 [.p (.lst false (List.map en73 v0)), .p (.lst false (List.map srw v1))] [] (.p (.bool r)) [] := by
 rw [impl_endOk.f] at h
 refine con_intro 27 [] Tryz.func67 (by kernel_rfl) rfl rfl (by kernel_rfl) fun ι0 w0 hk0 => ?_
 revert h
 refine bif_e (fun c1 => ?_) (fun c1 => ?_)
 ·refine bif_e (fun c2 => ?_) (fun c2 => ?_)
  ·refine go 3 ?_
   refine grs ?_
   refine gr_run ?_
   refine bind_e (fun v2 e2 => gr_call [] (impl_valuesOk.con e2) ?_)
   clear e2
   refine gr_run ?_
   refine gr_done ?_
   refine ret_e (fun hr_ => ?_)
   subst hr_
   exact ret_ Tryz.func67 []
  ·refine bind_e (fun v3 e3 => ?_)
   replace e3 := nf_ (ix_en en73 e3)
   refine bif_e (fun c3 => ?_) (fun c3 => ?_)
   ·refine go 3 ?_
    refine grs ?_
    refine gr_run ?_
    refine bind_e (fun v4 e4 => gr_call [] (impl_valuesOk.con e4) ?_)
    clear e4
    refine gr_run ?_
    refine gr_done ?_
    refine ret_e (fun hr_ => ?_)
    subst hr_
    exact ret_ Tryz.func67 []
   ·refine go 4 ?_
    refine ret_e (fun hr_ => ?_)
    subst hr_
    exact ret_ Tryz.func67 []
 ·refine go 4 ?_
  refine ret_e (fun hr_ => ?_)
  subst hr_
  exact ret_ Tryz.func67 []
mutual
def impl_FindFirst.l0 : Nat → (List S73) → (List ByteArray) → Int → Option (Int)
 | 0, _, _, _ => none
 | k + 1, v0, v1, v4 => (bif decide (v4 < (v0.length : Int)) then ((ix v0 v4).bind fun v6 => ((impl_compareTexts.f k v6.f0 v1 (v1.length : Int)).bind fun v7 => (bif decide (0 ≤ v7) then (some v4) else (impl_FindFirst.l0 k v0 v1 (IntKind.i64.wrap (v4 + 1)))))) else (some (v0.length : Int)))
def impl_FindFirst.f : Nat → (List S73) → (List ByteArray) → Option (Int)
 | 0, _, _ => none
 | k + 1, v0, v1 => (bif decide (1000 < (v0.length : Int)) then (some (-1)) else ((impl_indexOk.f k v0).bind fun v2 => (bif v2 then ((impl_endOk.f k v0 v1).bind fun v3 => (bif v3 then (impl_FindFirst.l0 k v0 v1 0) else (some (-1)))) else (some (-1)))))
end
set_option maxRecDepth 100000 in
set_option maxHeartbeats 4000000 in
theorem impl_FindFirst.con {K : Kn} [KOk K] {k : Nat} {v0 : (List S73)} {v1 : (List ByteArray)} {r : Int} (h : impl_FindFirst.f k v0 v1 = some r) : Con K Tryz.prog 22 [.p (.lst false (List.map en73 v0)), .p (.lst false (List.map srw v1))] [] (.p (.int .i64 r)) [] := by
 cases k with
 | zero => exact absurd h (by simp [impl_FindFirst.f])
 | succ k =>
 rw [impl_FindFirst.f] at h
 refine con_intro 39 [] Tryz.func22 (by kernel_rfl) rfl rfl (by kernel_rfl) fun ι0 w0 hk0 => ?_
 revert h
 refine bif_e (fun c1 => ?_) (fun c1 => ?_)
 ·refine go 8 ?_
  refine ret_e (fun hr_ => ?_)
  subst hr_
  exact ret_ Tryz.func22 []
 ·refine go 4 ?_
  refine grs ?_
  refine gr_run ?_
  refine bind_e (fun v2 e2 => gr_call [] (impl_indexOk.con e2) ?_)
  clear e2
  refine bif_e (fun c2 => ?_) (fun c2 => ?_)
  ·refine gr_run ?_
   refine bind_e (fun v3 e3 => gr_call [] (impl_endOk.con e3) ?_)
   clear e3
   refine gr_run ?_
   refine gr_done ?_
   refine bif_e (fun c3 => ?_) (fun c3 => ?_)
   ·refine go 6 ?_
    refine fun h => good_loop (fun n st => n ≤ k ∧ ∃ (v4 : _) (g5 : Nat), st = ⟨[(0, .p (.lst false (List.map en73 v0))), (1, .p (.lst false (List.map srw v1))), (21, .p (.lst false (List.map en73 v0))), (22, .p (.int .i64 (v0.length : Int))), (23, .p (.int .i64 v4))], [(6, (g5, .gone))]⟩ ∧ impl_FindFirst.l0 n v0 v1 v4 = some r) k ⟨_, ⟨Nat.le_refl _, _, 0, rfl, h⟩, frle_, memle_⟩ ?_
    clear c1 c2 c3
    clear h
    rintro n _ ⟨hkl0, v4, g5, rfl, h⟩ hl0
    cases n with
    | zero => exact absurd h (by simp [impl_FindFirst.l0])
    | succ kl0 =>
    rw [impl_FindFirst.l0] at h
    revert h
    refine bif_e (fun c4 => ?_) (fun c4 => ?_)
    ·refine bind_e (fun v6 e6 => ?_)
     replace e6 := nf_ (ix_en en73 e6)
     refine go 10 ?_
     refine grs ?_
     refine gr_run ?_
     refine bind_e (fun v7 e7 => gr_call [] (impl_compareTexts.con e7) ?_)
     clear e7
     refine gr_run ?_
     refine gr_done ?_
     refine bif_e (fun c5 => ?_) (fun c5 => ?_)
     ·refine go 3 ?_
      refine ret_e (fun hr_ => ?_)
      subst hr_
      exact ret_ Tryz.func22 []
     ·refine go 4 ?_
      exact fun h => good_again hl0 (by omega) ⟨_, ⟨by omega, _, g5 + 1, rfl, h⟩, frle_, memle_⟩
    ·refine go 7 ?_
     refine ret_e (fun hr_ => ?_)
     subst hr_
     exact ret_ Tryz.func22 []
   ·refine go 3 ?_
    refine ret_e (fun hr_ => ?_)
    subst hr_
    exact ret_ Tryz.func22 []
  ·refine gr_run ?_
   refine gr_done ?_
   refine go 3 ?_
   refine ret_e (fun hr_ => ?_)
   subst hr_
   exact ret_ Tryz.func22 []
mutual
def impl_FindRange_O.l0 : Nat → (List ByteArray) → (List ByteArray) → Bool → Bool → (List Int) → (List S73) → Int → Option ((List Int))
 | 0, _, _, _, _, _, _, _ => none
 | k + 1, v1, v2, v8, v9, v13, v0, v10 => (bif decide (v10 < (v0.length : Int)) then ((ix v0 v10).bind fun v14 => ((impl_compareTexts.f k v14.f0 v1 (v1.length : Int)).bind fun v15 => ((impl_compareTexts.f k v14.f0 v2 (v2.length : Int)).bind fun v16 => (bif decide (0 < (v1.length : Int)) then (bif decide (v15 < 0) then (impl_FindRange_O.l0 k v1 v2 v8 v9 v13 v0 (IntKind.i64.wrap (v10 + 1))) else (bif (v15 == 0) then (bif v8 then (bif decide (0 < (v2.length : Int)) then (bif decide (0 < v16) then (impl_FindRange_O.l0 k v1 v2 true v9 v13 v0 (IntKind.i64.wrap (v10 + 1))) else (bif (v16 == 0) then (bif v9 then ((app v13 ([v14.f1] : List Int)).bind fun v17 => (impl_FindRange_O.l0 k v1 v2 true true v17 v0 (IntKind.i64.wrap (v10 + 1)))) else (impl_FindRange_O.l0 k v1 v2 true false v13 v0 (IntKind.i64.wrap (v10 + 1)))) else ((app v13 ([v14.f1] : List Int)).bind fun v18 => (impl_FindRange_O.l0 k v1 v2 true v9 v18 v0 (IntKind.i64.wrap (v10 + 1)))))) else ((app v13 ([v14.f1] : List Int)).bind fun v19 => (impl_FindRange_O.l0 k v1 v2 true v9 v19 v0 (IntKind.i64.wrap (v10 + 1))))) else (impl_FindRange_O.l0 k v1 v2 false v9 v13 v0 (IntKind.i64.wrap (v10 + 1)))) else (bif decide (0 < (v2.length : Int)) then (bif decide (0 < v16) then (impl_FindRange_O.l0 k v1 v2 v8 v9 v13 v0 (IntKind.i64.wrap (v10 + 1))) else (bif (v16 == 0) then (bif v9 then ((app v13 ([v14.f1] : List Int)).bind fun v20 => (impl_FindRange_O.l0 k v1 v2 v8 true v20 v0 (IntKind.i64.wrap (v10 + 1)))) else (impl_FindRange_O.l0 k v1 v2 v8 false v13 v0 (IntKind.i64.wrap (v10 + 1)))) else ((app v13 ([v14.f1] : List Int)).bind fun v21 => (impl_FindRange_O.l0 k v1 v2 v8 v9 v21 v0 (IntKind.i64.wrap (v10 + 1)))))) else ((app v13 ([v14.f1] : List Int)).bind fun v22 => (impl_FindRange_O.l0 k v1 v2 v8 v9 v22 v0 (IntKind.i64.wrap (v10 + 1))))))) else (bif decide (0 < (v2.length : Int)) then (bif decide (0 < v16) then (impl_FindRange_O.l0 k v1 v2 v8 v9 v13 v0 (IntKind.i64.wrap (v10 + 1))) else (bif (v16 == 0) then (bif v9 then ((app v13 ([v14.f1] : List Int)).bind fun v23 => (impl_FindRange_O.l0 k v1 v2 v8 true v23 v0 (IntKind.i64.wrap (v10 + 1)))) else (impl_FindRange_O.l0 k v1 v2 v8 false v13 v0 (IntKind.i64.wrap (v10 + 1)))) else ((app v13 ([v14.f1] : List Int)).bind fun v24 => (impl_FindRange_O.l0 k v1 v2 v8 v9 v24 v0 (IntKind.i64.wrap (v10 + 1)))))) else ((app v13 ([v14.f1] : List Int)).bind fun v25 => (impl_FindRange_O.l0 k v1 v2 v8 v9 v25 v0 (IntKind.i64.wrap (v10 + 1))))))))) else (some v13))
def impl_FindRange_O.f : Nat → (List S73) → (List ByteArray) → (List ByteArray) → Bool → Bool → Option ((List Int))
 | 0, _, _, _, _, _ => none
 | k + 1, v0, v1, v2, v3, v4 => (bif decide (1000 < (v0.length : Int)) then (some ([] : List Int)) else ((impl_indexOk.f k v0).bind fun v5 => (bif v5 then ((impl_endOk.f k v0 v1).bind fun v6 => (bif v6 then ((impl_endOk.f k v0 v2).bind fun v7 => (bif v7 then (impl_FindRange_O.l0 k v1 v2 v3 v4 [] v0 0) else (some ([] : List Int)))) else (some ([] : List Int)))) else (some ([] : List Int)))))
end
set_option maxRecDepth 100000 in
set_option maxHeartbeats 4000000 in
theorem impl_FindRange_O.con {K : Kn} [KOk K] {k : Nat} {v0 : (List S73)} {v1 : (List ByteArray)} {v2 : (List ByteArray)} {v3 : Bool} {v4 : Bool} {r : (List Int)} (h : impl_FindRange_O.f k v0 v1 v2 v3 v4 = some r) : Con K Tryz.prog 25 [.p (.lst false (List.map en73 v0)), .p (.lst false (List.map srw v1)), .p (.lst false (List.map srw v2)), .p (.bool v3), .p (.bool v4)] [] (.buf 2000 1 0 r.length) [(2000, (1, .buf 1 (List.map (irow .i64) r)))] := by
 cases k with
 | zero => exact absurd h (by simp [impl_FindRange_O.f])
 | succ k =>
 rw [impl_FindRange_O.f] at h
 refine con_intro 93 [90] Tryz.func25 (by kernel_rfl) rfl rfl (by kernel_rfl) fun ι0 w0 hk0 => ?_
 revert h
 refine bif_e (fun c1 => ?_) (fun c1 => ?_)
 ·refine go 8 ?_
  refine adoptB_ 10 2510 1 ?_
  refine ret_e (fun hr_ => ?_)
  subst hr_
  exact ret_ Tryz.func25 [(2000, (1, 2510, 1))]
 ·refine go 4 ?_
  refine grs ?_
  refine gr_run ?_
  refine bind_e (fun v5 e5 => gr_call [] (impl_indexOk.con e5) ?_)
  clear e5
  refine bif_e (fun c2 => ?_) (fun c2 => ?_)
  ·refine gr_run ?_
   refine bind_e (fun v6 e6 => gr_call [] (impl_endOk.con e6) ?_)
   clear e6
   refine bif_e (fun c3 => ?_) (fun c3 => ?_)
   ·refine gr_run ?_
    refine bind_e (fun v7 e7 => gr_call [] (impl_endOk.con e7) ?_)
    clear e7
    refine gr_run ?_
    refine gr_done ?_
    refine bif_e (fun c4 => ?_) (fun c4 => ?_)
    ·refine go 8 ?_
     refine adoptB_ 11 90 1 ?_
     refine fun h => good_loop (fun n st => n ≤ k ∧ ∃ (v8 : _) (v9 : _) (v10 : _) (v13 : _) (g11 : Nat) (g12 : Nat), st = ⟨[(1, .p (.lst false (List.map srw v1))), (2, .p (.lst false (List.map srw v2))), (3, .p (.bool v8)), (4, .p (.bool v9)), (11, .buf 90 g12 0 v13.length), (36, .p (.lst false (List.map en73 v0))), (37, .p (.int .i64 (v0.length : Int))), (38, .p (.int .i64 v10))], [(13, (g11, .gone)), (90, (g12, .buf 1 (List.map (irow .i64) v13)))]⟩ ∧ impl_FindRange_O.l0 n v1 v2 v8 v9 v13 v0 v10 = some r) k ⟨_, ⟨Nat.le_refl _, _, _, _, _, 0, 1, rfl, h⟩, frle_, memle_⟩ ?_
     clear c1 c2 c3 c4
     clear h
     rintro n _ ⟨hkl0, v8, v9, v10, v13, g11, g12, rfl, h⟩ hl0
     cases n with
     | zero => exact absurd h (by simp [impl_FindRange_O.l0])
     | succ kl0 =>
     rw [impl_FindRange_O.l0] at h
     revert h
     refine bif_e (fun c5 => ?_) (fun c5 => ?_)
     ·refine bind_e (fun v14 e14 => ?_)
      replace e14 := nf_ (ix_en en73 e14)
      refine go 10 ?_
      refine grs ?_
      refine gr_run ?_
      refine bind_e (fun v15 e15 => gr_call [] (impl_compareTexts.con e15) ?_)
      clear e15
      refine gr_run ?_
      refine gr_done ?_
      refine go 1 ?_
      refine grs ?_
      refine gr_run ?_
      refine bind_e (fun v16 e16 => gr_call [] (impl_compareTexts.con e16) ?_)
      clear e16
      refine gr_run ?_
      refine gr_done ?_
      refine bif_e (fun c6 => ?_) (fun c6 => ?_)
      ·refine bif_e (fun c7 => ?_) (fun c7 => ?_)
       ·refine go 6 ?_
        exact fun h => good_again hl0 (by omega) ⟨_, ⟨by omega, _, _, _, _, g11 + 1, g12, rfl, h⟩, frle_, memle_⟩
       ·refine bif_e (fun c8 => ?_) (fun c8 => ?_)
        ·refine bif_e (fun c9 => ?_) (fun c9 => ?_)
         ·refine bif_e (fun c10 => ?_) (fun c10 => ?_)
          ·refine bif_e (fun c11 => ?_) (fun c11 => ?_)
           ·refine go 6 ?_
            exact fun h => good_again hl0 (by omega) ⟨_, ⟨by omega, _, _, _, _, g11 + 1, g12, rfl, h⟩, frle_, memle_⟩
           ·refine bif_e (fun c12 => ?_) (fun c12 => ?_)
            ·refine bif_e (fun c13 => ?_) (fun c13 => ?_)
             ·refine bind_e (fun v17 e17 => ?_)
              replace e17 := nf_ (app_en (irow .i64) e17)
              refine go 8 ?_
              exact fun h => good_again hl0 (by omega) ⟨_, ⟨by omega, _, _, _, _, g11 + 1, g12 + 1, rfl, h⟩, frle_, memle_⟩
             ·refine go 6 ?_
              exact fun h => good_again hl0 (by omega) ⟨_, ⟨by omega, _, _, _, _, g11 + 1, g12, rfl, h⟩, frle_, memle_⟩
            ·refine bind_e (fun v18 e18 => ?_)
             replace e18 := nf_ (app_en (irow .i64) e18)
             refine go 8 ?_
             exact fun h => good_again hl0 (by omega) ⟨_, ⟨by omega, _, _, _, _, g11 + 1, g12 + 1, rfl, h⟩, frle_, memle_⟩
          ·refine bind_e (fun v19 e19 => ?_)
           replace e19 := nf_ (app_en (irow .i64) e19)
           refine go 8 ?_
           exact fun h => good_again hl0 (by omega) ⟨_, ⟨by omega, _, _, _, _, g11 + 1, g12 + 1, rfl, h⟩, frle_, memle_⟩
         ·refine go 6 ?_
          exact fun h => good_again hl0 (by omega) ⟨_, ⟨by omega, _, _, _, _, g11 + 1, g12, rfl, h⟩, frle_, memle_⟩
        ·refine bif_e (fun c14 => ?_) (fun c14 => ?_)
         ·refine bif_e (fun c15 => ?_) (fun c15 => ?_)
          ·refine go 6 ?_
           exact fun h => good_again hl0 (by omega) ⟨_, ⟨by omega, _, _, _, _, g11 + 1, g12, rfl, h⟩, frle_, memle_⟩
          ·refine bif_e (fun c16 => ?_) (fun c16 => ?_)
           ·refine bif_e (fun c17 => ?_) (fun c17 => ?_)
            ·refine bind_e (fun v20 e20 => ?_)
             replace e20 := nf_ (app_en (irow .i64) e20)
             refine go 8 ?_
             exact fun h => good_again hl0 (by omega) ⟨_, ⟨by omega, _, _, _, _, g11 + 1, g12 + 1, rfl, h⟩, frle_, memle_⟩
            ·refine go 6 ?_
             exact fun h => good_again hl0 (by omega) ⟨_, ⟨by omega, _, _, _, _, g11 + 1, g12, rfl, h⟩, frle_, memle_⟩
           ·refine bind_e (fun v21 e21 => ?_)
            replace e21 := nf_ (app_en (irow .i64) e21)
            refine go 8 ?_
            exact fun h => good_again hl0 (by omega) ⟨_, ⟨by omega, _, _, _, _, g11 + 1, g12 + 1, rfl, h⟩, frle_, memle_⟩
         ·refine bind_e (fun v22 e22 => ?_)
          replace e22 := nf_ (app_en (irow .i64) e22)
          refine go 8 ?_
          exact fun h => good_again hl0 (by omega) ⟨_, ⟨by omega, _, _, _, _, g11 + 1, g12 + 1, rfl, h⟩, frle_, memle_⟩
      ·refine bif_e (fun c18 => ?_) (fun c18 => ?_)
       ·refine bif_e (fun c19 => ?_) (fun c19 => ?_)
        ·refine go 6 ?_
         exact fun h => good_again hl0 (by omega) ⟨_, ⟨by omega, _, _, _, _, g11 + 1, g12, rfl, h⟩, frle_, memle_⟩
        ·refine bif_e (fun c20 => ?_) (fun c20 => ?_)
         ·refine bif_e (fun c21 => ?_) (fun c21 => ?_)
          ·refine bind_e (fun v23 e23 => ?_)
           replace e23 := nf_ (app_en (irow .i64) e23)
           refine go 8 ?_
           exact fun h => good_again hl0 (by omega) ⟨_, ⟨by omega, _, _, _, _, g11 + 1, g12 + 1, rfl, h⟩, frle_, memle_⟩
          ·refine go 6 ?_
           exact fun h => good_again hl0 (by omega) ⟨_, ⟨by omega, _, _, _, _, g11 + 1, g12, rfl, h⟩, frle_, memle_⟩
         ·refine bind_e (fun v24 e24 => ?_)
          replace e24 := nf_ (app_en (irow .i64) e24)
          refine go 8 ?_
          exact fun h => good_again hl0 (by omega) ⟨_, ⟨by omega, _, _, _, _, g11 + 1, g12 + 1, rfl, h⟩, frle_, memle_⟩
       ·refine bind_e (fun v25 e25 => ?_)
        replace e25 := nf_ (app_en (irow .i64) e25)
        refine go 8 ?_
        exact fun h => good_again hl0 (by omega) ⟨_, ⟨by omega, _, _, _, _, g11 + 1, g12 + 1, rfl, h⟩, frle_, memle_⟩
     ·refine go 7 ?_
      refine ret_e (fun hr_ => ?_)
      subst hr_
      exact ret_ Tryz.func25 [(2000, (1, 90, g12))]
    ·refine go 3 ?_
     refine adoptB_ 10 2510 1 ?_
     refine ret_e (fun hr_ => ?_)
     subst hr_
     exact ret_ Tryz.func25 [(2000, (1, 2510, 1))]
   ·refine gr_run ?_
    refine gr_done ?_
    refine go 3 ?_
    refine adoptB_ 10 2510 1 ?_
    refine ret_e (fun hr_ => ?_)
    subst hr_
    exact ret_ Tryz.func25 [(2000, (1, 2510, 1))]
  ·refine gr_run ?_
   refine gr_done ?_
   refine go 3 ?_
   refine adoptB_ 10 2510 1 ?_
   refine ret_e (fun hr_ => ?_)
   subst hr_
   exact ret_ Tryz.func25 [(2000, (1, 2510, 1))]
def impl_idOk.f (k : Nat) (v0 : Int) : Option (Bool) := (bif decide (1 ≤ v0) then (some (decide (v0 ≤ 1000000000000))) else (some false))
set_option maxRecDepth 100000 in
set_option maxHeartbeats 4000000 in
theorem impl_idOk.con {K : Kn} [KOk K] {k : Nat} {v0 : Int} {r : Bool} (h : impl_idOk.f k v0 = some r) : Con K Tryz.prog 148 [.p (.int .i64 v0)] [] (.p (.bool r)) [] := by
 rw [impl_idOk.f] at h
 refine con_intro 9 [] Tryz.func148 (by kernel_rfl) rfl rfl (by kernel_rfl) fun ι0 w0 hk0 => ?_
 revert h
 refine bif_e (fun c1 => ?_) (fun c1 => ?_)
 ·refine go 4 ?_
  refine ret_e (fun hr_ => ?_)
  subst hr_
  exact ret_ Tryz.func148 []
 ·refine go 4 ?_
  refine ret_e (fun hr_ => ?_)
  subst hr_
  exact ret_ Tryz.func148 []
mutual
def impl_risingNames.l0 : Nat → (List ByteArray) → Int → Option (Bool)
 | 0, _, _ => none
 | k + 1, v0, v2 => (bif decide (v2 < (v0.length : Int)) then ((ix v0 v2).bind fun v3 => ((impl_isName.f k v3).bind fun v4 => (bif v4 then (bif decide (0 < v2) then ((ix v0 (IntKind.i64.wrap (v2 - 1))).bind fun v5 => (bif slt v5 v3 then (impl_risingNames.l0 k v0 (IntKind.i64.wrap (v2 + 1))) else (some false))) else (impl_risingNames.l0 k v0 (IntKind.i64.wrap (v2 + 1)))) else (some false)))) else (some true))
def impl_risingNames.f : Nat → (List ByteArray) → Int → Option (Bool)
 | 0, _, _ => none
 | k + 1, v0, v1 => (bif decide (v1 < (v0.length : Int)) then (some false) else (impl_risingNames.l0 k v0 0))
end
set_option maxRecDepth 100000 in
set_option maxHeartbeats 4000000 in
theorem impl_risingNames.con {K : Kn} [KOk K] {k : Nat} {v0 : (List ByteArray)} {v1 : Int} {r : Bool} (h : impl_risingNames.f k v0 v1 = some r) : Con K Tryz.prog 149 [.p (.lst false (List.map srw v0)), .p (.int .i64 v1)] [] (.p (.bool r)) [] := by
 cases k with
 | zero => exact absurd h (by simp [impl_risingNames.f])
 | succ k =>
 rw [impl_risingNames.f] at h
 refine con_intro 35 [] Tryz.func149 (by kernel_rfl) rfl rfl (by kernel_rfl) fun ι0 w0 hk0 => ?_
 revert h
 refine bif_e (fun c1 => ?_) (fun c1 => ?_)
 ·refine go 8 ?_
  refine ret_e (fun hr_ => ?_)
  subst hr_
  exact ret_ Tryz.func149 []
 ·refine go 11 ?_
  refine fun h => good_loop (fun n st => n ≤ k ∧ ∃ (v2 : _), st = ⟨[(0, .p (.lst false (List.map srw v0))), (11, .p (.lst false (List.map srw v0))), (12, .p (.int .i64 (v0.length : Int))), (13, .p (.int .i64 v2))], []⟩ ∧ impl_risingNames.l0 n v0 v2 = some r) k ⟨_, ⟨Nat.le_refl _, _, rfl, h⟩, frle_, memle_⟩ ?_
  clear c1
  clear h
  rintro n _ ⟨hkl0, v2, rfl, h⟩ hl0
  cases n with
  | zero => exact absurd h (by simp [impl_risingNames.l0])
  | succ kl0 =>
  rw [impl_risingNames.l0] at h
  revert h
  refine bif_e (fun c2 => ?_) (fun c2 => ?_)
  ·refine bind_e (fun v3 e3 => ?_)
   replace e3 := nf_ (ix_en srw e3)
   refine go 10 ?_
   refine grs ?_
   refine gr_run ?_
   refine bind_e (fun v4 e4 => gr_call [] (impl_isName.con e4) ?_)
   clear e4
   refine bif_e (fun c3 => ?_) (fun c3 => ?_)
   ·refine bif_e (fun c4 => ?_) (fun c4 => ?_)
    ·refine bind_e (fun v5 e5 => ?_)
     replace e5 := nf_ (ix_en srw e5)
     refine gr_run ?_
     refine gr_done ?_
     refine bif_e (fun c5 => ?_) (fun c5 => ?_)
     ·refine go 4 ?_
      exact fun h => good_again hl0 (by omega) ⟨_, ⟨by omega, _, rfl, h⟩, frle_, memle_⟩
     ·refine go 3 ?_
      refine ret_e (fun hr_ => ?_)
      subst hr_
      exact ret_ Tryz.func149 []
    ·refine gr_run ?_
     refine gr_done ?_
     refine go 4 ?_
     exact fun h => good_again hl0 (by omega) ⟨_, ⟨by omega, _, rfl, h⟩, frle_, memle_⟩
   ·refine gr_run ?_
    refine gr_done ?_
    refine go 3 ?_
    refine ret_e (fun hr_ => ?_)
    subst hr_
    exact ret_ Tryz.func149 []
  ·refine go 7 ?_
   refine ret_e (fun hr_ => ?_)
   subst hr_
   exact ret_ Tryz.func149 []
mutual
def impl_val_wild.l0 : Nat → S137 → Int → Option (Bool)
 | 0, _, _ => none
 | k + 1, v0, v1 => (bif decide (v1 < (v0.f5.length : Int)) then ((ix v0.f5 v1).bind fun v3 => ((impl_val_wild.f k v3).bind fun v4 => (bif v4 then (some true) else (impl_val_wild.l0 k v0 (IntKind.i64.wrap (v1 + 1)))))) else (some false))
def impl_val_wild.f : Nat → S137 → Option (Bool)
 | 0, _ => none
 | k + 1, v0 => (bif decide (8 ≤ v0.f0) then (some true) else (impl_val_wild.l0 k v0 0))
end
def impl_val_wild.C (K : Kn) (k : Nat) : Prop := ∀ (v0 : S137) (r : Bool), impl_val_wild.f k v0 = some r → Con K Tryz.prog 219 [.agg [.p (.int .i64 v0.f0), .p (.int .i64 v0.f1), .p (.int .i64 v0.f2), .p (.str v0.f3), .p (.lst false (List.map srw v0.f4)), .p (.lst false (List.map en137 v0.f5))]] [] (.p (.bool r)) []
set_option maxRecDepth 100000 in
set_option maxHeartbeats 4000000 in
theorem impl_val_wild.con1 {K : Kn} [KOk K] (k : Nat) (impl_val_wild_ih : ∀ m, m < k → impl_val_wild.C K m) : impl_val_wild.C K k := by
 intro v0 r h
 cases k with
 | zero => exact absurd h (by simp [impl_val_wild.f])
 | succ k =>
 rw [impl_val_wild.f] at h
 refine con_intro 18 [] Tryz.func219 (by kernel_rfl) rfl rfl (by kernel_rfl) fun ι0 w0 hk0 => ?_
 revert h
 refine bif_e (fun c1 => ?_) (fun c1 => ?_)
 ·refine go 8 ?_
  refine ret_e (fun hr_ => ?_)
  subst hr_
  exact ret_ Tryz.func219 []
 ·refine go 11 ?_
  refine fun h => good_loop (fun n st => n ≤ k ∧ ∃ (v1 : _) (g2 : Nat), st = ⟨[(9, .p (.lst false (List.map en137 v0.f5))), (10, .p (.int .i64 (v0.f5.length : Int))), (11, .p (.int .i64 v1))], [(1, (1, .gone)), (4, (g2, .gone))]⟩ ∧ impl_val_wild.l0 n v0 v1 = some r) k ⟨_, ⟨Nat.le_refl _, _, 0, rfl, h⟩, frle_, memle_⟩ ?_
  clear c1
  clear h
  rintro n _ ⟨hkl0, v1, g2, rfl, h⟩ hl0
  cases n with
  | zero => exact absurd h (by simp [impl_val_wild.l0])
  | succ kl0 =>
  rw [impl_val_wild.l0] at h
  revert h
  refine bif_e (fun c2 => ?_) (fun c2 => ?_)
  ·refine bind_e (fun v3 e3 => ?_)
   replace e3 := nf_ (ix_en en137 e3)
   refine go 10 ?_
   refine grs ?_
   refine gr_run ?_
   refine bind_e (fun v4 e4 => gr_call [] (impl_val_wild_ih _ (by omega) _ _ e4) ?_)
   clear e4
   refine gr_done ?_
   refine bif_e (fun c3 => ?_) (fun c3 => ?_)
   ·refine go 3 ?_
    refine ret_e (fun hr_ => ?_)
    subst hr_
    exact ret_ Tryz.func219 []
   ·refine go 4 ?_
    exact fun h => good_again hl0 (by omega) ⟨_, ⟨by omega, _, g2 + 1, rfl, h⟩, frle_, memle_⟩
  ·refine go 7 ?_
   refine ret_e (fun hr_ => ?_)
   subst hr_
   exact ret_ Tryz.func219 []
theorem impl_val_wild.all {K : Kn} [KOk K] (k : Nat) : impl_val_wild.C K k := by
 induction k using Nat.strongRecOn with
 | _ k ih => exact impl_val_wild.con1 k ih
theorem impl_val_wild.con {K : Kn} [KOk K] {k : Nat} {v0 : S137} {r : Bool} (h : impl_val_wild.f k v0 = some r) : Con K Tryz.prog 219 [.agg [.p (.int .i64 v0.f0), .p (.int .i64 v0.f1), .p (.int .i64 v0.f2), .p (.str v0.f3), .p (.lst false (List.map srw v0.f4)), .p (.lst false (List.map en137 v0.f5))]] [] (.p (.bool r)) [] := (impl_val_wild.all k) _ r h
def impl_fieldValue.f (k : Nat) (v0 : ByteArray) : Option (Bool) := ((impl_read.f k v0).bind fun v1 => (bif v1.2 then (bif (v1.1.f0 == 0) then (some false) else ((impl_val_wild.f k v1.1).bind fun v2 => (some (!v2)))) else (some false)))
set_option maxRecDepth 100000 in
set_option maxHeartbeats 4000000 in
theorem impl_fieldValue.con {K : Kn} [KOk K] {k : Nat} {v0 : ByteArray} {r : Bool} (h : impl_fieldValue.f k v0 = some r) : Con K Tryz.prog 194 [.p (.str v0)] [] (.p (.bool r)) [] := by
 rw [impl_fieldValue.f] at h
 refine con_intro 21 [] Tryz.func194 (by kernel_rfl) rfl rfl (by kernel_rfl) fun ι0 w0 hk0 => ?_
 revert h
 refine go 3 ?_
 refine grs ?_
 refine gr_run ?_
 refine bind_e (fun v1 e1 => gr_call [] (impl_read.con e1) ?_)
 clear e1
 refine gr_run ?_
 refine gr_done ?_
 refine bif_e (fun c1 => ?_) (fun c1 => ?_)
 ·refine bif_e (fun c2 => ?_) (fun c2 => ?_)
  ·refine go 2 ?_
   refine ret_e (fun hr_ => ?_)
   subst hr_
   exact ret_ Tryz.func194 []
  ·refine go 1 ?_
   refine grs ?_
   refine gr_run ?_
   refine bind_e (fun v2 e2 => gr_call [] (impl_val_wild.con e2) ?_)
   clear e2
   refine gr_run ?_
   refine gr_done ?_
   refine ret_e (fun hr_ => ?_)
   subst hr_
   exact ret_ Tryz.func194 []
 ·refine go 2 ?_
  refine ret_e (fun hr_ => ?_)
  subst hr_
  exact ret_ Tryz.func194 []
mutual
def impl_fieldsOk.l0 : Nat → (List S178) → Int → Option (Bool)
 | 0, _, _ => none
 | k + 1, v0, v1 => (bif decide (v1 < (v0.length : Int)) then ((ix v0 v1).bind fun v3 => ((impl_isName.f k v3.f0).bind fun v4 => (bif v4 then (bif decide (0 < v1) then ((ix v0 (IntKind.i64.wrap (v1 - 1))).bind fun v5 => (bif slt v5.f0 v3.f0 then ((impl_fieldValue.f k v3.f1).bind fun v6 => (bif v6 then (impl_fieldsOk.l0 k v0 (IntKind.i64.wrap (v1 + 1))) else (some false))) else (some false))) else ((impl_fieldValue.f k v3.f1).bind fun v7 => (bif v7 then (impl_fieldsOk.l0 k v0 (IntKind.i64.wrap (v1 + 1))) else (some false)))) else (some false)))) else (some true))
def impl_fieldsOk.f : Nat → (List S178) → Option (Bool)
 | 0, _ => none
 | k + 1, v0 => (bif decide (20 < (v0.length : Int)) then (some false) else (impl_fieldsOk.l0 k v0 0))
end
set_option maxRecDepth 100000 in
set_option maxHeartbeats 4000000 in
theorem impl_fieldsOk.con {K : Kn} [KOk K] {k : Nat} {v0 : (List S178)} {r : Bool} (h : impl_fieldsOk.f k v0 = some r) : Con K Tryz.prog 150 [.p (.lst false (List.map en178 v0))] [] (.p (.bool r)) [] := by
 cases k with
 | zero => exact absurd h (by simp [impl_fieldsOk.f])
 | succ k =>
 rw [impl_fieldsOk.f] at h
 refine con_intro 41 [] Tryz.func150 (by kernel_rfl) rfl rfl (by kernel_rfl) fun ι0 w0 hk0 => ?_
 revert h
 refine bif_e (fun c1 => ?_) (fun c1 => ?_)
 ·refine go 8 ?_
  refine ret_e (fun hr_ => ?_)
  subst hr_
  exact ret_ Tryz.func150 []
 ·refine go 11 ?_
  refine fun h => good_loop (fun n st => n ≤ k ∧ ∃ (v1 : _) (g2 : Nat), st = ⟨[(0, .p (.lst false (List.map en178 v0))), (8, .p (.lst false (List.map en178 v0))), (9, .p (.int .i64 (v0.length : Int))), (10, .p (.int .i64 v1))], [(4, (g2, .gone))]⟩ ∧ impl_fieldsOk.l0 n v0 v1 = some r) k ⟨_, ⟨Nat.le_refl _, _, 0, rfl, h⟩, frle_, memle_⟩ ?_
  clear c1
  clear h
  rintro n _ ⟨hkl0, v1, g2, rfl, h⟩ hl0
  cases n with
  | zero => exact absurd h (by simp [impl_fieldsOk.l0])
  | succ kl0 =>
  rw [impl_fieldsOk.l0] at h
  revert h
  refine bif_e (fun c2 => ?_) (fun c2 => ?_)
  ·refine bind_e (fun v3 e3 => ?_)
   replace e3 := nf_ (ix_en en178 e3)
   refine go 10 ?_
   refine grs ?_
   refine gr_run ?_
   refine bind_e (fun v4 e4 => gr_call [] (impl_isName.con e4) ?_)
   clear e4
   refine bif_e (fun c3 => ?_) (fun c3 => ?_)
   ·refine bif_e (fun c4 => ?_) (fun c4 => ?_)
    ·refine bind_e (fun v5 e5 => ?_)
     replace e5 := nf_ (ix_en en178 e5)
     refine bif_e (fun c5 => ?_) (fun c5 => ?_)
     ·refine gr_run ?_
      refine bind_e (fun v6 e6 => gr_call [] (impl_fieldValue.con e6) ?_)
      clear e6
      refine gr_run ?_
      refine gr_done ?_
      refine bif_e (fun c6 => ?_) (fun c6 => ?_)
      ·refine go 4 ?_
       exact fun h => good_again hl0 (by omega) ⟨_, ⟨by omega, _, g2 + 1, rfl, h⟩, frle_, memle_⟩
      ·refine go 3 ?_
       refine ret_e (fun hr_ => ?_)
       subst hr_
       exact ret_ Tryz.func150 []
     ·refine gr_run ?_
      refine gr_done ?_
      refine go 3 ?_
      refine ret_e (fun hr_ => ?_)
      subst hr_
      exact ret_ Tryz.func150 []
    ·refine gr_run ?_
     refine bind_e (fun v7 e7 => gr_call [] (impl_fieldValue.con e7) ?_)
     clear e7
     refine gr_run ?_
     refine gr_done ?_
     refine bif_e (fun c7 => ?_) (fun c7 => ?_)
     ·refine go 4 ?_
      exact fun h => good_again hl0 (by omega) ⟨_, ⟨by omega, _, g2 + 1, rfl, h⟩, frle_, memle_⟩
     ·refine go 3 ?_
      refine ret_e (fun hr_ => ?_)
      subst hr_
      exact ret_ Tryz.func150 []
   ·refine gr_run ?_
    refine gr_done ?_
    refine go 3 ?_
    refine ret_e (fun hr_ => ?_)
    subst hr_
    exact ret_ Tryz.func150 []
  ·refine go 7 ?_
   refine ret_e (fun hr_ => ?_)
   subst hr_
   exact ret_ Tryz.func150 []
def impl_nodeOk.f (k : Nat) (v0 : S88) : Option (Bool) := ((impl_idOk.f k v0.f0).bind fun v1 => (bif v1 then ((impl_risingNames.f k v0.f1 10).bind fun v2 => (bif v2 then ((impl_fieldsOk.f k v0.f2).bind fun v3 => (some v3)) else (some false))) else (some false)))
set_option maxRecDepth 100000 in
set_option maxHeartbeats 4000000 in
theorem impl_nodeOk.con {K : Kn} [KOk K] {k : Nat} {v0 : S88} {r : Bool} (h : impl_nodeOk.f k v0 = some r) : Con K Tryz.prog 113 [.agg [.p (.int .i64 v0.f0), .p (.lst false (List.map srw v0.f1)), .p (.lst false (List.map en178 v0.f2))]] [] (.p (.bool r)) [] := by
 rw [impl_nodeOk.f] at h
 refine con_intro 16 [] Tryz.func113 (by kernel_rfl) rfl rfl (by kernel_rfl) fun ι0 w0 hk0 => ?_
 revert h
 refine go 3 ?_
 refine grs ?_
 refine gr_run ?_
 refine bind_e (fun v1 e1 => gr_call [] (impl_idOk.con e1) ?_)
 clear e1
 refine bif_e (fun c1 => ?_) (fun c1 => ?_)
 ·refine gr_run ?_
  refine bind_e (fun v2 e2 => gr_call [] (impl_risingNames.con e2) ?_)
  clear e2
  refine bif_e (fun c2 => ?_) (fun c2 => ?_)
  ·refine gr_run ?_
   refine bind_e (fun v3 e3 => gr_call [] (impl_fieldsOk.con e3) ?_)
   clear e3
   refine gr_run ?_
   refine gr_done ?_
   refine ret_e (fun hr_ => ?_)
   subst hr_
   exact ret_ Tryz.func113 []
  ·refine gr_run ?_
   refine gr_done ?_
   refine ret_e (fun hr_ => ?_)
   subst hr_
   exact ret_ Tryz.func113 []
 ·refine gr_run ?_
  refine gr_done ?_
  refine ret_e (fun hr_ => ?_)
  subst hr_
  exact ret_ Tryz.func113 []
def impl_edgeOk.f (k : Nat) (v0 : S90) : Option (Bool) := ((impl_idOk.f k v0.f0).bind fun v1 => (bif v1 then ((impl_isName.f k v0.f1).bind fun v2 => (bif v2 then ((impl_idOk.f k v0.f2).bind fun v3 => (bif v3 then ((impl_idOk.f k v0.f3).bind fun v4 => (bif v4 then ((impl_fieldsOk.f k v0.f4).bind fun v5 => (some v5)) else (some false))) else (some false))) else (some false))) else (some false)))
set_option maxRecDepth 100000 in
set_option maxHeartbeats 4000000 in
theorem impl_edgeOk.con {K : Kn} [KOk K] {k : Nat} {v0 : S90} {r : Bool} (h : impl_edgeOk.f k v0 = some r) : Con K Tryz.prog 114 [.agg [.p (.int .i64 v0.f0), .p (.str v0.f1), .p (.int .i64 v0.f2), .p (.int .i64 v0.f3), .p (.lst false (List.map en178 v0.f4))]] [] (.p (.bool r)) [] := by
 rw [impl_edgeOk.f] at h
 refine con_intro 26 [] Tryz.func114 (by kernel_rfl) rfl rfl (by kernel_rfl) fun ι0 w0 hk0 => ?_
 revert h
 refine go 3 ?_
 refine grs ?_
 refine gr_run ?_
 refine bind_e (fun v1 e1 => gr_call [] (impl_idOk.con e1) ?_)
 clear e1
 refine bif_e (fun c1 => ?_) (fun c1 => ?_)
 ·refine gr_run ?_
  refine bind_e (fun v2 e2 => gr_call [] (impl_isName.con e2) ?_)
  clear e2
  refine bif_e (fun c2 => ?_) (fun c2 => ?_)
  ·refine gr_run ?_
   refine bind_e (fun v3 e3 => gr_call [] (impl_idOk.con e3) ?_)
   clear e3
   refine bif_e (fun c3 => ?_) (fun c3 => ?_)
   ·refine gr_run ?_
    refine bind_e (fun v4 e4 => gr_call [] (impl_idOk.con e4) ?_)
    clear e4
    refine bif_e (fun c4 => ?_) (fun c4 => ?_)
    ·refine gr_run ?_
     refine bind_e (fun v5 e5 => gr_call [] (impl_fieldsOk.con e5) ?_)
     clear e5
     refine gr_run ?_
     refine gr_done ?_
     refine ret_e (fun hr_ => ?_)
     subst hr_
     exact ret_ Tryz.func114 []
    ·refine gr_run ?_
     refine gr_done ?_
     refine ret_e (fun hr_ => ?_)
     subst hr_
     exact ret_ Tryz.func114 []
   ·refine gr_run ?_
    refine gr_done ?_
    refine ret_e (fun hr_ => ?_)
    subst hr_
    exact ret_ Tryz.func114 []
  ·refine gr_run ?_
   refine gr_done ?_
   refine ret_e (fun hr_ => ?_)
   subst hr_
   exact ret_ Tryz.func114 []
 ·refine gr_run ?_
  refine gr_done ?_
  refine ret_e (fun hr_ => ?_)
  subst hr_
  exact ret_ Tryz.func114 []
mutual
def impl_graphOk.j0 : Nat → S49 → Int → (List (Int × Int)) → S88 → Option (Bool)
 | 0, _, _, _, _ => none
 | k + 1, v0, v1, v2, v4 => (impl_graphOk.l0 k v0 (IntKind.i64.wrap (v1 + 1)) (tput v2 v4.f0 1))
def impl_graphOk.l1 : Nat → S49 → Int → (List (Int × Int)) → Option (Bool)
 | 0, _, _, _ => none
 | k + 1, v0, v7, v2 => (bif decide (v7 < (v0.f1.length : Int)) then ((ix v0.f1 v7).bind fun v9 => ((impl_edgeOk.f k v9).bind fun v10 => (bif v10 then (bif decide (0 < v7) then ((ix v0.f1 (IntKind.i64.wrap (v7 - 1))).bind fun v11 => (bif decide (v9.f0 ≤ v11.f0) then (some false) else (bif ((tget v2 v9.f2 0) == 0) then (some false) else (bif ((tget v2 v9.f3 0) == 0) then (some false) else (impl_graphOk.l1 k v0 (IntKind.i64.wrap (v7 + 1)) v2))))) else (bif ((tget v2 v9.f2 0) == 0) then (some false) else (bif ((tget v2 v9.f3 0) == 0) then (some false) else (impl_graphOk.l1 k v0 (IntKind.i64.wrap (v7 + 1)) v2)))) else (some false)))) else (some true))
def impl_graphOk.l0 : Nat → S49 → Int → (List (Int × Int)) → Option (Bool)
 | 0, _, _, _ => none
 | k + 1, v0, v1, v2 => (bif decide (v1 < (v0.f0.length : Int)) then ((ix v0.f0 v1).bind fun v4 => ((impl_nodeOk.f k v4).bind fun v5 => (bif v5 then (bif decide (0 < v1) then ((ix v0.f0 (IntKind.i64.wrap (v1 - 1))).bind fun v6 => (bif decide (v4.f0 ≤ v6.f0) then (some false) else (impl_graphOk.j0 k v0 v1 v2 v4))) else (impl_graphOk.j0 k v0 v1 v2 v4)) else (some false)))) else (impl_graphOk.l1 k v0 0 v2))
def impl_graphOk.f : Nat → S49 → Option (Bool)
 | 0, _ => none
 | k + 1, v0 => (bif decide (200 < (v0.f0.length : Int)) then (some false) else (bif decide (400 < (v0.f1.length : Int)) then (some false) else (impl_graphOk.l0 k v0 0 ([] : List (Int × Int)))))
end
set_option maxRecDepth 100000 in
set_option maxHeartbeats 4000000 in
theorem impl_graphOk.con {K : Kn} [KOk K] {k : Nat} {v0 : S49} {r : Bool} (h : impl_graphOk.f k v0 = some r) : Con K Tryz.prog 77 [.agg [.p (.lst false (List.map en88 v0.f0)), .p (.lst false (List.map en90 v0.f1))]] [] (.p (.bool r)) [] := by
 cases k with
 | zero => exact absurd h (by simp [impl_graphOk.f])
 | succ k =>
 rw [impl_graphOk.f] at h
 refine con_intro 92 [] Tryz.func77 (by kernel_rfl) rfl rfl (by kernel_rfl) fun ι0 w0 hk0 => ?_
 revert h
 refine bif_e (fun c1 => ?_) (fun c1 => ?_)
 ·refine go 8 ?_
  refine ret_e (fun hr_ => ?_)
  subst hr_
  exact ret_ Tryz.func77 []
 ·refine bif_e (fun c2 => ?_) (fun c2 => ?_)
  ·refine go 8 ?_
   refine ret_e (fun hr_ => ?_)
   subst hr_
   exact ret_ Tryz.func77 []
  ·refine go 13 ?_
   refine fun h => good_loop (fun n st => n ≤ k ∧ ∃ (v1 : _) (v2 : _) (g3 : Nat), st = ⟨[(1, .ptr 1 1 0), (3, .mp 18 1), (20, .p (.lst false (List.map en88 v0.f0))), (21, .p (.int .i64 (v0.f0.length : Int))), (22, .p (.int .i64 v1))], [(1, (1, .cells [.p (.lst false (List.map en88 v0.f0)), .p (.lst false (List.map en90 v0.f1))])), (18, (1, .map (.int .i64) false (List.map (ei .i64 (irow .i64)) v2))), (5, (g3, .gone))]⟩ ∧ impl_graphOk.l0 n v0 v1 v2 = some r) k ⟨_, ⟨Nat.le_refl _, _, _, 0, rfl, h⟩, frle_, memle_⟩ ?_
   clear c1 c2
   clear h
   rintro n _ ⟨hkl0, v1, v2, g3, rfl, h⟩ hl0
   cases n with
   | zero => exact absurd h (by simp [impl_graphOk.l0])
   | succ kl0 =>
   rw [impl_graphOk.l0] at h
   revert h
   refine bif_e (fun c3 => ?_) (fun c3 => ?_)
   ·refine bind_e (fun v4 e4 => ?_)
    replace e4 := nf_ (ix_en en88 e4)
    refine go 11 ?_
    refine good_cut_f (fun st => ∃ (q_ : Nat), q_ ≤ kl0 ∧ st = ⟨[(1, .ptr 1 1 0), (3, .mp 18 1), (5, .ptr 5 (g3 + 1) 0), (20, .p (.lst false (List.map en88 v0.f0))), (21, .p (.int .i64 (v0.f0.length : Int))), (22, .p (.int .i64 v1))], [(1, (1, .cells [.p (.lst false (List.map en88 v0.f0)), .p (.lst false (List.map en90 v0.f1))])), (18, (1, .map (.int .i64) false (List.map (ei .i64 (irow .i64)) v2))), (5, (g3 + 1, .cells [.p (.int .i64 v4.f0), .p (.lst false (List.map srw v4.f1)), .p (.lst false (List.map en178 v4.f2))]))]⟩ ∧ impl_graphOk.j0 q_ v0 v1 v2 v4 = some r) ?_ (fun hj0 => ?_)
    ·clear c3 e4
     rintro _ ⟨q_, hqj0, rfl, h⟩
     cases q_ with
     | zero => exact absurd h (by simp [impl_graphOk.j0])
     | succ kj0 =>
     rw [impl_graphOk.j0] at h
     revert h
     refine go 4 ?_
     exact fun h => good_again hl0 (by omega) ⟨_, ⟨by omega, _, _, g3 + 1, rfl, h⟩, frle_, memle_⟩
    ·refine grs ?_
     refine gr_run ?_
     refine bind_e (fun v5 e5 => gr_call [] (impl_nodeOk.con e5) ?_)
     clear e5
     refine bif_e (fun c4 => ?_) (fun c4 => ?_)
     ·refine bif_e (fun c5 => ?_) (fun c5 => ?_)
      ·refine bind_e (fun v6 e6 => ?_)
       replace e6 := nf_ (ix_en en88 e6)
       refine gr_run ?_
       refine gr_done ?_
       refine bif_e (fun c6 => ?_) (fun c6 => ?_)
       ·refine go 3 ?_
        refine ret_e (fun hr_ => ?_)
        subst hr_
        exact ret_ Tryz.func77 []
       ·refine go 1 ?_
        exact fun h => good_jump hj0 ⟨_, ⟨_, by omega, rfl, h⟩, frle_, memle_⟩
      ·refine gr_run ?_
       refine gr_done ?_
       refine go 1 ?_
       exact fun h => good_jump hj0 ⟨_, ⟨_, by omega, rfl, h⟩, frle_, memle_⟩
     ·refine gr_run ?_
      refine gr_done ?_
      refine go 3 ?_
      refine ret_e (fun hr_ => ?_)
      subst hr_
      exact ret_ Tryz.func77 []
   ·refine go 9 ?_
    refine fun h => good_loop (fun n st => n ≤ kl0 ∧ ∃ (v7 : _) (g8 : Nat), st = ⟨[(1, .ptr 1 1 0), (3, .mp 18 1), (51, .p (.lst false (List.map en90 v0.f1))), (52, .p (.int .i64 (v0.f1.length : Int))), (53, .p (.int .i64 v7))], [(1, (1, .cells [.p (.lst false (List.map en88 v0.f0)), .p (.lst false (List.map en90 v0.f1))])), (18, (1, .map (.int .i64) false (List.map (ei .i64 (irow .i64)) v2))), (5, (g3, .gone)), (7, (g8, .gone))]⟩ ∧ impl_graphOk.l1 n v0 v7 v2 = some r) kl0 ⟨_, ⟨Nat.le_refl _, _, 0, rfl, h⟩, frle_, memle_⟩ ?_
    clear c3
    clear h
    rintro n _ ⟨hkl1, v7, g8, rfl, h⟩ hl1
    cases n with
    | zero => exact absurd h (by simp [impl_graphOk.l1])
    | succ kl1 =>
    rw [impl_graphOk.l1] at h
    revert h
    refine bif_e (fun c7 => ?_) (fun c7 => ?_)
    ·refine bind_e (fun v9 e9 => ?_)
     replace e9 := nf_ (ix_en en90 e9)
     refine go 10 ?_
     refine grs ?_
     refine gr_run ?_
     refine bind_e (fun v10 e10 => gr_call [] (impl_edgeOk.con e10) ?_)
     clear e10
     refine bif_e (fun c8 => ?_) (fun c8 => ?_)
     ·refine bif_e (fun c9 => ?_) (fun c9 => ?_)
      ·refine bind_e (fun v11 e11 => ?_)
       replace e11 := nf_ (ix_en en90 e11)
       refine bif_e (fun c10 => ?_) (fun c10 => ?_)
       ·refine gr_run ?_
        refine gr_done ?_
        refine go 3 ?_
        refine ret_e (fun hr_ => ?_)
        subst hr_
        exact ret_ Tryz.func77 []
       ·refine bif_e (fun c11 => ?_) (fun c11 => ?_)
        ·refine gr_run ?_
         refine gr_done ?_
         refine go 3 ?_
         refine ret_e (fun hr_ => ?_)
         subst hr_
         exact ret_ Tryz.func77 []
        ·refine gr_run ?_
         refine gr_done ?_
         refine bif_e (fun c12 => ?_) (fun c12 => ?_)
         ·refine go 3 ?_
          refine ret_e (fun hr_ => ?_)
          subst hr_
          exact ret_ Tryz.func77 []
         ·refine go 4 ?_
          exact fun h => good_again hl1 (by omega) ⟨_, ⟨by omega, _, g8 + 1, rfl, h⟩, frle_, memle_⟩
      ·refine bif_e (fun c13 => ?_) (fun c13 => ?_)
       ·refine gr_run ?_
        refine gr_done ?_
        refine go 3 ?_
        refine ret_e (fun hr_ => ?_)
        subst hr_
        exact ret_ Tryz.func77 []
       ·refine gr_run ?_
        refine gr_done ?_
        refine bif_e (fun c14 => ?_) (fun c14 => ?_)
        ·refine go 3 ?_
         refine ret_e (fun hr_ => ?_)
         subst hr_
         exact ret_ Tryz.func77 []
        ·refine go 4 ?_
         exact fun h => good_again hl1 (by omega) ⟨_, ⟨by omega, _, g8 + 1, rfl, h⟩, frle_, memle_⟩
     ·refine gr_run ?_
      refine gr_done ?_
      refine go 3 ?_
      refine ret_e (fun hr_ => ?_)
      subst hr_
      exact ret_ Tryz.func77 []
    ·refine go 7 ?_
     refine ret_e (fun hr_ => ?_)
     subst hr_
     exact ret_ Tryz.func77 []
end Go.Ab
