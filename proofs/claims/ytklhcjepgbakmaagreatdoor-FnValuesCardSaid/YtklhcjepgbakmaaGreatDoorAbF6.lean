/- What the functions compute, and their contracts, part 6. No condition beyond KOk. -/
import Derived.Test.YtklhcjepgbakmaaGreatDoorAbX
import Derived.Test.YtklhcjepgbakmaaGreatDoorAbF4
import Derived.Test.YtklhcjepgbakmaaGreatDoorAbF5
namespace Go.Ab
open Go.Proofs
set_option linter.unusedVariables false
set_option linter.unusedSimpArgs false
mutual
def impl_dateText.l1 : Nat → Int → Int → Int → Option (ByteArray)
 | 0, _, _, _ => none
 | k + 1, v5, v2, v6 => ((impl_monthDays.f k v2 v6).bind fun v7 => (bif decide (v7 ≤ v5) then ((impl_monthDays.f k v2 v6).bind fun v8 => (impl_dateText.l1 k (IntKind.i64.wrap (v5 - v8)) v2 (IntKind.i64.wrap (v6 + 1)))) else ((impl_dateText_1.f k v2 4).bind fun v9 => ((cat (⟨#[64]⟩ : ByteArray) v9).bind fun v10 => ((cat v10 (⟨#[45]⟩ : ByteArray)).bind fun v11 => ((impl_dateText_1.f k v6 2).bind fun v12 => ((cat v11 v12).bind fun v13 => ((cat v13 (⟨#[45]⟩ : ByteArray)).bind fun v14 => ((impl_dateText_1.f k (IntKind.i64.wrap (v5 + 1)) 2).bind fun v15 => ((cat v14 v15).bind fun v16 => (some v16)))))))))))
def impl_dateText.l0 : Nat → Int → Int → Option (ByteArray)
 | 0, _, _ => none
 | k + 1, v0, v2 => ((impl_dayNumber.f k (IntKind.i64.wrap (v2 + 1)) 1 1).bind fun v3 => (bif decide (v3 ≤ v0) then (impl_dateText.l0 k v0 (IntKind.i64.wrap (v2 + 1))) else ((impl_dayNumber.f k v2 1 1).bind fun v4 => (impl_dateText.l1 k (IntKind.i64.wrap (v0 - v4)) v2 1))))
def impl_dateText.f : Nat → Int → Option (ByteArray)
 | 0, _ => none
 | k + 1, v0 => ((quo .i64 v0 366).bind fun v1 => (impl_dateText.l0 k v0 (IntKind.i64.wrap (v1 + 1))))
end
set_option maxRecDepth 100000 in
set_option maxHeartbeats 4000000 in
theorem impl_dateText.con {K : Kn} [KOk K] {k : Nat} {v0 : Int} {r : ByteArray} (h : impl_dateText.f k v0 = some r) : Con K Tryz.prog 46 [.p (.int .i64 v0)] [] (.p (.str r)) [] := by
 cases k with
 | zero => exact absurd h (by simp [impl_dateText.f])
 | succ k =>
 rw [impl_dateText.f] at h
 refine con_intro 47 [] Tryz.func46 (by kernel_rfl) rfl rfl (by kernel_rfl) fun ι0 w0 hk0 => ?_
 revert h
 refine bind_e (fun v1 e1 => ?_)
 refine go 6 ?_
 refine fun h => good_loop (fun n st => n ≤ k ∧ ∃ (v2 : _), st = ⟨[(0, .p (.int .i64 v0)), (3, .p (.int .i64 v2))], []⟩ ∧ impl_dateText.l0 n v0 v2 = some r) k ⟨_, ⟨Nat.le_refl _, _, rfl, h⟩, frle_, memle_⟩ ?_
 clear e1
 clear h
 rintro n _ ⟨hkl0, v2, rfl, h⟩ hl0
 cases n with
 | zero => exact absurd h (by simp [impl_dateText.l0])
 | succ kl0 =>
 rw [impl_dateText.l0] at h
 revert h
 refine go 2 ?_
 refine grs ?_
 refine gr_run ?_
 refine bind_e (fun v3 e3 => gr_call [] (impl_dayNumber.con e3) ?_)
 clear e3
 refine gr_run ?_
 refine gr_done ?_
 refine bif_e (fun c1 => ?_) (fun c1 => ?_)
 ·refine go 5 ?_
  exact fun h => good_again hl0 (by omega) ⟨_, ⟨by omega, _, rfl, h⟩, frle_, memle_⟩
 ·refine go 3 ?_
  refine grs ?_
  refine gr_run ?_
  refine bind_e (fun v4 e4 => gr_call [] (impl_dayNumber.con e4) ?_)
  clear e4
  refine gr_run ?_
  refine gr_done ?_
  refine go 4 ?_
  refine fun h => good_loop (fun n st => n ≤ kl0 ∧ ∃ (v5 : _) (v6 : _), st = ⟨[(0, .p (.int .i64 v5)), (3, .p (.int .i64 v2)), (4, .p (.int .i64 v6))], []⟩ ∧ impl_dateText.l1 n v5 v2 v6 = some r) kl0 ⟨_, ⟨Nat.le_refl _, _, _, rfl, h⟩, frle_, memle_⟩ ?_
  clear c1
  clear h
  rintro n _ ⟨hkl1, v5, v6, rfl, h⟩ hl1
  cases n with
  | zero => exact absurd h (by simp [impl_dateText.l1])
  | succ kl1 =>
  rw [impl_dateText.l1] at h
  revert h
  refine go 2 ?_
  refine grs ?_
  refine gr_run ?_
  refine bind_e (fun v7 e7 => gr_call [] (impl_monthDays.con e7) ?_)
  clear e7
  refine gr_run ?_
  refine gr_done ?_
  refine bif_e (fun c2 => ?_) (fun c2 => ?_)
  ·refine go 4 ?_
   refine grs ?_
   refine gr_run ?_
   refine bind_e (fun v8 e8 => gr_call [] (impl_monthDays.con e8) ?_)
   clear e8
   refine gr_run ?_
   refine gr_done ?_
   refine go 2 ?_
   exact fun h => good_again hl1 (by omega) ⟨_, ⟨by omega, _, _, rfl, h⟩, frle_, memle_⟩
  ·refine go 5 ?_
   refine grs ?_
   refine gr_run ?_
   refine bind_e (fun v9 e9 => gr_call [] (impl_dateText_1.con e9) ?_)
   clear e9
   refine bind_e (fun v10 e10 => ?_)
   refine bind_e (fun v11 e11 => ?_)
   refine gr_run ?_
   refine bind_e (fun v12 e12 => gr_call [] (impl_dateText_1.con e12) ?_)
   clear e12
   refine bind_e (fun v13 e13 => ?_)
   refine bind_e (fun v14 e14 => ?_)
   refine gr_run ?_
   refine bind_e (fun v15 e15 => gr_call [] (impl_dateText_1.con e15) ?_)
   clear e15
   refine bind_e (fun v16 e16 => ?_)
   refine gr_run ?_
   refine gr_done ?_
   refine ret_e (fun hr_ => ?_)
   subst hr_
   exact ret_ Tryz.func46 []
mutual
def impl_val_write.l0 : Nat → S46 → Int → ByteArray → Option (ByteArray)
 | 0, _, _, _ => none
 | k + 1, v0, v19, v20 => (bif decide (v19 < (v0.f5.length : Int)) then ((ix v0.f5 v19).bind fun v23 => (bif decide (0 < v19) then ((strings_Builder_WriteByte.f k 44 v20).bind fun v24 => ((impl_val_write.f k v23 v24.2).bind fun v25 => (impl_val_write.l0 k v0 (IntKind.i64.wrap (v19 + 1)) v25))) else ((impl_val_write.f k v23 v20).bind fun v26 => (impl_val_write.l0 k v0 (IntKind.i64.wrap (v19 + 1)) v26)))) else ((strings_Builder_WriteByte.f k 93 v20).bind fun v22 => (some v22.2)))
def impl_val_write.j0 : Nat → Int → S46 → ByteArray → S46 → Option (ByteArray)
 | 0, _, _, _, _ => none
 | k + 1, v28, v0, v34, v32 => ((ix v0.f4 v28).bind fun v35 => ((cat v35 (⟨#[58]⟩ : ByteArray)).bind fun v36 => ((strings_Builder_WriteString.f k v36 v34).bind fun v37 => ((impl_val_write.f k v32 v37.2.2).bind fun v38 => (impl_val_write.l1 k v0 (IntKind.i64.wrap (v28 + 1)) v38)))))
def impl_val_write.l1 : Nat → S46 → Int → ByteArray → Option (ByteArray)
 | 0, _, _, _ => none
 | k + 1, v0, v28, v29 => (bif decide (v28 < (v0.f5.length : Int)) then ((ix v0.f5 v28).bind fun v32 => (bif decide (0 < v28) then ((strings_Builder_WriteByte.f k 44 v29).bind fun v33 => (impl_val_write.j0 k v28 v0 v33.2 v32)) else (impl_val_write.j0 k v28 v0 v29 v32))) else ((strings_Builder_WriteByte.f k 125 v29).bind fun v31 => (some v31.2)))
def impl_val_write.l2 : Nat → S46 → Int → ByteArray → Option (ByteArray)
 | 0, _, _, _ => none
 | k + 1, v0, v46, v47 => (bif decide (v46 < (v0.f5.length : Int)) then ((ix v0.f5 v46).bind fun v50 => (bif decide (0 < v46) then ((strings_Builder_WriteByte.f k 32 v47).bind fun v51 => ((impl_val_write.f k v50 v51.2).bind fun v52 => (impl_val_write.l2 k v0 (IntKind.i64.wrap (v46 + 1)) v52))) else ((impl_val_write.f k v50 v47).bind fun v53 => (impl_val_write.l2 k v0 (IntKind.i64.wrap (v46 + 1)) v53)))) else ((strings_Builder_WriteByte.f k 62 v47).bind fun v49 => (some v49.2)))
def impl_val_write.f : Nat → S46 → ByteArray → Option (ByteArray)
 | 0, _, _ => none
 | k + 1, v0, v1 => (bif (v0.f0 == 0) then ((strings_Builder_WriteString.f k (⟨#[110, 117, 108, 108]⟩ : ByteArray) v1).bind fun v2 => (some v2.2.2)) else (bif (v0.f0 == 1) then ((ix ([(⟨#[102, 97, 108, 115, 101]⟩ : ByteArray), (⟨#[116, 114, 117, 101]⟩ : ByteArray)] : List ByteArray) v0.f1).bind fun v3 => ((strings_Builder_WriteString.f k v3 v1).bind fun v4 => (some v4.2.2))) else (bif (v0.f0 == 2) then ((impl_num.f k v0.f1).bind fun v5 => ((strings_Builder_WriteString.f k v5 v1).bind fun v6 => (some v6.2.2))) else (bif (v0.f0 == 3) then ((impl_quote.f k v0.f3).bind fun v7 => ((strings_Builder_WriteString.f k v7 v1).bind fun v8 => (some v8.2.2))) else (bif (v0.f0 == 4) then ((impl_dateText.f k v0.f1).bind fun v9 => ((strings_Builder_WriteString.f k v9 v1).bind fun v10 => (some v10.2.2))) else (bif (v0.f0 == 5) then ((impl_num.f k v0.f1).bind fun v11 => ((cat (⟨#[40]⟩ : ByteArray) v11).bind fun v12 => ((cat v12 (⟨#[32]⟩ : ByteArray)).bind fun v13 => ((impl_num.f k v0.f2).bind fun v14 => ((cat v13 v14).bind fun v15 => ((cat v15 (⟨#[41]⟩ : ByteArray)).bind fun v16 => ((strings_Builder_WriteString.f k v16 v1).bind fun v17 => (some v17.2.2)))))))) else (bif (v0.f0 == 6) then ((strings_Builder_WriteByte.f k 91 v1).bind fun v18 => (impl_val_write.l0 k v0 0 v18.2)) else (bif (v0.f0 == 7) then ((strings_Builder_WriteByte.f k 123 v1).bind fun v27 => (impl_val_write.l1 k v0 0 v27.2)) else (bif (v0.f0 == 8) then ((impl_num.f k v0.f1).bind fun v39 => ((cat (⟨#[110]⟩ : ByteArray) v39).bind fun v40 => ((strings_Builder_WriteString.f k v40 v1).bind fun v41 => (some v41.2.2)))) else (bif (v0.f0 == 9) then ((impl_num.f k v0.f1).bind fun v42 => ((cat (⟨#[101]⟩ : ByteArray) v42).bind fun v43 => ((strings_Builder_WriteString.f k v43 v1).bind fun v44 => (some v44.2.2)))) else (bif (v0.f0 == 10) then ((strings_Builder_WriteByte.f k 60 v1).bind fun v45 => (impl_val_write.l2 k v0 0 v45.2)) else (some v1))))))))))))
end
def impl_val_write.C (K : Kn) (k : Nat) : Prop := ∀ (v0 : S46) (v1 : ByteArray) (r : ByteArray), impl_val_write.f k v0 v1 = some r → Con K Tryz.prog 65 [.agg [.p (.int .i64 v0.f0), .p (.int .i64 v0.f1), .p (.int .i64 v0.f2), .p (.str v0.f3), .p (.lst false (List.map srw v0.f4)), .p (.lst false (List.map en46 v0.f5))], .ptr 1000 0 0] [(1000, (0, .bld 83 5 v1))] (.tup []) [(1000, (0, .bld 83 5 r))]
set_option maxRecDepth 100000 in
set_option maxHeartbeats 4000000 in
theorem impl_val_write.con1 {K : Kn} [KOk K] (k : Nat) (impl_val_write_ih : ∀ m, m < k → impl_val_write.C K m) : impl_val_write.C K k := by
 intro v0 v1 r h
 cases k with
 | zero => exact absurd h (by simp [impl_val_write.f])
 | succ k =>
 rw [impl_val_write.f] at h
 refine con_intro 150 [] Tryz.func65 (by kernel_rfl) rfl rfl (by kernel_rfl) fun ι0 w0 hk0 => ?_
 revert h
 refine bif_e (fun c1 => ?_) (fun c1 => ?_)
 ·refine go 8 ?_
  refine grs ?_
  refine gr_run ?_
  refine bind_e (fun v2 e2 => gr_call [(1000, (0, 1000, 0))] (strings_Builder_WriteString.con e2) ?_)
  clear e2
  refine gr_done ?_
  refine go 1 ?_
  refine ret_e (fun hr_ => ?_)
  subst hr_
  exact end_ Tryz.func65 [(1000, (0, 1000, 0))]
 ·refine bif_e (fun c2 => ?_) (fun c2 => ?_)
  ·refine bind_e (fun v3 e3 => ?_)
   replace e3 := nf_ (ix_en srw e3)
   refine go 11 ?_
   refine grs ?_
   refine gr_run ?_
   refine bind_e (fun v4 e4 => gr_call [(1000, (0, 1000, 0))] (strings_Builder_WriteString.con e4) ?_)
   clear e4
   refine gr_done ?_
   refine go 1 ?_
   refine ret_e (fun hr_ => ?_)
   subst hr_
   exact end_ Tryz.func65 [(1000, (0, 1000, 0))]
  ·refine bif_e (fun c3 => ?_) (fun c3 => ?_)
   ·refine go 14 ?_
    refine grs ?_
    refine gr_run ?_
    refine bind_e (fun v5 e5 => gr_call [] (impl_num.con e5) ?_)
    clear e5
    refine bind_e (fun v6 e6 => gr_call [(1000, (0, 1000, 0))] (strings_Builder_WriteString.con e6) ?_)
    clear e6
    refine gr_done ?_
    refine go 1 ?_
    refine ret_e (fun hr_ => ?_)
    subst hr_
    exact end_ Tryz.func65 [(1000, (0, 1000, 0))]
   ·refine bif_e (fun c4 => ?_) (fun c4 => ?_)
    ·refine go 17 ?_
     refine grs ?_
     refine gr_run ?_
     refine bind_e (fun v7 e7 => gr_call [] (impl_quote.con e7) ?_)
     clear e7
     refine bind_e (fun v8 e8 => gr_call [(1000, (0, 1000, 0))] (strings_Builder_WriteString.con e8) ?_)
     clear e8
     refine gr_done ?_
     refine go 1 ?_
     refine ret_e (fun hr_ => ?_)
     subst hr_
     exact end_ Tryz.func65 [(1000, (0, 1000, 0))]
    ·refine bif_e (fun c5 => ?_) (fun c5 => ?_)
     ·refine go 20 ?_
      refine grs ?_
      refine gr_run ?_
      refine bind_e (fun v9 e9 => gr_call [] (impl_dateText.con e9) ?_)
      clear e9
      refine bind_e (fun v10 e10 => gr_call [(1000, (0, 1000, 0))] (strings_Builder_WriteString.con e10) ?_)
      clear e10
      refine gr_done ?_
      refine go 1 ?_
      refine ret_e (fun hr_ => ?_)
      subst hr_
      exact end_ Tryz.func65 [(1000, (0, 1000, 0))]
     ·refine bif_e (fun c6 => ?_) (fun c6 => ?_)
      ·refine go 23 ?_
       refine grs ?_
       refine gr_run ?_
       refine bind_e (fun v11 e11 => gr_call [] (impl_num.con e11) ?_)
       clear e11
       refine bind_e (fun v12 e12 => ?_)
       refine bind_e (fun v13 e13 => ?_)
       refine gr_run ?_
       refine bind_e (fun v14 e14 => gr_call [] (impl_num.con e14) ?_)
       clear e14
       refine bind_e (fun v15 e15 => ?_)
       refine bind_e (fun v16 e16 => ?_)
       refine gr_run ?_
       refine bind_e (fun v17 e17 => gr_call [(1000, (0, 1000, 0))] (strings_Builder_WriteString.con e17) ?_)
       clear e17
       refine gr_done ?_
       refine go 1 ?_
       refine ret_e (fun hr_ => ?_)
       subst hr_
       exact end_ Tryz.func65 [(1000, (0, 1000, 0))]
      ·refine bif_e (fun c7 => ?_) (fun c7 => ?_)
       ·refine go 27 ?_
        refine grs ?_
        refine gr_run ?_
        refine bind_e (fun v18 e18 => gr_call [(1000, (0, 1000, 0))] (strings_Builder_WriteByte.con e18) ?_)
        clear e18
        refine gr_done ?_
        refine go 4 ?_
        refine fun h => good_loop (fun n st => n ≤ k ∧ ∃ (v19 : _) (v20 : _) (g21 : Nat), st = ⟨[(1, .ptr 1000 0 0), (65, .p (.lst false (List.map en46 v0.f5))), (66, .p (.int .i64 (v0.f5.length : Int))), (67, .p (.int .i64 v19))], [(1000, (0, .bld 83 5 v20)), (2, (1, .gone)), (5, (g21, .gone))]⟩ ∧ impl_val_write.l0 n v0 v19 v20 = some r) k ⟨_, ⟨Nat.le_refl _, _, _, 0, rfl, h⟩, frle_, memle_⟩ ?_
        clear c1 c2 c3 c4 c5 c6 c7
        clear h
        rintro n _ ⟨hkl0, v19, v20, g21, rfl, h⟩ hl0
        cases n with
        | zero => exact absurd h (by simp [impl_val_write.l0])
        | succ kl0 =>
        rw [impl_val_write.l0] at h
        revert h
        refine bif_e (fun c8 => ?_) (fun c8 => ?_)
        ·refine bind_e (fun v23 e23 => ?_)
         replace e23 := nf_ (ix_en en46 e23)
         refine bif_e (fun c9 => ?_) (fun c9 => ?_)
         ·refine go 13 ?_
          refine grs ?_
          refine gr_run ?_
          refine bind_e (fun v24 e24 => gr_call [(1000, (0, 1000, 0))] (strings_Builder_WriteByte.con e24) ?_)
          clear e24
          refine gr_done ?_
          refine grs ?_
          refine gr_run ?_
          refine bind_e (fun v25 e25 => gr_call [(1000, (0, 1000, 0))] (impl_val_write_ih _ (by omega) _ _ _ e25) ?_)
          clear e25
          refine gr_done ?_
          refine go 2 ?_
          exact fun h => good_again hl0 (by omega) ⟨_, ⟨by omega, _, _, g21 + 1, rfl, h⟩, frle_, memle_⟩
         ·refine go 14 ?_
          refine grs ?_
          refine gr_run ?_
          refine bind_e (fun v26 e26 => gr_call [(1000, (0, 1000, 0))] (impl_val_write_ih _ (by omega) _ _ _ e26) ?_)
          clear e26
          refine gr_done ?_
          refine go 2 ?_
          exact fun h => good_again hl0 (by omega) ⟨_, ⟨by omega, _, _, g21 + 1, rfl, h⟩, frle_, memle_⟩
        ·refine go 5 ?_
         refine grs ?_
         refine gr_run ?_
         refine bind_e (fun v22 e22 => gr_call [(1000, (0, 1000, 0))] (strings_Builder_WriteByte.con e22) ?_)
         clear e22
         refine gr_done ?_
         refine go 1 ?_
         refine ret_e (fun hr_ => ?_)
         subst hr_
         exact end_ Tryz.func65 [(1000, (0, 1000, 0))]
       ·refine bif_e (fun c10 => ?_) (fun c10 => ?_)
        ·refine go 30 ?_
         refine grs ?_
         refine gr_run ?_
         refine bind_e (fun v27 e27 => gr_call [(1000, (0, 1000, 0))] (strings_Builder_WriteByte.con e27) ?_)
         clear e27
         refine gr_done ?_
         refine go 4 ?_
         refine fun h => good_loop (fun n st => n ≤ k ∧ ∃ (v28 : _) (v29 : _) (g30 : Nat), st = ⟨[(1, .ptr 1000 0 0), (2, .ptr 2 1 0), (87, .p (.lst false (List.map en46 v0.f5))), (88, .p (.int .i64 (v0.f5.length : Int))), (89, .p (.int .i64 v28))], [(1000, (0, .bld 83 5 v29)), (2, (1, .cells [.p (.int .i64 v0.f0), .p (.int .i64 v0.f1), .p (.int .i64 v0.f2), .p (.str v0.f3), .p (.lst false (List.map srw v0.f4)), .p (.lst false (List.map en46 v0.f5))])), (7, (g30, .gone))]⟩ ∧ impl_val_write.l1 n v0 v28 v29 = some r) k ⟨_, ⟨Nat.le_refl _, _, _, 0, rfl, h⟩, frle_, memle_⟩ ?_
         clear c1 c2 c3 c4 c5 c6 c7 c10
         clear h
         rintro n _ ⟨hkl1, v28, v29, g30, rfl, h⟩ hl1
         cases n with
         | zero => exact absurd h (by simp [impl_val_write.l1])
         | succ kl1 =>
         rw [impl_val_write.l1] at h
         revert h
         refine bif_e (fun c11 => ?_) (fun c11 => ?_)
         ·refine bind_e (fun v32 e32 => ?_)
          replace e32 := nf_ (ix_en en46 e32)
          refine go 10 ?_
          refine good_cut (fun st => ∃ (v34 : _) (q_ : Nat), q_ ≤ kl1 ∧ st = ⟨[(1, .ptr 1000 0 0), (2, .ptr 2 1 0), (6, .p (.int .i64 v28)), (7, .ptr 7 (g30 + 1) 0), (87, .p (.lst false (List.map en46 v0.f5))), (88, .p (.int .i64 (v0.f5.length : Int))), (89, .p (.int .i64 v28))], [(1000, (0, .bld 83 5 v34)), (2, (1, .cells [.p (.int .i64 v0.f0), .p (.int .i64 v0.f1), .p (.int .i64 v0.f2), .p (.str v0.f3), .p (.lst false (List.map srw v0.f4)), .p (.lst false (List.map en46 v0.f5))])), (7, (g30 + 1, .cells [.p (.int .i64 v32.f0), .p (.int .i64 v32.f1), .p (.int .i64 v32.f2), .p (.str v32.f3), .p (.lst false (List.map srw v32.f4)), .p (.lst false (List.map en46 v32.f5))]))]⟩ ∧ impl_val_write.j0 q_ v28 v0 v34 v32 = some r) ?_ (fun hj0 => ?_)
          ·clear c11 e32
           rintro _ ⟨v34, q_, hqj0, rfl, h⟩
           cases q_ with
           | zero => exact absurd h (by simp [impl_val_write.j0])
           | succ kj0 =>
           rw [impl_val_write.j0] at h
           revert h
           refine bind_e (fun v35 e35 => ?_)
           replace e35 := nf_ (ix_en srw e35)
           refine bind_e (fun v36 e36 => ?_)
           refine go 1 ?_
           refine grs ?_
           refine gr_run ?_
           refine bind_e (fun v37 e37 => gr_call [(1000, (0, 1000, 0))] (strings_Builder_WriteString.con e37) ?_)
           clear e37
           refine gr_done ?_
           refine grs ?_
           refine gr_run ?_
           refine bind_e (fun v38 e38 => gr_call [(1000, (0, 1000, 0))] (impl_val_write_ih _ (by omega) _ _ _ e38) ?_)
           clear e38
           refine gr_done ?_
           refine go 2 ?_
           exact fun h => good_again hl1 (by omega) ⟨_, ⟨by omega, _, _, g30 + 1, rfl, h⟩, frle_, memle_⟩
          ·refine bif_e (fun c12 => ?_) (fun c12 => ?_)
           ·refine go 3 ?_
            refine grs ?_
            refine gr_run ?_
            refine bind_e (fun v33 e33 => gr_call [(1000, (0, 1000, 0))] (strings_Builder_WriteByte.con e33) ?_)
            clear e33
            refine gr_done ?_
            exact fun h => good_jump hj0 ⟨_, ⟨_, _, by omega, rfl, h⟩, frle_, memle_⟩
           ·refine go 4 ?_
            exact fun h => good_jump hj0 ⟨_, ⟨_, _, by omega, rfl, h⟩, frle_, memle_⟩
         ·refine go 5 ?_
          refine grs ?_
          refine gr_run ?_
          refine bind_e (fun v31 e31 => gr_call [(1000, (0, 1000, 0))] (strings_Builder_WriteByte.con e31) ?_)
          clear e31
          refine gr_done ?_
          refine go 1 ?_
          refine ret_e (fun hr_ => ?_)
          subst hr_
          exact end_ Tryz.func65 [(1000, (0, 1000, 0))]
        ·refine bif_e (fun c13 => ?_) (fun c13 => ?_)
         ·refine go 32 ?_
          refine grs ?_
          refine gr_run ?_
          refine bind_e (fun v39 e39 => gr_call [] (impl_num.con e39) ?_)
          clear e39
          refine bind_e (fun v40 e40 => ?_)
          refine gr_run ?_
          refine bind_e (fun v41 e41 => gr_call [(1000, (0, 1000, 0))] (strings_Builder_WriteString.con e41) ?_)
          clear e41
          refine gr_done ?_
          refine go 1 ?_
          refine ret_e (fun hr_ => ?_)
          subst hr_
          exact end_ Tryz.func65 [(1000, (0, 1000, 0))]
         ·refine bif_e (fun c14 => ?_) (fun c14 => ?_)
          ·refine go 35 ?_
           refine grs ?_
           refine gr_run ?_
           refine bind_e (fun v42 e42 => gr_call [] (impl_num.con e42) ?_)
           clear e42
           refine bind_e (fun v43 e43 => ?_)
           refine gr_run ?_
           refine bind_e (fun v44 e44 => gr_call [(1000, (0, 1000, 0))] (strings_Builder_WriteString.con e44) ?_)
           clear e44
           refine gr_done ?_
           refine go 1 ?_
           refine ret_e (fun hr_ => ?_)
           subst hr_
           exact end_ Tryz.func65 [(1000, (0, 1000, 0))]
          ·refine bif_e (fun c15 => ?_) (fun c15 => ?_)
           ·refine go 39 ?_
            refine grs ?_
            refine gr_run ?_
            refine bind_e (fun v45 e45 => gr_call [(1000, (0, 1000, 0))] (strings_Builder_WriteByte.con e45) ?_)
            clear e45
            refine gr_done ?_
            refine go 4 ?_
            refine fun h => good_loop (fun n st => n ≤ k ∧ ∃ (v46 : _) (v47 : _) (g48 : Nat), st = ⟨[(1, .ptr 1000 0 0), (133, .p (.lst false (List.map en46 v0.f5))), (134, .p (.int .i64 (v0.f5.length : Int))), (135, .p (.int .i64 v46))], [(1000, (0, .bld 83 5 v47)), (2, (1, .gone)), (9, (g48, .gone))]⟩ ∧ impl_val_write.l2 n v0 v46 v47 = some r) k ⟨_, ⟨Nat.le_refl _, _, _, 0, rfl, h⟩, frle_, memle_⟩ ?_
            clear c1 c2 c3 c4 c5 c6 c7 c10 c13 c14 c15
            clear h
            rintro n _ ⟨hkl2, v46, v47, g48, rfl, h⟩ hl2
            cases n with
            | zero => exact absurd h (by simp [impl_val_write.l2])
            | succ kl2 =>
            rw [impl_val_write.l2] at h
            revert h
            refine bif_e (fun c16 => ?_) (fun c16 => ?_)
            ·refine bind_e (fun v50 e50 => ?_)
             replace e50 := nf_ (ix_en en46 e50)
             refine bif_e (fun c17 => ?_) (fun c17 => ?_)
             ·refine go 13 ?_
              refine grs ?_
              refine gr_run ?_
              refine bind_e (fun v51 e51 => gr_call [(1000, (0, 1000, 0))] (strings_Builder_WriteByte.con e51) ?_)
              clear e51
              refine gr_done ?_
              refine grs ?_
              refine gr_run ?_
              refine bind_e (fun v52 e52 => gr_call [(1000, (0, 1000, 0))] (impl_val_write_ih _ (by omega) _ _ _ e52) ?_)
              clear e52
              refine gr_done ?_
              refine go 2 ?_
              exact fun h => good_again hl2 (by omega) ⟨_, ⟨by omega, _, _, g48 + 1, rfl, h⟩, frle_, memle_⟩
             ·refine go 14 ?_
              refine grs ?_
              refine gr_run ?_
              refine bind_e (fun v53 e53 => gr_call [(1000, (0, 1000, 0))] (impl_val_write_ih _ (by omega) _ _ _ e53) ?_)
              clear e53
              refine gr_done ?_
              refine go 2 ?_
              exact fun h => good_again hl2 (by omega) ⟨_, ⟨by omega, _, _, g48 + 1, rfl, h⟩, frle_, memle_⟩
            ·refine go 5 ?_
             refine grs ?_
             refine gr_run ?_
             refine bind_e (fun v49 e49 => gr_call [(1000, (0, 1000, 0))] (strings_Builder_WriteByte.con e49) ?_)
             clear e49
             refine gr_done ?_
             refine go 1 ?_
             refine ret_e (fun hr_ => ?_)
             subst hr_
             exact end_ Tryz.func65 [(1000, (0, 1000, 0))]
           ·refine go 40 ?_
            refine ret_e (fun hr_ => ?_)
            subst hr_
            exact end_ Tryz.func65 [(1000, (0, 1000, 0))]
theorem impl_val_write.all {K : Kn} [KOk K] (k : Nat) : impl_val_write.C K k := by
 induction k using Nat.strongRecOn with
 | _ k ih => exact impl_val_write.con1 k ih
theorem impl_val_write.con {K : Kn} [KOk K] {k : Nat} {v0 : S46} {v1 : ByteArray} {r : ByteArray} (h : impl_val_write.f k v0 v1 = some r) : Con K Tryz.prog 65 [.agg [.p (.int .i64 v0.f0), .p (.int .i64 v0.f1), .p (.int .i64 v0.f2), .p (.str v0.f3), .p (.lst false (List.map srw v0.f4)), .p (.lst false (List.map en46 v0.f5))], .ptr 1000 0 0] [(1000, (0, .bld 83 5 v1))] (.tup []) [(1000, (0, .bld 83 5 r))] := (impl_val_write.all k) _ _ r h
def impl_val_show.f (k : Nat) (v0 : S46) : Option (ByteArray) := ((impl_val_write.f k v0 (⟨#[]⟩ : ByteArray)).bind fun v1 => ((strings_Builder_String.f k v1).bind fun v2 => (some v2.1)))
set_option maxRecDepth 100000 in
set_option maxHeartbeats 4000000 in
theorem impl_val_show.con {K : Kn} [KOk K] {k : Nat} {v0 : S46} {r : ByteArray} (h : impl_val_show.f k v0 = some r) : Con K Tryz.prog 41 [.agg [.p (.int .i64 v0.f0), .p (.int .i64 v0.f1), .p (.int .i64 v0.f2), .p (.str v0.f3), .p (.lst false (List.map srw v0.f4)), .p (.lst false (List.map en46 v0.f5))]] [] (.p (.str r)) [] := by
 rw [impl_val_show.f] at h
 refine con_intro 7 [3] Tryz.func41 (by kernel_rfl) rfl rfl (by kernel_rfl) fun ι0 w0 hk0 => ?_
 revert h
 refine go 5 ?_
 refine grs ?_
 refine gr_run ?_
 refine bind_e (fun v1 e1 => gr_call [(1000, (0, 3, 1))] (impl_val_write.con e1) ?_)
 clear e1
 refine gr_done ?_
 refine go 1 ?_
 refine grs ?_
 refine bind_e (fun v2 e2 => gr_call [(1000, (0, 3, 1))] (strings_Builder_String.con e2) ?_)
 clear e2
 refine gr_run ?_
 refine gr_done ?_
 refine ret_e (fun hr_ => ?_)
 subst hr_
 exact ret_ Tryz.func41 []
mutual
def impl_shown.l0 : Nat → (List ByteArray) → (List S46) → Int → Option ((List ByteArray))
 | 0, _, _, _ => none
 | k + 1, v1, v0, v2 => (bif decide (v2 < (v0.length : Int)) then ((ix v0 v2).bind fun v5 => ((impl_val_show.f k v5).bind fun v6 => ((app v1 ([v6] : List ByteArray)).bind fun v7 => (impl_shown.l0 k v7 v0 (IntKind.i64.wrap (v2 + 1)))))) else (some v1))
def impl_shown.f : Nat → (List S46) → Option ((List ByteArray))
 | 0, _ => none
 | k + 1, v0 => (impl_shown.l0 k [] v0 0)
end
set_option maxRecDepth 100000 in
set_option maxHeartbeats 4000000 in
theorem impl_shown.con {K : Kn} [KOk K] {k : Nat} {v0 : (List S46)} {r : (List ByteArray)} (h : impl_shown.f k v0 = some r) : Con K Tryz.prog 42 [.p (.lst false (List.map en46 v0))] [] (.p (.lst false (List.map srw r))) [] := by
 cases k with
 | zero => exact absurd h (by simp [impl_shown.f])
 | succ k =>
 rw [impl_shown.f] at h
 refine con_intro 19 [] Tryz.func42 (by kernel_rfl) rfl rfl (by kernel_rfl) fun ι0 w0 hk0 => ?_
 revert h
 refine go 8 ?_
 refine adopt_ 3 16 1 ?_
 refine fun h => good_loop (fun n st => n ≤ k ∧ ∃ (v1 : _) (v2 : _) (g3 : Nat) (g4 : Nat), st = ⟨[(3, .tip 16 g4 (List.map srw v1)), (6, .p (.lst false (List.map en46 v0))), (7, .p (.int .i64 (v0.length : Int))), (8, .p (.int .i64 v2))], [(5, (g3, .gone)), (16, (g4, .tip 1 (v1).length))]⟩ ∧ impl_shown.l0 n v1 v0 v2 = some r) k ⟨_, ⟨Nat.le_refl _, _, _, 0, 1, rfl, h⟩, frle_, memle_⟩ ?_
 clear h
 rintro n _ ⟨hkl0, v1, v2, g3, g4, rfl, h⟩ hl0
 cases n with
 | zero => exact absurd h (by simp [impl_shown.l0])
 | succ kl0 =>
 rw [impl_shown.l0] at h
 revert h
 refine bif_e (fun c1 => ?_) (fun c1 => ?_)
 ·refine bind_e (fun v5 e5 => ?_)
  replace e5 := nf_ (ix_en en46 e5)
  refine go 9 ?_
  refine grs ?_
  refine gr_run ?_
  refine bind_e (fun v6 e6 => gr_call [] (impl_val_show.con e6) ?_)
  clear e6
  refine bind_e (fun v7 e7 => ?_)
  replace e7 := nf_ (app_en srw e7)
  refine gr_run ?_
  refine gr_done ?_
  refine go 2 ?_
  exact fun h => good_again hl0 (by omega) ⟨_, ⟨by omega, _, _, g3 + 1, g4, rfl, h⟩, frle_, memle_⟩
 ·refine go 7 ?_
  refine ret_e (fun hr_ => ?_)
  subst hr_
  exact ret_ Tryz.func42 []
def impl_ItemsOf.f (k : Nat) (v0 : ByteArray) : Option ((List ByteArray)) := ((impl_read.f k v0).bind fun v1 => (bif v1.2 then (bif (v1.1.f0 == 6) then ((impl_shown.f k v1.1.f5).bind fun v2 => (some v2)) else (bif (v1.1.f0 == 10) then ((impl_shown.f k v1.1.f5).bind fun v3 => (some v3)) else (some ([] : (List ByteArray))))) else (some ([] : (List ByteArray)))))
set_option maxRecDepth 100000 in
set_option maxHeartbeats 4000000 in
theorem impl_ItemsOf.con {K : Kn} [KOk K] {k : Nat} {v0 : ByteArray} {r : (List ByteArray)} (h : impl_ItemsOf.f k v0 = some r) : Con K Tryz.prog 20 [.p (.str v0)] [] (.p (.lst false (List.map srw r))) [] := by
 rw [impl_ItemsOf.f] at h
 refine con_intro 25 [] Tryz.func20 (by kernel_rfl) rfl rfl (by kernel_rfl) fun ι0 w0 hk0 => ?_
 revert h
 refine go 3 ?_
 refine grs ?_
 refine gr_run ?_
 refine bind_e (fun v1 e1 => gr_call [] (impl_read.con e1) ?_)
 clear e1
 refine gr_run ?_
 refine gr_done ?_
 refine bif_e (fun c1 => ?_) (fun c1 => ?_)
 ·refine bif_e (fun c2 => ?_) (fun c2 => ?_)
  ·refine go 6 ?_
   refine grs ?_
   refine gr_run ?_
   refine bind_e (fun v2 e2 => gr_call [] (impl_shown.con e2) ?_)
   clear e2
   refine gr_run ?_
   refine gr_done ?_
   refine ret_e (fun hr_ => ?_)
   subst hr_
   exact ret_ Tryz.func20 []
  ·refine bif_e (fun c3 => ?_) (fun c3 => ?_)
   ·refine go 6 ?_
    refine grs ?_
    refine gr_run ?_
    refine bind_e (fun v3 e3 => gr_call [] (impl_shown.con e3) ?_)
    clear e3
    refine gr_run ?_
    refine gr_done ?_
    refine ret_e (fun hr_ => ?_)
    subst hr_
    exact ret_ Tryz.func20 []
   ·refine go 6 ?_
    refine ret_e (fun hr_ => ?_)
    subst hr_
    exact ret_ Tryz.func20 []
 ·refine go 6 ?_
  refine ret_e (fun hr_ => ?_)
  subst hr_
  exact ret_ Tryz.func20 []
def impl_val_sound.f (k : Nat) (v0 : S46) : Option (Bool) := ((impl_val_show.f k v0).bind fun v1 => ((impl_read.f k v1).bind fun v2 => (some v2.2)))
set_option maxRecDepth 100000 in
set_option maxHeartbeats 4000000 in
theorem impl_val_sound.con {K : Kn} [KOk K] {k : Nat} {v0 : S46} {r : Bool} (h : impl_val_sound.f k v0 = some r) : Con K Tryz.prog 40 [.agg [.p (.int .i64 v0.f0), .p (.int .i64 v0.f1), .p (.int .i64 v0.f2), .p (.str v0.f3), .p (.lst false (List.map srw v0.f4)), .p (.lst false (List.map en46 v0.f5))]] [] (.p (.bool r)) [] := by
 rw [impl_val_sound.f] at h
 refine con_intro 12 [] Tryz.func40 (by kernel_rfl) rfl rfl (by kernel_rfl) fun ι0 w0 hk0 => ?_
 revert h
 refine go 3 ?_
 refine grs ?_
 refine gr_run ?_
 refine bind_e (fun v1 e1 => gr_call [] (impl_val_show.con e1) ?_)
 clear e1
 refine bind_e (fun v2 e2 => gr_call [] (impl_read.con e2) ?_)
 clear e2
 refine gr_run ?_
 refine gr_done ?_
 refine go 2 ?_
 refine ret_e (fun hr_ => ?_)
 subst hr_
 exact ret_ Tryz.func40 []
mutual
def impl_ListOf.l0 : Nat → (List ByteArray) → Int → (List S46) → Option (ByteArray)
 | 0, _, _, _ => none
 | k + 1, v0, v1, v2 => (bif decide (v1 < (v0.length : Int)) then ((ix v0 v1).bind fun v7 => ((impl_read.f k v7).bind fun v8 => (bif v8.2 then ((app v2 ([v8.1] : List S46)).bind fun v9 => (impl_ListOf.l0 k v0 (IntKind.i64.wrap (v1 + 1)) v9)) else (some (⟨#[]⟩ : ByteArray))))) else ((impl_val_sound.f k (⟨6, 0, 0, (⟨#[]⟩ : ByteArray), ([] : (List ByteArray)), v2⟩ : S46)).bind fun v5 => (bif v5 then ((impl_val_show.f k (⟨6, 0, 0, (⟨#[]⟩ : ByteArray), ([] : (List ByteArray)), v2⟩ : S46)).bind fun v6 => (some v6)) else (some (⟨#[]⟩ : ByteArray)))))
def impl_ListOf.f : Nat → (List ByteArray) → Option (ByteArray)
 | 0, _ => none
 | k + 1, v0 => (bif decide (1000 < (v0.length : Int)) then (some (⟨#[]⟩ : ByteArray)) else (impl_ListOf.l0 k v0 0 []))
end
set_option maxRecDepth 100000 in
set_option maxHeartbeats 4000000 in
theorem impl_ListOf.con {K : Kn} [KOk K] {k : Nat} {v0 : (List ByteArray)} {r : ByteArray} (h : impl_ListOf.f k v0 = some r) : Con K Tryz.prog 19 [.p (.lst false (List.map srw v0))] [] (.p (.str r)) [] := by
 cases k with
 | zero => exact absurd h (by simp [impl_ListOf.f])
 | succ k =>
 rw [impl_ListOf.f] at h
 refine con_intro 37 [] Tryz.func19 (by kernel_rfl) rfl rfl (by kernel_rfl) fun ι0 w0 hk0 => ?_
 revert h
 refine bif_e (fun c1 => ?_) (fun c1 => ?_)
 ·refine go 10 ?_
  refine ret_e (fun hr_ => ?_)
  subst hr_
  exact ret_ Tryz.func19 []
 ·refine go 13 ?_
  refine adoptc_ 3 5 29 6 ?_
  refine fun h => good_loop (fun n st => n ≤ k ∧ ∃ (v1 : _) (v2 : _) (g3 : Nat) (g4 : Nat), st = ⟨[(3, .ptr 3 1 0), (12, .p (.lst false (List.map srw v0))), (13, .p (.int .i64 (v0.length : Int))), (14, .p (.int .i64 v1))], [(3, (1, .cells [.p (.int .i64 6), .p (.int .i64 0), .p (.int .i64 0), .p (.str (⟨#[]⟩ : ByteArray)), .p .nilS, .tip 29 g4 (List.map en46 v2)])), (6, (g3, .gone)), (29, (g4, .tip 6 (v2).length))]⟩ ∧ impl_ListOf.l0 n v0 v1 v2 = some r) k ⟨_, ⟨Nat.le_refl _, _, _, 0, 1, rfl, h⟩, frle_, memle_⟩ ?_
  clear c1
  clear h
  rintro n _ ⟨hkl0, v1, v2, g3, g4, rfl, h⟩ hl0
  cases n with
  | zero => exact absurd h (by simp [impl_ListOf.l0])
  | succ kl0 =>
  rw [impl_ListOf.l0] at h
  revert h
  refine bif_e (fun c2 => ?_) (fun c2 => ?_)
  ·refine bind_e (fun v7 e7 => ?_)
   replace e7 := nf_ (ix_en srw e7)
   refine go 10 ?_
   refine grs ?_
   refine gr_run ?_
   refine bind_e (fun v8 e8 => gr_call [] (impl_read.con e8) ?_)
   clear e8
   refine gr_run ?_
   refine gr_done ?_
   refine bif_e (fun c3 => ?_) (fun c3 => ?_)
   ·refine bind_e (fun v9 e9 => ?_)
    replace e9 := nf_ (app_en en46 e9)
    refine go 8 ?_
    exact fun h => good_again hl0 (by omega) ⟨_, ⟨by omega, _, _, g3 + 1, g4, rfl, h⟩, frle_, memle_⟩
   ·refine go 6 ?_
    refine ret_e (fun hr_ => ?_)
    subst hr_
    exact ret_ Tryz.func19 []
  ·refine go 7 ?_
   refine grs ?_
   refine gr_run ?_
   refine bind_e (fun v5 e5 => gr_call [] (impl_val_sound.con e5) ?_)
   clear e5
   refine gr_run ?_
   refine gr_done ?_
   refine bif_e (fun c4 => ?_) (fun c4 => ?_)
   ·refine go 3 ?_
    refine grs ?_
    refine gr_run ?_
    refine bind_e (fun v6 e6 => gr_call [] (impl_val_show.con e6) ?_)
    clear e6
    refine gr_run ?_
    refine gr_done ?_
    refine ret_e (fun hr_ => ?_)
    subst hr_
    exact ret_ Tryz.func19 []
   ·refine go 3 ?_
    refine ret_e (fun hr_ => ?_)
    subst hr_
    exact ret_ Tryz.func19 []
mutual
def impl_FieldsOf.l0 : Nat → (List S58) → (S46 × Bool) → Int → Option ((List S58))
 | 0, _, _, _ => none
 | k + 1, v2, v1, v3 => (bif decide (v3 < (v1.1.f5.length : Int)) then ((ix v1.1.f5 v3).bind fun v6 => ((ix v1.1.f4 v3).bind fun v7 => ((impl_val_show.f k v6).bind fun v8 => ((app v2 ([(⟨v7, v8⟩ : S58)] : List S58)).bind fun v9 => (impl_FieldsOf.l0 k v9 v1 (IntKind.i64.wrap (v3 + 1))))))) else (some v2))
def impl_FieldsOf.f : Nat → ByteArray → Option ((List S58))
 | 0, _ => none
 | k + 1, v0 => ((impl_read.f k v0).bind fun v1 => (bif v1.2 then (bif (v1.1.f0 == 7) then (impl_FieldsOf.l0 k [] v1 0) else (some ([] : (List S58)))) else (some ([] : (List S58)))))
end
set_option maxRecDepth 100000 in
set_option maxHeartbeats 4000000 in
theorem impl_FieldsOf.con {K : Kn} [KOk K] {k : Nat} {v0 : ByteArray} {r : (List S58)} (h : impl_FieldsOf.f k v0 = some r) : Con K Tryz.prog 22 [.p (.str v0)] [] (.p (.lst false (List.map en58 r))) [] := by
 cases k with
 | zero => exact absurd h (by simp [impl_FieldsOf.f])
 | succ k =>
 rw [impl_FieldsOf.f] at h
 refine con_intro 41 [] Tryz.func22 (by kernel_rfl) rfl rfl (by kernel_rfl) fun ι0 w0 hk0 => ?_
 revert h
 refine go 3 ?_
 refine grs ?_
 refine gr_run ?_
 refine bind_e (fun v1 e1 => gr_call [] (impl_read.con e1) ?_)
 clear e1
 refine gr_run ?_
 refine gr_done ?_
 refine bif_e (fun c1 => ?_) (fun c1 => ?_)
 ·refine bif_e (fun c2 => ?_) (fun c2 => ?_)
  ·refine go 11 ?_
   refine adopt_ 5 38 2 ?_
   refine fun h => good_loop (fun n st => n ≤ k ∧ ∃ (v2 : _) (v3 : _) (g4 : Nat) (g5 : Nat), st = ⟨[(3, .ptr 3 1 0), (5, .tip 38 g5 (List.map en58 v2)), (21, .p (.lst false (List.map en46 v1.1.f5))), (22, .p (.int .i64 (v1.1.f5.length : Int))), (23, .p (.int .i64 v3))], [(3, (1, .cells [.p (.int .i64 v1.1.f0), .p (.int .i64 v1.1.f1), .p (.int .i64 v1.1.f2), .p (.str v1.1.f3), .p (.lst false (List.map srw v1.1.f4)), .p (.lst false (List.map en46 v1.1.f5))])), (7, (g4, .gone)), (38, (g5, .tip 2 (v2).length))]⟩ ∧ impl_FieldsOf.l0 n v2 v1 v3 = some r) k ⟨_, ⟨Nat.le_refl _, _, _, 0, 1, rfl, h⟩, frle_, memle_⟩ ?_
   clear c1 c2
   clear h
   rintro n _ ⟨hkl0, v2, v3, g4, g5, rfl, h⟩ hl0
   cases n with
   | zero => exact absurd h (by simp [impl_FieldsOf.l0])
   | succ kl0 =>
   rw [impl_FieldsOf.l0] at h
   revert h
   refine bif_e (fun c3 => ?_) (fun c3 => ?_)
   ·refine bind_e (fun v6 e6 => ?_)
    replace e6 := nf_ (ix_en en46 e6)
    refine bind_e (fun v7 e7 => ?_)
    replace e7 := nf_ (ix_en srw e7)
    refine go 9 ?_
    refine grs ?_
    refine gr_run ?_
    refine bind_e (fun v8 e8 => gr_call [] (impl_val_show.con e8) ?_)
    clear e8
    refine bind_e (fun v9 e9 => ?_)
    replace e9 := nf_ (app_en en58 e9)
    refine gr_run ?_
    refine gr_done ?_
    refine go 2 ?_
    exact fun h => good_again hl0 (by omega) ⟨_, ⟨by omega, _, _, g4 + 1, g5, rfl, h⟩, frle_, memle_⟩
   ·refine go 7 ?_
    refine ret_e (fun hr_ => ?_)
    subst hr_
    exact ret_ Tryz.func22 []
  ·refine go 6 ?_
   refine ret_e (fun hr_ => ?_)
   subst hr_
   exact ret_ Tryz.func22 []
 ·refine go 6 ?_
  refine ret_e (fun hr_ => ?_)
  subst hr_
  exact ret_ Tryz.func22 []
mutual
def impl_insert.j1 : Nat → (List ByteArray) → ByteArray → Int → Option ((List ByteArray))
 | 0, _, _, _ => none
 | k + 1, v0, v1, v2 => ((mks (⟨#[]⟩ : ByteArray) 0 (IntKind.i64.wrap ((v0.length : Int) + 1))).bind fun v5 => ((lsub v0 0 v2).bind fun v6 => ((app v5 v6).bind fun v7 => ((app v7 ([v1] : List ByteArray)).bind fun v8 => ((lsub v0 v2 (v0.length : Int)).bind fun v9 => ((app v8 v9).bind fun v10 => (some v10)))))))
def impl_insert.j0 : Nat → (List ByteArray) → ByteArray → Int → Option ((List ByteArray))
 | 0, _, _, _ => none
 | k + 1, v0, v1, v2 => (bif decide (v2 < (v0.length : Int)) then ((ix v0 v2).bind fun v4 => (bif decide (v4 = v1) then (some v0) else (impl_insert.j1 k v0 v1 v2))) else (impl_insert.j1 k v0 v1 v2))
def impl_insert.l0 : Nat → (List ByteArray) → ByteArray → Int → Option ((List ByteArray))
 | 0, _, _, _ => none
 | k + 1, v0, v1, v2 => (bif decide (v2 < (v0.length : Int)) then ((ix v0 v2).bind fun v3 => (bif slt v3 v1 then (impl_insert.l0 k v0 v1 (IntKind.i64.wrap (v2 + 1))) else (impl_insert.j0 k v0 v1 v2))) else (impl_insert.j0 k v0 v1 v2))
def impl_insert.f : Nat → (List ByteArray) → ByteArray → Option ((List ByteArray))
 | 0, _, _ => none
 | k + 1, v0, v1 => (impl_insert.l0 k v0 v1 0)
end
set_option maxRecDepth 100000 in
set_option maxHeartbeats 4000000 in
theorem impl_insert.con {K : Kn} [KOk K] {k : Nat} {v0 : (List ByteArray)} {v1 : ByteArray} {r : (List ByteArray)} (h : impl_insert.f k v0 v1 = some r) : Con K Tryz.prog 44 [.p (.lst false (List.map srw v0)), .p (.str v1)] [] (.p (.lst false (List.map srw r))) [] := by
 cases k with
 | zero => exact absurd h (by simp [impl_insert.f])
 | succ k =>
 rw [impl_insert.f] at h
 refine con_intro 52 [42, 46, 51] Tryz.func44 (by kernel_rfl) rfl rfl (by kernel_rfl) fun ι0 w0 hk0 => ?_
 revert h
 refine go 6 ?_
 refine fun h => good_loop (fun n st => n ≤ k ∧ ∃ (v2 : _), st = ⟨[(0, .p (.lst false (List.map srw v0))), (1, .p (.str v1)), (5, .p (.int .i64 v2))], []⟩ ∧ impl_insert.l0 n v0 v1 v2 = some r) k ⟨_, ⟨Nat.le_refl _, _, rfl, h⟩, frle_, memle_⟩ ?_
 clear h
 rintro n _ ⟨hkl0, v2, rfl, h⟩ hl0
 cases n with
 | zero => exact absurd h (by simp [impl_insert.l0])
 | succ kl0 =>
 rw [impl_insert.l0] at h
 revert h
 refine go 2 ?_
 refine good_cut_f (fun st => ∃ (q_ : Nat), q_ ≤ kl0 ∧ st = ⟨[(0, .p (.lst false (List.map srw v0))), (1, .p (.str v1)), (5, .p (.int .i64 v2))], []⟩ ∧ impl_insert.j0 q_ v0 v1 v2 = some r) ?_ (fun hj0 => ?_)
 ·skip
  rintro _ ⟨q_, hqj0, rfl, h⟩
  cases q_ with
  | zero => exact absurd h (by simp [impl_insert.j0])
  | succ kj0 =>
  rw [impl_insert.j0] at h
  revert h
  refine go 3 ?_
  refine good_cut_f (fun st => ∃ (q_ : Nat), q_ ≤ kj0 ∧ st = ⟨[(0, .p (.lst false (List.map srw v0))), (1, .p (.str v1)), (5, .p (.int .i64 v2))], []⟩ ∧ impl_insert.j1 q_ v0 v1 v2 = some r) ?_ (fun hj1 => ?_)
  ·skip
   rintro _ ⟨q_, hqj1, rfl, h⟩
   cases q_ with
   | zero => exact absurd h (by simp [impl_insert.j1])
   | succ kj1 =>
   rw [impl_insert.j1] at h
   revert h
   refine bind_e (fun v5 e5 => ?_)
   replace e5 := nf_ (mks_en srw e5)
   refine bind_e (fun v6 e6 => ?_)
   replace e6 := nf_ (lsub_en srw e6)
   refine bind_e (fun v7 e7 => ?_)
   replace e7 := nf_ (app_en srw e7)
   refine bind_e (fun v8 e8 => ?_)
   replace e8 := nf_ (app_en srw e8)
   refine bind_e (fun v9 e9 => ?_)
   replace e9 := nf_ (lsub_en srw e9)
   refine bind_e (fun v10 e10 => ?_)
   replace e10 := nf_ (app_en srw e10)
   refine go 9 ?_
   refine freeze_ 4 ?_
   refine ret_e (fun hr_ => ?_)
   subst hr_
   exact ret_ Tryz.func44 []
  ·refine bif_e (fun c1 => ?_) (fun c1 => ?_)
   ·refine bind_e (fun v4 e4 => ?_)
    replace e4 := nf_ (ix_en srw e4)
    refine bif_e (fun c2 => ?_) (fun c2 => ?_)
    ·refine go 4 ?_
     refine ret_e (fun hr_ => ?_)
     subst hr_
     exact ret_ Tryz.func44 []
    ·refine go 2 ?_
     exact fun h => good_jump hj1 ⟨_, ⟨_, by omega, rfl, h⟩, frle_, memle_⟩
   ·refine go 2 ?_
    exact fun h => good_jump hj1 ⟨_, ⟨_, by omega, rfl, h⟩, frle_, memle_⟩
 ·refine bif_e (fun c3 => ?_) (fun c3 => ?_)
  ·refine bind_e (fun v3 e3 => ?_)
   replace e3 := nf_ (ix_en srw e3)
   refine bif_e (fun c4 => ?_) (fun c4 => ?_)
   ·refine go 6 ?_
    exact fun h => good_again hl0 (by omega) ⟨_, ⟨by omega, _, rfl, h⟩, frle_, memle_⟩
   ·refine go 2 ?_
    exact fun h => good_jump hj0 ⟨_, ⟨_, by omega, rfl, h⟩, frle_, memle_⟩
  ·refine go 2 ?_
   exact fun h => good_jump hj0 ⟨_, ⟨_, by omega, rfl, h⟩, frle_, memle_⟩
mutual
def impl_MapOf.l1 : Nat → (List ByteArray) → Int → (List (ByteArray × S46)) → (List S46) → Option (ByteArray)
 | 0, _, _, _, _ => none
 | k + 1, v1, v11, v3, v12 => (bif decide (v11 < (v1.length : Int)) then ((ix v1 v11).bind fun v16 => ((app v12 ([(⟨(tget v3 v16 (⟨0, 0, 0, (⟨#[]⟩ : ByteArray), ([] : (List ByteArray)), ([] : (List S46))⟩ : S46)).f0, (tget v3 v16 (⟨0, 0, 0, (⟨#[]⟩ : ByteArray), ([] : (List ByteArray)), ([] : (List S46))⟩ : S46)).f1, (tget v3 v16 (⟨0, 0, 0, (⟨#[]⟩ : ByteArray), ([] : (List ByteArray)), ([] : (List S46))⟩ : S46)).f2, (tget v3 v16 (⟨0, 0, 0, (⟨#[]⟩ : ByteArray), ([] : (List ByteArray)), ([] : (List S46))⟩ : S46)).f3, (tget v3 v16 (⟨0, 0, 0, (⟨#[]⟩ : ByteArray), ([] : (List ByteArray)), ([] : (List S46))⟩ : S46)).f4, (tget v3 v16 (⟨0, 0, 0, (⟨#[]⟩ : ByteArray), ([] : (List ByteArray)), ([] : (List S46))⟩ : S46)).f5⟩ : S46)] : List S46)).bind fun v17 => (impl_MapOf.l1 k v1 (IntKind.i64.wrap (v11 + 1)) v3 v17))) else ((impl_val_sound.f k (⟨7, 0, 0, (⟨#[]⟩ : ByteArray), v1, v12⟩ : S46)).bind fun v14 => (bif v14 then ((impl_val_show.f k (⟨7, 0, 0, (⟨#[]⟩ : ByteArray), v1, v12⟩ : S46)).bind fun v15 => (some v15)) else (some (⟨#[]⟩ : ByteArray)))))
def impl_MapOf.l0 : Nat → (List ByteArray) → (List S58) → Int → (List (ByteArray × S46)) → Option (ByteArray)
 | 0, _, _, _, _ => none
 | k + 1, v1, v0, v2, v3 => (bif decide (v2 < (v0.length : Int)) then ((ix v0 v2).bind fun v7 => ((impl_read.f k v7.f1).bind fun v8 => (bif thas v3 v7.f0 then (some (⟨#[]⟩ : ByteArray)) else (bif v8.2 then ((impl_isName.f k v7.f0).bind fun v9 => (bif v9 then ((impl_insert.f k v1 v7.f0).bind fun v10 => (impl_MapOf.l0 k v10 v0 (IntKind.i64.wrap (v2 + 1)) (tput v3 v7.f0 v8.1))) else (some (⟨#[]⟩ : ByteArray)))) else (some (⟨#[]⟩ : ByteArray)))))) else (impl_MapOf.l1 k v1 0 v3 []))
def impl_MapOf.f : Nat → (List S58) → Option (ByteArray)
 | 0, _ => none
 | k + 1, v0 => (bif decide (1000 < (v0.length : Int)) then (some (⟨#[]⟩ : ByteArray)) else (impl_MapOf.l0 k [] v0 0 ([] : List (ByteArray × S46))))
end
set_option maxRecDepth 100000 in
set_option maxHeartbeats 4000000 in
theorem impl_MapOf.con {K : Kn} [KOk K] {k : Nat} {v0 : (List S58)} {r : ByteArray} (h : impl_MapOf.f k v0 = some r) : Con K Tryz.prog 21 [.p (.lst false (List.map en58 v0))] [] (.p (.str r)) [] := by
 cases k with
 | zero => exact absurd h (by simp [impl_MapOf.f])
 | succ k =>
 rw [impl_MapOf.f] at h
 refine con_intro 79 [] Tryz.func21 (by kernel_rfl) rfl rfl (by kernel_rfl) fun ι0 w0 hk0 => ?_
 revert h
 refine bif_e (fun c1 => ?_) (fun c1 => ?_)
 ·refine go 8 ?_
  refine ret_e (fun hr_ => ?_)
  subst hr_
  exact ret_ Tryz.func21 []
 ·refine go 15 ?_
  refine fun h => good_loop (fun n st => n ≤ k ∧ ∃ (v1 : _) (v2 : _) (v3 : _) (g4 : Nat) (g5 : Nat) (g6 : Nat), st = ⟨[(3, .mp 17 1), (4, .p (.lst false (List.map srw v1))), (18, .p (.lst false (List.map en58 v0))), (19, .p (.int .i64 (v0.length : Int))), (20, .p (.int .i64 v2))], [(17, (1, .map (.str) true (List.map (es en46) v3))), (6, (g4, .gone)), (7, (g5, .gone)), (9, (g6, .gone))]⟩ ∧ impl_MapOf.l0 n v1 v0 v2 v3 = some r) k ⟨_, ⟨Nat.le_refl _, _, _, _, 0, 0, 0, rfl, h⟩, frle_, memle_⟩ ?_
  clear c1
  clear h
  rintro n _ ⟨hkl0, v1, v2, v3, g4, g5, g6, rfl, h⟩ hl0
  cases n with
  | zero => exact absurd h (by simp [impl_MapOf.l0])
  | succ kl0 =>
  rw [impl_MapOf.l0] at h
  revert h
  refine bif_e (fun c2 => ?_) (fun c2 => ?_)
  ·refine bind_e (fun v7 e7 => ?_)
   replace e7 := nf_ (ix_en en58 e7)
   refine go 10 ?_
   refine grs ?_
   refine gr_run ?_
   refine bind_e (fun v8 e8 => gr_call [] (impl_read.con e8) ?_)
   clear e8
   refine gr_run ?_
   refine gr_done ?_
   refine bif_e (fun c3 => ?_) (fun c3 => ?_)
   ·refine go 8 ?_
    refine ret_e (fun hr_ => ?_)
    subst hr_
    exact ret_ Tryz.func21 []
   ·refine bif_e (fun c4 => ?_) (fun c4 => ?_)
    ·refine go 4 ?_
     refine grs ?_
     refine gr_run ?_
     refine bind_e (fun v9 e9 => gr_call [] (impl_isName.con e9) ?_)
     clear e9
     refine gr_run ?_
     refine gr_done ?_
     refine bif_e (fun c5 => ?_) (fun c5 => ?_)
     ·refine go 4 ?_
      refine grs ?_
      refine gr_run ?_
      refine bind_e (fun v10 e10 => gr_call [] (impl_insert.con e10) ?_)
      clear e10
      refine gr_run ?_
      refine gr_done ?_
      refine go 2 ?_
      exact fun h => good_again hl0 (by omega) ⟨_, ⟨by omega, _, _, _, g4 + 1, g5 + 1, g6 + 1, rfl, h⟩, frle_, memle_⟩
     ·refine go 3 ?_
      refine ret_e (fun hr_ => ?_)
      subst hr_
      exact ret_ Tryz.func21 []
    ·refine go 8 ?_
     refine ret_e (fun hr_ => ?_)
     subst hr_
     exact ret_ Tryz.func21 []
  ·refine go 11 ?_
   refine adoptc_ 11 5 71 6 ?_
   refine fun h => good_loop (fun n st => n ≤ kl0 ∧ ∃ (v11 : _) (v12 : _) (g13 : Nat), st = ⟨[(3, .mp 17 1), (11, .ptr 11 1 0), (59, .p (.lst false (List.map srw v1))), (60, .p (.int .i64 (v1.length : Int))), (61, .p (.int .i64 v11))], [(17, (1, .map (.str) true (List.map (es en46) v3))), (6, (g4, .gone)), (7, (g5, .gone)), (9, (g6, .gone)), (11, (1, .cells [.p (.int .i64 7), .p (.int .i64 0), .p (.int .i64 0), .p (.str (⟨#[]⟩ : ByteArray)), .p (.lst false (List.map srw v1)), .tip 71 g13 (List.map en46 v12)])), (71, (g13, .tip 6 (v12).length))]⟩ ∧ impl_MapOf.l1 n v1 v11 v3 v12 = some r) kl0 ⟨_, ⟨Nat.le_refl _, _, _, 1, rfl, h⟩, frle_, memle_⟩ ?_
   clear c2
   clear h
   rintro n _ ⟨hkl1, v11, v12, g13, rfl, h⟩ hl1
   cases n with
   | zero => exact absurd h (by simp [impl_MapOf.l1])
   | succ kl1 =>
   rw [impl_MapOf.l1] at h
   revert h
   refine bif_e (fun c6 => ?_) (fun c6 => ?_)
   ·refine bind_e (fun v16 e16 => ?_)
    replace e16 := nf_ (ix_en srw e16)
    refine bind_e (fun v17 e17 => ?_)
    replace e17 := nf_ (app_en en46 e17)
    refine go 12 ?_
    exact fun h => good_again hl1 (by omega) ⟨_, ⟨by omega, _, _, g13, rfl, h⟩, frle_, memle_⟩
   ·refine go 7 ?_
    refine grs ?_
    refine gr_run ?_
    refine bind_e (fun v14 e14 => gr_call [] (impl_val_sound.con e14) ?_)
    clear e14
    refine gr_run ?_
    refine gr_done ?_
    refine bif_e (fun c7 => ?_) (fun c7 => ?_)
    ·refine go 3 ?_
     refine grs ?_
     refine gr_run ?_
     refine bind_e (fun v15 e15 => gr_call [] (impl_val_show.con e15) ?_)
     clear e15
     refine gr_run ?_
     refine gr_done ?_
     refine ret_e (fun hr_ => ?_)
     subst hr_
     exact ret_ Tryz.func21 []
    ·refine go 3 ?_
     refine ret_e (fun hr_ => ?_)
     subst hr_
     exact ret_ Tryz.func21 []
end Go.Ab
