/- What the functions compute, and their contracts, part 2. No condition beyond KOk. -/
import Derived.Test.YtoodlgdbpfaolaaAbX
namespace Go.Ab
open Go.Proofs
set_option linter.unusedVariables false
set_option linter.unusedSimpArgs false
def spec_l01Letter.f (k : Nat) (v0 : Int) : Option (Bool) := (bif decide (97 ≤ v0) then (bif decide (v0 ≤ 122) then (some true) else (bif decide (65 ≤ v0) then (some (decide (v0 ≤ 90))) else (some false))) else (bif decide (65 ≤ v0) then (some (decide (v0 ≤ 90))) else (some false)))
set_option maxRecDepth 100000 in
set_option maxHeartbeats 4000000 in
theorem spec_l01Letter.con {K : Kn} [KOk K] {k : Nat} {v0 : Int} {r : Bool} (h : spec_l01Letter.f k v0 = some r) : Con K Try.prog 32 [.p (.int .u8 v0)] [] (.p (.bool r)) [] := by
 rw [spec_l01Letter.f] at h
 refine con_intro 17 [] Try.func32 (by kernel_rfl) rfl rfl (by kernel_rfl) fun ι0 w0 hk0 => ?_
 revert h
 refine bif_e (fun c1 => ?_) (fun c1 => ?_)
 ·refine bif_e (fun c2 => ?_) (fun c2 => ?_)
  ·refine go 4 ?_
   refine ret_e (fun hr_ => ?_)
   subst hr_
   exact ret_ Try.func32 []
  ·refine bif_e (fun c3 => ?_) (fun c3 => ?_)
   ·refine go 4 ?_
    refine ret_e (fun hr_ => ?_)
    subst hr_
    exact ret_ Try.func32 []
   ·refine go 4 ?_
    refine ret_e (fun hr_ => ?_)
    subst hr_
    exact ret_ Try.func32 []
 ·refine bif_e (fun c4 => ?_) (fun c4 => ?_)
  ·refine go 4 ?_
   refine ret_e (fun hr_ => ?_)
   subst hr_
   exact ret_ Try.func32 []
  ·refine go 4 ?_
   refine ret_e (fun hr_ => ?_)
   subst hr_
   exact ret_ Try.func32 []
def spec_l01Digit.f (k : Nat) (v0 : Int) : Option (Bool) := (bif decide (48 ≤ v0) then (some (decide (v0 ≤ 57))) else (some false))
set_option maxRecDepth 100000 in
set_option maxHeartbeats 4000000 in
theorem spec_l01Digit.con {K : Kn} [KOk K] {k : Nat} {v0 : Int} {r : Bool} (h : spec_l01Digit.f k v0 = some r) : Con K Try.prog 33 [.p (.int .u8 v0)] [] (.p (.bool r)) [] := by
 rw [spec_l01Digit.f] at h
 refine con_intro 9 [] Try.func33 (by kernel_rfl) rfl rfl (by kernel_rfl) fun ι0 w0 hk0 => ?_
 revert h
 refine bif_e (fun c1 => ?_) (fun c1 => ?_)
 ·refine go 4 ?_
  refine ret_e (fun hr_ => ?_)
  subst hr_
  exact ret_ Try.func33 []
 ·refine go 4 ?_
  refine ret_e (fun hr_ => ?_)
  subst hr_
  exact ret_ Try.func33 []
mutual
def spec_l01Name.l0 : Nat → ByteArray → Int → Option (Bool)
 | 0, _, _ => none
 | k + 1, v0, v3 => (bif decide (v3 < (v0.size : Int)) then ((bix v0 v3).bind fun v4 => ((spec_l01Letter.f k v4).bind fun v5 => (bif v5 then (spec_l01Name.l0 k v0 (IntKind.i64.wrap (v3 + 1))) else ((spec_l01Digit.f k v4).bind fun v7 => (bif v7 then (spec_l01Name.l0 k v0 (IntKind.i64.wrap (v3 + 1))) else (bif (v4 == 95) then (spec_l01Name.l0 k v0 (IntKind.i64.wrap (v3 + 1))) else (some false))))))) else (some true))
def spec_l01Name.f : Nat → ByteArray → Option (Bool)
 | 0, _ => none
 | k + 1, v0 => (bif decide ((v0.size : Int) < 1) then (some false) else (bif decide (20 < (v0.size : Int)) then (some false) else ((bix v0 0).bind fun v1 => ((spec_l01Letter.f k v1).bind fun v2 => (bif v2 then (spec_l01Name.l0 k v0 1) else (some false))))))
end
set_option maxRecDepth 100000 in
set_option maxHeartbeats 4000000 in
theorem spec_l01Name.con {K : Kn} [KOk K] {k : Nat} {v0 : ByteArray} {r : Bool} (h : spec_l01Name.f k v0 = some r) : Con K Try.prog 27 [.p (.str v0)] [] (.p (.bool r)) [] := by
 cases k with
 | zero => exact absurd h (by simp [spec_l01Name.f])
 | succ k =>
 rw [spec_l01Name.f] at h
 refine con_intro 42 [] Try.func27 (by kernel_rfl) rfl rfl (by kernel_rfl) fun ι0 w0 hk0 => ?_
 revert h
 refine bif_e (fun c1 => ?_) (fun c1 => ?_)
 ·refine go 8 ?_
  refine ret_e (fun hr_ => ?_)
  subst hr_
  exact ret_ Try.func27 []
 ·refine bif_e (fun c2 => ?_) (fun c2 => ?_)
  ·refine go 8 ?_
   refine ret_e (fun hr_ => ?_)
   subst hr_
   exact ret_ Try.func27 []
  ·refine bind_e (fun v1 e1 => ?_)
   refine go 4 ?_
   refine grs ?_
   refine gr_run ?_
   refine bind_e (fun v2 e2 => gr_call [] (spec_l01Letter.con e2) ?_)
   clear e2
   refine gr_run ?_
   refine gr_done ?_
   refine bif_e (fun c3 => ?_) (fun c3 => ?_)
   ·refine go 6 ?_
    refine fun h => good_loop (fun n st => n ≤ k ∧ ∃ (v3 : _), st = ⟨[(0, .p (.str v0)), (3, .p (.int .i64 v3))], []⟩ ∧ spec_l01Name.l0 n v0 v3 = some r) k ⟨_, ⟨Nat.le_refl _, _, rfl, h⟩, frle_, memle_⟩ ?_
    clear c1 c2 e1 c3
    clear h
    rintro n _ ⟨hkl0, v3, rfl, h⟩ hl0
    cases n with
    | zero => exact absurd h (by simp [spec_l01Name.l0])
    | succ kl0 =>
    rw [spec_l01Name.l0] at h
    revert h
    refine bif_e (fun c4 => ?_) (fun c4 => ?_)
    ·refine bind_e (fun v4 e4 => ?_)
     refine go 8 ?_
     refine grs ?_
     refine gr_run ?_
     refine bind_e (fun v5 e5 => gr_call [] (spec_l01Letter.con e5) ?_)
     clear e5
     refine bif_e (fun c5 => ?_) (fun c5 => ?_)
     ·refine gr_run ?_
      refine gr_done ?_
      refine go 4 ?_
      exact fun h => good_again hl0 (by omega) ⟨_, ⟨by omega, _, rfl, h⟩, frle_, memle_⟩
     ·refine gr_run ?_
      refine bind_e (fun v7 e7 => gr_call [] (spec_l01Digit.con e7) ?_)
      clear e7
      refine bif_e (fun c6 => ?_) (fun c6 => ?_)
      ·refine gr_run ?_
       refine gr_done ?_
       refine go 4 ?_
       exact fun h => good_again hl0 (by omega) ⟨_, ⟨by omega, _, rfl, h⟩, frle_, memle_⟩
      ·refine gr_run ?_
       refine gr_done ?_
       refine bif_e (fun c7 => ?_) (fun c7 => ?_)
       ·refine go 4 ?_
        exact fun h => good_again hl0 (by omega) ⟨_, ⟨by omega, _, rfl, h⟩, frle_, memle_⟩
       ·refine go 3 ?_
        refine ret_e (fun hr_ => ?_)
        subst hr_
        exact ret_ Try.func27 []
    ·refine go 7 ?_
     refine ret_e (fun hr_ => ?_)
     subst hr_
     exact ret_ Try.func27 []
   ·refine go 3 ?_
    refine ret_e (fun hr_ => ?_)
    subst hr_
    exact ret_ Try.func27 []
def spec_l08Test_takes.f (k : Nat) (v0 : Int) (v1 : S72) : Option (Bool × S72) := (bif v1.f3 then (some (false, v1)) else (bif decide (v1.f1 < (v1.f0.size : Int)) then ((bix v1.f0 v1.f1).bind fun v2 => (bif (v2 == v0) then (some (true, (⟨v1.f0, (IntKind.i64.wrap (v1.f1 + 1)), v1.f2, v1.f3⟩ : S72))) else (some (false, v1)))) else (some (false, v1))))
set_option maxRecDepth 100000 in
set_option maxHeartbeats 4000000 in
theorem spec_l08Test_takes.con {K : Kn} [KOk K] {k : Nat} {v0 : Int} {v1 : S72} {r : Bool × S72} (h : spec_l08Test_takes.f k v0 v1 = some r) : Con K Try.prog 44 [.ptr 1000 0 0, .p (.int .u8 v0)] [(1000, (0, .cells [.p (.str v1.f0), .p (.int .i64 v1.f1), .p (.int .i64 v1.f2), .p (.bool v1.f3)]))] (.p (.bool r.1)) [(1000, (0, .cells [.p (.str r.2.f0), .p (.int .i64 r.2.f1), .p (.int .i64 r.2.f2), .p (.bool r.2.f3)]))] := by
 rw [spec_l08Test_takes.f] at h
 refine con_intro 43 [] Try.func44 (by kernel_rfl) rfl rfl (by kernel_rfl) fun ι0 w0 hk0 => ?_
 revert h
 refine bif_e (fun c1 => ?_) (fun c1 => ?_)
 ·refine go 4 ?_
  refine grs ?_
  refine gr_run ?_
  refine gr_done ?_
  refine go 4 ?_
  refine ret_e (fun hr_ => ?_)
  subst hr_
  exact ret_ Try.func44 [(1000, (0, 1000, 0))]
 ·refine bif_e (fun c2 => ?_) (fun c2 => ?_)
  ·refine bind_e (fun v2 e2 => ?_)
   refine go 4 ?_
   refine grs ?_
   refine gr_run ?_
   refine gr_done ?_
   refine bif_e (fun c3 => ?_) (fun c3 => ?_)
   ·refine go 5 ?_
    refine ret_e (fun hr_ => ?_)
    subst hr_
    exact ret_ Try.func44 [(1000, (0, 1000, 0))]
   ·refine go 4 ?_
    refine ret_e (fun hr_ => ?_)
    subst hr_
    exact ret_ Try.func44 [(1000, (0, 1000, 0))]
  ·refine go 4 ?_
   refine grs ?_
   refine gr_run ?_
   refine gr_done ?_
   refine go 4 ?_
   refine ret_e (fun hr_ => ?_)
   subst hr_
   exact ret_ Try.func44 [(1000, (0, 1000, 0))]
def spec_l08In.f (k : Nat) (v0 : S61) (v1 : Int) : Option (ByteArray) := (bif decide (v0.f1 < v1) then ((cat (⟨#[40]⟩ : ByteArray) v0.f0).bind fun v2 => ((cat v2 (⟨#[41]⟩ : ByteArray)).bind fun v3 => (some v3))) else (some v0.f0))
set_option maxRecDepth 100000 in
set_option maxHeartbeats 4000000 in
theorem spec_l08In.con {K : Kn} [KOk K] {k : Nat} {v0 : S61} {v1 : Int} {r : ByteArray} (h : spec_l08In.f k v0 v1 = some r) : Con K Try.prog 45 [.agg [.p (.str v0.f0), .p (.int .i64 v0.f1), .p (.bool v0.f2)], .p (.int .i64 v1)] [] (.p (.str r)) [] := by
 rw [spec_l08In.f] at h
 refine con_intro 15 [] Try.func45 (by kernel_rfl) rfl rfl (by kernel_rfl) fun ι0 w0 hk0 => ?_
 revert h
 refine bif_e (fun c1 => ?_) (fun c1 => ?_)
 ·refine bind_e (fun v2 e2 => ?_)
  refine bind_e (fun v3 e3 => ?_)
  refine go 8 ?_
  refine ret_e (fun hr_ => ?_)
  subst hr_
  exact ret_ Try.func45 []
 ·refine go 9 ?_
  refine ret_e (fun hr_ => ?_)
  subst hr_
  exact ret_ Try.func45 []
mutual
def spec_l01InTexts.l0 : Nat → (List ByteArray) → ByteArray → Int → Option (Bool)
 | 0, _, _, _ => none
 | k + 1, v0, v1, v2 => (bif decide (v2 < (v0.length : Int)) then ((ix v0 v2).bind fun v3 => (bif decide (v3 = v1) then (some true) else (spec_l01InTexts.l0 k v0 v1 (IntKind.i64.wrap (v2 + 1))))) else (some false))
def spec_l01InTexts.f : Nat → (List ByteArray) → ByteArray → Option (Bool)
 | 0, _, _ => none
 | k + 1, v0, v1 => (spec_l01InTexts.l0 k v0 v1 0)
end
set_option maxRecDepth 100000 in
set_option maxHeartbeats 4000000 in
theorem spec_l01InTexts.con {K : Kn} [KOk K] {k : Nat} {v0 : (List ByteArray)} {v1 : ByteArray} {r : Bool} (h : spec_l01InTexts.f k v0 v1 = some r) : Con K Try.prog 46 [.p (.lst false (List.map srw v0)), .p (.str v1)] [] (.p (.bool r)) [] := by
 cases k with
 | zero => exact absurd h (by simp [spec_l01InTexts.f])
 | succ k =>
 rw [spec_l01InTexts.f] at h
 refine con_intro 18 [] Try.func46 (by kernel_rfl) rfl rfl (by kernel_rfl) fun ι0 w0 hk0 => ?_
 revert h
 refine go 6 ?_
 refine fun h => good_loop (fun n st => n ≤ k ∧ ∃ (v2 : _), st = ⟨[(0, .p (.lst false (List.map srw v0))), (1, .p (.str v1)), (5, .p (.int .i64 v2))], []⟩ ∧ spec_l01InTexts.l0 n v0 v1 v2 = some r) k ⟨_, ⟨Nat.le_refl _, _, rfl, h⟩, frle_, memle_⟩ ?_
 clear h
 rintro n _ ⟨hkl0, v2, rfl, h⟩ hl0
 cases n with
 | zero => exact absurd h (by simp [spec_l01InTexts.l0])
 | succ kl0 =>
 rw [spec_l01InTexts.l0] at h
 revert h
 refine bif_e (fun c1 => ?_) (fun c1 => ?_)
 ·refine bind_e (fun v3 e3 => ?_)
  replace e3 := nf_ (ix_en srw e3)
  refine bif_e (fun c2 => ?_) (fun c2 => ?_)
  ·refine go 12 ?_
   refine ret_e (fun hr_ => ?_)
   subst hr_
   exact ret_ Try.func46 []
  ·refine go 13 ?_
   exact fun h => good_again hl0 (by omega) ⟨_, ⟨by omega, _, rfl, h⟩, frle_, memle_⟩
 ·refine go 7 ?_
  refine ret_e (fun hr_ => ?_)
  subst hr_
  exact ret_ Try.func46 []
mutual
def spec_l08Test_read.j0 : Nat → (Bool × S72) → (S61 × S72) → Option (S61 × S72)
 | 0, _, _ => none
 | k + 1, v11, v10 => (some (v10.1, (⟨v11.2.f0, v11.2.f1, (IntKind.i64.wrap (v11.2.f2 - 1)), true⟩ : S72)))
def spec_l08Test_read.j1 : Nat → (List ByteArray) → (Bool × S72) → Int → Option (S61 × S72)
 | 0, _, _, _ => none
 | k + 1, v1, v9, v12 => (spec_l08Test_read.l0 k v1 v9 (IntKind.i64.wrap (v12 + 1)))
def spec_l08Test_read.j2 : Nat → (List ByteArray) → (Bool × S72) → Int → Option (S61 × S72)
 | 0, _, _, _ => none
 | k + 1, v1, v9, v12 => ((sub v9.2.f0 v9.2.f1 v12).bind fun v18 => ((spec_l01Name.f k v18).bind fun v19 => (bif v19 then ((spec_l01InTexts.f k v1 v18).bind fun v20 => (some ((⟨v18, 3, v20⟩ : S61), (⟨v9.2.f0, v12, v9.2.f2, v9.2.f3⟩ : S72)))) else ((spec_l01InTexts.f k v1 v18).bind fun v21 => (some ((⟨v18, 3, v21⟩ : S61), (⟨v9.2.f0, v9.2.f1, v9.2.f2, true⟩ : S72)))))))
def spec_l08Test_read.l0 : Nat → (List ByteArray) → (Bool × S72) → Int → Option (S61 × S72)
 | 0, _, _, _ => none
 | k + 1, v1, v9, v12 => (bif decide (v12 < (v9.2.f0.size : Int)) then ((bix v9.2.f0 v12).bind fun v13 => ((spec_l01Letter.f k v13).bind fun v14 => (bif v14 then (spec_l08Test_read.j1 k v1 v9 v12) else ((spec_l01Digit.f k v13).bind fun v16 => (bif v16 then (spec_l08Test_read.j1 k v1 v9 v12) else (bif (v13 == 95) then (spec_l08Test_read.j1 k v1 v9 v12) else (spec_l08Test_read.j2 k v1 v9 v12))))))) else (spec_l08Test_read.j2 k v1 v9 v12))
def spec_l08Test_read.f : Nat → Int → (List ByteArray) → S72 → Option (S61 × S72)
 | 0, _, _, _ => none
 | k + 1, v0, v1, v2 => (bif v2.f3 then (some ((⟨(⟨#[]⟩ : ByteArray), 0, false⟩ : S61), v2)) else (bif (v0 == 1) then ((spec_l08Test_row.f k 1 124 v1 v2).bind fun v3 => (some (v3.1, v3.2))) else (bif (v0 == 2) then ((spec_l08Test_row.f k 2 38 v1 v2).bind fun v4 => (some (v4.1, v4.2))) else ((spec_l08Test_takes.f k 33 v2).bind fun v5 => (bif v5.1 then ((spec_l08Test_read.f k 3 v1 v5.2).bind fun v6 => ((spec_l08In.f k v6.1 3).bind fun v7 => ((cat (⟨#[33]⟩ : ByteArray) v7).bind fun v8 => (some ((⟨v8, 3, (!v6.1.f2)⟩ : S61), v6.2))))) else ((spec_l08Test_takes.f k 40 v5.2).bind fun v9 => (bif v9.1 then ((spec_l08Test_read.f k 1 v1 (⟨v9.2.f0, v9.2.f1, (IntKind.i64.wrap (v9.2.f2 + 1)), v9.2.f3⟩ : S72)).bind fun v10 => ((spec_l08Test_takes.f k 41 v10.2).bind fun v11 => (bif v11.1 then (bif decide (10 < v11.2.f2) then (spec_l08Test_read.j0 k v11 v10) else (some (v10.1, (⟨v11.2.f0, v11.2.f1, (IntKind.i64.wrap (v11.2.f2 - 1)), v11.2.f3⟩ : S72)))) else (spec_l08Test_read.j0 k v11 v10)))) else (spec_l08Test_read.l0 k v1 v9 v9.2.f1))))))))
def spec_l08Test_row.j1 : Nat → Int → Int → (List ByteArray) → Bool → (S61 × S72) → ByteArray → Int → Bool → Option (S61 × S72)
 | 0, _, _, _, _, _, _, _, _ => none
 | k + 1, v0, v1, v2, v17, v14, v9, v10, v18 => ((spec_l08In.f k (⟨v9, v10, v18⟩ : S61) v0).bind fun v19 => ((cat v19 (bstr ([v1] : List Int))).bind fun v20 => ((spec_l08In.f k v14.1 v0).bind fun v21 => ((cat v20 v21).bind fun v22 => (spec_l08Test_row.l0 k v0 v1 v2 v14.2.f0 v14.2.f1 v14.2.f2 v14.2.f3 v22 v0 v17)))))
def spec_l08Test_row.j0 : Nat → Int → Int → (List ByteArray) → Bool → (S61 × S72) → ByteArray → Int → Bool → Option (S61 × S72)
 | 0, _, _, _, _, _, _, _, _ => none
 | k + 1, v0, v1, v2, v15, v14, v9, v10, v16 => (bif (v0 == 2) then (bif v16 then (spec_l08Test_row.j1 k v0 v1 v2 v14.1.f2 v14 v9 v10 true) else (spec_l08Test_row.j1 k v0 v1 v2 false v14 v9 v10 false)) else (spec_l08Test_row.j1 k v0 v1 v2 v15 v14 v9 v10 v16))
def spec_l08Test_row.l0 : Nat → Int → Int → (List ByteArray) → ByteArray → Int → Int → Bool → ByteArray → Int → Bool → Option (S61 × S72)
 | 0, _, _, _, _, _, _, _, _, _, _ => none
 | k + 1, v0, v1, v2, v5, v6, v7, v8, v9, v10, v11 => ((spec_l08Test_takes.f k v1 (⟨v5, v6, v7, v8⟩ : S72)).bind fun v13 => (bif v13.1 then ((spec_l08Test_read.f k (IntKind.i64.wrap (v0 + 1)) v2 v13.2).bind fun v14 => (bif v11 then (spec_l08Test_row.j0 k v0 v1 v2 true v14 v9 v10 true) else (spec_l08Test_row.j0 k v0 v1 v2 v14.1.f2 v14 v9 v10 false))) else (some ((⟨v9, v10, v11⟩ : S61), v13.2))))
def spec_l08Test_row.f : Nat → Int → Int → (List ByteArray) → S72 → Option (S61 × S72)
 | 0, _, _, _, _ => none
 | k + 1, v0, v1, v2, v3 => ((spec_l08Test_read.f k (IntKind.i64.wrap (v0 + 1)) v2 v3).bind fun v4 => (spec_l08Test_row.l0 k v0 v1 v2 v4.2.f0 v4.2.f1 v4.2.f2 v4.2.f3 v4.1.f0 v4.1.f1 v4.1.f2))
end
def spec_l08Test_read.C (K : Kn) (k : Nat) : Prop := ∀ (v0 : Int) (v1 : (List ByteArray)) (v2 : S72) (r : S61 × S72), spec_l08Test_read.f k v0 v1 v2 = some r → Con K Try.prog 37 [.ptr 1000 0 0, .p (.int .i64 v0), .p (.lst false (List.map srw v1))] [(1000, (0, .cells [.p (.str v2.f0), .p (.int .i64 v2.f1), .p (.int .i64 v2.f2), .p (.bool v2.f3)]))] (.agg [.p (.str r.1.f0), .p (.int .i64 r.1.f1), .p (.bool r.1.f2)]) [(1000, (0, .cells [.p (.str r.2.f0), .p (.int .i64 r.2.f1), .p (.int .i64 r.2.f2), .p (.bool r.2.f3)]))]
def spec_l08Test_row.C (K : Kn) (k : Nat) : Prop := ∀ (v0 : Int) (v1 : Int) (v2 : (List ByteArray)) (v3 : S72) (r : S61 × S72), spec_l08Test_row.f k v0 v1 v2 v3 = some r → Con K Try.prog 43 [.ptr 1000 0 0, .p (.int .i64 v0), .p (.int .u8 v1), .p (.lst false (List.map srw v2))] [(1000, (0, .cells [.p (.str v3.f0), .p (.int .i64 v3.f1), .p (.int .i64 v3.f2), .p (.bool v3.f3)]))] (.agg [.p (.str r.1.f0), .p (.int .i64 r.1.f1), .p (.bool r.1.f2)]) [(1000, (0, .cells [.p (.str r.2.f0), .p (.int .i64 r.2.f1), .p (.int .i64 r.2.f2), .p (.bool r.2.f3)]))]
set_option maxRecDepth 100000 in
set_option maxHeartbeats 4000000 in
theorem spec_l08Test_read.con1 {K : Kn} [KOk K] (k : Nat) (spec_l08Test_read_ih : ∀ m, m < k → spec_l08Test_read.C K m) (spec_l08Test_row_ih : ∀ m, m < k → spec_l08Test_row.C K m) : spec_l08Test_read.C K k := by
 intro v0 v1 v2 r h
 cases k with
 | zero => exact absurd h (by simp [spec_l08Test_read.f])
 | succ k =>
 rw [spec_l08Test_read.f] at h
 refine con_intro 160 [] Try.func37 (by kernel_rfl) rfl rfl (by kernel_rfl) fun ι0 w0 hk0 => ?_
 revert h
 refine bif_e (fun c1 => ?_) (fun c1 => ?_)
 ·refine go 8 ?_
  refine ret_e (fun hr_ => ?_)
  subst hr_
  exact ret_ Try.func37 [(1000, (0, 1000, 0))]
 ·refine bif_e (fun c2 => ?_) (fun c2 => ?_)
  ·refine go 13 ?_
   refine grs ?_
   refine gr_run ?_
   refine bind_e (fun v3 e3 => gr_call [(1000, (0, 1000, 0))] (spec_l08Test_row_ih _ (by omega) _ _ _ _ _ e3) ?_)
   clear e3
   refine gr_run ?_
   refine gr_done ?_
   refine ret_e (fun hr_ => ?_)
   subst hr_
   exact ret_ Try.func37 [(1000, (0, 1000, 0))]
  ·refine bif_e (fun c3 => ?_) (fun c3 => ?_)
   ·refine go 16 ?_
    refine grs ?_
    refine gr_run ?_
    refine bind_e (fun v4 e4 => gr_call [(1000, (0, 1000, 0))] (spec_l08Test_row_ih _ (by omega) _ _ _ _ _ e4) ?_)
    clear e4
    refine gr_run ?_
    refine gr_done ?_
    refine ret_e (fun hr_ => ?_)
    subst hr_
    exact ret_ Try.func37 [(1000, (0, 1000, 0))]
   ·refine go 16 ?_
    refine grs ?_
    refine gr_run ?_
    refine bind_e (fun v5 e5 => gr_call [(1000, (0, 1000, 0))] (spec_l08Test_takes.con e5) ?_)
    clear e5
    refine gr_run ?_
    refine gr_done ?_
    refine bif_e (fun c4 => ?_) (fun c4 => ?_)
    ·refine go 2 ?_
     refine grs ?_
     refine gr_run ?_
     refine bind_e (fun v6 e6 => gr_call [(1000, (0, 1000, 0))] (spec_l08Test_read_ih _ (by omega) _ _ _ _ e6) ?_)
     clear e6
     refine gr_run ?_
     refine gr_done ?_
     refine go 1 ?_
     refine grs ?_
     refine gr_run ?_
     refine bind_e (fun v7 e7 => gr_call [] (spec_l08In.con e7) ?_)
     clear e7
     refine bind_e (fun v8 e8 => ?_)
     refine gr_run ?_
     refine gr_done ?_
     refine ret_e (fun hr_ => ?_)
     subst hr_
     exact ret_ Try.func37 [(1000, (0, 1000, 0))]
    ·refine go 2 ?_
     refine grs ?_
     refine gr_run ?_
     refine bind_e (fun v9 e9 => gr_call [(1000, (0, 1000, 0))] (spec_l08Test_takes.con e9) ?_)
     clear e9
     refine gr_run ?_
     refine gr_done ?_
     refine bif_e (fun c5 => ?_) (fun c5 => ?_)
     ·refine go 4 ?_
      refine grs ?_
      refine gr_run ?_
      refine bind_e (fun v10 e10 => gr_call [(1000, (0, 1000, 0))] (spec_l08Test_read_ih _ (by omega) _ _ _ _ e10) ?_)
      clear e10
      refine gr_run ?_
      refine gr_done ?_
      refine go 2 ?_
      refine good_cut_t (fun st => ∃ (v11 : _) (q_ : Nat), q_ ≤ k ∧ st = ⟨[(0, .ptr 1000 0 0), (6, .ptr 6 1 0), (8, .ptr 8 1 0)], [(1000, (0, .cells [.p (.str v11.2.f0), .p (.int .i64 v11.2.f1), .p (.int .i64 v11.2.f2), .p (.bool v11.2.f3)])), (6, (1, .cells [.p (.str (⟨#[]⟩ : ByteArray)), .p (.int .i64 0), .p (.bool false)])), (8, (1, .cells [.p (.str v10.1.f0), .p (.int .i64 v10.1.f1), .p (.bool v10.1.f2)]))]⟩ ∧ spec_l08Test_read.j0 q_ v11 v10 = some r) ?_ (fun hj0 => ?_)
      ·clear c1 c2 c3 c4 c5
       rintro _ ⟨v11, q_, hqj0, rfl, h⟩
       cases q_ with
       | zero => exact absurd h (by simp [spec_l08Test_read.j0])
       | succ kj0 =>
       rw [spec_l08Test_read.j0] at h
       revert h
       refine go 5 ?_
       refine ret_e (fun hr_ => ?_)
       subst hr_
       exact ret_ Try.func37 [(1000, (0, 1000, 0))]
      ·refine grs ?_
       refine gr_run ?_
       refine bind_e (fun v11 e11 => gr_call [(1000, (0, 1000, 0))] (spec_l08Test_takes.con e11) ?_)
       clear e11
       refine bif_e (fun c6 => ?_) (fun c6 => ?_)
       ·refine gr_run ?_
        refine gr_done ?_
        refine bif_e (fun c7 => ?_) (fun c7 => ?_)
        ·refine go 1 ?_
         exact fun h => good_jump hj0 ⟨_, ⟨_, _, by omega, rfl, h⟩, frle_, memle_⟩
        ·refine go 6 ?_
         refine ret_e (fun hr_ => ?_)
         subst hr_
         exact ret_ Try.func37 [(1000, (0, 1000, 0))]
       ·refine gr_run ?_
        refine gr_done ?_
        refine go 1 ?_
        exact fun h => good_jump hj0 ⟨_, ⟨_, _, by omega, rfl, h⟩, frle_, memle_⟩
     ·refine go 7 ?_
      refine fun h => good_loop (fun n st => n ≤ k ∧ ∃ (v12 : _), st = ⟨[(0, .ptr 1000 0 0), (2, .p (.lst false (List.map srw v1))), (6, .ptr 6 1 0), (9, .p (.int .i64 v9.2.f1))], [(1000, (0, .cells [.p (.str v9.2.f0), .p (.int .i64 v12), .p (.int .i64 v9.2.f2), .p (.bool v9.2.f3)])), (6, (1, .cells [.p (.str (⟨#[]⟩ : ByteArray)), .p (.int .i64 0), .p (.bool false)]))]⟩ ∧ spec_l08Test_read.l0 n v1 v9 v12 = some r) k ⟨_, ⟨Nat.le_refl _, _, rfl, h⟩, frle_, memle_⟩ ?_
      clear c1 c2 c3 c4 c5
      clear h
      rintro n _ ⟨hkl0, v12, rfl, h⟩ hl0
      cases n with
      | zero => exact absurd h (by simp [spec_l08Test_read.l0])
      | succ kl0 =>
      rw [spec_l08Test_read.l0] at h
      revert h
      refine go 2 ?_
      refine good_cut_t (fun st => ∃ (q_ : Nat), q_ ≤ kl0 ∧ st = ⟨[(0, .ptr 1000 0 0), (2, .p (.lst false (List.map srw v1))), (6, .ptr 6 1 0), (9, .p (.int .i64 v9.2.f1))], [(1000, (0, .cells [.p (.str v9.2.f0), .p (.int .i64 v12), .p (.int .i64 v9.2.f2), .p (.bool v9.2.f3)])), (6, (1, .cells [.p (.str (⟨#[]⟩ : ByteArray)), .p (.int .i64 0), .p (.bool false)]))]⟩ ∧ spec_l08Test_read.j1 q_ v1 v9 v12 = some r) ?_ (fun hj1 => ?_)
      ·skip
       rintro _ ⟨q_, hqj1, rfl, h⟩
       cases q_ with
       | zero => exact absurd h (by simp [spec_l08Test_read.j1])
       | succ kj1 =>
       rw [spec_l08Test_read.j1] at h
       revert h
       refine go 4 ?_
       exact fun h => good_again hl0 (by omega) ⟨_, ⟨by omega, _, rfl, h⟩, frle_, memle_⟩
      ·refine good_cut_f (fun st => ∃ (q_ : Nat), q_ ≤ kl0 ∧ st = ⟨[(0, .ptr 1000 0 0), (2, .p (.lst false (List.map srw v1))), (6, .ptr 6 1 0), (9, .p (.int .i64 v9.2.f1))], [(1000, (0, .cells [.p (.str v9.2.f0), .p (.int .i64 v12), .p (.int .i64 v9.2.f2), .p (.bool v9.2.f3)])), (6, (1, .cells [.p (.str (⟨#[]⟩ : ByteArray)), .p (.int .i64 0), .p (.bool false)]))]⟩ ∧ spec_l08Test_read.j2 q_ v1 v9 v12 = some r) ?_ (fun hj2 => ?_)
       ·skip
        rintro _ ⟨q_, hqj2, rfl, h⟩
        cases q_ with
        | zero => exact absurd h (by simp [spec_l08Test_read.j2])
        | succ kj2 =>
        rw [spec_l08Test_read.j2] at h
        revert h
        refine bind_e (fun v18 e18 => ?_)
        refine go 2 ?_
        refine grs ?_
        refine gr_run ?_
        refine gr_done ?_
        refine go 2 ?_
        refine grs ?_
        refine gr_run ?_
        refine bind_e (fun v19 e19 => gr_call [] (spec_l01Name.con e19) ?_)
        clear e19
        refine gr_run ?_
        refine gr_done ?_
        refine bif_e (fun c8 => ?_) (fun c8 => ?_)
        ·refine go 3 ?_
         refine grs ?_
         refine gr_run ?_
         refine bind_e (fun v20 e20 => gr_call [] (spec_l01InTexts.con e20) ?_)
         clear e20
         refine gr_run ?_
         refine gr_done ?_
         refine ret_e (fun hr_ => ?_)
         subst hr_
         exact ret_ Try.func37 [(1000, (0, 1000, 0))]
        ·refine go 5 ?_
         refine grs ?_
         refine gr_run ?_
         refine bind_e (fun v21 e21 => gr_call [] (spec_l01InTexts.con e21) ?_)
         clear e21
         refine gr_run ?_
         refine gr_done ?_
         refine ret_e (fun hr_ => ?_)
         subst hr_
         exact ret_ Try.func37 [(1000, (0, 1000, 0))]
       ·refine bif_e (fun c9 => ?_) (fun c9 => ?_)
        ·refine bind_e (fun v13 e13 => ?_)
         refine grs ?_
         refine gr_run ?_
         refine bind_e (fun v14 e14 => gr_call [] (spec_l01Letter.con e14) ?_)
         clear e14
         refine bif_e (fun c10 => ?_) (fun c10 => ?_)
         ·refine gr_run ?_
          refine gr_done ?_
          refine go 1 ?_
          exact fun h => good_jump hj1 ⟨_, ⟨_, by omega, rfl, h⟩, frle_, memle_⟩
         ·refine gr_run ?_
          refine bind_e (fun v16 e16 => gr_call [] (spec_l01Digit.con e16) ?_)
          clear e16
          refine bif_e (fun c11 => ?_) (fun c11 => ?_)
          ·refine gr_run ?_
           refine gr_done ?_
           refine go 1 ?_
           exact fun h => good_jump hj1 ⟨_, ⟨_, by omega, rfl, h⟩, frle_, memle_⟩
          ·refine gr_run ?_
           refine gr_done ?_
           refine bif_e (fun c12 => ?_) (fun c12 => ?_)
           ·refine go 1 ?_
            exact fun h => good_jump hj1 ⟨_, ⟨_, by omega, rfl, h⟩, frle_, memle_⟩
           ·refine go 1 ?_
            exact fun h => good_jump hj2 ⟨_, ⟨_, by omega, rfl, h⟩, frle_, memle_⟩
        ·refine grs ?_
         refine gr_run ?_
         refine gr_done ?_
         refine go 1 ?_
         exact fun h => good_jump hj2 ⟨_, ⟨_, by omega, rfl, h⟩, frle_, memle_⟩
set_option maxRecDepth 100000 in
set_option maxHeartbeats 4000000 in
theorem spec_l08Test_row.con1 {K : Kn} [KOk K] (k : Nat) (spec_l08Test_read_ih : ∀ m, m < k → spec_l08Test_read.C K m) (spec_l08Test_row_ih : ∀ m, m < k → spec_l08Test_row.C K m) : spec_l08Test_row.C K k := by
 intro v0 v1 v2 v3 r h
 cases k with
 | zero => exact absurd h (by simp [spec_l08Test_row.f])
 | succ k =>
 rw [spec_l08Test_row.f] at h
 refine con_intro 54 [] Try.func43 (by kernel_rfl) rfl rfl (by kernel_rfl) fun ι0 w0 hk0 => ?_
 revert h
 refine go 3 ?_
 refine grs ?_
 refine gr_run ?_
 refine bind_e (fun v4 e4 => gr_call [(1000, (0, 1000, 0))] (spec_l08Test_read_ih _ (by omega) _ _ _ _ e4) ?_)
 clear e4
 refine gr_run ?_
 refine gr_done ?_
 refine go 2 ?_
 refine fun h => good_loop (fun n st => n ≤ k ∧ ∃ (v5 : _) (v6 : _) (v7 : _) (v8 : _) (v9 : _) (v10 : _) (v11 : _) (g12 : Nat), st = ⟨[(0, .ptr 1000 0 0), (1, .p (.int .i64 v0)), (2, .p (.int .u8 v1)), (3, .p (.lst false (List.map srw v2))), (8, .ptr 8 1 0), (9, .ptr 9 1 0)], [(1000, (0, .cells [.p (.str v5), .p (.int .i64 v6), .p (.int .i64 v7), .p (.bool v8)])), (8, (1, .cells [.p (.str (⟨#[]⟩ : ByteArray)), .p (.int .i64 0), .p (.bool false)])), (9, (1, .cells [.p (.str v9), .p (.int .i64 v10), .p (.bool v11)])), (10, (g12, .gone))]⟩ ∧ spec_l08Test_row.l0 n v0 v1 v2 v5 v6 v7 v8 v9 v10 v11 = some r) k ⟨_, ⟨Nat.le_refl _, _, _, _, _, _, _, _, 0, rfl, h⟩, frle_, memle_⟩ ?_
 clear h
 rintro n _ ⟨hkl0, v5, v6, v7, v8, v9, v10, v11, g12, rfl, h⟩ hl0
 cases n with
 | zero => exact absurd h (by simp [spec_l08Test_row.l0])
 | succ kl0 =>
 rw [spec_l08Test_row.l0] at h
 revert h
 refine go 2 ?_
 refine grs ?_
 refine gr_run ?_
 refine bind_e (fun v13 e13 => gr_call [(1000, (0, 1000, 0))] (spec_l08Test_takes.con e13) ?_)
 clear e13
 refine gr_done ?_
 refine bif_e (fun c1 => ?_) (fun c1 => ?_)
 ·refine go 4 ?_
  refine grs ?_
  refine gr_run ?_
  refine bind_e (fun v14 e14 => gr_call [(1000, (0, 1000, 0))] (spec_l08Test_read_ih _ (by omega) _ _ _ _ e14) ?_)
  clear e14
  refine gr_run ?_
  refine gr_done ?_
  refine go 1 ?_
  refine good_cut (fun st => ∃ (v15 : _) (v16 : _) (q_ : Nat), q_ ≤ kl0 ∧ st = ⟨[(0, .ptr 1000 0 0), (1, .p (.int .i64 v0)), (2, .p (.int .u8 v1)), (3, .p (.lst false (List.map srw v2))), (8, .ptr 8 1 0), (9, .ptr 9 1 0), (10, .ptr 10 (g12 + 1) 0), (11, .p (.bool v15))], [(1000, (0, .cells [.p (.str v14.2.f0), .p (.int .i64 v14.2.f1), .p (.int .i64 v14.2.f2), .p (.bool v14.2.f3)])), (8, (1, .cells [.p (.str (⟨#[]⟩ : ByteArray)), .p (.int .i64 0), .p (.bool false)])), (9, (1, .cells [.p (.str v9), .p (.int .i64 v10), .p (.bool v16)])), (10, (g12 + 1, .cells [.p (.str v14.1.f0), .p (.int .i64 v14.1.f1), .p (.bool v14.1.f2)]))]⟩ ∧ spec_l08Test_row.j0 q_ v0 v1 v2 v15 v14 v9 v10 v16 = some r) ?_ (fun hj0 => ?_)
  ·clear c1
   rintro _ ⟨v15, v16, q_, hqj0, rfl, h⟩
   cases q_ with
   | zero => exact absurd h (by simp [spec_l08Test_row.j0])
   | succ kj0 =>
   rw [spec_l08Test_row.j0] at h
   revert h
   refine go 1 ?_
   refine good_cut (fun st => ∃ (v17 : _) (v18 : _) (q_ : Nat), q_ ≤ kj0 ∧ st = ⟨[(0, .ptr 1000 0 0), (1, .p (.int .i64 v0)), (2, .p (.int .u8 v1)), (3, .p (.lst false (List.map srw v2))), (8, .ptr 8 1 0), (9, .ptr 9 1 0), (10, .ptr 10 (g12 + 1) 0), (11, .p (.bool v17))], [(1000, (0, .cells [.p (.str v14.2.f0), .p (.int .i64 v14.2.f1), .p (.int .i64 v14.2.f2), .p (.bool v14.2.f3)])), (8, (1, .cells [.p (.str (⟨#[]⟩ : ByteArray)), .p (.int .i64 0), .p (.bool false)])), (9, (1, .cells [.p (.str v9), .p (.int .i64 v10), .p (.bool v18)])), (10, (g12 + 1, .cells [.p (.str v14.1.f0), .p (.int .i64 v14.1.f1), .p (.bool v14.1.f2)]))]⟩ ∧ spec_l08Test_row.j1 q_ v0 v1 v2 v17 v14 v9 v10 v18 = some r) ?_ (fun hj1 => ?_)
   ·skip
    rintro _ ⟨v17, v18, q_, hqj1, rfl, h⟩
    cases q_ with
    | zero => exact absurd h (by simp [spec_l08Test_row.j1])
    | succ kj1 =>
    rw [spec_l08Test_row.j1] at h
    revert h
    refine grs ?_
    refine gr_run ?_
    refine bind_e (fun v19 e19 => gr_call [] (spec_l08In.con e19) ?_)
    clear e19
    refine bind_e (fun v20 e20 => ?_)
    refine gr_run ?_
    refine bind_e (fun v21 e21 => gr_call [] (spec_l08In.con e21) ?_)
    clear e21
    refine bind_e (fun v22 e22 => ?_)
    refine gr_run ?_
    refine gr_done ?_
    refine go 1 ?_
    exact fun h => good_again hl0 (by omega) ⟨_, ⟨by omega, _, _, _, _, _, _, _, g12 + 1, rfl, h⟩, frle_, memle_⟩
   ·refine bif_e (fun c2 => ?_) (fun c2 => ?_)
    ·refine bif_e (fun c3 => ?_) (fun c3 => ?_)
     ·refine go 4 ?_
      exact fun h => good_jump hj1 ⟨_, ⟨_, _, _, by omega, rfl, h⟩, frle_, memle_⟩
     ·refine go 4 ?_
      exact fun h => good_jump hj1 ⟨_, ⟨_, _, _, by omega, rfl, h⟩, frle_, memle_⟩
    ·refine go 4 ?_
     exact fun h => good_jump hj1 ⟨_, ⟨_, _, _, by omega, rfl, h⟩, frle_, memle_⟩
  ·refine bif_e (fun c4 => ?_) (fun c4 => ?_)
   ·refine go 1 ?_
    exact fun h => good_jump hj0 ⟨_, ⟨_, _, _, by omega, rfl, h⟩, frle_, memle_⟩
   ·refine go 1 ?_
    exact fun h => good_jump hj0 ⟨_, ⟨_, _, _, by omega, rfl, h⟩, frle_, memle_⟩
 ·refine go 4 ?_
  refine ret_e (fun hr_ => ?_)
  subst hr_
  exact ret_ Try.func43 [(1000, (0, 1000, 0))]
theorem spec_l08Test_read.all {K : Kn} [KOk K] (k : Nat) : spec_l08Test_read.C K k ∧ spec_l08Test_row.C K k := by
 induction k using Nat.strongRecOn with
 | _ k ih => exact ⟨spec_l08Test_read.con1 k (fun m hm => (ih m hm).1) (fun m hm => (ih m hm).2), spec_l08Test_row.con1 k (fun m hm => (ih m hm).1) (fun m hm => (ih m hm).2)⟩
theorem spec_l08Test_read.con {K : Kn} [KOk K] {k : Nat} {v0 : Int} {v1 : (List ByteArray)} {v2 : S72} {r : S61 × S72} (h : spec_l08Test_read.f k v0 v1 v2 = some r) : Con K Try.prog 37 [.ptr 1000 0 0, .p (.int .i64 v0), .p (.lst false (List.map srw v1))] [(1000, (0, .cells [.p (.str v2.f0), .p (.int .i64 v2.f1), .p (.int .i64 v2.f2), .p (.bool v2.f3)]))] (.agg [.p (.str r.1.f0), .p (.int .i64 r.1.f1), .p (.bool r.1.f2)]) [(1000, (0, .cells [.p (.str r.2.f0), .p (.int .i64 r.2.f1), .p (.int .i64 r.2.f2), .p (.bool r.2.f3)]))] := (spec_l08Test_read.all k).1 _ _ _ r h
theorem spec_l08Test_row.con {K : Kn} [KOk K] {k : Nat} {v0 : Int} {v1 : Int} {v2 : (List ByteArray)} {v3 : S72} {r : S61 × S72} (h : spec_l08Test_row.f k v0 v1 v2 v3 = some r) : Con K Try.prog 43 [.ptr 1000 0 0, .p (.int .i64 v0), .p (.int .u8 v1), .p (.lst false (List.map srw v2))] [(1000, (0, .cells [.p (.str v3.f0), .p (.int .i64 v3.f1), .p (.int .i64 v3.f2), .p (.bool v3.f3)]))] (.agg [.p (.str r.1.f0), .p (.int .i64 r.1.f1), .p (.bool r.1.f2)]) [(1000, (0, .cells [.p (.str r.2.f0), .p (.int .i64 r.2.f1), .p (.int .i64 r.2.f2), .p (.bool r.2.f3)]))] := (spec_l08Test_read.all k).2 _ _ _ _ r h
def spec_l08Labels.f (k : Nat) (v0 : ByteArray) (v1 : Int) (v2 : (List ByteArray)) : Option (S61 × Int × Bool) := ((spec_l08Test_read.f k 1 v2 (⟨v0, v1, 0, false⟩ : S72)).bind fun v3 => (bif v3.2.f3 then (some (v3.1, v3.2.f1, false)) else ((sub v0 v1 v3.2.f1).bind fun v4 => (bif decide (v3.1.f0 = v4) then (some (v3.1, v3.2.f1, decide ((v3.1.f0.size : Int) ≤ 200))) else (some (v3.1, v3.2.f1, false))))))
set_option maxRecDepth 100000 in
set_option maxHeartbeats 4000000 in
theorem spec_l08Labels.con {K : Kn} [KOk K] {k : Nat} {v0 : ByteArray} {v1 : Int} {v2 : (List ByteArray)} {r : S61 × Int × Bool} (h : spec_l08Labels.f k v0 v1 v2 = some r) : Con K Try.prog 34 [.p (.str v0), .p (.int .i64 v1), .p (.lst false (List.map srw v2))] [] (.tup [.agg [.p (.str r.1.f0), .p (.int .i64 r.1.f1), .p (.bool r.1.f2)], .p (.int .i64 r.2.1), .p (.bool r.2.2)]) [] := by
 rw [spec_l08Labels.f] at h
 refine con_intro 46 [] Try.func34 (by kernel_rfl) rfl rfl (by kernel_rfl) fun ι0 w0 hk0 => ?_
 revert h
 refine go 5 ?_
 refine grs ?_
 refine gr_run ?_
 refine bind_e (fun v3 e3 => gr_call [(1000, (0, 14, 1))] (spec_l08Test_read.con e3) ?_)
 clear e3
 refine gr_run ?_
 refine gr_done ?_
 refine bif_e (fun c1 => ?_) (fun c1 => ?_)
 ·refine go 1 ?_
  refine grs ?_
  refine gr_run ?_
  refine gr_done ?_
  refine ret_e (fun hr_ => ?_)
  subst hr_
  exact ret_ Try.func34 []
 ·refine bind_e (fun v4 e4 => ?_)
  refine bif_e (fun c2 => ?_) (fun c2 => ?_)
  ·refine go 1 ?_
   refine grs ?_
   refine gr_run ?_
   refine gr_done ?_
   refine ret_e (fun hr_ => ?_)
   subst hr_
   exact ret_ Try.func34 []
  ·refine go 1 ?_
   refine grs ?_
   refine gr_run ?_
   refine gr_done ?_
   refine ret_e (fun hr_ => ?_)
   subst hr_
   exact ret_ Try.func34 []
def spec_LabelsFault.f (k : Nat) (v0 : ByteArray) : Option (Int) := (bif decide (200 < (v0.size : Int)) then (some 1) else ((spec_l08Labels.f k v0 0 ([] : List ByteArray)).bind fun v1 => (bif v1.2.2 then (bif (v1.2.1 == (v0.size : Int)) then (some 0) else (some 1)) else (some 1))))
set_option maxRecDepth 100000 in
set_option maxHeartbeats 4000000 in
theorem spec_LabelsFault.con {K : Kn} [KOk K] {k : Nat} {v0 : ByteArray} {r : Int} (h : spec_LabelsFault.f k v0 = some r) : Con K Try.prog 28 [.p (.str v0)] [] (.p (.int .i64 r)) [] := by
 rw [spec_LabelsFault.f] at h
 refine con_intro 24 [] Try.func28 (by kernel_rfl) rfl rfl (by kernel_rfl) fun ι0 w0 hk0 => ?_
 revert h
 refine bif_e (fun c1 => ?_) (fun c1 => ?_)
 ·refine go 8 ?_
  refine ret_e (fun hr_ => ?_)
  subst hr_
  exact ret_ Try.func28 []
 ·refine go 8 ?_
  refine grs ?_
  refine gr_run ?_
  refine bind_e (fun v1 e1 => gr_call [] (spec_l08Labels.con e1) ?_)
  clear e1
  refine gr_run ?_
  refine gr_done ?_
  refine bif_e (fun c2 => ?_) (fun c2 => ?_)
  ·refine bif_e (fun c3 => ?_) (fun c3 => ?_)
   ·refine go 7 ?_
    refine ret_e (fun hr_ => ?_)
    subst hr_
    exact ret_ Try.func28 []
   ·refine go 6 ?_
    refine ret_e (fun hr_ => ?_)
    subst hr_
    exact ret_ Try.func28 []
  ·refine go 6 ?_
   refine ret_e (fun hr_ => ?_)
   subst hr_
   exact ret_ Try.func28 []
mutual
def spec_l09Thing.j1 : Nat → S31 → Bool → Option (Bool)
 | 0, _, _ => none
 | k + 1, v0, v4 => (bif v4 then (bif decide (v0.f1 = (⟨#[]⟩ : ByteArray)) then (some (v0.f2 == 2)) else (some false)) else (bif (v0.f0 == 6) then (bif decide (v0.f1 = (⟨#[]⟩ : ByteArray)) then (some (v0.f2 == 1)) else (some false)) else (bif (v0.f0 == 7) then (bif decide (v0.f1 = (⟨#[]⟩ : ByteArray)) then (some (v0.f2 == 1)) else (some false)) else (bif (v0.f0 == 8) then (bif decide (v0.f1 = (⟨#[]⟩ : ByteArray)) then (some (v0.f2 == 1)) else (some false)) else (some false)))))
def spec_l09Thing.j0 : Nat → S31 → Bool → Option (Bool)
 | 0, _, _ => none
 | k + 1, v0, v1 => (bif v1 then ((spec_l01Name.f k v0.f1).bind fun v2 => (bif v2 then (some (v0.f2 == 0)) else (some false))) else (bif (v0.f0 == 3) then ((spec_LabelsFault.f k v0.f1).bind fun v3 => (bif (v3 == 0) then (some (v0.f2 == 0)) else (some false))) else (bif (v0.f0 == 4) then (spec_l09Thing.j1 k v0 true) else (spec_l09Thing.j1 k v0 (v0.f0 == 5)))))
def spec_l09Thing.f : Nat → S31 → Option (Bool)
 | 0, _ => none
 | k + 1, v0 => (bif (v0.f0 == 1) then (spec_l09Thing.j0 k v0 true) else (spec_l09Thing.j0 k v0 (v0.f0 == 2)))
end
set_option maxRecDepth 100000 in
set_option maxHeartbeats 4000000 in
theorem spec_l09Thing.con {K : Kn} [KOk K] {k : Nat} {v0 : S31} {r : Bool} (h : spec_l09Thing.f k v0 = some r) : Con K Try.prog 24 [.agg [.p (.int .i64 v0.f0), .p (.str v0.f1), .p (.int .i64 v0.f2)]] [] (.p (.bool r)) [] := by
 cases k with
 | zero => exact absurd h (by simp [spec_l09Thing.f])
 | succ k =>
 rw [spec_l09Thing.f] at h
 refine con_intro 50 [] Try.func24 (by kernel_rfl) rfl rfl (by kernel_rfl) fun ι0 w0 hk0 => ?_
 revert h
 refine go 7 ?_
 refine good_cut (fun st => ∃ (v1 : _) (q_ : Nat), q_ ≤ k ∧ st = ⟨[(1, .ptr 1 1 0), (4, .p (.int .i64 v0.f0)), (5, .p (.bool v1))], [(1, (1, .cells [.p (.int .i64 v0.f0), .p (.str v0.f1), .p (.int .i64 v0.f2)]))]⟩ ∧ spec_l09Thing.j0 q_ v0 v1 = some r) ?_ (fun hj0 => ?_)
 ·skip
  rintro _ ⟨v1, q_, hqj0, rfl, h⟩
  cases q_ with
  | zero => exact absurd h (by simp [spec_l09Thing.j0])
  | succ kj0 =>
  rw [spec_l09Thing.j0] at h
  revert h
  refine bif_e (fun c1 => ?_) (fun c1 => ?_)
  ·refine go 2 ?_
   refine grs ?_
   refine gr_run ?_
   refine bind_e (fun v2 e2 => gr_call [] (spec_l01Name.con e2) ?_)
   clear e2
   refine bif_e (fun c2 => ?_) (fun c2 => ?_)
   ·refine gr_run ?_
    refine gr_done ?_
    refine ret_e (fun hr_ => ?_)
    subst hr_
    exact ret_ Try.func24 []
   ·refine gr_run ?_
    refine gr_done ?_
    refine ret_e (fun hr_ => ?_)
    subst hr_
    exact ret_ Try.func24 []
  ·refine bif_e (fun c3 => ?_) (fun c3 => ?_)
   ·refine go 5 ?_
    refine grs ?_
    refine gr_run ?_
    refine bind_e (fun v3 e3 => gr_call [] (spec_LabelsFault.con e3) ?_)
    clear e3
    refine bif_e (fun c4 => ?_) (fun c4 => ?_)
    ·refine gr_run ?_
     refine gr_done ?_
     refine ret_e (fun hr_ => ?_)
     subst hr_
     exact ret_ Try.func24 []
    ·refine gr_run ?_
     refine gr_done ?_
     refine ret_e (fun hr_ => ?_)
     subst hr_
     exact ret_ Try.func24 []
   ·refine go 5 ?_
    refine good_cut (fun st => ∃ (v4 : _) (q_ : Nat), q_ ≤ kj0 ∧ st = ⟨[(1, .ptr 1 1 0), (4, .p (.int .i64 v0.f0)), (27, .p (.bool v4))], [(1, (1, .cells [.p (.int .i64 v0.f0), .p (.str v0.f1), .p (.int .i64 v0.f2)]))]⟩ ∧ spec_l09Thing.j1 q_ v0 v4 = some r) ?_ (fun hj1 => ?_)
    ·clear c1 c3
     rintro _ ⟨v4, q_, hqj1, rfl, h⟩
     cases q_ with
     | zero => exact absurd h (by simp [spec_l09Thing.j1])
     | succ kj1 =>
     rw [spec_l09Thing.j1] at h
     revert h
     refine bif_e (fun c5 => ?_) (fun c5 => ?_)
     ·refine bif_e (fun c6 => ?_) (fun c6 => ?_)
      ·refine go 3 ?_
       refine ret_e (fun hr_ => ?_)
       subst hr_
       exact ret_ Try.func24 []
      ·refine go 3 ?_
       refine ret_e (fun hr_ => ?_)
       subst hr_
       exact ret_ Try.func24 []
     ·refine bif_e (fun c7 => ?_) (fun c7 => ?_)
      ·refine bif_e (fun c8 => ?_) (fun c8 => ?_)
       ·refine go 9 ?_
        refine ret_e (fun hr_ => ?_)
        subst hr_
        exact ret_ Try.func24 []
       ·refine go 9 ?_
        refine ret_e (fun hr_ => ?_)
        subst hr_
        exact ret_ Try.func24 []
      ·refine bif_e (fun c9 => ?_) (fun c9 => ?_)
       ·refine bif_e (fun c10 => ?_) (fun c10 => ?_)
        ·refine go 12 ?_
         refine ret_e (fun hr_ => ?_)
         subst hr_
         exact ret_ Try.func24 []
        ·refine go 12 ?_
         refine ret_e (fun hr_ => ?_)
         subst hr_
         exact ret_ Try.func24 []
       ·refine bif_e (fun c11 => ?_) (fun c11 => ?_)
        ·refine bif_e (fun c12 => ?_) (fun c12 => ?_)
         ·refine go 12 ?_
          refine ret_e (fun hr_ => ?_)
          subst hr_
          exact ret_ Try.func24 []
         ·refine go 12 ?_
          refine ret_e (fun hr_ => ?_)
          subst hr_
          exact ret_ Try.func24 []
        ·refine go 14 ?_
         refine ret_e (fun hr_ => ?_)
         subst hr_
         exact ret_ Try.func24 []
    ·refine bif_e (fun c13 => ?_) (fun c13 => ?_)
     ·refine go 4 ?_
      exact fun h => good_jump hj1 ⟨_, ⟨_, _, by omega, rfl, h⟩, frle_, memle_⟩
     ·refine go 4 ?_
      exact fun h => good_jump hj1 ⟨_, ⟨_, _, by omega, rfl, h⟩, frle_, memle_⟩
 ·refine bif_e (fun c14 => ?_) (fun c14 => ?_)
  ·refine go 4 ?_
   exact fun h => good_jump hj0 ⟨_, ⟨_, _, by omega, rfl, h⟩, frle_, memle_⟩
  ·refine go 4 ?_
   exact fun h => good_jump hj0 ⟨_, ⟨_, _, by omega, rfl, h⟩, frle_, memle_⟩
mutual
def spec_l09End.l0 : Nat → (List S31) → Int → Int → Int → Int → Option (Int)
 | 0, _, _, _, _, _ => none
 | k + 1, v0, v1, v2, v5, v6 => ((ix v0 v1).bind fun v7 => (bif decide (v6 < v7.f2) then ((spec_l09End.f k v0 v5 (IntKind.i64.wrap (v2 + 1))).bind fun v8 => (bif decide (v8 < 0) then (some (-1)) else (spec_l09End.l0 k v0 v1 v2 v8 (IntKind.i64.wrap (v6 + 1))))) else (some v5)))
def spec_l09End.f : Nat → (List S31) → Int → Int → Option (Int)
 | 0, _, _, _ => none
 | k + 1, v0, v1, v2 => (bif decide ((v0.length : Int) ≤ v1) then (some (-1)) else (bif decide (20 < v2) then (some (-1)) else ((ix v0 v1).bind fun v3 => ((spec_l09Thing.f k v3).bind fun v4 => (bif v4 then (spec_l09End.l0 k v0 v1 v2 (IntKind.i64.wrap (v1 + 1)) 0) else (some (-1)))))))
end
def spec_l09End.C (K : Kn) (k : Nat) : Prop := ∀ (v0 : (List S31)) (v1 : Int) (v2 : Int) (r : Int), spec_l09End.f k v0 v1 v2 = some r → Con K Try.prog 19 [.p (.lst false (List.map en31 v0)), .p (.int .i64 v1), .p (.int .i64 v2)] [] (.p (.int .i64 r)) []
set_option maxRecDepth 100000 in
set_option maxHeartbeats 4000000 in
theorem spec_l09End.con1 {K : Kn} [KOk K] (k : Nat) (spec_l09End_ih : ∀ m, m < k → spec_l09End.C K m) : spec_l09End.C K k := by
 intro v0 v1 v2 r h
 cases k with
 | zero => exact absurd h (by simp [spec_l09End.f])
 | succ k =>
 rw [spec_l09End.f] at h
 refine con_intro 44 [] Try.func19 (by kernel_rfl) rfl rfl (by kernel_rfl) fun ι0 w0 hk0 => ?_
 revert h
 refine bif_e (fun c1 => ?_) (fun c1 => ?_)
 ·refine go 8 ?_
  refine ret_e (fun hr_ => ?_)
  subst hr_
  exact ret_ Try.func19 []
 ·refine bif_e (fun c2 => ?_) (fun c2 => ?_)
  ·refine go 8 ?_
   refine ret_e (fun hr_ => ?_)
   subst hr_
   exact ret_ Try.func19 []
  ·refine bind_e (fun v3 e3 => ?_)
   replace e3 := nf_ (ix_en en31 e3)
   refine go 4 ?_
   refine grs ?_
   refine gr_run ?_
   refine bind_e (fun v4 e4 => gr_call [] (spec_l09Thing.con e4) ?_)
   clear e4
   refine gr_run ?_
   refine gr_done ?_
   refine bif_e (fun c3 => ?_) (fun c3 => ?_)
   ·refine go 8 ?_
    refine fun h => good_loop (fun n st => n ≤ k ∧ ∃ (v5 : _) (v6 : _), st = ⟨[(0, .p (.lst false (List.map en31 v0))), (1, .p (.int .i64 v1)), (2, .p (.int .i64 v2)), (7, .p (.int .i64 v5)), (8, .p (.int .i64 v6))], []⟩ ∧ spec_l09End.l0 n v0 v1 v2 v5 v6 = some r) k ⟨_, ⟨Nat.le_refl _, _, _, rfl, h⟩, frle_, memle_⟩ ?_
    clear c1 c2 e3 c3
    clear h
    rintro n _ ⟨hkl0, v5, v6, rfl, h⟩ hl0
    cases n with
    | zero => exact absurd h (by simp [spec_l09End.l0])
    | succ kl0 =>
    rw [spec_l09End.l0] at h
    revert h
    refine bind_e (fun v7 e7 => ?_)
    replace e7 := nf_ (ix_en en31 e7)
    refine bif_e (fun c4 => ?_) (fun c4 => ?_)
    ·refine go 8 ?_
     refine grs ?_
     refine gr_run ?_
     refine bind_e (fun v8 e8 => gr_call [] (spec_l09End_ih _ (by omega) _ _ _ _ e8) ?_)
     clear e8
     refine gr_run ?_
     refine gr_done ?_
     refine bif_e (fun c5 => ?_) (fun c5 => ?_)
     ·refine go 5 ?_
      refine ret_e (fun hr_ => ?_)
      subst hr_
      exact ret_ Try.func19 []
     ·refine go 6 ?_
      exact fun h => good_again hl0 (by omega) ⟨_, ⟨by omega, _, _, rfl, h⟩, frle_, memle_⟩
    ·refine go 7 ?_
     refine ret_e (fun hr_ => ?_)
     subst hr_
     exact ret_ Try.func19 []
   ·refine go 3 ?_
    refine ret_e (fun hr_ => ?_)
    subst hr_
    exact ret_ Try.func19 []
theorem spec_l09End.all {K : Kn} [KOk K] (k : Nat) : spec_l09End.C K k := by
 induction k using Nat.strongRecOn with
 | _ k ih => exact spec_l09End.con1 k ih
theorem spec_l09End.con {K : Kn} [KOk K] {k : Nat} {v0 : (List S31)} {v1 : Int} {v2 : Int} {r : Int} (h : spec_l09End.f k v0 v1 v2 = some r) : Con K Try.prog 19 [.p (.lst false (List.map en31 v0)), .p (.int .i64 v1), .p (.int .i64 v2)] [] (.p (.int .i64 r)) [] := (spec_l09End.all k) _ _ _ r h
def spec_StepsFault.f (k : Nat) (v0 : (List S31)) : Option (Int) := (bif decide (100 < (v0.length : Int)) then (some 1) else ((spec_l09End.f k v0 0 1).bind fun v1 => (bif (v1 == (v0.length : Int)) then (some 0) else (some 1))))
set_option maxRecDepth 100000 in
set_option maxHeartbeats 4000000 in
theorem spec_StepsFault.con {K : Kn} [KOk K] {k : Nat} {v0 : (List S31)} {r : Int} (h : spec_StepsFault.f k v0 = some r) : Con K Try.prog 12 [.p (.lst false (List.map en31 v0))] [] (.p (.int .i64 r)) [] := by
 rw [spec_StepsFault.f] at h
 refine con_intro 13 [] Try.func12 (by kernel_rfl) rfl rfl (by kernel_rfl) fun ι0 w0 hk0 => ?_
 revert h
 refine bif_e (fun c1 => ?_) (fun c1 => ?_)
 ·refine go 8 ?_
  refine ret_e (fun hr_ => ?_)
  subst hr_
  exact ret_ Try.func12 []
 ·refine go 4 ?_
  refine grs ?_
  refine gr_run ?_
  refine bind_e (fun v1 e1 => gr_call [] (spec_l09End.con e1) ?_)
  clear e1
  refine gr_run ?_
  refine gr_done ?_
  refine bif_e (fun c2 => ?_) (fun c2 => ?_)
  ·refine go 4 ?_
   refine ret_e (fun hr_ => ?_)
   subst hr_
   exact ret_ Try.func12 []
  ·refine go 3 ?_
   refine ret_e (fun hr_ => ?_)
   subst hr_
   exact ret_ Try.func12 []
end Go.Ab
