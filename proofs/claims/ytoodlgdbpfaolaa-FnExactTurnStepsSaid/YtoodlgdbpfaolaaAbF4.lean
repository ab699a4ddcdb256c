/- What the functions compute, and their contracts, part 4. No condition beyond KOk. -/
import Derived.Test.YtoodlgdbpfaolaaAbX
namespace Go.Ab
open Go.Proofs
set_option linter.unusedVariables false
set_option linter.unusedSimpArgs false
mutual
def impl_growSteps.l0 : Nat → (List S31) → Int → Int → Int → S31 → (List S38) → Option (S38 × Int × Bool)
 | 0, _, _, _, _, _, _ => none
 | k + 1, v0, v5, v2, v6, v3, v7 => (bif decide (v6 < v3.f2) then ((impl_growSteps.f k v0 v5 (IntKind.i64.wrap (v2 + 1))).bind fun v10 => (bif v10.2.2 then ((app v7 ([v10.1] : List S38)).bind fun v11 => (impl_growSteps.l0 k v0 v10.2.1 v2 (IntKind.i64.wrap (v6 + 1)) v3 v11)) else (some ((⟨v3, v7⟩ : S38), v5, false)))) else (some ((⟨v3, v7⟩ : S38), v5, true)))
def impl_growSteps.f : Nat → (List S31) → Int → Int → Option (S38 × Int × Bool)
 | 0, _, _, _ => none
 | k + 1, v0, v1, v2 => (bif decide ((v0.length : Int) ≤ v1) then (some ((⟨(⟨0, (⟨#[]⟩ : ByteArray), 0⟩ : S31), ([] : (List S38))⟩ : S38), v1, false)) else (bif decide (20 < v2) then (some ((⟨(⟨0, (⟨#[]⟩ : ByteArray), 0⟩ : S31), ([] : (List S38))⟩ : S38), v1, false)) else ((ix v0 v1).bind fun v3 => (bif decide (v3.f2 < 0) then (some ((⟨(⟨0, (⟨#[]⟩ : ByteArray), 0⟩ : S31), ([] : (List S38))⟩ : S38), v1, false)) else (impl_growSteps.l0 k v0 (IntKind.i64.wrap (v1 + 1)) v2 0 v3 [])))))
end
def impl_growSteps.C (K : Kn) (k : Nat) : Prop := ∀ (v0 : (List S31)) (v1 : Int) (v2 : Int) (r : S38 × Int × Bool), impl_growSteps.f k v0 v1 v2 = some r → Con K Try.prog 21 [.p (.lst false (List.map en31 v0)), .p (.int .i64 v1), .p (.int .i64 v2)] [] (.tup [.agg [.p (.int .i64 r.1.f0.f0), .p (.str r.1.f0.f1), .p (.int .i64 r.1.f0.f2), .p (.lst false (List.map en38 r.1.f1))], .p (.int .i64 r.2.1), .p (.bool r.2.2)]) []
set_option maxRecDepth 100000 in
set_option maxHeartbeats 4000000 in
theorem impl_growSteps.con1 {K : Kn} [KOk K] (k : Nat) (impl_growSteps_ih : ∀ m, m < k → impl_growSteps.C K m) : impl_growSteps.C K k := by
 intro v0 v1 v2 r h
 cases k with
 | zero => exact absurd h (by simp [impl_growSteps.f])
 | succ k =>
 rw [impl_growSteps.f] at h
 refine con_intro 68 [] Try.func21 (by kernel_rfl) rfl rfl (by kernel_rfl) fun ι0 w0 hk0 => ?_
 revert h
 refine bif_e (fun c1 => ?_) (fun c1 => ?_)
 ·refine go 8 ?_
  refine ret_e (fun hr_ => ?_)
  subst hr_
  exact ret_ Try.func21 []
 ·refine bif_e (fun c2 => ?_) (fun c2 => ?_)
  ·refine go 8 ?_
   refine ret_e (fun hr_ => ?_)
   subst hr_
   exact ret_ Try.func21 []
  ·refine bind_e (fun v3 e3 => ?_)
   replace e3 := nf_ (ix_en en31 e3)
   refine bif_e (fun c3 => ?_) (fun c3 => ?_)
   ·refine go 8 ?_
    refine ret_e (fun hr_ => ?_)
    subst hr_
    exact ret_ Try.func21 []
   ·refine go 15 ?_
    refine adoptc_ 9 3 63 4 ?_
    refine fun h => good_loop (fun n st => n ≤ k ∧ ∃ (v5 : _) (v6 : _) (v7 : _) (g8 : Nat) (g9 : Nat), st = ⟨[(0, .p (.lst false (List.map en31 v0))), (1, .p (.int .i64 v5)), (2, .p (.int .i64 v2)), (6, .ptr 6 1 0), (9, .ptr 9 1 0), (10, .p (.int .i64 v6))], [(6, (1, .cells [.p (.int .i64 0), .p (.str (⟨#[]⟩ : ByteArray)), .p (.int .i64 0), .p .nilS])), (9, (1, .cells [.p (.int .i64 v3.f0), .p (.str v3.f1), .p (.int .i64 v3.f2), .tip 63 g9 (List.map en38 v7)])), (11, (g8, .gone)), (63, (g9, .tip 4 (v7).length))]⟩ ∧ impl_growSteps.l0 n v0 v5 v2 v6 v3 v7 = some r) k ⟨_, ⟨Nat.le_refl _, _, _, _, 0, 1, rfl, h⟩, frle_, memle_⟩ ?_
    clear c1 c2 e3 c3
    clear h
    rintro n _ ⟨hkl0, v5, v6, v7, g8, g9, rfl, h⟩ hl0
    cases n with
    | zero => exact absurd h (by simp [impl_growSteps.l0])
    | succ kl0 =>
    rw [impl_growSteps.l0] at h
    revert h
    refine bif_e (fun c4 => ?_) (fun c4 => ?_)
    ·refine go 8 ?_
     refine grs ?_
     refine gr_run ?_
     refine bind_e (fun v10 e10 => gr_call [] (impl_growSteps_ih _ (by omega) _ _ _ _ e10) ?_)
     clear e10
     refine gr_run ?_
     refine gr_done ?_
     refine bif_e (fun c5 => ?_) (fun c5 => ?_)
     ·refine bind_e (fun v11 e11 => ?_)
      replace e11 := nf_ (app_en en38 e11)
      refine go 10 ?_
      exact fun h => good_again hl0 (by omega) ⟨_, ⟨by omega, _, _, _, g8 + 1, g9, rfl, h⟩, frle_, memle_⟩
     ·refine go 6 ?_
      refine ret_e (fun hr_ => ?_)
      subst hr_
      exact ret_ Try.func21 []
    ·refine go 7 ?_
     refine ret_e (fun hr_ => ?_)
     subst hr_
     exact ret_ Try.func21 []
theorem impl_growSteps.all {K : Kn} [KOk K] (k : Nat) : impl_growSteps.C K k := by
 induction k using Nat.strongRecOn with
 | _ k ih => exact impl_growSteps.con1 k ih
theorem impl_growSteps.con {K : Kn} [KOk K] {k : Nat} {v0 : (List S31)} {v1 : Int} {v2 : Int} {r : S38 × Int × Bool} (h : impl_growSteps.f k v0 v1 v2 = some r) : Con K Try.prog 21 [.p (.lst false (List.map en31 v0)), .p (.int .i64 v1), .p (.int .i64 v2)] [] (.tup [.agg [.p (.int .i64 r.1.f0.f0), .p (.str r.1.f0.f1), .p (.int .i64 r.1.f0.f2), .p (.lst false (List.map en38 r.1.f1))], .p (.int .i64 r.2.1), .p (.bool r.2.2)]) [] := (impl_growSteps.all k) _ _ _ r h
def impl_isLetter.f (k : Nat) (v0 : Int) : Option (Bool) := (bif decide (97 ≤ v0) then (bif decide (v0 ≤ 122) then (some true) else (bif decide (65 ≤ v0) then (some (decide (v0 ≤ 90))) else (some false))) else (bif decide (65 ≤ v0) then (some (decide (v0 ≤ 90))) else (some false)))
set_option maxRecDepth 100000 in
set_option maxHeartbeats 4000000 in
theorem impl_isLetter.con {K : Kn} [KOk K] {k : Nat} {v0 : Int} {r : Bool} (h : impl_isLetter.f k v0 = some r) : Con K Try.prog 29 [.p (.int .u8 v0)] [] (.p (.bool r)) [] := by
 rw [impl_isLetter.f] at h
 refine con_intro 17 [] Try.func29 (by kernel_rfl) rfl rfl (by kernel_rfl) fun ι0 w0 hk0 => ?_
 revert h
 refine bif_e (fun c1 => ?_) (fun c1 => ?_)
 ·refine bif_e (fun c2 => ?_) (fun c2 => ?_)
  ·refine go 4 ?_
   refine ret_e (fun hr_ => ?_)
   subst hr_
   exact ret_ Try.func29 []
  ·refine bif_e (fun c3 => ?_) (fun c3 => ?_)
   ·refine go 4 ?_
    refine ret_e (fun hr_ => ?_)
    subst hr_
    exact ret_ Try.func29 []
   ·refine go 4 ?_
    refine ret_e (fun hr_ => ?_)
    subst hr_
    exact ret_ Try.func29 []
 ·refine bif_e (fun c4 => ?_) (fun c4 => ?_)
  ·refine go 4 ?_
   refine ret_e (fun hr_ => ?_)
   subst hr_
   exact ret_ Try.func29 []
  ·refine go 4 ?_
   refine ret_e (fun hr_ => ?_)
   subst hr_
   exact ret_ Try.func29 []
def impl_isDigit.f (k : Nat) (v0 : Int) : Option (Bool) := (bif decide (48 ≤ v0) then (some (decide (v0 ≤ 57))) else (some false))
set_option maxRecDepth 100000 in
set_option maxHeartbeats 4000000 in
theorem impl_isDigit.con {K : Kn} [KOk K] {k : Nat} {v0 : Int} {r : Bool} (h : impl_isDigit.f k v0 = some r) : Con K Try.prog 30 [.p (.int .u8 v0)] [] (.p (.bool r)) [] := by
 rw [impl_isDigit.f] at h
 refine con_intro 9 [] Try.func30 (by kernel_rfl) rfl rfl (by kernel_rfl) fun ι0 w0 hk0 => ?_
 revert h
 refine bif_e (fun c1 => ?_) (fun c1 => ?_)
 ·refine go 4 ?_
  refine ret_e (fun hr_ => ?_)
  subst hr_
  exact ret_ Try.func30 []
 ·refine go 4 ?_
  refine ret_e (fun hr_ => ?_)
  subst hr_
  exact ret_ Try.func30 []
mutual
def impl_isName.l0 : Nat → ByteArray → Int → Option (Bool)
 | 0, _, _ => none
 | k + 1, v0, v3 => (bif decide (v3 < (v0.size : Int)) then ((bix v0 v3).bind fun v4 => ((impl_isLetter.f k v4).bind fun v5 => (bif v5 then (impl_isName.l0 k v0 (IntKind.i64.wrap (v3 + 1))) else ((impl_isDigit.f k v4).bind fun v7 => (bif v7 then (impl_isName.l0 k v0 (IntKind.i64.wrap (v3 + 1))) else (bif (v4 == 95) then (impl_isName.l0 k v0 (IntKind.i64.wrap (v3 + 1))) else (some false))))))) else (some true))
def impl_isName.f : Nat → ByteArray → Option (Bool)
 | 0, _ => none
 | k + 1, v0 => (bif decide ((v0.size : Int) < 1) then (some false) else (bif decide (20 < (v0.size : Int)) then (some false) else ((bix v0 0).bind fun v1 => ((impl_isLetter.f k v1).bind fun v2 => (bif v2 then (impl_isName.l0 k v0 0) else (some false))))))
end
set_option maxRecDepth 100000 in
set_option maxHeartbeats 4000000 in
theorem impl_isName.con {K : Kn} [KOk K] {k : Nat} {v0 : ByteArray} {r : Bool} (h : impl_isName.f k v0 = some r) : Con K Try.prog 25 [.p (.str v0)] [] (.p (.bool r)) [] := by
 cases k with
 | zero => exact absurd h (by simp [impl_isName.f])
 | succ k =>
 rw [impl_isName.f] at h
 refine con_intro 42 [] Try.func25 (by kernel_rfl) rfl rfl (by kernel_rfl) fun ι0 w0 hk0 => ?_
 revert h
 refine bif_e (fun c1 => ?_) (fun c1 => ?_)
 ·refine go 8 ?_
  refine ret_e (fun hr_ => ?_)
  subst hr_
  exact ret_ Try.func25 []
 ·refine bif_e (fun c2 => ?_) (fun c2 => ?_)
  ·refine go 8 ?_
   refine ret_e (fun hr_ => ?_)
   subst hr_
   exact ret_ Try.func25 []
  ·refine bind_e (fun v1 e1 => ?_)
   refine go 4 ?_
   refine grs ?_
   refine gr_run ?_
   refine bind_e (fun v2 e2 => gr_call [] (impl_isLetter.con e2) ?_)
   clear e2
   refine gr_run ?_
   refine gr_done ?_
   refine bif_e (fun c3 => ?_) (fun c3 => ?_)
   ·refine go 6 ?_
    refine fun h => good_loop (fun n st => n ≤ k ∧ ∃ (v3 : _), st = ⟨[(0, .p (.str v0)), (19, .p (.int .i64 (v0.size : Int))), (20, .p (.int .i64 v3))], []⟩ ∧ impl_isName.l0 n v0 v3 = some r) k ⟨_, ⟨Nat.le_refl _, _, rfl, h⟩, frle_, memle_⟩ ?_
    clear c1 c2 e1 c3
    clear h
    rintro n _ ⟨hkl0, v3, rfl, h⟩ hl0
    cases n with
    | zero => exact absurd h (by simp [impl_isName.l0])
    | succ kl0 =>
    rw [impl_isName.l0] at h
    revert h
    refine bif_e (fun c4 => ?_) (fun c4 => ?_)
    ·refine bind_e (fun v4 e4 => ?_)
     refine go 10 ?_
     refine grs ?_
     refine gr_run ?_
     refine bind_e (fun v5 e5 => gr_call [] (impl_isLetter.con e5) ?_)
     clear e5
     refine bif_e (fun c5 => ?_) (fun c5 => ?_)
     ·refine gr_run ?_
      refine gr_done ?_
      refine go 4 ?_
      exact fun h => good_again hl0 (by omega) ⟨_, ⟨by omega, _, rfl, h⟩, frle_, memle_⟩
     ·refine gr_run ?_
      refine bind_e (fun v7 e7 => gr_call [] (impl_isDigit.con e7) ?_)
      clear e7
      refine bif_e (fun c6 => ?_) (fun c6 => ?_)
      ·refine gr_run ?_
       refine gr_done ?_
       refine go 4 ?_
       exact fun h => good_again hl0 (by omega) ⟨_, ⟨by omega, _, rfl, h⟩, frle_, memle_⟩
      ·refine gr_run ?_
       refine gr_done ?_
       refine bif_e (fun c7 => ?_) (fun c7 => ?_)
       ·refine go 4 ?_
        exact fun h => good_again hl0 (by omega) ⟨_, ⟨by omega, _, rfl, h⟩, frle_, memle_⟩
       ·refine go 3 ?_
        refine ret_e (fun hr_ => ?_)
        subst hr_
        exact ret_ Try.func25 []
    ·refine go 7 ?_
     refine ret_e (fun hr_ => ?_)
     subst hr_
     exact ret_ Try.func25 []
   ·refine go 3 ?_
    refine ret_e (fun hr_ => ?_)
    subst hr_
    exact ret_ Try.func25 []
def impl_testReader_peek.f (k : Nat) (v0 : S67) : Option (Int × S67) := (bif decide (v0.f1 < (v0.f0.size : Int)) then ((bix v0.f0 v0.f1).bind fun v1 => (some (v1, v0))) else (some (0, v0)))
set_option maxRecDepth 100000 in
set_option maxHeartbeats 4000000 in
theorem impl_testReader_peek.con {K : Kn} [KOk K] {k : Nat} {v0 : S67} {r : Int × S67} (h : impl_testReader_peek.f k v0 = some r) : Con K Try.prog 47 [.ptr 1000 0 0] [(1000, (0, .cells [.p (.str v0.f0), .p (.int .i64 v0.f1), .p (.int .i64 v0.f2), .p (.bool v0.f3)]))] (.p (.int .u8 r.1)) [(1000, (0, .cells [.p (.str r.2.f0), .p (.int .i64 r.2.f1), .p (.int .i64 r.2.f2), .p (.bool r.2.f3)]))] := by
 rw [impl_testReader_peek.f] at h
 refine con_intro 22 [] Try.func47 (by kernel_rfl) rfl rfl (by kernel_rfl) fun ι0 w0 hk0 => ?_
 revert h
 refine go 4 ?_
 refine grs ?_
 refine gr_run ?_
 refine gr_done ?_
 refine bif_e (fun c1 => ?_) (fun c1 => ?_)
 ·refine bind_e (fun v1 e1 => ?_)
  refine go 2 ?_
  refine grs ?_
  refine gr_run ?_
  refine gr_done ?_
  refine ret_e (fun hr_ => ?_)
  subst hr_
  exact ret_ Try.func47 [(1000, (0, 1000, 0))]
 ·refine go 4 ?_
  refine ret_e (fun hr_ => ?_)
  subst hr_
  exact ret_ Try.func47 [(1000, (0, 1000, 0))]
def impl_wordByte.f (k : Nat) (v0 : Int) : Option (Bool) := ((impl_isLetter.f k v0).bind fun v1 => (bif v1 then (some true) else ((impl_isDigit.f k v0).bind fun v2 => (bif v2 then (some true) else (some (v0 == 95))))))
set_option maxRecDepth 100000 in
set_option maxHeartbeats 4000000 in
theorem impl_wordByte.con {K : Kn} [KOk K] {k : Nat} {v0 : Int} {r : Bool} (h : impl_wordByte.f k v0 = some r) : Con K Try.prog 52 [.p (.int .u8 v0)] [] (.p (.bool r)) [] := by
 rw [impl_wordByte.f] at h
 refine con_intro 13 [] Try.func52 (by kernel_rfl) rfl rfl (by kernel_rfl) fun ι0 w0 hk0 => ?_
 revert h
 refine go 3 ?_
 refine grs ?_
 refine gr_run ?_
 refine bind_e (fun v1 e1 => gr_call [] (impl_isLetter.con e1) ?_)
 clear e1
 refine bif_e (fun c1 => ?_) (fun c1 => ?_)
 ·refine gr_run ?_
  refine gr_done ?_
  refine ret_e (fun hr_ => ?_)
  subst hr_
  exact ret_ Try.func52 []
 ·refine gr_run ?_
  refine bind_e (fun v2 e2 => gr_call [] (impl_isDigit.con e2) ?_)
  clear e2
  refine bif_e (fun c2 => ?_) (fun c2 => ?_)
  ·refine gr_run ?_
   refine gr_done ?_
   refine ret_e (fun hr_ => ?_)
   subst hr_
   exact ret_ Try.func52 []
  ·refine gr_run ?_
   refine gr_done ?_
   refine ret_e (fun hr_ => ?_)
   subst hr_
   exact ret_ Try.func52 []
mutual
def impl_testReader_row_1.j0 : Nat → ByteArray → Int → Int → Bool → Int → (List S57) → Option (S57 × S67)
 | 0, _, _, _, _, _, _ => none
 | k + 1, v10, v11, v12, v13, v0, v7 => (bif ((v7.length : Int) == 1) then ((ix v7 0).bind fun v14 => (some (v14, (⟨v10, v11, v12, v13⟩ : S67)))) else (some ((⟨v0, (⟨#[]⟩ : ByteArray), v7⟩ : S57), (⟨v10, v11, v12, v13⟩ : S67))))
def impl_testReader_row_1.l0 : Nat → Int → ByteArray → Int → Int → Bool → (List S57) → Option (S57 × S67)
 | 0, _, _, _, _, _, _ => none
 | k + 1, v0, v3, v4, v5, v6, v7 => (bif v6 then (impl_testReader_row_1.j0 k v3 v4 v5 true v0 v7) else ((impl_testReader_peek.f k (⟨v3, v4, v5, v6⟩ : S67)).bind fun v9 => (bif (v9.1 == v0) then ((impl_testReader_not.f k (⟨v9.2.f0, (IntKind.i64.wrap (v9.2.f1 + 1)), v9.2.f2, v9.2.f3⟩ : S67)).bind fun v15 => ((app v7 ([v15.1] : List S57)).bind fun v16 => (impl_testReader_row_1.l0 k v0 v15.2.f0 v15.2.f1 v15.2.f2 v15.2.f3 v16))) else (impl_testReader_row_1.j0 k v9.2.f0 v9.2.f1 v9.2.f2 v9.2.f3 v0 v7))))
def impl_testReader_row_1.f : Nat → Int → S67 → Option (S57 × S67)
 | 0, _, _ => none
 | k + 1, v0, v1 => ((impl_testReader_not.f k v1).bind fun v2 => (impl_testReader_row_1.l0 k v0 v2.2.f0 v2.2.f1 v2.2.f2 v2.2.f3 ([v2.1] : List S57)))
def impl_testReader_and.f : Nat → S67 → Option (S57 × S67)
 | 0, _ => none
 | k + 1, v0 => ((impl_testReader_row_1.f k 38 v0).bind fun v1 => (some (v1.1, v1.2)))
def impl_testReader_row.j0 : Nat → ByteArray → Int → Int → Bool → Int → (List S57) → Option (S57 × S67)
 | 0, _, _, _, _, _, _ => none
 | k + 1, v10, v11, v12, v13, v0, v7 => (bif ((v7.length : Int) == 1) then ((ix v7 0).bind fun v14 => (some (v14, (⟨v10, v11, v12, v13⟩ : S67)))) else (some ((⟨v0, (⟨#[]⟩ : ByteArray), v7⟩ : S57), (⟨v10, v11, v12, v13⟩ : S67))))
def impl_testReader_row.l0 : Nat → Int → ByteArray → Int → Int → Bool → (List S57) → Option (S57 × S67)
 | 0, _, _, _, _, _, _ => none
 | k + 1, v0, v3, v4, v5, v6, v7 => (bif v6 then (impl_testReader_row.j0 k v3 v4 v5 true v0 v7) else ((impl_testReader_peek.f k (⟨v3, v4, v5, v6⟩ : S67)).bind fun v9 => (bif (v9.1 == v0) then ((impl_testReader_and.f k (⟨v9.2.f0, (IntKind.i64.wrap (v9.2.f1 + 1)), v9.2.f2, v9.2.f3⟩ : S67)).bind fun v15 => ((app v7 ([v15.1] : List S57)).bind fun v16 => (impl_testReader_row.l0 k v0 v15.2.f0 v15.2.f1 v15.2.f2 v15.2.f3 v16))) else (impl_testReader_row.j0 k v9.2.f0 v9.2.f1 v9.2.f2 v9.2.f3 v0 v7))))
def impl_testReader_row.f : Nat → Int → S67 → Option (S57 × S67)
 | 0, _, _ => none
 | k + 1, v0, v1 => ((impl_testReader_and.f k v1).bind fun v2 => (impl_testReader_row.l0 k v0 v2.2.f0 v2.2.f1 v2.2.f2 v2.2.f3 ([v2.1] : List S57)))
def impl_testReader_or.f : Nat → S67 → Option (S57 × S67)
 | 0, _ => none
 | k + 1, v0 => ((impl_testReader_row.f k 124 v0).bind fun v1 => (some (v1.1, v1.2)))
def impl_testReader_not.j0 : Nat → (Int × S67) → Int → Option (S57 × S67)
 | 0, _, _ => none
 | k + 1, v1, v5 => ((sub v1.2.f0 v1.2.f1 v5).bind fun v8 => ((impl_isName.f k v8).bind fun v9 => (bif v9 then (some ((⟨0, v8, ([] : (List S57))⟩ : S57), (⟨v1.2.f0, v5, v1.2.f2, v1.2.f3⟩ : S67))) else (some ((⟨0, v8, ([] : (List S57))⟩ : S57), (⟨v1.2.f0, v5, v1.2.f2, true⟩ : S67))))))
def impl_testReader_not.l0 : Nat → (Int × S67) → Int → Option (S57 × S67)
 | 0, _, _ => none
 | k + 1, v1, v5 => (bif decide (v5 < (v1.2.f0.size : Int)) then ((bix v1.2.f0 v5).bind fun v6 => ((impl_wordByte.f k v6).bind fun v7 => (bif v7 then (impl_testReader_not.l0 k v1 (IntKind.i64.wrap (v5 + 1))) else (impl_testReader_not.j0 k v1 v5)))) else (impl_testReader_not.j0 k v1 v5))
def impl_testReader_not.f : Nat → S67 → Option (S57 × S67)
 | 0, _ => none
 | k + 1, v0 => ((impl_testReader_peek.f k v0).bind fun v1 => (bif (v1.1 == 33) then ((impl_testReader_not.f k (⟨v1.2.f0, (IntKind.i64.wrap (v1.2.f1 + 1)), v1.2.f2, v1.2.f3⟩ : S67)).bind fun v2 => (some ((⟨33, (⟨#[]⟩ : ByteArray), ([v2.1] : List S57)⟩ : S57), v2.2))) else (bif (v1.1 == 40) then (bif decide (10 < (IntKind.i64.wrap (v1.2.f2 + 1))) then (some ((⟨0, (⟨#[]⟩ : ByteArray), ([] : (List S57))⟩ : S57), (⟨v1.2.f0, (IntKind.i64.wrap (v1.2.f1 + 1)), (IntKind.i64.wrap (v1.2.f2 + 1)), true⟩ : S67))) else ((impl_testReader_or.f k (⟨v1.2.f0, (IntKind.i64.wrap (v1.2.f1 + 1)), (IntKind.i64.wrap (v1.2.f2 + 1)), v1.2.f3⟩ : S67)).bind fun v3 => ((impl_testReader_peek.f k (⟨v3.2.f0, v3.2.f1, (IntKind.i64.wrap (v3.2.f2 - 1)), v3.2.f3⟩ : S67)).bind fun v4 => (bif (v4.1 == 41) then (some (v3.1, (⟨v4.2.f0, (IntKind.i64.wrap (v4.2.f1 + 1)), v4.2.f2, v4.2.f3⟩ : S67))) else (some ((⟨0, (⟨#[]⟩ : ByteArray), ([] : (List S57))⟩ : S57), (⟨v4.2.f0, v4.2.f1, v4.2.f2, true⟩ : S67))))))) else (impl_testReader_not.l0 k v1 v1.2.f1))))
end
def impl_testReader_row_1.C (K : Kn) (k : Nat) : Prop := ∀ (v0 : Int) (v1 : S67) (r : S57 × S67), impl_testReader_row_1.f k v0 v1 = some r → Con K Try.prog 38 [.ptr 1000 0 0, .p (.int .u8 v0), .clo 48 [.ptr 1000 0 0] []] [(1000, (0, .cells [.p (.str v1.f0), .p (.int .i64 v1.f1), .p (.int .i64 v1.f2), .p (.bool v1.f3)]))] (.agg [.p (.int .u8 r.1.f0), .p (.str r.1.f1), .p (.lst false (List.map en57 r.1.f2))]) [(1000, (0, .cells [.p (.str r.2.f0), .p (.int .i64 r.2.f1), .p (.int .i64 r.2.f2), .p (.bool r.2.f3)]))]
def impl_testReader_and.C (K : Kn) (k : Nat) : Prop := ∀ (v0 : S67) (r : S57 × S67), impl_testReader_and.f k v0 = some r → Con K Try.prog 39 [.ptr 1000 0 0] [(1000, (0, .cells [.p (.str v0.f0), .p (.int .i64 v0.f1), .p (.int .i64 v0.f2), .p (.bool v0.f3)]))] (.agg [.p (.int .u8 r.1.f0), .p (.str r.1.f1), .p (.lst false (List.map en57 r.1.f2))]) [(1000, (0, .cells [.p (.str r.2.f0), .p (.int .i64 r.2.f1), .p (.int .i64 r.2.f2), .p (.bool r.2.f3)]))]
def impl_testReader_row.C (K : Kn) (k : Nat) : Prop := ∀ (v0 : Int) (v1 : S67) (r : S57 × S67), impl_testReader_row.f k v0 v1 = some r → Con K Try.prog 38 [.ptr 1000 0 0, .p (.int .u8 v0), .clo 39 [.ptr 1000 0 0] []] [(1000, (0, .cells [.p (.str v1.f0), .p (.int .i64 v1.f1), .p (.int .i64 v1.f2), .p (.bool v1.f3)]))] (.agg [.p (.int .u8 r.1.f0), .p (.str r.1.f1), .p (.lst false (List.map en57 r.1.f2))]) [(1000, (0, .cells [.p (.str r.2.f0), .p (.int .i64 r.2.f1), .p (.int .i64 r.2.f2), .p (.bool r.2.f3)]))]
def impl_testReader_or.C (K : Kn) (k : Nat) : Prop := ∀ (v0 : S67) (r : S57 × S67), impl_testReader_or.f k v0 = some r → Con K Try.prog 35 [.ptr 1000 0 0] [(1000, (0, .cells [.p (.str v0.f0), .p (.int .i64 v0.f1), .p (.int .i64 v0.f2), .p (.bool v0.f3)]))] (.agg [.p (.int .u8 r.1.f0), .p (.str r.1.f1), .p (.lst false (List.map en57 r.1.f2))]) [(1000, (0, .cells [.p (.str r.2.f0), .p (.int .i64 r.2.f1), .p (.int .i64 r.2.f2), .p (.bool r.2.f3)]))]
def impl_testReader_not.C (K : Kn) (k : Nat) : Prop := ∀ (v0 : S67) (r : S57 × S67), impl_testReader_not.f k v0 = some r → Con K Try.prog 48 [.ptr 1000 0 0] [(1000, (0, .cells [.p (.str v0.f0), .p (.int .i64 v0.f1), .p (.int .i64 v0.f2), .p (.bool v0.f3)]))] (.agg [.p (.int .u8 r.1.f0), .p (.str r.1.f1), .p (.lst false (List.map en57 r.1.f2))]) [(1000, (0, .cells [.p (.str r.2.f0), .p (.int .i64 r.2.f1), .p (.int .i64 r.2.f2), .p (.bool r.2.f3)]))]
set_option maxRecDepth 100000 in
set_option maxHeartbeats 4000000 in
theorem impl_testReader_row_1.con1 {K : Kn} [KOk K] (k : Nat) (impl_testReader_row_1_ih : ∀ m, m < k → impl_testReader_row_1.C K m) (impl_testReader_and_ih : ∀ m, m < k → impl_testReader_and.C K m) (impl_testReader_row_ih : ∀ m, m < k → impl_testReader_row.C K m) (impl_testReader_or_ih : ∀ m, m < k → impl_testReader_or.C K m) (impl_testReader_not_ih : ∀ m, m < k → impl_testReader_not.C K m) : impl_testReader_row_1.C K k := by
 intro v0 v1 r h
 cases k with
 | zero => exact absurd h (by simp [impl_testReader_row_1.f])
 | succ k =>
 rw [impl_testReader_row_1.f] at h
 refine con_intro 47 [] Try.func38 (by kernel_rfl) rfl rfl (by kernel_rfl) fun ι0 w0 hk0 => ?_
 revert h
 refine go 3 ?_
 refine grs ?_
 refine gr_run ?_
 refine bind_e (fun v2 e2 => gr_call [(1000, (0, 1000, 0))] (impl_testReader_not_ih _ (by omega) _ _ e2) ?_)
 clear e2
 refine gr_run ?_
 refine gr_done ?_
 refine go 2 ?_
 refine adoptcF_ 7 2 36 3 ?_
 refine fun h => good_loop (fun n st => n ≤ k ∧ ∃ (v3 : _) (v4 : _) (v5 : _) (v6 : _) (v7 : _) (g8 : Nat), st = ⟨[(0, .ptr 1000 0 0), (1, .p (.int .u8 v0)), (2, .clo 48 [.ptr 1000 0 0] []), (6, .ptr 6 1 0), (7, .ptr 7 1 0)], [(1000, (0, .cells [.p (.str v3), .p (.int .i64 v4), .p (.int .i64 v5), .p (.bool v6)])), (6, (1, .cells [.p (.int .u8 0), .p (.str (⟨#[]⟩ : ByteArray)), .p .nilS])), (7, (1, .cells [.p (.int .u8 v0), .p (.str (⟨#[]⟩ : ByteArray)), .tip 36 g8 (List.map en57 v7)])), (36, (g8, .tip 3 (v7).length))]⟩ ∧ impl_testReader_row_1.l0 n v0 v3 v4 v5 v6 v7 = some r) k ⟨_, ⟨Nat.le_refl _, _, _, _, _, _, 1, rfl, h⟩, frle_, memle_⟩ ?_
 clear h
 rintro n _ ⟨hkl0, v3, v4, v5, v6, v7, g8, rfl, h⟩ hl0
 cases n with
 | zero => exact absurd h (by simp [impl_testReader_row_1.l0])
 | succ kl0 =>
 rw [impl_testReader_row_1.l0] at h
 revert h
 refine go 2 ?_
 refine good_cut_f (fun st => ∃ (v10 : _) (v11 : _) (v12 : _) (v13 : _) (q_ : Nat), q_ ≤ kl0 ∧ st = ⟨[(6, .ptr 6 1 0), (7, .ptr 7 1 0)], [(1000, (0, .cells [.p (.str v10), .p (.int .i64 v11), .p (.int .i64 v12), .p (.bool v13)])), (6, (1, .cells [.p (.int .u8 0), .p (.str (⟨#[]⟩ : ByteArray)), .p .nilS])), (7, (1, .cells [.p (.int .u8 v0), .p (.str (⟨#[]⟩ : ByteArray)), .tip 36 g8 (List.map en57 v7)])), (36, (g8, .tip 3 (v7).length))]⟩ ∧ impl_testReader_row_1.j0 q_ v10 v11 v12 v13 v0 v7 = some r) ?_ (fun hj0 => ?_)
 ·skip
  rintro _ ⟨v10, v11, v12, v13, q_, hqj0, rfl, h⟩
  cases q_ with
  | zero => exact absurd h (by simp [impl_testReader_row_1.j0])
  | succ kj0 =>
  rw [impl_testReader_row_1.j0] at h
  revert h
  refine bif_e (fun c1 => ?_) (fun c1 => ?_)
  ·refine bind_e (fun v14 e14 => ?_)
   replace e14 := nf_ (ix_en en57 e14)
   refine go 7 ?_
   refine ret_e (fun hr_ => ?_)
   subst hr_
   exact ret_ Try.func38 [(1000, (0, 1000, 0))]
  ·refine go 8 ?_
   refine ret_e (fun hr_ => ?_)
   subst hr_
   exact ret_ Try.func38 [(1000, (0, 1000, 0))]
 ·refine bif_e (fun c2 => ?_) (fun c2 => ?_)
  ·refine go 2 ?_
   exact fun h => good_jump hj0 ⟨_, ⟨_, _, _, _, _, by omega, rfl, h⟩, frle_, memle_⟩
  ·refine grs ?_
   refine gr_run ?_
   refine bind_e (fun v9 e9 => gr_call [(1000, (0, 1000, 0))] (impl_testReader_peek.con e9) ?_)
   clear e9
   refine gr_run ?_
   refine gr_done ?_
   refine bif_e (fun c3 => ?_) (fun c3 => ?_)
   ·refine go 5 ?_
    refine grs ?_
    refine gr_run ?_
    refine bind_e (fun v15 e15 => gr_call [(1000, (0, 1000, 0))] (impl_testReader_not_ih _ (by omega) _ _ e15) ?_)
    clear e15
    refine bind_e (fun v16 e16 => ?_)
    replace e16 := nf_ (app_en en57 e16)
    refine gr_run ?_
    refine gr_done ?_
    refine go 1 ?_
    exact fun h => good_again hl0 (by omega) ⟨_, ⟨by omega, _, _, _, _, _, g8, rfl, h⟩, frle_, memle_⟩
   ·refine go 1 ?_
    exact fun h => good_jump hj0 ⟨_, ⟨_, _, _, _, _, by omega, rfl, h⟩, frle_, memle_⟩
set_option maxRecDepth 100000 in
set_option maxHeartbeats 4000000 in
theorem impl_testReader_and.con1 {K : Kn} [KOk K] (k : Nat) (impl_testReader_row_1_ih : ∀ m, m < k → impl_testReader_row_1.C K m) (impl_testReader_and_ih : ∀ m, m < k → impl_testReader_and.C K m) (impl_testReader_row_ih : ∀ m, m < k → impl_testReader_row.C K m) (impl_testReader_or_ih : ∀ m, m < k → impl_testReader_or.C K m) (impl_testReader_not_ih : ∀ m, m < k → impl_testReader_not.C K m) : impl_testReader_and.C K k := by
 intro v0 r h
 cases k with
 | zero => exact absurd h (by simp [impl_testReader_and.f])
 | succ k =>
 rw [impl_testReader_and.f] at h
 refine con_intro 7 [] Try.func39 (by kernel_rfl) rfl rfl (by kernel_rfl) fun ι0 w0 hk0 => ?_
 revert h
 refine go 3 ?_
 refine grs ?_
 refine gr_run ?_
 refine bind_e (fun v1 e1 => gr_call [(1000, (0, 1000, 0))] (impl_testReader_row_1_ih _ (by omega) _ _ _ e1) ?_)
 clear e1
 refine gr_run ?_
 refine gr_done ?_
 refine ret_e (fun hr_ => ?_)
 subst hr_
 exact ret_ Try.func39 [(1000, (0, 1000, 0))]
set_option maxRecDepth 100000 in
set_option maxHeartbeats 4000000 in
theorem impl_testReader_row.con1 {K : Kn} [KOk K] (k : Nat) (impl_testReader_row_1_ih : ∀ m, m < k → impl_testReader_row_1.C K m) (impl_testReader_and_ih : ∀ m, m < k → impl_testReader_and.C K m) (impl_testReader_row_ih : ∀ m, m < k → impl_testReader_row.C K m) (impl_testReader_or_ih : ∀ m, m < k → impl_testReader_or.C K m) (impl_testReader_not_ih : ∀ m, m < k → impl_testReader_not.C K m) : impl_testReader_row.C K k := by
 intro v0 v1 r h
 cases k with
 | zero => exact absurd h (by simp [impl_testReader_row.f])
 | succ k =>
 rw [impl_testReader_row.f] at h
 refine con_intro 47 [] Try.func38 (by kernel_rfl) rfl rfl (by kernel_rfl) fun ι0 w0 hk0 => ?_
 revert h
 refine go 3 ?_
 refine grs ?_
 refine gr_run ?_
 refine bind_e (fun v2 e2 => gr_call [(1000, (0, 1000, 0))] (impl_testReader_and_ih _ (by omega) _ _ e2) ?_)
 clear e2
 refine gr_run ?_
 refine gr_done ?_
 refine go 2 ?_
 refine adoptcF_ 7 2 36 3 ?_
 refine fun h => good_loop (fun n st => n ≤ k ∧ ∃ (v3 : _) (v4 : _) (v5 : _) (v6 : _) (v7 : _) (g8 : Nat), st = ⟨[(0, .ptr 1000 0 0), (1, .p (.int .u8 v0)), (2, .clo 39 [.ptr 1000 0 0] []), (6, .ptr 6 1 0), (7, .ptr 7 1 0)], [(1000, (0, .cells [.p (.str v3), .p (.int .i64 v4), .p (.int .i64 v5), .p (.bool v6)])), (6, (1, .cells [.p (.int .u8 0), .p (.str (⟨#[]⟩ : ByteArray)), .p .nilS])), (7, (1, .cells [.p (.int .u8 v0), .p (.str (⟨#[]⟩ : ByteArray)), .tip 36 g8 (List.map en57 v7)])), (36, (g8, .tip 3 (v7).length))]⟩ ∧ impl_testReader_row.l0 n v0 v3 v4 v5 v6 v7 = some r) k ⟨_, ⟨Nat.le_refl _, _, _, _, _, _, 1, rfl, h⟩, frle_, memle_⟩ ?_
 clear h
 rintro n _ ⟨hkl0, v3, v4, v5, v6, v7, g8, rfl, h⟩ hl0
 cases n with
 | zero => exact absurd h (by simp [impl_testReader_row.l0])
 | succ kl0 =>
 rw [impl_testReader_row.l0] at h
 revert h
 refine go 2 ?_
 refine good_cut_f (fun st => ∃ (v10 : _) (v11 : _) (v12 : _) (v13 : _) (q_ : Nat), q_ ≤ kl0 ∧ st = ⟨[(6, .ptr 6 1 0), (7, .ptr 7 1 0)], [(1000, (0, .cells [.p (.str v10), .p (.int .i64 v11), .p (.int .i64 v12), .p (.bool v13)])), (6, (1, .cells [.p (.int .u8 0), .p (.str (⟨#[]⟩ : ByteArray)), .p .nilS])), (7, (1, .cells [.p (.int .u8 v0), .p (.str (⟨#[]⟩ : ByteArray)), .tip 36 g8 (List.map en57 v7)])), (36, (g8, .tip 3 (v7).length))]⟩ ∧ impl_testReader_row.j0 q_ v10 v11 v12 v13 v0 v7 = some r) ?_ (fun hj0 => ?_)
 ·skip
  rintro _ ⟨v10, v11, v12, v13, q_, hqj0, rfl, h⟩
  cases q_ with
  | zero => exact absurd h (by simp [impl_testReader_row.j0])
  | succ kj0 =>
  rw [impl_testReader_row.j0] at h
  revert h
  refine bif_e (fun c1 => ?_) (fun c1 => ?_)
  ·refine bind_e (fun v14 e14 => ?_)
   replace e14 := nf_ (ix_en en57 e14)
   refine go 7 ?_
   refine ret_e (fun hr_ => ?_)
   subst hr_
   exact ret_ Try.func38 [(1000, (0, 1000, 0))]
  ·refine go 8 ?_
   refine ret_e (fun hr_ => ?_)
   subst hr_
   exact ret_ Try.func38 [(1000, (0, 1000, 0))]
 ·refine bif_e (fun c2 => ?_) (fun c2 => ?_)
  ·refine go 2 ?_
   exact fun h => good_jump hj0 ⟨_, ⟨_, _, _, _, _, by omega, rfl, h⟩, frle_, memle_⟩
  ·refine grs ?_
   refine gr_run ?_
   refine bind_e (fun v9 e9 => gr_call [(1000, (0, 1000, 0))] (impl_testReader_peek.con e9) ?_)
   clear e9
   refine gr_run ?_
   refine gr_done ?_
   refine bif_e (fun c3 => ?_) (fun c3 => ?_)
   ·refine go 5 ?_
    refine grs ?_
    refine gr_run ?_
    refine bind_e (fun v15 e15 => gr_call [(1000, (0, 1000, 0))] (impl_testReader_and_ih _ (by omega) _ _ e15) ?_)
    clear e15
    refine bind_e (fun v16 e16 => ?_)
    replace e16 := nf_ (app_en en57 e16)
    refine gr_run ?_
    refine gr_done ?_
    refine go 1 ?_
    exact fun h => good_again hl0 (by omega) ⟨_, ⟨by omega, _, _, _, _, _, g8, rfl, h⟩, frle_, memle_⟩
   ·refine go 1 ?_
    exact fun h => good_jump hj0 ⟨_, ⟨_, _, _, _, _, by omega, rfl, h⟩, frle_, memle_⟩
set_option maxRecDepth 100000 in
set_option maxHeartbeats 4000000 in
theorem impl_testReader_or.con1 {K : Kn} [KOk K] (k : Nat) (impl_testReader_row_1_ih : ∀ m, m < k → impl_testReader_row_1.C K m) (impl_testReader_and_ih : ∀ m, m < k → impl_testReader_and.C K m) (impl_testReader_row_ih : ∀ m, m < k → impl_testReader_row.C K m) (impl_testReader_or_ih : ∀ m, m < k → impl_testReader_or.C K m) (impl_testReader_not_ih : ∀ m, m < k → impl_testReader_not.C K m) : impl_testReader_or.C K k := by
 intro v0 r h
 cases k with
 | zero => exact absurd h (by simp [impl_testReader_or.f])
 | succ k =>
 rw [impl_testReader_or.f] at h
 refine con_intro 7 [] Try.func35 (by kernel_rfl) rfl rfl (by kernel_rfl) fun ι0 w0 hk0 => ?_
 revert h
 refine go 3 ?_
 refine grs ?_
 refine gr_run ?_
 refine bind_e (fun v1 e1 => gr_call [(1000, (0, 1000, 0))] (impl_testReader_row_ih _ (by omega) _ _ _ e1) ?_)
 clear e1
 refine gr_run ?_
 refine gr_done ?_
 refine ret_e (fun hr_ => ?_)
 subst hr_
 exact ret_ Try.func35 [(1000, (0, 1000, 0))]
set_option maxRecDepth 100000 in
set_option maxHeartbeats 4000000 in
theorem impl_testReader_not.con1 {K : Kn} [KOk K] (k : Nat) (impl_testReader_row_1_ih : ∀ m, m < k → impl_testReader_row_1.C K m) (impl_testReader_and_ih : ∀ m, m < k → impl_testReader_and.C K m) (impl_testReader_row_ih : ∀ m, m < k → impl_testReader_row.C K m) (impl_testReader_or_ih : ∀ m, m < k → impl_testReader_or.C K m) (impl_testReader_not_ih : ∀ m, m < k → impl_testReader_not.C K m) : impl_testReader_not.C K k := by
 intro v0 r h
 cases k with
 | zero => exact absurd h (by simp [impl_testReader_not.f])
 | succ k =>
 rw [impl_testReader_not.f] at h
 refine con_intro 131 [] Try.func48 (by kernel_rfl) rfl rfl (by kernel_rfl) fun ι0 w0 hk0 => ?_
 revert h
 refine go 4 ?_
 refine grs ?_
 refine gr_run ?_
 refine bind_e (fun v1 e1 => gr_call [(1000, (0, 1000, 0))] (impl_testReader_peek.con e1) ?_)
 clear e1
 refine gr_run ?_
 refine gr_done ?_
 refine bif_e (fun c1 => ?_) (fun c1 => ?_)
 ·refine go 7 ?_
  refine grs ?_
  refine gr_run ?_
  refine bind_e (fun v2 e2 => gr_call [(1000, (0, 1000, 0))] (impl_testReader_not_ih _ (by omega) _ _ e2) ?_)
  clear e2
  refine gr_run ?_
  refine gr_done ?_
  refine ret_e (fun hr_ => ?_)
  subst hr_
  exact ret_ Try.func48 [(1000, (0, 1000, 0))]
 ·refine bif_e (fun c2 => ?_) (fun c2 => ?_)
  ·refine bif_e (fun c3 => ?_) (fun c3 => ?_)
   ·refine go 19 ?_
    refine ret_e (fun hr_ => ?_)
    subst hr_
    exact ret_ Try.func48 [(1000, (0, 1000, 0))]
   ·refine go 17 ?_
    refine grs ?_
    refine gr_run ?_
    refine bind_e (fun v3 e3 => gr_call [(1000, (0, 1000, 0))] (impl_testReader_or_ih _ (by omega) _ _ e3) ?_)
    clear e3
    refine gr_run ?_
    refine gr_done ?_
    refine go 4 ?_
    refine grs ?_
    refine gr_run ?_
    refine bind_e (fun v4 e4 => gr_call [(1000, (0, 1000, 0))] (impl_testReader_peek.con e4) ?_)
    clear e4
    refine gr_run ?_
    refine gr_done ?_
    refine bif_e (fun c4 => ?_) (fun c4 => ?_)
    ·refine go 6 ?_
     refine ret_e (fun hr_ => ?_)
     subst hr_
     exact ret_ Try.func48 [(1000, (0, 1000, 0))]
    ·refine go 5 ?_
     refine ret_e (fun hr_ => ?_)
     subst hr_
     exact ret_ Try.func48 [(1000, (0, 1000, 0))]
  ·refine go 13 ?_
   refine fun h => good_loop (fun n st => n ≤ k ∧ ∃ (v5 : _), st = ⟨[(0, .ptr 1000 0 0), (2, .ptr 2 1 0), (5, .p (.int .i64 v1.2.f1))], [(1000, (0, .cells [.p (.str v1.2.f0), .p (.int .i64 v5), .p (.int .i64 v1.2.f2), .p (.bool v1.2.f3)])), (2, (1, .cells [.p (.int .u8 0), .p (.str (⟨#[]⟩ : ByteArray)), .p .nilS]))]⟩ ∧ impl_testReader_not.l0 n v1 v5 = some r) k ⟨_, ⟨Nat.le_refl _, _, rfl, h⟩, frle_, memle_⟩ ?_
   clear c1 c2
   clear h
   rintro n _ ⟨hkl0, v5, rfl, h⟩ hl0
   cases n with
   | zero => exact absurd h (by simp [impl_testReader_not.l0])
   | succ kl0 =>
   rw [impl_testReader_not.l0] at h
   revert h
   refine go 2 ?_
   refine good_cut_f (fun st => ∃ (q_ : Nat), q_ ≤ kl0 ∧ st = ⟨[(0, .ptr 1000 0 0), (2, .ptr 2 1 0), (5, .p (.int .i64 v1.2.f1))], [(1000, (0, .cells [.p (.str v1.2.f0), .p (.int .i64 v5), .p (.int .i64 v1.2.f2), .p (.bool v1.2.f3)])), (2, (1, .cells [.p (.int .u8 0), .p (.str (⟨#[]⟩ : ByteArray)), .p .nilS]))]⟩ ∧ impl_testReader_not.j0 q_ v1 v5 = some r) ?_ (fun hj0 => ?_)
   ·skip
    rintro _ ⟨q_, hqj0, rfl, h⟩
    cases q_ with
    | zero => exact absurd h (by simp [impl_testReader_not.j0])
    | succ kj0 =>
    rw [impl_testReader_not.j0] at h
    revert h
    refine bind_e (fun v8 e8 => ?_)
    refine go 3 ?_
    refine grs ?_
    refine gr_run ?_
    refine bind_e (fun v9 e9 => gr_call [] (impl_isName.con e9) ?_)
    clear e9
    refine gr_run ?_
    refine gr_done ?_
    refine bif_e (fun c5 => ?_) (fun c5 => ?_)
    ·refine go 3 ?_
     refine grs ?_
     refine gr_run ?_
     refine gr_done ?_
     refine ret_e (fun hr_ => ?_)
     subst hr_
     exact ret_ Try.func48 [(1000, (0, 1000, 0))]
    ·refine go 3 ?_
     refine grs ?_
     refine gr_run ?_
     refine gr_done ?_
     refine ret_e (fun hr_ => ?_)
     subst hr_
     exact ret_ Try.func48 [(1000, (0, 1000, 0))]
   ·refine bif_e (fun c6 => ?_) (fun c6 => ?_)
    ·refine bind_e (fun v6 e6 => ?_)
     refine grs ?_
     refine gr_run ?_
     refine bind_e (fun v7 e7 => gr_call [] (impl_wordByte.con e7) ?_)
     clear e7
     refine gr_run ?_
     refine gr_done ?_
     refine bif_e (fun c7 => ?_) (fun c7 => ?_)
     ·refine go 5 ?_
      exact fun h => good_again hl0 (by omega) ⟨_, ⟨by omega, _, rfl, h⟩, frle_, memle_⟩
     ·refine go 1 ?_
      exact fun h => good_jump hj0 ⟨_, ⟨_, by omega, rfl, h⟩, frle_, memle_⟩
    ·refine grs ?_
     refine gr_run ?_
     refine gr_done ?_
     refine go 1 ?_
     exact fun h => good_jump hj0 ⟨_, ⟨_, by omega, rfl, h⟩, frle_, memle_⟩
theorem impl_testReader_row_1.all {K : Kn} [KOk K] (k : Nat) : impl_testReader_row_1.C K k ∧ impl_testReader_and.C K k ∧ impl_testReader_row.C K k ∧ impl_testReader_or.C K k ∧ impl_testReader_not.C K k := by
 induction k using Nat.strongRecOn with
 | _ k ih => exact ⟨impl_testReader_row_1.con1 k (fun m hm => (ih m hm).1) (fun m hm => (ih m hm).2.1) (fun m hm => (ih m hm).2.2.1) (fun m hm => (ih m hm).2.2.2.1) (fun m hm => (ih m hm).2.2.2.2), impl_testReader_and.con1 k (fun m hm => (ih m hm).1) (fun m hm => (ih m hm).2.1) (fun m hm => (ih m hm).2.2.1) (fun m hm => (ih m hm).2.2.2.1) (fun m hm => (ih m hm).2.2.2.2), impl_testReader_row.con1 k (fun m hm => (ih m hm).1) (fun m hm => (ih m hm).2.1) (fun m hm => (ih m hm).2.2.1) (fun m hm => (ih m hm).2.2.2.1) (fun m hm => (ih m hm).2.2.2.2), impl_testReader_or.con1 k (fun m hm => (ih m hm).1) (fun m hm => (ih m hm).2.1) (fun m hm => (ih m hm).2.2.1) (fun m hm => (ih m hm).2.2.2.1) (fun m hm => (ih m hm).2.2.2.2), impl_testReader_not.con1 k (fun m hm => (ih m hm).1) (fun m hm => (ih m hm).2.1) (fun m hm => (ih m hm).2.2.1) (fun m hm => (ih m hm).2.2.2.1) (fun m hm => (ih m hm).2.2.2.2)⟩
theorem impl_testReader_row_1.con {K : Kn} [KOk K] {k : Nat} {v0 : Int} {v1 : S67} {r : S57 × S67} (h : impl_testReader_row_1.f k v0 v1 = some r) : Con K Try.prog 38 [.ptr 1000 0 0, .p (.int .u8 v0), .clo 48 [.ptr 1000 0 0] []] [(1000, (0, .cells [.p (.str v1.f0), .p (.int .i64 v1.f1), .p (.int .i64 v1.f2), .p (.bool v1.f3)]))] (.agg [.p (.int .u8 r.1.f0), .p (.str r.1.f1), .p (.lst false (List.map en57 r.1.f2))]) [(1000, (0, .cells [.p (.str r.2.f0), .p (.int .i64 r.2.f1), .p (.int .i64 r.2.f2), .p (.bool r.2.f3)]))] := (impl_testReader_row_1.all k).1 _ _ r h
theorem impl_testReader_and.con {K : Kn} [KOk K] {k : Nat} {v0 : S67} {r : S57 × S67} (h : impl_testReader_and.f k v0 = some r) : Con K Try.prog 39 [.ptr 1000 0 0] [(1000, (0, .cells [.p (.str v0.f0), .p (.int .i64 v0.f1), .p (.int .i64 v0.f2), .p (.bool v0.f3)]))] (.agg [.p (.int .u8 r.1.f0), .p (.str r.1.f1), .p (.lst false (List.map en57 r.1.f2))]) [(1000, (0, .cells [.p (.str r.2.f0), .p (.int .i64 r.2.f1), .p (.int .i64 r.2.f2), .p (.bool r.2.f3)]))] := (impl_testReader_row_1.all k).2.1 _ r h
theorem impl_testReader_row.con {K : Kn} [KOk K] {k : Nat} {v0 : Int} {v1 : S67} {r : S57 × S67} (h : impl_testReader_row.f k v0 v1 = some r) : Con K Try.prog 38 [.ptr 1000 0 0, .p (.int .u8 v0), .clo 39 [.ptr 1000 0 0] []] [(1000, (0, .cells [.p (.str v1.f0), .p (.int .i64 v1.f1), .p (.int .i64 v1.f2), .p (.bool v1.f3)]))] (.agg [.p (.int .u8 r.1.f0), .p (.str r.1.f1), .p (.lst false (List.map en57 r.1.f2))]) [(1000, (0, .cells [.p (.str r.2.f0), .p (.int .i64 r.2.f1), .p (.int .i64 r.2.f2), .p (.bool r.2.f3)]))] := (impl_testReader_row_1.all k).2.2.1 _ _ r h
theorem impl_testReader_or.con {K : Kn} [KOk K] {k : Nat} {v0 : S67} {r : S57 × S67} (h : impl_testReader_or.f k v0 = some r) : Con K Try.prog 35 [.ptr 1000 0 0] [(1000, (0, .cells [.p (.str v0.f0), .p (.int .i64 v0.f1), .p (.int .i64 v0.f2), .p (.bool v0.f3)]))] (.agg [.p (.int .u8 r.1.f0), .p (.str r.1.f1), .p (.lst false (List.map en57 r.1.f2))]) [(1000, (0, .cells [.p (.str r.2.f0), .p (.int .i64 r.2.f1), .p (.int .i64 r.2.f2), .p (.bool r.2.f3)]))] := (impl_testReader_row_1.all k).2.2.2.1 _ r h
theorem impl_testReader_not.con {K : Kn} [KOk K] {k : Nat} {v0 : S67} {r : S57 × S67} (h : impl_testReader_not.f k v0 = some r) : Con K Try.prog 48 [.ptr 1000 0 0] [(1000, (0, .cells [.p (.str v0.f0), .p (.int .i64 v0.f1), .p (.int .i64 v0.f2), .p (.bool v0.f3)]))] (.agg [.p (.int .u8 r.1.f0), .p (.str r.1.f1), .p (.lst false (List.map en57 r.1.f2))]) [(1000, (0, .cells [.p (.str r.2.f0), .p (.int .i64 r.2.f1), .p (.int .i64 r.2.f2), .p (.bool r.2.f3)]))] := (impl_testReader_row_1.all k).2.2.2.2 _ r h
def impl_test_rank.f (k : Nat) (v0 : S57) : Option (Int) := (bif (v0.f0 == 124) then (some 1) else (bif (v0.f0 == 38) then (some 2) else (some 3)))
set_option maxRecDepth 100000 in
set_option maxHeartbeats 4000000 in
theorem impl_test_rank.con {K : Kn} [KOk K] {k : Nat} {v0 : S57} {r : Int} (h : impl_test_rank.f k v0 = some r) : Con K Try.prog 41 [.agg [.p (.int .u8 v0.f0), .p (.str v0.f1), .p (.lst false (List.map en57 v0.f2))]] [] (.p (.int .i64 r)) [] := by
 rw [impl_test_rank.f] at h
 refine con_intro 9 [] Try.func41 (by kernel_rfl) rfl rfl (by kernel_rfl) fun ι0 w0 hk0 => ?_
 revert h
 refine bif_e (fun c1 => ?_) (fun c1 => ?_)
 ·refine go 11 ?_
  refine ret_e (fun hr_ => ?_)
  subst hr_
  exact ret_ Try.func41 []
 ·refine bif_e (fun c2 => ?_) (fun c2 => ?_)
  ·refine go 14 ?_
   refine ret_e (fun hr_ => ?_)
   subst hr_
   exact ret_ Try.func41 []
  ·refine go 16 ?_
   refine ret_e (fun hr_ => ?_)
   subst hr_
   exact ret_ Try.func41 []
mutual
def impl_test_show.l0 : Nat → (List ByteArray) → S57 → Int → Option (ByteArray)
 | 0, _, _, _ => none
 | k + 1, v4, v0, v5 => (bif decide (v5 < (v0.f2.length : Int)) then ((ix v0.f2 v5).bind fun v9 => ((impl_test_rank.f k v0).bind fun v10 => ((impl_test_within.f k v9 v10).bind fun v11 => ((app v4 ([v11] : List ByteArray)).bind fun v12 => (impl_test_show.l0 k v12 v0 (IntKind.i64.wrap (v5 + 1))))))) else ((strings_Join.f k v4 (istr (IntKind.i32.wrap v0.f0))).bind fun v8 => (some v8)))
def impl_test_show.f : Nat → S57 → Option (ByteArray)
 | 0, _ => none
 | k + 1, v0 => (bif (v0.f0 == 0) then (some v0.f1) else (bif (v0.f0 == 33) then ((ix v0.f2 0).bind fun v1 => ((impl_test_within.f k v1 3).bind fun v2 => ((cat (⟨#[33]⟩ : ByteArray) v2).bind fun v3 => (some v3)))) else (impl_test_show.l0 k [] v0 0)))
def impl_test_within.f : Nat → S57 → Int → Option (ByteArray)
 | 0, _, _ => none
 | k + 1, v0, v1 => ((impl_test_rank.f k v0).bind fun v2 => (bif decide (v1 ≤ v2) then ((impl_test_show.f k v0).bind fun v3 => (some v3)) else ((impl_test_show.f k v0).bind fun v4 => ((cat (⟨#[40]⟩ : ByteArray) v4).bind fun v5 => ((cat v5 (⟨#[41]⟩ : ByteArray)).bind fun v6 => (some v6))))))
end
def impl_test_show.C (K : Kn) (k : Nat) : Prop := ∀ (v0 : S57) (r : ByteArray), impl_test_show.f k v0 = some r → Con K Try.prog 36 [.agg [.p (.int .u8 v0.f0), .p (.str v0.f1), .p (.lst false (List.map en57 v0.f2))]] [] (.p (.str r)) []
def impl_test_within.C (K : Kn) (k : Nat) : Prop := ∀ (v0 : S57) (v1 : Int) (r : ByteArray), impl_test_within.f k v0 v1 = some r → Con K Try.prog 40 [.agg [.p (.int .u8 v0.f0), .p (.str v0.f1), .p (.lst false (List.map en57 v0.f2))], .p (.int .i64 v1)] [] (.p (.str r)) []
set_option maxRecDepth 100000 in
set_option maxHeartbeats 4000000 in
theorem impl_test_show.con1 {K : Kn} [KOk K] (k : Nat) (impl_test_show_ih : ∀ m, m < k → impl_test_show.C K m) (impl_test_within_ih : ∀ m, m < k → impl_test_within.C K m) : impl_test_show.C K k := by
 intro v0 r h
 cases k with
 | zero => exact absurd h (by simp [impl_test_show.f])
 | succ k =>
 rw [impl_test_show.f] at h
 refine con_intro 41 [] Try.func36 (by kernel_rfl) rfl rfl (by kernel_rfl) fun ι0 w0 hk0 => ?_
 revert h
 refine bif_e (fun c1 => ?_) (fun c1 => ?_)
 ·refine go 11 ?_
  refine ret_e (fun hr_ => ?_)
  subst hr_
  exact ret_ Try.func36 []
 ·refine bif_e (fun c2 => ?_) (fun c2 => ?_)
  ·refine bind_e (fun v1 e1 => ?_)
   replace e1 := nf_ (ix_en en57 e1)
   refine go 13 ?_
   refine grs ?_
   refine gr_run ?_
   refine bind_e (fun v2 e2 => gr_call [] (impl_test_within_ih _ (by omega) _ _ _ e2) ?_)
   clear e2
   refine bind_e (fun v3 e3 => ?_)
   refine gr_run ?_
   refine gr_done ?_
   refine ret_e (fun hr_ => ?_)
   subst hr_
   exact ret_ Try.func36 []
  ·refine go 20 ?_
   refine adopt_ 3 33 1 ?_
   refine fun h => good_loop (fun n st => n ≤ k ∧ ∃ (v4 : _) (v5 : _) (g6 : Nat) (g7 : Nat), st = ⟨[(1, .ptr 1 1 0), (3, .tip 33 g7 (List.map srw v4)), (21, .p (.lst false (List.map en57 v0.f2))), (22, .p (.int .i64 (v0.f2.length : Int))), (23, .p (.int .i64 v5))], [(1, (1, .cells [.p (.int .u8 v0.f0), .p (.str v0.f1), .p (.lst false (List.map en57 v0.f2))])), (5, (g6, .gone)), (33, (g7, .tip 1 (v4).length))]⟩ ∧ impl_test_show.l0 n v4 v0 v5 = some r) k ⟨_, ⟨Nat.le_refl _, _, _, 0, 1, rfl, h⟩, frle_, memle_⟩ ?_
   clear c1 c2
   clear h
   rintro n _ ⟨hkl0, v4, v5, g6, g7, rfl, h⟩ hl0
   cases n with
   | zero => exact absurd h (by simp [impl_test_show.l0])
   | succ kl0 =>
   rw [impl_test_show.l0] at h
   revert h
   refine bif_e (fun c3 => ?_) (fun c3 => ?_)
   ·refine bind_e (fun v9 e9 => ?_)
    replace e9 := nf_ (ix_en en57 e9)
    refine go 9 ?_
    refine grs ?_
    refine gr_run ?_
    refine bind_e (fun v10 e10 => gr_call [] (impl_test_rank.con e10) ?_)
    clear e10
    refine bind_e (fun v11 e11 => gr_call [] (impl_test_within_ih _ (by omega) _ _ _ e11) ?_)
    clear e11
    refine bind_e (fun v12 e12 => ?_)
    replace e12 := nf_ (app_en srw e12)
    refine gr_run ?_
    refine gr_done ?_
    refine go 2 ?_
    exact fun h => good_again hl0 (by omega) ⟨_, ⟨by omega, _, _, g6 + 1, g7, rfl, h⟩, frle_, memle_⟩
   ·refine go 6 ?_
    refine grs ?_
    refine gr_run ?_
    refine bind_e (fun v8 e8 => gr_call [] (strings_Join.con e8) ?_)
    clear e8
    refine gr_run ?_
    refine gr_done ?_
    refine ret_e (fun hr_ => ?_)
    subst hr_
    exact ret_ Try.func36 []
set_option maxRecDepth 100000 in
set_option maxHeartbeats 4000000 in
theorem impl_test_within.con1 {K : Kn} [KOk K] (k : Nat) (impl_test_show_ih : ∀ m, m < k → impl_test_show.C K m) (impl_test_within_ih : ∀ m, m < k → impl_test_within.C K m) : impl_test_within.C K k := by
 intro v0 v1 r h
 cases k with
 | zero => exact absurd h (by simp [impl_test_within.f])
 | succ k =>
 rw [impl_test_within.f] at h
 refine con_intro 15 [] Try.func40 (by kernel_rfl) rfl rfl (by kernel_rfl) fun ι0 w0 hk0 => ?_
 revert h
 refine go 4 ?_
 refine grs ?_
 refine gr_run ?_
 refine bind_e (fun v2 e2 => gr_call [] (impl_test_rank.con e2) ?_)
 clear e2
 refine gr_run ?_
 refine gr_done ?_
 refine bif_e (fun c1 => ?_) (fun c1 => ?_)
 ·refine go 2 ?_
  refine grs ?_
  refine gr_run ?_
  refine bind_e (fun v3 e3 => gr_call [] (impl_test_show_ih _ (by omega) _ _ e3) ?_)
  clear e3
  refine gr_run ?_
  refine gr_done ?_
  refine ret_e (fun hr_ => ?_)
  subst hr_
  exact ret_ Try.func40 []
 ·refine go 3 ?_
  refine grs ?_
  refine gr_run ?_
  refine bind_e (fun v4 e4 => gr_call [] (impl_test_show_ih _ (by omega) _ _ e4) ?_)
  clear e4
  refine bind_e (fun v5 e5 => ?_)
  refine bind_e (fun v6 e6 => ?_)
  refine gr_run ?_
  refine gr_done ?_
  refine ret_e (fun hr_ => ?_)
  subst hr_
  exact ret_ Try.func40 []
theorem impl_test_show.all {K : Kn} [KOk K] (k : Nat) : impl_test_show.C K k ∧ impl_test_within.C K k := by
 induction k using Nat.strongRecOn with
 | _ k ih => exact ⟨impl_test_show.con1 k (fun m hm => (ih m hm).1) (fun m hm => (ih m hm).2), impl_test_within.con1 k (fun m hm => (ih m hm).1) (fun m hm => (ih m hm).2)⟩
theorem impl_test_show.con {K : Kn} [KOk K] {k : Nat} {v0 : S57} {r : ByteArray} (h : impl_test_show.f k v0 = some r) : Con K Try.prog 36 [.agg [.p (.int .u8 v0.f0), .p (.str v0.f1), .p (.lst false (List.map en57 v0.f2))]] [] (.p (.str r)) [] := (impl_test_show.all k).1 _ r h
theorem impl_test_within.con {K : Kn} [KOk K] {k : Nat} {v0 : S57} {v1 : Int} {r : ByteArray} (h : impl_test_within.f k v0 v1 = some r) : Con K Try.prog 40 [.agg [.p (.int .u8 v0.f0), .p (.str v0.f1), .p (.lst false (List.map en57 v0.f2))], .p (.int .i64 v1)] [] (.p (.str r)) [] := (impl_test_show.all k).2 _ _ r h
end Go.Ab
