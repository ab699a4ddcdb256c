/- What the functions compute, and their contracts, part 2. No condition beyond KOk. -/
import Derived.Test.YtfeieigajdekhaaGreatDoorAbX
namespace Go.Ab
open Go.Proofs
set_option linter.unusedVariables false
set_option linter.unusedSimpArgs false
def spec_l02Id.f (k : Nat) (v0 : Int) : Option (Bool) := (bif decide (1 ≤ v0) then (some (decide (v0 ≤ 1000000000000))) else (some false))
set_option maxRecDepth 100000 in
set_option maxHeartbeats 4000000 in
theorem spec_l02Id.con {K : Kn} [KOk K] {k : Nat} {v0 : Int} {r : Bool} (h : spec_l02Id.f k v0 = some r) : Con K Tryz.prog 42 [.p (.int .i64 v0)] [] (.p (.bool r)) [] := by
 rw [spec_l02Id.f] at h
 refine con_intro 9 [] Tryz.func42 (by kernel_rfl) rfl rfl (by kernel_rfl) fun ι0 w0 hk0 => ?_
 revert h
 refine bif_e (fun c1 => ?_) (fun c1 => ?_)
 ·refine go 4 ?_
  refine ret_e (fun hr_ => ?_)
  subst hr_
  exact ret_ Tryz.func42 []
 ·refine go 4 ?_
  refine ret_e (fun hr_ => ?_)
  subst hr_
  exact ret_ Tryz.func42 []
mutual
def spec_l01Rising.l0 : Nat → (List ByteArray) → Int → Option (Bool)
 | 0, _, _ => none
 | k + 1, v0, v1 => (bif decide (v1 < (v0.length : Int)) then ((ix v0 (IntKind.i64.wrap (v1 - 1))).bind fun v2 => ((ix v0 v1).bind fun v3 => (bif slt v2 v3 then (spec_l01Rising.l0 k v0 (IntKind.i64.wrap (v1 + 1))) else (some false)))) else (some true))
def spec_l01Rising.f : Nat → (List ByteArray) → Option (Bool)
 | 0, _ => none
 | k + 1, v0 => (spec_l01Rising.l0 k v0 1)
end
set_option maxRecDepth 100000 in
set_option maxHeartbeats 4000000 in
theorem spec_l01Rising.con {K : Kn} [KOk K] {k : Nat} {v0 : (List ByteArray)} {r : Bool} (h : spec_l01Rising.f k v0 = some r) : Con K Tryz.prog 55 [.p (.lst false (List.map srw v0))] [] (.p (.bool r)) [] := by
 cases k with
 | zero => exact absurd h (by simp [spec_l01Rising.f])
 | succ k =>
 rw [spec_l01Rising.f] at h
 refine con_intro 20 [] Tryz.func55 (by kernel_rfl) rfl rfl (by kernel_rfl) fun ι0 w0 hk0 => ?_
 revert h
 refine go 6 ?_
 refine fun h => good_loop (fun n st => n ≤ k ∧ ∃ (v1 : _), st = ⟨[(0, .p (.lst false (List.map srw v0))), (3, .p (.int .i64 v1))], []⟩ ∧ spec_l01Rising.l0 n v0 v1 = some r) k ⟨_, ⟨Nat.le_refl _, _, rfl, h⟩, frle_, memle_⟩ ?_
 clear h
 rintro n _ ⟨hkl0, v1, rfl, h⟩ hl0
 cases n with
 | zero => exact absurd h (by simp [spec_l01Rising.l0])
 | succ kl0 =>
 rw [spec_l01Rising.l0] at h
 revert h
 refine bif_e (fun c1 => ?_) (fun c1 => ?_)
 ·refine bind_e (fun v2 e2 => ?_)
  replace e2 := nf_ (ix_en srw e2)
  refine bind_e (fun v3 e3 => ?_)
  replace e3 := nf_ (ix_en srw e3)
  refine go 8 ?_
  refine grs ?_
  refine gr_run ?_
  refine gr_done ?_
  refine bif_e (fun c2 => ?_) (fun c2 => ?_)
  ·refine go 4 ?_
   exact fun h => good_again hl0 (by omega) ⟨_, ⟨by omega, _, rfl, h⟩, frle_, memle_⟩
  ·refine go 3 ?_
   refine ret_e (fun hr_ => ?_)
   subst hr_
   exact ret_ Tryz.func55 []
 ·refine go 7 ?_
  refine ret_e (fun hr_ => ?_)
  subst hr_
  exact ret_ Tryz.func55 []
def spec_l01Letter.f (k : Nat) (v0 : Int) : Option (Bool) := (bif decide (97 ≤ v0) then (bif decide (v0 ≤ 122) then (some true) else (bif decide (65 ≤ v0) then (some (decide (v0 ≤ 90))) else (some false))) else (bif decide (65 ≤ v0) then (some (decide (v0 ≤ 90))) else (some false)))
set_option maxRecDepth 100000 in
set_option maxHeartbeats 4000000 in
theorem spec_l01Letter.con {K : Kn} [KOk K] {k : Nat} {v0 : Int} {r : Bool} (h : spec_l01Letter.f k v0 = some r) : Con K Tryz.prog 57 [.p (.int .u8 v0)] [] (.p (.bool r)) [] := by
 rw [spec_l01Letter.f] at h
 refine con_intro 17 [] Tryz.func57 (by kernel_rfl) rfl rfl (by kernel_rfl) fun ι0 w0 hk0 => ?_
 revert h
 refine bif_e (fun c1 => ?_) (fun c1 => ?_)
 ·refine bif_e (fun c2 => ?_) (fun c2 => ?_)
  ·refine go 4 ?_
   refine ret_e (fun hr_ => ?_)
   subst hr_
   exact ret_ Tryz.func57 []
  ·refine bif_e (fun c3 => ?_) (fun c3 => ?_)
   ·refine go 4 ?_
    refine ret_e (fun hr_ => ?_)
    subst hr_
    exact ret_ Tryz.func57 []
   ·refine go 4 ?_
    refine ret_e (fun hr_ => ?_)
    subst hr_
    exact ret_ Tryz.func57 []
 ·refine bif_e (fun c4 => ?_) (fun c4 => ?_)
  ·refine go 4 ?_
   refine ret_e (fun hr_ => ?_)
   subst hr_
   exact ret_ Tryz.func57 []
  ·refine go 4 ?_
   refine ret_e (fun hr_ => ?_)
   subst hr_
   exact ret_ Tryz.func57 []
def spec_l01Digit.f (k : Nat) (v0 : Int) : Option (Bool) := (bif decide (48 ≤ v0) then (some (decide (v0 ≤ 57))) else (some false))
set_option maxRecDepth 100000 in
set_option maxHeartbeats 4000000 in
theorem spec_l01Digit.con {K : Kn} [KOk K] {k : Nat} {v0 : Int} {r : Bool} (h : spec_l01Digit.f k v0 = some r) : Con K Tryz.prog 58 [.p (.int .u8 v0)] [] (.p (.bool r)) [] := by
 rw [spec_l01Digit.f] at h
 refine con_intro 9 [] Tryz.func58 (by kernel_rfl) rfl rfl (by kernel_rfl) fun ι0 w0 hk0 => ?_
 revert h
 refine bif_e (fun c1 => ?_) (fun c1 => ?_)
 ·refine go 4 ?_
  refine ret_e (fun hr_ => ?_)
  subst hr_
  exact ret_ Tryz.func58 []
 ·refine go 4 ?_
  refine ret_e (fun hr_ => ?_)
  subst hr_
  exact ret_ Tryz.func58 []
mutual
def spec_l01Name.l0 : Nat → ByteArray → Int → Option (Bool)
 | 0, _, _ => none
 | k + 1, v0, v3 => (bif decide (v3 < (v0.size : Int)) then ((bix v0 v3).bind fun v4 => ((spec_l01Letter.f k v4).bind fun v5 => (bif v5 then (spec_l01Name.l0 k v0 (IntKind.i64.wrap (v3 + 1))) else ((spec_l01Digit.f k v4).bind fun v7 => (bif v7 then (spec_l01Name.l0 k v0 (IntKind.i64.wrap (v3 + 1))) else (bif (v4 == 95) then (spec_l01Name.l0 k v0 (IntKind.i64.wrap (v3 + 1))) else (some false))))))) else (some true))
def spec_l01Name.f : Nat → ByteArray → Option (Bool)
 | 0, _ => none
 | k + 1, v0 => (bif decide ((v0.size : Int) < 1) then (some false) else (bif decide (20 < (v0.size : Int)) then (some false) else ((bix v0 0).bind fun v1 => ((spec_l01Letter.f k v1).bind fun v2 => (bif v2 then (spec_l01Name.l0 k v0 1) else (some false))))))
end
set_option maxRecDepth 100000 in
set_option maxHeartbeats 4000000 in
theorem spec_l01Name.con {K : Kn} [KOk K] {k : Nat} {v0 : ByteArray} {r : Bool} (h : spec_l01Name.f k v0 = some r) : Con K Tryz.prog 45 [.p (.str v0)] [] (.p (.bool r)) [] := by
 cases k with
 | zero => exact absurd h (by simp [spec_l01Name.f])
 | succ k =>
 rw [spec_l01Name.f] at h
 refine con_intro 42 [] Tryz.func45 (by kernel_rfl) rfl rfl (by kernel_rfl) fun ι0 w0 hk0 => ?_
 revert h
 refine bif_e (fun c1 => ?_) (fun c1 => ?_)
 ·refine go 8 ?_
  refine ret_e (fun hr_ => ?_)
  subst hr_
  exact ret_ Tryz.func45 []
 ·refine bif_e (fun c2 => ?_) (fun c2 => ?_)
  ·refine go 8 ?_
   refine ret_e (fun hr_ => ?_)
   subst hr_
   exact ret_ Tryz.func45 []
  ·refine bind_e (fun v1 e1 => ?_)
   refine go 4 ?_
   refine grs ?_
   refine gr_run ?_
   refine bind_e (fun v2 e2 => gr_call [] (spec_l01Letter.con e2) ?_)
   clear e2
   refine gr_run ?_
   refine gr_done ?_
   refine bif_e (fun c3 => ?_) (fun c3 => ?_)
   ·refine go 6 ?_
    refine fun h => good_loop (fun n st => n ≤ k ∧ ∃ (v3 : _), st = ⟨[(0, .p (.str v0)), (3, .p (.int .i64 v3))], []⟩ ∧ spec_l01Name.l0 n v0 v3 = some r) k ⟨_, ⟨Nat.le_refl _, _, rfl, h⟩, frle_, memle_⟩ ?_
    clear c1 c2 e1 c3
    clear h
    rintro n _ ⟨hkl0, v3, rfl, h⟩ hl0
    cases n with
    | zero => exact absurd h (by simp [spec_l01Name.l0])
    | succ kl0 =>
    rw [spec_l01Name.l0] at h
    revert h
    refine bif_e (fun c4 => ?_) (fun c4 => ?_)
    ·refine bind_e (fun v4 e4 => ?_)
     refine go 8 ?_
     refine grs ?_
     refine gr_run ?_
     refine bind_e (fun v5 e5 => gr_call [] (spec_l01Letter.con e5) ?_)
     clear e5
     refine bif_e (fun c5 => ?_) (fun c5 => ?_)
     ·refine gr_run ?_
      refine gr_done ?_
      refine go 4 ?_
      exact fun h => good_again hl0 (by omega) ⟨_, ⟨by omega, _, rfl, h⟩, frle_, memle_⟩
     ·refine gr_run ?_
      refine bind_e (fun v7 e7 => gr_call [] (spec_l01Digit.con e7) ?_)
      clear e7
      refine bif_e (fun c6 => ?_) (fun c6 => ?_)
      ·refine gr_run ?_
       refine gr_done ?_
       refine go 4 ?_
       exact fun h => good_again hl0 (by omega) ⟨_, ⟨by omega, _, rfl, h⟩, frle_, memle_⟩
      ·refine gr_run ?_
       refine gr_done ?_
       refine bif_e (fun c7 => ?_) (fun c7 => ?_)
       ·refine go 4 ?_
        exact fun h => good_again hl0 (by omega) ⟨_, ⟨by omega, _, rfl, h⟩, frle_, memle_⟩
       ·refine go 3 ?_
        refine ret_e (fun hr_ => ?_)
        subst hr_
        exact ret_ Tryz.func45 []
    ·refine go 7 ?_
     refine ret_e (fun hr_ => ?_)
     subst hr_
     exact ret_ Tryz.func45 []
   ·refine go 3 ?_
    refine ret_e (fun hr_ => ?_)
    subst hr_
    exact ret_ Tryz.func45 []
mutual
def spec_l02Labels.l0 : Nat → (List ByteArray) → Int → Option (Bool)
 | 0, _, _ => none
 | k + 1, v0, v2 => (bif decide (v2 < (v0.length : Int)) then ((ix v0 v2).bind fun v3 => ((spec_l01Name.f k v3).bind fun v4 => (bif v4 then (spec_l02Labels.l0 k v0 (IntKind.i64.wrap (v2 + 1))) else (some false)))) else (some true))
def spec_l02Labels.f : Nat → (List ByteArray) → Option (Bool)
 | 0, _ => none
 | k + 1, v0 => (bif decide (10 < (v0.length : Int)) then (some false) else ((spec_l01Rising.f k v0).bind fun v1 => (bif v1 then (spec_l02Labels.l0 k v0 0) else (some false))))
end
set_option maxRecDepth 100000 in
set_option maxHeartbeats 4000000 in
theorem spec_l02Labels.con {K : Kn} [KOk K] {k : Nat} {v0 : (List ByteArray)} {r : Bool} (h : spec_l02Labels.f k v0 = some r) : Con K Tryz.prog 43 [.p (.lst false (List.map srw v0))] [] (.p (.bool r)) [] := by
 cases k with
 | zero => exact absurd h (by simp [spec_l02Labels.f])
 | succ k =>
 rw [spec_l02Labels.f] at h
 refine con_intro 24 [] Tryz.func43 (by kernel_rfl) rfl rfl (by kernel_rfl) fun ι0 w0 hk0 => ?_
 revert h
 refine bif_e (fun c1 => ?_) (fun c1 => ?_)
 ·refine go 8 ?_
  refine ret_e (fun hr_ => ?_)
  subst hr_
  exact ret_ Tryz.func43 []
 ·refine go 4 ?_
  refine grs ?_
  refine gr_run ?_
  refine bind_e (fun v1 e1 => gr_call [] (spec_l01Rising.con e1) ?_)
  clear e1
  refine gr_run ?_
  refine gr_done ?_
  refine bif_e (fun c2 => ?_) (fun c2 => ?_)
  ·refine go 6 ?_
   refine fun h => good_loop (fun n st => n ≤ k ∧ ∃ (v2 : _), st = ⟨[(0, .p (.lst false (List.map srw v0))), (3, .p (.int .i64 v2))], []⟩ ∧ spec_l02Labels.l0 n v0 v2 = some r) k ⟨_, ⟨Nat.le_refl _, _, rfl, h⟩, frle_, memle_⟩ ?_
   clear c1 c2
   clear h
   rintro n _ ⟨hkl0, v2, rfl, h⟩ hl0
   cases n with
   | zero => exact absurd h (by simp [spec_l02Labels.l0])
   | succ kl0 =>
   rw [spec_l02Labels.l0] at h
   revert h
   refine bif_e (fun c3 => ?_) (fun c3 => ?_)
   ·refine bind_e (fun v3 e3 => ?_)
    replace e3 := nf_ (ix_en srw e3)
    refine go 8 ?_
    refine grs ?_
    refine gr_run ?_
    refine bind_e (fun v4 e4 => gr_call [] (spec_l01Name.con e4) ?_)
    clear e4
    refine gr_run ?_
    refine gr_done ?_
    refine bif_e (fun c4 => ?_) (fun c4 => ?_)
    ·refine go 4 ?_
     exact fun h => good_again hl0 (by omega) ⟨_, ⟨by omega, _, rfl, h⟩, frle_, memle_⟩
    ·refine go 3 ?_
     refine ret_e (fun hr_ => ?_)
     subst hr_
     exact ret_ Tryz.func43 []
   ·refine go 7 ?_
    refine ret_e (fun hr_ => ?_)
    subst hr_
    exact ret_ Tryz.func43 []
  ·refine go 3 ?_
   refine ret_e (fun hr_ => ?_)
   subst hr_
   exact ret_ Tryz.func43 []
def spec_l01Reader_fail.f (k : Nat) (v0 : S111) : Option (S100 × S111) := (some ((⟨(-1), 0, 0, (⟨#[]⟩ : ByteArray), ([] : (List S100)), ([] : (List ByteArray))⟩ : S100), (⟨v0.f0, v0.f1, true⟩ : S111)))
set_option maxRecDepth 100000 in
set_option maxHeartbeats 4000000 in
theorem spec_l01Reader_fail.con {K : Kn} [KOk K] {k : Nat} {v0 : S111} {r : S100 × S111} (h : spec_l01Reader_fail.f k v0 = some r) : Con K Tryz.prog 70 [.ptr 1000 0 0] [(1000, (0, .cells [.p (.str v0.f0), .p (.int .i64 v0.f1), .p (.bool v0.f2)]))] (.agg [.p (.int .i64 r.1.f0), .p (.int .i64 r.1.f1), .p (.int .i64 r.1.f2), .p (.str r.1.f3), .p (.lst false (List.map en100 r.1.f4)), .p (.lst false (List.map srw r.1.f5))]) [(1000, (0, .cells [.p (.str r.2.f0), .p (.int .i64 r.2.f1), .p (.bool r.2.f2)]))] := by
 rw [spec_l01Reader_fail.f] at h
 refine con_intro 7 [] Tryz.func70 (by kernel_rfl) rfl rfl (by kernel_rfl) fun ι0 w0 hk0 => ?_
 revert h
 refine go 6 ?_
 refine ret_e (fun hr_ => ?_)
 subst hr_
 exact ret_ Tryz.func70 [(1000, (0, 1000, 0))]
def spec_l01Begins.f (k : Nat) (v0 : ByteArray) (v1 : ByteArray) : Option (Bool) := (bif decide ((v1.size : Int) ≤ (v0.size : Int)) then ((sub v0 0 (v1.size : Int)).bind fun v2 => (some (decide (v2 = v1)))) else (some false))
set_option maxRecDepth 100000 in
set_option maxHeartbeats 4000000 in
theorem spec_l01Begins.con {K : Kn} [KOk K] {k : Nat} {v0 : ByteArray} {v1 : ByteArray} {r : Bool} (h : spec_l01Begins.f k v0 v1 = some r) : Con K Tryz.prog 89 [.p (.str v0), .p (.str v1)] [] (.p (.bool r)) [] := by
 rw [spec_l01Begins.f] at h
 refine con_intro 18 [] Tryz.func89 (by kernel_rfl) rfl rfl (by kernel_rfl) fun ι0 w0 hk0 => ?_
 revert h
 refine bif_e (fun c1 => ?_) (fun c1 => ?_)
 ·refine bind_e (fun v2 e2 => ?_)
  refine go 4 ?_
  refine ret_e (fun hr_ => ?_)
  subst hr_
  exact ret_ Tryz.func89 []
 ·refine go 4 ?_
  refine ret_e (fun hr_ => ?_)
  subst hr_
  exact ret_ Tryz.func89 []
def spec_l01Reader_takes.f (k : Nat) (v0 : ByteArray) (v1 : S111) : Option (Bool × S111) := (bif v1.f2 then (some (false, v1)) else ((sub v1.f0 v1.f1 (v1.f0.size : Int)).bind fun v2 => ((spec_l01Begins.f k v2 v0).bind fun v3 => (bif v3 then (some (true, (⟨v1.f0, (IntKind.i64.wrap (v1.f1 + (v0.size : Int))), v1.f2⟩ : S111))) else (some (false, v1))))))
set_option maxRecDepth 100000 in
set_option maxHeartbeats 4000000 in
theorem spec_l01Reader_takes.con {K : Kn} [KOk K] {k : Nat} {v0 : ByteArray} {v1 : S111} {r : Bool × S111} (h : spec_l01Reader_takes.f k v0 v1 = some r) : Con K Tryz.prog 71 [.ptr 1000 0 0, .p (.str v0)] [(1000, (0, .cells [.p (.str v1.f0), .p (.int .i64 v1.f1), .p (.bool v1.f2)]))] (.p (.bool r.1)) [(1000, (0, .cells [.p (.str r.2.f0), .p (.int .i64 r.2.f1), .p (.bool r.2.f2)]))] := by
 rw [spec_l01Reader_takes.f] at h
 refine con_intro 33 [] Tryz.func71 (by kernel_rfl) rfl rfl (by kernel_rfl) fun ι0 w0 hk0 => ?_
 revert h
 refine bif_e (fun c1 => ?_) (fun c1 => ?_)
 ·refine go 4 ?_
  refine grs ?_
  refine gr_run ?_
  refine gr_done ?_
  refine go 4 ?_
  refine ret_e (fun hr_ => ?_)
  subst hr_
  exact ret_ Tryz.func71 [(1000, (0, 1000, 0))]
 ·refine bind_e (fun v2 e2 => ?_)
  refine go 4 ?_
  refine grs ?_
  refine gr_run ?_
  refine bind_e (fun v3 e3 => gr_call [] (spec_l01Begins.con e3) ?_)
  clear e3
  refine gr_run ?_
  refine gr_done ?_
  refine bif_e (fun c2 => ?_) (fun c2 => ?_)
  ·refine go 5 ?_
   refine ret_e (fun hr_ => ?_)
   subst hr_
   exact ret_ Tryz.func71 [(1000, (0, 1000, 0))]
  ·refine go 4 ?_
   refine ret_e (fun hr_ => ?_)
   subst hr_
   exact ret_ Tryz.func71 [(1000, (0, 1000, 0))]
mutual
def spec_l01Reader_quoted.j1 : Nat → (List Int) → Int → S111 → Int → Option (ByteArray × S111)
 | 0, _, _, _, _ => none
 | k + 1, v1, v9, v0, v2 => ((app v1 ([v9] : List Int)).bind fun v10 => (spec_l01Reader_quoted.l0 k v10 v0 (IntKind.i64.wrap ((IntKind.i64.wrap (v2 + 1)) + 1))))
def spec_l01Reader_quoted.j0 : Nat → (List Int) → S111 → Int → Option (ByteArray × S111)
 | 0, _, _, _ => none
 | k + 1, v1, v0, v2 => ((bix v0.f0 (IntKind.i64.wrap (v2 + 1))).bind fun v8 => (bif (v8 == 110) then (spec_l01Reader_quoted.j1 k v1 10 v0 v2) else (spec_l01Reader_quoted.j1 k v1 v8 v0 v2)))
def spec_l01Reader_quoted.l0 : Nat → (List Int) → S111 → Int → Option (ByteArray × S111)
 | 0, _, _, _ => none
 | k + 1, v1, v0, v2 => (bif decide (v2 < (v0.f0.size : Int)) then ((bix v0.f0 v2).bind fun v4 => (bif (v4 == 34) then (some ((bstr v1), (⟨v0.f0, (IntKind.i64.wrap (v2 + 1)), v0.f2⟩ : S111))) else (bif decide (v4 < 32) then (some ((⟨#[]⟩ : ByteArray), (⟨v0.f0, (IntKind.i64.wrap (v2 + 1)), true⟩ : S111))) else (bif (v4 == 92) then (bif decide ((v0.f0.size : Int) ≤ (IntKind.i64.wrap (v2 + 1))) then (some ((⟨#[]⟩ : ByteArray), (⟨v0.f0, (IntKind.i64.wrap (v2 + 1)), true⟩ : S111))) else ((bix v0.f0 (IntKind.i64.wrap (v2 + 1))).bind fun v5 => (bif (v5 == 34) then (spec_l01Reader_quoted.j0 k v1 v0 v2) else (bif (v5 == 92) then (spec_l01Reader_quoted.j0 k v1 v0 v2) else (bif (v5 == 110) then (spec_l01Reader_quoted.j0 k v1 v0 v2) else (some ((⟨#[]⟩ : ByteArray), (⟨v0.f0, (IntKind.i64.wrap (v2 + 1)), true⟩ : S111)))))))) else ((app v1 ([v4] : List Int)).bind fun v11 => (spec_l01Reader_quoted.l0 k v11 v0 (IntKind.i64.wrap (v2 + 1)))))))) else (some ((⟨#[]⟩ : ByteArray), (⟨v0.f0, v2, true⟩ : S111))))
def spec_l01Reader_quoted.f : Nat → S111 → Option (ByteArray × S111)
 | 0, _ => none
 | k + 1, v0 => (spec_l01Reader_quoted.l0 k ([] : List Int) v0 v0.f1)
end
set_option maxRecDepth 100000 in
set_option maxHeartbeats 4000000 in
theorem spec_l01Reader_quoted.con {K : Kn} [KOk K] {k : Nat} {v0 : S111} {r : ByteArray × S111} (h : spec_l01Reader_quoted.f k v0 = some r) : Con K Tryz.prog 72 [.ptr 1000 0 0] [(1000, (0, .cells [.p (.str v0.f0), .p (.int .i64 v0.f1), .p (.bool v0.f2)]))] (.p (.str r.1)) [(1000, (0, .cells [.p (.str r.2.f0), .p (.int .i64 r.2.f1), .p (.bool r.2.f2)]))] := by
 cases k with
 | zero => exact absurd h (by simp [spec_l01Reader_quoted.f])
 | succ k =>
 rw [spec_l01Reader_quoted.f] at h
 refine con_intro 122 [] Tryz.func72 (by kernel_rfl) rfl rfl (by kernel_rfl) fun ι0 w0 hk0 => ?_
 revert h
 refine go 6 ?_
 refine adoptF_ 3 118 1 ?_
 refine fun h => good_loop (fun n st => n ≤ k ∧ ∃ (v1 : _) (v2 : _) (g3 : Nat), st = ⟨[(0, .ptr 1000 0 0), (3, .tip 118 g3 (List.map (irow .u8) v1))], [(1000, (0, .cells [.p (.str v0.f0), .p (.int .i64 v2), .p (.bool v0.f2)])), (118, (g3, .tip 1 (v1).length))]⟩ ∧ spec_l01Reader_quoted.l0 n v1 v0 v2 = some r) k ⟨_, ⟨Nat.le_refl _, _, _, 1, rfl, h⟩, frle_, memle_⟩ ?_
 clear h
 rintro n _ ⟨hkl0, v1, v2, g3, rfl, h⟩ hl0
 cases n with
 | zero => exact absurd h (by simp [spec_l01Reader_quoted.l0])
 | succ kl0 =>
 rw [spec_l01Reader_quoted.l0] at h
 revert h
 refine go 2 ?_
 refine grs ?_
 refine gr_run ?_
 refine gr_done ?_
 refine bif_e (fun c1 => ?_) (fun c1 => ?_)
 ·refine bind_e (fun v4 e4 => ?_)
  refine go 4 ?_
  refine grs ?_
  refine gr_run ?_
  refine gr_done ?_
  refine bif_e (fun c2 => ?_) (fun c2 => ?_)
  ·refine go 9 ?_
   refine ret_e (fun hr_ => ?_)
   subst hr_
   exact ret_ Tryz.func72 [(1000, (0, 1000, 0))]
  ·refine bif_e (fun c3 => ?_) (fun c3 => ?_)
   ·refine go 14 ?_
    refine ret_e (fun hr_ => ?_)
    subst hr_
    exact ret_ Tryz.func72 [(1000, (0, 1000, 0))]
   ·refine bif_e (fun c4 => ?_) (fun c4 => ?_)
    ·refine go 15 ?_
     refine good_cut_f (fun st => ∃ (q_ : Nat), q_ ≤ kl0 ∧ st = ⟨[(0, .ptr 1000 0 0), (3, .tip 118 g3 (List.map (irow .u8) v1))], [(1000, (0, .cells [.p (.str v0.f0), .p (.int .i64 (IntKind.i64.wrap (v2 + 1))), .p (.bool v0.f2)])), (118, (g3, .tip 1 (v1).length))]⟩ ∧ spec_l01Reader_quoted.j0 q_ v1 v0 v2 = some r) ?_ (fun hj0 => ?_)
     ·clear c1 e4 c2 c3 c4
      rintro _ ⟨q_, hqj0, rfl, h⟩
      cases q_ with
      | zero => exact absurd h (by simp [spec_l01Reader_quoted.j0])
      | succ kj0 =>
      rw [spec_l01Reader_quoted.j0] at h
      revert h
      refine bind_e (fun v8 e8 => ?_)
      refine go 2 ?_
      refine grs ?_
      refine gr_run ?_
      refine gr_done ?_
      refine go 1 ?_
      refine good_cut (fun st => ∃ (v9 : _) (q_ : Nat), q_ ≤ kj0 ∧ st = ⟨[(0, .ptr 1000 0 0), (3, .tip 118 g3 (List.map (irow .u8) v1)), (4, .p (.int .u8 v9))], [(1000, (0, .cells [.p (.str v0.f0), .p (.int .i64 (IntKind.i64.wrap (v2 + 1))), .p (.bool v0.f2)])), (118, (g3, .tip 1 (v1).length))]⟩ ∧ spec_l01Reader_quoted.j1 q_ v1 v9 v0 v2 = some r) ?_ (fun hj1 => ?_)
      ·clear e8
       rintro _ ⟨v9, q_, hqj1, rfl, h⟩
       cases q_ with
       | zero => exact absurd h (by simp [spec_l01Reader_quoted.j1])
       | succ kj1 =>
       rw [spec_l01Reader_quoted.j1] at h
       revert h
       refine bind_e (fun v10 e10 => ?_)
       replace e10 := nf_ (app_en (irow .u8) e10)
       refine go 4 ?_
       exact fun h => good_again hl0 (by omega) ⟨_, ⟨by omega, _, _, g3, rfl, h⟩, frle_, memle_⟩
      ·refine bif_e (fun c5 => ?_) (fun c5 => ?_)
       ·refine go 4 ?_
        exact fun h => good_jump hj1 ⟨_, ⟨_, _, by omega, rfl, h⟩, frle_, memle_⟩
       ·refine go 4 ?_
        exact fun h => good_jump hj1 ⟨_, ⟨_, _, by omega, rfl, h⟩, frle_, memle_⟩
     ·refine bif_e (fun c6 => ?_) (fun c6 => ?_)
      ·refine grs ?_
       refine gr_run ?_
       refine gr_done ?_
       refine go 5 ?_
       refine ret_e (fun hr_ => ?_)
       subst hr_
       exact ret_ Tryz.func72 [(1000, (0, 1000, 0))]
      ·refine bind_e (fun v5 e5 => ?_)
       refine bif_e (fun c7 => ?_) (fun c7 => ?_)
       ·refine grs ?_
        refine gr_run ?_
        refine gr_done ?_
        refine go 1 ?_
        exact fun h => good_jump hj0 ⟨_, ⟨_, by omega, rfl, h⟩, frle_, memle_⟩
       ·refine bif_e (fun c8 => ?_) (fun c8 => ?_)
        ·refine grs ?_
         refine gr_run ?_
         refine gr_done ?_
         refine go 1 ?_
         exact fun h => good_jump hj0 ⟨_, ⟨_, by omega, rfl, h⟩, frle_, memle_⟩
        ·refine grs ?_
         refine gr_run ?_
         refine gr_done ?_
         refine bif_e (fun c9 => ?_) (fun c9 => ?_)
         ·refine go 1 ?_
          exact fun h => good_jump hj0 ⟨_, ⟨_, by omega, rfl, h⟩, frle_, memle_⟩
         ·refine go 5 ?_
          refine ret_e (fun hr_ => ?_)
          subst hr_
          exact ret_ Tryz.func72 [(1000, (0, 1000, 0))]
    ·refine bind_e (fun v11 e11 => ?_)
     replace e11 := nf_ (app_en (irow .u8) e11)
     refine go 17 ?_
     exact fun h => good_again hl0 (by omega) ⟨_, ⟨by omega, _, _, g3, rfl, h⟩, frle_, memle_⟩
 ·refine go 6 ?_
  refine ret_e (fun hr_ => ?_)
  subst hr_
  exact ret_ Tryz.func72 [(1000, (0, 1000, 0))]
mutual
def spec_l01Reader_digits.l0 : Nat → Int → Int → Int → S111 → Int → Option (Int × S111)
 | 0, _, _, _, _, _ => none
 | k + 1, v0, v2, v3, v1, v4 => (bif decide (v3 < v0) then (bif decide ((v1.f0.size : Int) ≤ v4) then (some (0, (⟨v1.f0, v4, true⟩ : S111))) else ((bix v1.f0 v4).bind fun v5 => ((spec_l01Digit.f k v5).bind fun v6 => (bif v6 then (spec_l01Reader_digits.l0 k v0 (IntKind.i64.wrap ((IntKind.i64.wrap (v2 * 10)) + (IntKind.i64.wrap (IntKind.u8.wrap (v5 - 48))))) (IntKind.i64.wrap (v3 + 1)) v1 (IntKind.i64.wrap (v4 + 1))) else (some (0, (⟨v1.f0, v4, true⟩ : S111))))))) else (some (v2, (⟨v1.f0, v4, v1.f2⟩ : S111))))
def spec_l01Reader_digits.f : Nat → Int → S111 → Option (Int × S111)
 | 0, _, _ => none
 | k + 1, v0, v1 => (spec_l01Reader_digits.l0 k v0 0 0 v1 v1.f1)
end
set_option maxRecDepth 100000 in
set_option maxHeartbeats 4000000 in
theorem spec_l01Reader_digits.con {K : Kn} [KOk K] {k : Nat} {v0 : Int} {v1 : S111} {r : Int × S111} (h : spec_l01Reader_digits.f k v0 v1 = some r) : Con K Tryz.prog 90 [.ptr 1000 0 0, .p (.int .i64 v0)] [(1000, (0, .cells [.p (.str v1.f0), .p (.int .i64 v1.f1), .p (.bool v1.f2)]))] (.p (.int .i64 r.1)) [(1000, (0, .cells [.p (.str r.2.f0), .p (.int .i64 r.2.f1), .p (.bool r.2.f2)]))] := by
 cases k with
 | zero => exact absurd h (by simp [spec_l01Reader_digits.f])
 | succ k =>
 rw [spec_l01Reader_digits.f] at h
 refine con_intro 61 [] Tryz.func90 (by kernel_rfl) rfl rfl (by kernel_rfl) fun ι0 w0 hk0 => ?_
 revert h
 refine go 8 ?_
 refine fun h => good_loop (fun n st => n ≤ k ∧ ∃ (v2 : _) (v3 : _) (v4 : _), st = ⟨[(0, .ptr 1000 0 0), (1, .p (.int .i64 v0)), (5, .p (.int .i64 v2)), (6, .p (.int .i64 v3))], [(1000, (0, .cells [.p (.str v1.f0), .p (.int .i64 v4), .p (.bool v1.f2)]))]⟩ ∧ spec_l01Reader_digits.l0 n v0 v2 v3 v1 v4 = some r) k ⟨_, ⟨Nat.le_refl _, _, _, _, rfl, h⟩, frle_, memle_⟩ ?_
 clear h
 rintro n _ ⟨hkl0, v2, v3, v4, rfl, h⟩ hl0
 cases n with
 | zero => exact absurd h (by simp [spec_l01Reader_digits.l0])
 | succ kl0 =>
 rw [spec_l01Reader_digits.l0] at h
 revert h
 refine bif_e (fun c1 => ?_) (fun c1 => ?_)
 ·refine bif_e (fun c2 => ?_) (fun c2 => ?_)
  ·refine go 9 ?_
   refine grs ?_
   refine gr_run ?_
   refine gr_done ?_
   refine go 5 ?_
   refine ret_e (fun hr_ => ?_)
   subst hr_
   exact ret_ Tryz.func90 [(1000, (0, 1000, 0))]
  ·refine bind_e (fun v5 e5 => ?_)
   refine go 9 ?_
   refine grs ?_
   refine gr_run ?_
   refine bind_e (fun v6 e6 => gr_call [] (spec_l01Digit.con e6) ?_)
   clear e6
   refine gr_run ?_
   refine gr_done ?_
   refine bif_e (fun c3 => ?_) (fun c3 => ?_)
   ·refine go 3 ?_
    refine grs ?_
    refine gr_run ?_
    refine gr_done ?_
    refine go 3 ?_
    exact fun h => good_again hl0 (by omega) ⟨_, ⟨by omega, _, _, _, rfl, h⟩, frle_, memle_⟩
   ·refine go 5 ?_
    refine ret_e (fun hr_ => ?_)
    subst hr_
    exact ret_ Tryz.func90 [(1000, (0, 1000, 0))]
 ·refine go 7 ?_
  refine ret_e (fun hr_ => ?_)
  subst hr_
  exact ret_ Tryz.func90 [(1000, (0, 1000, 0))]
def spec_l01Leap.f (k : Nat) (v0 : Int) : Option (Bool) := ((rem v0 4).bind fun v1 => (bif (v1 == 0) then ((rem v0 100).bind fun v2 => (bif (v2 == 0) then ((rem v0 400).bind fun v3 => (some (v3 == 0))) else (some true))) else (some false)))
set_option maxRecDepth 100000 in
set_option maxHeartbeats 4000000 in
theorem spec_l01Leap.con {K : Kn} [KOk K] {k : Nat} {v0 : Int} {r : Bool} (h : spec_l01Leap.f k v0 = some r) : Con K Tryz.prog 103 [.p (.int .i64 v0)] [] (.p (.bool r)) [] := by
 rw [spec_l01Leap.f] at h
 refine con_intro 16 [] Tryz.func103 (by kernel_rfl) rfl rfl (by kernel_rfl) fun ι0 w0 hk0 => ?_
 revert h
 refine bind_e (fun v1 e1 => ?_)
 refine bif_e (fun c1 => ?_) (fun c1 => ?_)
 ·refine bind_e (fun v2 e2 => ?_)
  refine bif_e (fun c2 => ?_) (fun c2 => ?_)
  ·refine bind_e (fun v3 e3 => ?_)
   refine go 4 ?_
   refine ret_e (fun hr_ => ?_)
   subst hr_
   exact ret_ Tryz.func103 []
  ·refine go 4 ?_
   refine ret_e (fun hr_ => ?_)
   subst hr_
   exact ret_ Tryz.func103 []
 ·refine go 4 ?_
  refine ret_e (fun hr_ => ?_)
  subst hr_
  exact ret_ Tryz.func103 []
def spec_l01Month.f (k : Nat) (v0 : Int) (v1 : Int) : Option (Int) := (bif (v1 == 2) then ((spec_l01Leap.f k v0).bind fun v2 => (bif v2 then (some 29) else ((ix ([31, 28, 31, 30, 31, 30, 31, 31, 30, 31, 30, 31] : List Int) (IntKind.i64.wrap (v1 - 1))).bind fun v3 => (some v3)))) else ((ix ([31, 28, 31, 30, 31, 30, 31, 31, 30, 31, 30, 31] : List Int) (IntKind.i64.wrap (v1 - 1))).bind fun v4 => (some v4)))
set_option maxRecDepth 100000 in
set_option maxHeartbeats 4000000 in
theorem spec_l01Month.con {K : Kn} [KOk K] {k : Nat} {v0 : Int} {v1 : Int} {r : Int} (h : spec_l01Month.f k v0 v1 = some r) : Con K Tryz.prog 91 [.p (.int .i64 v0), .p (.int .i64 v1)] [] (.p (.int .i64 r)) [] := by
 rw [spec_l01Month.f] at h
 refine con_intro 16 [] Tryz.func91 (by kernel_rfl) rfl rfl (by kernel_rfl) fun ι0 w0 hk0 => ?_
 revert h
 refine bif_e (fun c1 => ?_) (fun c1 => ?_)
 ·refine go 4 ?_
  refine grs ?_
  refine gr_run ?_
  refine bind_e (fun v2 e2 => gr_call [] (spec_l01Leap.con e2) ?_)
  clear e2
  refine gr_run ?_
  refine gr_done ?_
  refine bif_e (fun c2 => ?_) (fun c2 => ?_)
  ·refine go 3 ?_
   refine ret_e (fun hr_ => ?_)
   subst hr_
   exact ret_ Tryz.func91 []
  ·refine bind_e (fun v3 e3 => ?_)
   replace e3 := nf_ (ix_en (irow .i64) e3)
   refine go 4 ?_
   refine ret_e (fun hr_ => ?_)
   subst hr_
   exact ret_ Tryz.func91 []
 ·refine bind_e (fun v4 e4 => ?_)
  replace e4 := nf_ (ix_en (irow .i64) e4)
  refine go 9 ?_
  refine ret_e (fun hr_ => ?_)
  subst hr_
  exact ret_ Tryz.func91 []
def spec_l01Days.f (k : Nat) (v0 : Int) : Option (Int) := ((quo .i64 (IntKind.i64.wrap (v0 - 1)) 4).bind fun v1 => ((quo .i64 (IntKind.i64.wrap (v0 - 1)) 100).bind fun v2 => ((quo .i64 (IntKind.i64.wrap (v0 - 1)) 400).bind fun v3 => (some (IntKind.i64.wrap ((IntKind.i64.wrap ((IntKind.i64.wrap ((IntKind.i64.wrap ((IntKind.i64.wrap (v0 - 1)) * 365)) + v1)) - v2)) + v3))))))
set_option maxRecDepth 100000 in
set_option maxHeartbeats 4000000 in
theorem spec_l01Days.con {K : Kn} [KOk K] {k : Nat} {v0 : Int} {r : Int} (h : spec_l01Days.f k v0 = some r) : Con K Tryz.prog 92 [.p (.int .i64 v0)] [] (.p (.int .i64 r)) [] := by
 rw [spec_l01Days.f] at h
 refine con_intro 16 [] Tryz.func92 (by kernel_rfl) rfl rfl (by kernel_rfl) fun ι0 w0 hk0 => ?_
 revert h
 refine bind_e (fun v1 e1 => ?_)
 refine bind_e (fun v2 e2 => ?_)
 refine bind_e (fun v3 e3 => ?_)
 refine go 6 ?_
 refine ret_e (fun hr_ => ?_)
 subst hr_
 exact ret_ Tryz.func92 []
mutual
def spec_l01Reader_date.l0 : Nat → (Int × S111) → (Int × S111) → Int → Int → (Int × S111) → Option (S100 × S111)
 | 0, _, _, _, _, _ => none
 | k + 1, v1, v6, v20, v21, v11 => (bif decide (v21 < v6.1) then ((spec_l01Month.f k v1.1 v21).bind fun v22 => (spec_l01Reader_date.l0 k v1 v6 (IntKind.i64.wrap (v20 + v22)) (IntKind.i64.wrap (v21 + 1)) v11)) else (some ((⟨4, v20, 0, (⟨#[]⟩ : ByteArray), ([] : (List S100)), ([] : (List ByteArray))⟩ : S100), (⟨v11.2.f0, v11.2.f1, false⟩ : S111))))
def spec_l01Reader_date.j1 : Nat → (Int × S111) → (Int × S111) → ByteArray → Int → Bool → Option (S100 × S111)
 | 0, _, _, _, _, _ => none
 | k + 1, v1, v6, v8, v9, v10 => ((spec_l01Reader_digits.f k 2 (⟨v8, v9, v10⟩ : S111)).bind fun v11 => (bif v11.2.f2 then ((spec_l01Reader_fail.f k v11.2).bind fun v13 => (some (v13.1, v13.2))) else (bif decide (v1.1 < 1) then ((spec_l01Reader_fail.f k v11.2).bind fun v14 => (some (v14.1, v14.2))) else (bif decide (v6.1 < 1) then ((spec_l01Reader_fail.f k v11.2).bind fun v15 => (some (v15.1, v15.2))) else (bif decide (12 < v6.1) then ((spec_l01Reader_fail.f k v11.2).bind fun v16 => (some (v16.1, v16.2))) else (bif decide (v11.1 < 1) then ((spec_l01Reader_fail.f k v11.2).bind fun v17 => (some (v17.1, v17.2))) else ((spec_l01Month.f k v1.1 v6.1).bind fun v12 => (bif decide (v12 < v11.1) then ((spec_l01Reader_fail.f k v11.2).bind fun v18 => (some (v18.1, v18.2))) else ((spec_l01Days.f k v1.1).bind fun v19 => (spec_l01Reader_date.l0 k v1 v6 (IntKind.i64.wrap ((IntKind.i64.wrap (v19 + v11.1)) - 1)) 1 v11))))))))))
def spec_l01Reader_date.j0 : Nat → (Int × S111) → ByteArray → Int → Bool → Option (S100 × S111)
 | 0, _, _, _, _ => none
 | k + 1, v1, v3, v4, v5 => ((spec_l01Reader_digits.f k 2 (⟨v3, v4, v5⟩ : S111)).bind fun v6 => (bif v6.2.f2 then (spec_l01Reader_date.j1 k v1 v6 v6.2.f0 v6.2.f1 true) else ((spec_l01Reader_takes.f k (⟨#[45]⟩ : ByteArray) v6.2).bind fun v7 => (spec_l01Reader_date.j1 k v1 v6 v7.2.f0 v7.2.f1 (!v7.1)))))
def spec_l01Reader_date.f : Nat → S111 → Option (S100 × S111)
 | 0, _ => none
 | k + 1, v0 => ((spec_l01Reader_digits.f k 4 v0).bind fun v1 => (bif v1.2.f2 then (spec_l01Reader_date.j0 k v1 v1.2.f0 v1.2.f1 true) else ((spec_l01Reader_takes.f k (⟨#[45]⟩ : ByteArray) v1.2).bind fun v2 => (spec_l01Reader_date.j0 k v1 v2.2.f0 v2.2.f1 (!v2.1)))))
end
set_option maxRecDepth 100000 in
set_option maxHeartbeats 4000000 in
theorem spec_l01Reader_date.con {K : Kn} [KOk K] {k : Nat} {v0 : S111} {r : S100 × S111} (h : spec_l01Reader_date.f k v0 = some r) : Con K Tryz.prog 73 [.ptr 1000 0 0] [(1000, (0, .cells [.p (.str v0.f0), .p (.int .i64 v0.f1), .p (.bool v0.f2)]))] (.agg [.p (.int .i64 r.1.f0), .p (.int .i64 r.1.f1), .p (.int .i64 r.1.f2), .p (.str r.1.f3), .p (.lst false (List.map en100 r.1.f4)), .p (.lst false (List.map srw r.1.f5))]) [(1000, (0, .cells [.p (.str r.2.f0), .p (.int .i64 r.2.f1), .p (.bool r.2.f2)]))] := by
 cases k with
 | zero => exact absurd h (by simp [spec_l01Reader_date.f])
 | succ k =>
 rw [spec_l01Reader_date.f] at h
 refine con_intro 84 [] Tryz.func73 (by kernel_rfl) rfl rfl (by kernel_rfl) fun ι0 w0 hk0 => ?_
 revert h
 refine go 3 ?_
 refine grs ?_
 refine gr_run ?_
 refine bind_e (fun v1 e1 => gr_call [(1000, (0, 1000, 0))] (spec_l01Reader_digits.con e1) ?_)
 clear e1
 refine gr_run ?_
 refine gr_done ?_
 refine go 1 ?_
 refine good_cut (fun st => ∃ (v3 : _) (v4 : _) (v5 : _) (q_ : Nat), q_ ≤ k ∧ st = ⟨[(0, .ptr 1000 0 0), (2, .ptr 2 1 0), (3, .p (.int .i64 v1.1))], [(1000, (0, .cells [.p (.str v3), .p (.int .i64 v4), .p (.bool v5)])), (2, (1, .cells [.p (.int .i64 0), .p (.int .i64 0), .p (.int .i64 0), .p (.str (⟨#[]⟩ : ByteArray)), .p .nilS, .p .nilS]))]⟩ ∧ spec_l01Reader_date.j0 q_ v1 v3 v4 v5 = some r) ?_ (fun hj0 => ?_)
 ·skip
  rintro _ ⟨v3, v4, v5, q_, hqj0, rfl, h⟩
  cases q_ with
  | zero => exact absurd h (by simp [spec_l01Reader_date.j0])
  | succ kj0 =>
  rw [spec_l01Reader_date.j0] at h
  revert h
  refine go 1 ?_
  refine grs ?_
  refine gr_run ?_
  refine bind_e (fun v6 e6 => gr_call [(1000, (0, 1000, 0))] (spec_l01Reader_digits.con e6) ?_)
  clear e6
  refine gr_run ?_
  refine gr_done ?_
  refine go 1 ?_
  refine good_cut (fun st => ∃ (v8 : _) (v9 : _) (v10 : _) (q_ : Nat), q_ ≤ kj0 ∧ st = ⟨[(0, .ptr 1000 0 0), (2, .ptr 2 1 0), (3, .p (.int .i64 v1.1)), (4, .p (.int .i64 v6.1))], [(1000, (0, .cells [.p (.str v8), .p (.int .i64 v9), .p (.bool v10)])), (2, (1, .cells [.p (.int .i64 0), .p (.int .i64 0), .p (.int .i64 0), .p (.str (⟨#[]⟩ : ByteArray)), .p .nilS, .p .nilS]))]⟩ ∧ spec_l01Reader_date.j1 q_ v1 v6 v8 v9 v10 = some r) ?_ (fun hj1 => ?_)
  ·skip
   rintro _ ⟨v8, v9, v10, q_, hqj1, rfl, h⟩
   cases q_ with
   | zero => exact absurd h (by simp [spec_l01Reader_date.j1])
   | succ kj1 =>
   rw [spec_l01Reader_date.j1] at h
   revert h
   refine go 1 ?_
   refine grs ?_
   refine gr_run ?_
   refine bind_e (fun v11 e11 => gr_call [(1000, (0, 1000, 0))] (spec_l01Reader_digits.con e11) ?_)
   clear e11
   refine gr_run ?_
   refine gr_done ?_
   refine bif_e (fun c1 => ?_) (fun c1 => ?_)
   ·refine go 5 ?_
    refine grs ?_
    refine gr_run ?_
    refine bind_e (fun v13 e13 => gr_call [(1000, (0, 1000, 0))] (spec_l01Reader_fail.con e13) ?_)
    clear e13
    refine gr_run ?_
    refine gr_done ?_
    refine ret_e (fun hr_ => ?_)
    subst hr_
    exact ret_ Tryz.func73 [(1000, (0, 1000, 0))]
   ·refine bif_e (fun c2 => ?_) (fun c2 => ?_)
    ·refine go 5 ?_
     refine grs ?_
     refine gr_run ?_
     refine bind_e (fun v14 e14 => gr_call [(1000, (0, 1000, 0))] (spec_l01Reader_fail.con e14) ?_)
     clear e14
     refine gr_run ?_
     refine gr_done ?_
     refine ret_e (fun hr_ => ?_)
     subst hr_
     exact ret_ Tryz.func73 [(1000, (0, 1000, 0))]
    ·refine bif_e (fun c3 => ?_) (fun c3 => ?_)
     ·refine go 5 ?_
      refine grs ?_
      refine gr_run ?_
      refine bind_e (fun v15 e15 => gr_call [(1000, (0, 1000, 0))] (spec_l01Reader_fail.con e15) ?_)
      clear e15
      refine gr_run ?_
      refine gr_done ?_
      refine ret_e (fun hr_ => ?_)
      subst hr_
      exact ret_ Tryz.func73 [(1000, (0, 1000, 0))]
     ·refine bif_e (fun c4 => ?_) (fun c4 => ?_)
      ·refine go 5 ?_
       refine grs ?_
       refine gr_run ?_
       refine bind_e (fun v16 e16 => gr_call [(1000, (0, 1000, 0))] (spec_l01Reader_fail.con e16) ?_)
       clear e16
       refine gr_run ?_
       refine gr_done ?_
       refine ret_e (fun hr_ => ?_)
       subst hr_
       exact ret_ Tryz.func73 [(1000, (0, 1000, 0))]
      ·refine bif_e (fun c5 => ?_) (fun c5 => ?_)
       ·refine go 5 ?_
        refine grs ?_
        refine gr_run ?_
        refine bind_e (fun v17 e17 => gr_call [(1000, (0, 1000, 0))] (spec_l01Reader_fail.con e17) ?_)
        clear e17
        refine gr_run ?_
        refine gr_done ?_
        refine ret_e (fun hr_ => ?_)
        subst hr_
        exact ret_ Tryz.func73 [(1000, (0, 1000, 0))]
       ·refine go 2 ?_
        refine grs ?_
        refine gr_run ?_
        refine bind_e (fun v12 e12 => gr_call [] (spec_l01Month.con e12) ?_)
        clear e12
        refine gr_run ?_
        refine gr_done ?_
        refine bif_e (fun c6 => ?_) (fun c6 => ?_)
        ·refine go 2 ?_
         refine grs ?_
         refine gr_run ?_
         refine bind_e (fun v18 e18 => gr_call [(1000, (0, 1000, 0))] (spec_l01Reader_fail.con e18) ?_)
         clear e18
         refine gr_run ?_
         refine gr_done ?_
         refine ret_e (fun hr_ => ?_)
         subst hr_
         exact ret_ Tryz.func73 [(1000, (0, 1000, 0))]
        ·refine go 3 ?_
         refine grs ?_
         refine gr_run ?_
         refine bind_e (fun v19 e19 => gr_call [] (spec_l01Days.con e19) ?_)
         clear e19
         refine gr_run ?_
         refine gr_done ?_
         refine go 4 ?_
         refine fun h => good_loop (fun n st => n ≤ kj1 ∧ ∃ (v20 : _) (v21 : _), st = ⟨[(2, .ptr 2 1 0), (3, .p (.int .i64 v1.1)), (4, .p (.int .i64 v6.1)), (6, .p (.int .i64 v20)), (7, .p (.int .i64 v21))], [(1000, (0, .cells [.p (.str v11.2.f0), .p (.int .i64 v11.2.f1), .p (.bool false)])), (2, (1, .cells [.p (.int .i64 0), .p (.int .i64 0), .p (.int .i64 0), .p (.str (⟨#[]⟩ : ByteArray)), .p .nilS, .p .nilS]))]⟩ ∧ spec_l01Reader_date.l0 n v1 v6 v20 v21 v11 = some r) kj1 ⟨_, ⟨Nat.le_refl _, _, _, rfl, h⟩, frle_, memle_⟩ ?_
         clear c1 c2 c3 c4 c5 c6
         clear h
         rintro n _ ⟨hkl0, v20, v21, rfl, h⟩ hl0
         cases n with
         | zero => exact absurd h (by simp [spec_l01Reader_date.l0])
         | succ kl0 =>
         rw [spec_l01Reader_date.l0] at h
         revert h
         refine bif_e (fun c7 => ?_) (fun c7 => ?_)
         ·refine go 7 ?_
          refine grs ?_
          refine gr_run ?_
          refine bind_e (fun v22 e22 => gr_call [] (spec_l01Month.con e22) ?_)
          clear e22
          refine gr_run ?_
          refine gr_done ?_
          refine go 2 ?_
          exact fun h => good_again hl0 (by omega) ⟨_, ⟨by omega, _, _, rfl, h⟩, frle_, memle_⟩
         ·refine go 7 ?_
          refine ret_e (fun hr_ => ?_)
          subst hr_
          exact ret_ Tryz.func73 [(1000, (0, 1000, 0))]
  ·refine bif_e (fun c8 => ?_) (fun c8 => ?_)
   ·refine go 1 ?_
    exact fun h => good_jump hj1 ⟨_, ⟨_, _, _, _, by omega, rfl, h⟩, frle_, memle_⟩
   ·refine grs ?_
    refine gr_run ?_
    refine bind_e (fun v7 e7 => gr_call [(1000, (0, 1000, 0))] (spec_l01Reader_takes.con e7) ?_)
    clear e7
    refine gr_run ?_
    refine gr_done ?_
    exact fun h => good_jump hj1 ⟨_, ⟨_, _, _, _, by omega, rfl, h⟩, frle_, memle_⟩
 ·refine bif_e (fun c9 => ?_) (fun c9 => ?_)
  ·refine go 1 ?_
   exact fun h => good_jump hj0 ⟨_, ⟨_, _, _, _, by omega, rfl, h⟩, frle_, memle_⟩
  ·refine grs ?_
   refine gr_run ?_
   refine bind_e (fun v2 e2 => gr_call [(1000, (0, 1000, 0))] (spec_l01Reader_takes.con e2) ?_)
   clear e2
   refine gr_run ?_
   refine gr_done ?_
   exact fun h => good_jump hj0 ⟨_, ⟨_, _, _, _, by omega, rfl, h⟩, frle_, memle_⟩
def spec_l01Dec.f : Nat → Int → Option (ByteArray)
 | 0, _ => none
 | k + 1, v0 => (bif decide (v0 < 0) then (bif decide ((-10) < v0) then ((spec_l01Dec.f k (IntKind.i64.wrap (0 - v0))).bind fun v1 => ((cat (⟨#[45]⟩ : ByteArray) v1).bind fun v2 => (some v2))) else ((quo .i64 v0 10).bind fun v3 => ((spec_l01Dec.f k v3).bind fun v4 => ((rem v0 10).bind fun v5 => ((cat v4 (bstr ([(IntKind.u8.wrap (IntKind.i64.wrap (48 - v5)))] : List Int))).bind fun v6 => (some v6)))))) else (bif decide (v0 < 10) then (some (bstr ([(IntKind.u8.wrap (IntKind.i64.wrap (48 + v0)))] : List Int))) else ((quo .i64 v0 10).bind fun v7 => ((spec_l01Dec.f k v7).bind fun v8 => ((rem v0 10).bind fun v9 => ((cat v8 (bstr ([(IntKind.u8.wrap (IntKind.i64.wrap (48 + v9)))] : List Int))).bind fun v10 => (some v10)))))))
def spec_l01Dec.C (K : Kn) (k : Nat) : Prop := ∀ (v0 : Int) (r : ByteArray), spec_l01Dec.f k v0 = some r → Con K Tryz.prog 93 [.p (.int .i64 v0)] [] (.p (.str r)) []
set_option maxRecDepth 100000 in
set_option maxHeartbeats 4000000 in
theorem spec_l01Dec.con1 {K : Kn} [KOk K] (k : Nat) (spec_l01Dec_ih : ∀ m, m < k → spec_l01Dec.C K m) : spec_l01Dec.C K k := by
 intro v0 r h
 cases k with
 | zero => exact absurd h (by simp [spec_l01Dec.f])
 | succ k =>
 rw [spec_l01Dec.f] at h
 refine con_intro 38 [] Tryz.func93 (by kernel_rfl) rfl rfl (by kernel_rfl) fun ι0 w0 hk0 => ?_
 revert h
 refine bif_e (fun c1 => ?_) (fun c1 => ?_)
 ·refine bif_e (fun c2 => ?_) (fun c2 => ?_)
  ·refine go 11 ?_
   refine grs ?_
   refine gr_run ?_
   refine bind_e (fun v1 e1 => gr_call [] (spec_l01Dec_ih _ (by omega) _ _ e1) ?_)
   clear e1
   refine bind_e (fun v2 e2 => ?_)
   refine gr_run ?_
   refine gr_done ?_
   refine ret_e (fun hr_ => ?_)
   subst hr_
   exact ret_ Tryz.func93 []
  ·refine bind_e (fun v3 e3 => ?_)
   refine go 12 ?_
   refine grs ?_
   refine gr_run ?_
   refine bind_e (fun v4 e4 => gr_call [] (spec_l01Dec_ih _ (by omega) _ _ e4) ?_)
   clear e4
   refine bind_e (fun v5 e5 => ?_)
   refine bind_e (fun v6 e6 => ?_)
   refine gr_run ?_
   refine gr_done ?_
   refine ret_e (fun hr_ => ?_)
   subst hr_
   exact ret_ Tryz.func93 []
 ·refine bif_e (fun c3 => ?_) (fun c3 => ?_)
  ·refine go 13 ?_
   refine ret_e (fun hr_ => ?_)
   subst hr_
   exact ret_ Tryz.func93 []
  ·refine bind_e (fun v7 e7 => ?_)
   refine go 13 ?_
   refine grs ?_
   refine gr_run ?_
   refine bind_e (fun v8 e8 => gr_call [] (spec_l01Dec_ih _ (by omega) _ _ e8) ?_)
   clear e8
   refine bind_e (fun v9 e9 => ?_)
   refine bind_e (fun v10 e10 => ?_)
   refine gr_run ?_
   refine gr_done ?_
   refine ret_e (fun hr_ => ?_)
   subst hr_
   exact ret_ Tryz.func93 []
theorem spec_l01Dec.all {K : Kn} [KOk K] (k : Nat) : spec_l01Dec.C K k := by
 induction k using Nat.strongRecOn with
 | _ k ih => exact spec_l01Dec.con1 k ih
theorem spec_l01Dec.con {K : Kn} [KOk K] {k : Nat} {v0 : Int} {r : ByteArray} (h : spec_l01Dec.f k v0 = some r) : Con K Tryz.prog 93 [.p (.int .i64 v0)] [] (.p (.str r)) [] := (spec_l01Dec.all k) _ r h
mutual
def spec_l01Reader_number.j4 : Nat → S111 → Int → Int → Option (Int × S111)
 | 0, _, _, _ => none
 | k + 1, v0, v9, v4 => (bif (v0.f1 == v4) then (some (v9, (⟨v0.f0, v4, true⟩ : S111))) else (bif decide (20 < (IntKind.i64.wrap (v4 - v0.f1))) then (some (v9, (⟨v0.f0, v4, true⟩ : S111))) else ((spec_l01Dec.f k v9).bind fun v10 => ((sub v0.f0 v0.f1 v4).bind fun v11 => (bif decide (v10 = v11) then (some (v9, (⟨v0.f0, v4, v0.f2⟩ : S111))) else (some (v9, (⟨v0.f0, v4, true⟩ : S111))))))))
def spec_l01Reader_number.j3 : Nat → S111 → Int → Int → Option (Int × S111)
 | 0, _, _, _ => none
 | k + 1, v0, v3, v4 => (spec_l01Reader_number.j4 k v0 v3 v4)
def spec_l01Reader_number.j2 : Nat → S111 → Int → Int → Option (Int × S111)
 | 0, _, _, _ => none
 | k + 1, v0, v3, v4 => (bif decide (v0.f1 < v4) then ((bix v0.f0 v0.f1).bind fun v8 => (bif (v8 == 45) then (spec_l01Reader_number.j4 k v0 (IntKind.i64.wrap (0 - v3)) v4) else (spec_l01Reader_number.j3 k v0 v3 v4))) else (spec_l01Reader_number.j3 k v0 v3 v4))
def spec_l01Reader_number.l0 : Nat → S111 → Int → Int → Option (Int × S111)
 | 0, _, _, _ => none
 | k + 1, v0, v3, v4 => (bif decide (v4 < (v0.f0.size : Int)) then ((bix v0.f0 v4).bind fun v5 => ((spec_l01Digit.f k v5).bind fun v6 => (bif v6 then (spec_l01Reader_number.l0 k v0 (IntKind.i64.wrap ((IntKind.i64.wrap (v3 * 10)) + (IntKind.i64.wrap (IntKind.u8.wrap (v5 - 48))))) (IntKind.i64.wrap (v4 + 1))) else (spec_l01Reader_number.j2 k v0 v3 v4)))) else (spec_l01Reader_number.j2 k v0 v3 v4))
def spec_l01Reader_number.j1 : Nat → S111 → Int → Option (Int × S111)
 | 0, _, _ => none
 | k + 1, v0, v2 => (spec_l01Reader_number.l0 k v0 0 v2)
def spec_l01Reader_number.j0 : Nat → S111 → Option (Int × S111)
 | 0, _ => none
 | k + 1, v0 => (spec_l01Reader_number.j1 k v0 v0.f1)
def spec_l01Reader_number.f : Nat → S111 → Option (Int × S111)
 | 0, _ => none
 | k + 1, v0 => (bif decide (v0.f1 < (v0.f0.size : Int)) then ((bix v0.f0 v0.f1).bind fun v1 => (bif (v1 == 45) then (spec_l01Reader_number.j1 k v0 (IntKind.i64.wrap (v0.f1 + 1))) else (spec_l01Reader_number.j0 k v0))) else (spec_l01Reader_number.j0 k v0))
end
set_option maxRecDepth 100000 in
set_option maxHeartbeats 4000000 in
theorem spec_l01Reader_number.con {K : Kn} [KOk K] {k : Nat} {v0 : S111} {r : Int × S111} (h : spec_l01Reader_number.f k v0 = some r) : Con K Tryz.prog 74 [.ptr 1000 0 0] [(1000, (0, .cells [.p (.str v0.f0), .p (.int .i64 v0.f1), .p (.bool v0.f2)]))] (.p (.int .i64 r.1)) [(1000, (0, .cells [.p (.str r.2.f0), .p (.int .i64 r.2.f1), .p (.bool r.2.f2)]))] := by
 cases k with
 | zero => exact absurd h (by simp [spec_l01Reader_number.f])
 | succ k =>
 rw [spec_l01Reader_number.f] at h
 refine con_intro 134 [] Tryz.func74 (by kernel_rfl) rfl rfl (by kernel_rfl) fun ι0 w0 hk0 => ?_
 revert h
 refine go 5 ?_
 refine good_cut (fun st => ∃ (v2 : _) (q_ : Nat), q_ ≤ k ∧ st = ⟨[(0, .ptr 1000 0 0), (3, .p (.int .i64 v0.f1))], [(1000, (0, .cells [.p (.str v0.f0), .p (.int .i64 v2), .p (.bool v0.f2)]))]⟩ ∧ spec_l01Reader_number.j1 q_ v0 v2 = some r) ?_ (fun hj1 => ?_)
 ·skip
  rintro _ ⟨v2, q_, hqj1, rfl, h⟩
  cases q_ with
  | zero => exact absurd h (by simp [spec_l01Reader_number.j1])
  | succ kj1 =>
  rw [spec_l01Reader_number.j1] at h
  revert h
  refine go 4 ?_
  refine fun h => good_loop (fun n st => n ≤ kj1 ∧ ∃ (v3 : _) (v4 : _), st = ⟨[(0, .ptr 1000 0 0), (3, .p (.int .i64 v0.f1)), (4, .p (.int .i64 v3))], [(1000, (0, .cells [.p (.str v0.f0), .p (.int .i64 v4), .p (.bool v0.f2)]))]⟩ ∧ spec_l01Reader_number.l0 n v0 v3 v4 = some r) kj1 ⟨_, ⟨Nat.le_refl _, _, _, rfl, h⟩, frle_, memle_⟩ ?_
  clear h
  rintro n _ ⟨hkl0, v3, v4, rfl, h⟩ hl0
  cases n with
  | zero => exact absurd h (by simp [spec_l01Reader_number.l0])
  | succ kl0 =>
  rw [spec_l01Reader_number.l0] at h
  revert h
  refine go 2 ?_
  refine good_cut_f (fun st => ∃ (q_ : Nat), q_ ≤ kl0 ∧ st = ⟨[(0, .ptr 1000 0 0), (3, .p (.int .i64 v0.f1)), (4, .p (.int .i64 v3))], [(1000, (0, .cells [.p (.str v0.f0), .p (.int .i64 v4), .p (.bool v0.f2)]))]⟩ ∧ spec_l01Reader_number.j2 q_ v0 v3 v4 = some r) ?_ (fun hj2 => ?_)
  ·skip
   rintro _ ⟨q_, hqj2, rfl, h⟩
   cases q_ with
   | zero => exact absurd h (by simp [spec_l01Reader_number.j2])
   | succ kj2 =>
   rw [spec_l01Reader_number.j2] at h
   revert h
   refine go 2 ?_
   refine good_cut (fun st => ∃ (v9 : _) (q_ : Nat), q_ ≤ kj2 ∧ st = ⟨[(0, .ptr 1000 0 0), (3, .p (.int .i64 v0.f1)), (4, .p (.int .i64 v9))], [(1000, (0, .cells [.p (.str v0.f0), .p (.int .i64 v4), .p (.bool v0.f2)]))]⟩ ∧ spec_l01Reader_number.j4 q_ v0 v9 v4 = some r) ?_ (fun hj4 => ?_)
   ·skip
    rintro _ ⟨v9, q_, hqj4, rfl, h⟩
    cases q_ with
    | zero => exact absurd h (by simp [spec_l01Reader_number.j4])
    | succ kj4 =>
    rw [spec_l01Reader_number.j4] at h
    revert h
    refine bif_e (fun c1 => ?_) (fun c1 => ?_)
    ·refine go 2 ?_
     refine grs ?_
     refine gr_run ?_
     refine gr_done ?_
     refine go 4 ?_
     refine ret_e (fun hr_ => ?_)
     subst hr_
     exact ret_ Tryz.func74 [(1000, (0, 1000, 0))]
    ·refine bif_e (fun c2 => ?_) (fun c2 => ?_)
     ·refine go 2 ?_
      refine grs ?_
      refine gr_run ?_
      refine gr_done ?_
      refine go 4 ?_
      refine ret_e (fun hr_ => ?_)
      subst hr_
      exact ret_ Tryz.func74 [(1000, (0, 1000, 0))]
     ·refine go 2 ?_
      refine grs ?_
      refine gr_run ?_
      refine bind_e (fun v10 e10 => gr_call [] (spec_l01Dec.con e10) ?_)
      clear e10
      refine bind_e (fun v11 e11 => ?_)
      refine gr_run ?_
      refine gr_done ?_
      refine bif_e (fun c3 => ?_) (fun c3 => ?_)
      ·refine go 4 ?_
       refine ret_e (fun hr_ => ?_)
       subst hr_
       exact ret_ Tryz.func74 [(1000, (0, 1000, 0))]
      ·refine go 4 ?_
       refine ret_e (fun hr_ => ?_)
       subst hr_
       exact ret_ Tryz.func74 [(1000, (0, 1000, 0))]
   ·refine go 1 ?_
    refine good_cut_f (fun st => ∃ (q_ : Nat), q_ ≤ kj2 ∧ st = ⟨[(0, .ptr 1000 0 0), (3, .p (.int .i64 v0.f1)), (4, .p (.int .i64 v3))], [(1000, (0, .cells [.p (.str v0.f0), .p (.int .i64 v4), .p (.bool v0.f2)]))]⟩ ∧ spec_l01Reader_number.j3 q_ v0 v3 v4 = some r) ?_ (fun hj3 => ?_)
    ·skip
     rintro _ ⟨q_, hqj3, rfl, h⟩
     cases q_ with
     | zero => exact absurd h (by simp [spec_l01Reader_number.j3])
     | succ kj3 =>
     rw [spec_l01Reader_number.j3] at h
     revert h
     refine go 1 ?_
     exact fun h => good_jump hj4 ⟨_, ⟨_, _, by omega, rfl, h⟩, frle_, memle_⟩
    ·refine bif_e (fun c4 => ?_) (fun c4 => ?_)
     ·refine bind_e (fun v8 e8 => ?_)
      refine bif_e (fun c5 => ?_) (fun c5 => ?_)
      ·refine go 3 ?_
       exact fun h => good_jump hj4 ⟨_, ⟨_, _, by omega, rfl, h⟩, frle_, memle_⟩
      ·refine go 2 ?_
       exact fun h => good_jump hj3 ⟨_, ⟨_, by omega, rfl, h⟩, frle_, memle_⟩
     ·refine go 2 ?_
      exact fun h => good_jump hj3 ⟨_, ⟨_, by omega, rfl, h⟩, frle_, memle_⟩
  ·refine bif_e (fun c6 => ?_) (fun c6 => ?_)
   ·refine bind_e (fun v5 e5 => ?_)
    refine grs ?_
    refine gr_run ?_
    refine bind_e (fun v6 e6 => gr_call [] (spec_l01Digit.con e6) ?_)
    clear e6
    refine gr_run ?_
    refine gr_done ?_
    refine bif_e (fun c7 => ?_) (fun c7 => ?_)
    ·refine go 4 ?_
     refine grs ?_
     refine gr_run ?_
     refine gr_done ?_
     refine go 2 ?_
     exact fun h => good_again hl0 (by omega) ⟨_, ⟨by omega, _, _, rfl, h⟩, frle_, memle_⟩
    ·refine go 1 ?_
     exact fun h => good_jump hj2 ⟨_, ⟨_, by omega, rfl, h⟩, frle_, memle_⟩
   ·refine grs ?_
    refine gr_run ?_
    refine gr_done ?_
    refine go 1 ?_
    exact fun h => good_jump hj2 ⟨_, ⟨_, by omega, rfl, h⟩, frle_, memle_⟩
 ·refine go 1 ?_
  refine good_cut_f (fun st => ∃ (q_ : Nat), q_ ≤ k ∧ st = ⟨[(0, .ptr 1000 0 0), (3, .p (.int .i64 v0.f1))], [(1000, (0, .cells [.p (.str v0.f0), .p (.int .i64 v0.f1), .p (.bool v0.f2)]))]⟩ ∧ spec_l01Reader_number.j0 q_ v0 = some r) ?_ (fun hj0 => ?_)
  ·skip
   rintro _ ⟨q_, hqj0, rfl, h⟩
   cases q_ with
   | zero => exact absurd h (by simp [spec_l01Reader_number.j0])
   | succ kj0 =>
   rw [spec_l01Reader_number.j0] at h
   revert h
   refine go 1 ?_
   exact fun h => good_jump hj1 ⟨_, ⟨_, _, by omega, rfl, h⟩, frle_, memle_⟩
  ·refine bif_e (fun c8 => ?_) (fun c8 => ?_)
   ·refine bind_e (fun v1 e1 => ?_)
    refine grs ?_
    refine gr_run ?_
    refine gr_done ?_
    refine bif_e (fun c9 => ?_) (fun c9 => ?_)
    ·refine go 2 ?_
     exact fun h => good_jump hj1 ⟨_, ⟨_, _, by omega, rfl, h⟩, frle_, memle_⟩
    ·refine go 1 ?_
     exact fun h => good_jump hj0 ⟨_, ⟨_, by omega, rfl, h⟩, frle_, memle_⟩
   ·refine grs ?_
    refine gr_run ?_
    refine gr_done ?_
    refine go 1 ?_
    exact fun h => good_jump hj0 ⟨_, ⟨_, by omega, rfl, h⟩, frle_, memle_⟩
end Go.Ab
