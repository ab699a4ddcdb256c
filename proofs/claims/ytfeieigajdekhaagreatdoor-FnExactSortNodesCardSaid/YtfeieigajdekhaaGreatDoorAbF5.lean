/- What the functions compute, and their contracts, part 5. No condition beyond KOk. -/
import Derived.Test.YtfeieigajdekhaaGreatDoorAbX
namespace Go.Ab
open Go.Proofs
set_option linter.unusedVariables false
set_option linter.unusedSimpArgs false
def impl_idOk.f (k : Nat) (v0 : Int) : Option (Bool) := (bif decide (1 ≤ v0) then (some (decide (v0 ≤ 1000000000000))) else (some false))
set_option maxRecDepth 100000 in
set_option maxHeartbeats 4000000 in
theorem impl_idOk.con {K : Kn} [KOk K] {k : Nat} {v0 : Int} {r : Bool} (h : impl_idOk.f k v0 = some r) : Con K Tryz.prog 48 [.p (.int .i64 v0)] [] (.p (.bool r)) [] := by
 rw [impl_idOk.f] at h
 refine con_intro 9 [] Tryz.func48 (by kernel_rfl) rfl rfl (by kernel_rfl) fun ι0 w0 hk0 => ?_
 revert h
 refine bif_e (fun c1 => ?_) (fun c1 => ?_)
 ·refine go 4 ?_
  refine ret_e (fun hr_ => ?_)
  subst hr_
  exact ret_ Tryz.func48 []
 ·refine go 4 ?_
  refine ret_e (fun hr_ => ?_)
  subst hr_
  exact ret_ Tryz.func48 []
def impl_isLetter.f (k : Nat) (v0 : Int) : Option (Bool) := (bif decide (97 ≤ v0) then (bif decide (v0 ≤ 122) then (some true) else (bif decide (65 ≤ v0) then (some (decide (v0 ≤ 90))) else (some false))) else (bif decide (65 ≤ v0) then (some (decide (v0 ≤ 90))) else (some false)))
set_option maxRecDepth 100000 in
set_option maxHeartbeats 4000000 in
theorem impl_isLetter.con {K : Kn} [KOk K] {k : Nat} {v0 : Int} {r : Bool} (h : impl_isLetter.f k v0 = some r) : Con K Tryz.prog 61 [.p (.int .u8 v0)] [] (.p (.bool r)) [] := by
 rw [impl_isLetter.f] at h
 refine con_intro 17 [] Tryz.func61 (by kernel_rfl) rfl rfl (by kernel_rfl) fun ι0 w0 hk0 => ?_
 revert h
 refine bif_e (fun c1 => ?_) (fun c1 => ?_)
 ·refine bif_e (fun c2 => ?_) (fun c2 => ?_)
  ·refine go 4 ?_
   refine ret_e (fun hr_ => ?_)
   subst hr_
   exact ret_ Tryz.func61 []
  ·refine bif_e (fun c3 => ?_) (fun c3 => ?_)
   ·refine go 4 ?_
    refine ret_e (fun hr_ => ?_)
    subst hr_
    exact ret_ Tryz.func61 []
   ·refine go 4 ?_
    refine ret_e (fun hr_ => ?_)
    subst hr_
    exact ret_ Tryz.func61 []
 ·refine bif_e (fun c4 => ?_) (fun c4 => ?_)
  ·refine go 4 ?_
   refine ret_e (fun hr_ => ?_)
   subst hr_
   exact ret_ Tryz.func61 []
  ·refine go 4 ?_
   refine ret_e (fun hr_ => ?_)
   subst hr_
   exact ret_ Tryz.func61 []
def impl_isDigit.f (k : Nat) (v0 : Int) : Option (Bool) := (bif decide (48 ≤ v0) then (some (decide (v0 ≤ 57))) else (some false))
set_option maxRecDepth 100000 in
set_option maxHeartbeats 4000000 in
theorem impl_isDigit.con {K : Kn} [KOk K] {k : Nat} {v0 : Int} {r : Bool} (h : impl_isDigit.f k v0 = some r) : Con K Tryz.prog 62 [.p (.int .u8 v0)] [] (.p (.bool r)) [] := by
 rw [impl_isDigit.f] at h
 refine con_intro 9 [] Tryz.func62 (by kernel_rfl) rfl rfl (by kernel_rfl) fun ι0 w0 hk0 => ?_
 revert h
 refine bif_e (fun c1 => ?_) (fun c1 => ?_)
 ·refine go 4 ?_
  refine ret_e (fun hr_ => ?_)
  subst hr_
  exact ret_ Tryz.func62 []
 ·refine go 4 ?_
  refine ret_e (fun hr_ => ?_)
  subst hr_
  exact ret_ Tryz.func62 []
mutual
def impl_isName.l0 : Nat → ByteArray → Int → Option (Bool)
 | 0, _, _ => none
 | k + 1, v0, v3 => (bif decide (v3 < (v0.size : Int)) then ((bix v0 v3).bind fun v4 => ((impl_isLetter.f k v4).bind fun v5 => (bif v5 then (impl_isName.l0 k v0 (IntKind.i64.wrap (v3 + 1))) else ((impl_isDigit.f k v4).bind fun v7 => (bif v7 then (impl_isName.l0 k v0 (IntKind.i64.wrap (v3 + 1))) else (bif (v4 == 95) then (impl_isName.l0 k v0 (IntKind.i64.wrap (v3 + 1))) else (some false))))))) else (some true))
def impl_isName.f : Nat → ByteArray → Option (Bool)
 | 0, _ => none
 | k + 1, v0 => (bif decide ((v0.size : Int) < 1) then (some false) else (bif decide (20 < (v0.size : Int)) then (some false) else ((bix v0 0).bind fun v1 => ((impl_isLetter.f k v1).bind fun v2 => (bif v2 then (impl_isName.l0 k v0 0) else (some false))))))
end
set_option maxRecDepth 100000 in
set_option maxHeartbeats 4000000 in
theorem impl_isName.con {K : Kn} [KOk K] {k : Nat} {v0 : ByteArray} {r : Bool} (h : impl_isName.f k v0 = some r) : Con K Tryz.prog 51 [.p (.str v0)] [] (.p (.bool r)) [] := by
 cases k with
 | zero => exact absurd h (by simp [impl_isName.f])
 | succ k =>
 rw [impl_isName.f] at h
 refine con_intro 42 [] Tryz.func51 (by kernel_rfl) rfl rfl (by kernel_rfl) fun ι0 w0 hk0 => ?_
 revert h
 refine bif_e (fun c1 => ?_) (fun c1 => ?_)
 ·refine go 8 ?_
  refine ret_e (fun hr_ => ?_)
  subst hr_
  exact ret_ Tryz.func51 []
 ·refine bif_e (fun c2 => ?_) (fun c2 => ?_)
  ·refine go 8 ?_
   refine ret_e (fun hr_ => ?_)
   subst hr_
   exact ret_ Tryz.func51 []
  ·refine bind_e (fun v1 e1 => ?_)
   refine go 4 ?_
   refine grs ?_
   refine gr_run ?_
   refine bind_e (fun v2 e2 => gr_call [] (impl_isLetter.con e2) ?_)
   clear e2
   refine gr_run ?_
   refine gr_done ?_
   refine bif_e (fun c3 => ?_) (fun c3 => ?_)
   ·refine go 6 ?_
    refine fun h => good_loop (fun n st => n ≤ k ∧ ∃ (v3 : _), st = ⟨[(0, .p (.str v0)), (19, .p (.int .i64 (v0.size : Int))), (20, .p (.int .i64 v3))], []⟩ ∧ impl_isName.l0 n v0 v3 = some r) k ⟨_, ⟨Nat.le_refl _, _, rfl, h⟩, frle_, memle_⟩ ?_
    clear c1 c2 e1 c3
    clear h
    rintro n _ ⟨hkl0, v3, rfl, h⟩ hl0
    cases n with
    | zero => exact absurd h (by simp [impl_isName.l0])
    | succ kl0 =>
    rw [impl_isName.l0] at h
    revert h
    refine bif_e (fun c4 => ?_) (fun c4 => ?_)
    ·refine bind_e (fun v4 e4 => ?_)
     refine go 10 ?_
     refine grs ?_
     refine gr_run ?_
     refine bind_e (fun v5 e5 => gr_call [] (impl_isLetter.con e5) ?_)
     clear e5
     refine bif_e (fun c5 => ?_) (fun c5 => ?_)
     ·refine gr_run ?_
      refine gr_done ?_
      refine go 4 ?_
      exact fun h => good_again hl0 (by omega) ⟨_, ⟨by omega, _, rfl, h⟩, frle_, memle_⟩
     ·refine gr_run ?_
      refine bind_e (fun v7 e7 => gr_call [] (impl_isDigit.con e7) ?_)
      clear e7
      refine bif_e (fun c6 => ?_) (fun c6 => ?_)
      ·refine gr_run ?_
       refine gr_done ?_
       refine go 4 ?_
       exact fun h => good_again hl0 (by omega) ⟨_, ⟨by omega, _, rfl, h⟩, frle_, memle_⟩
      ·refine gr_run ?_
       refine gr_done ?_
       refine bif_e (fun c7 => ?_) (fun c7 => ?_)
       ·refine go 4 ?_
        exact fun h => good_again hl0 (by omega) ⟨_, ⟨by omega, _, rfl, h⟩, frle_, memle_⟩
       ·refine go 3 ?_
        refine ret_e (fun hr_ => ?_)
        subst hr_
        exact ret_ Tryz.func51 []
    ·refine go 7 ?_
     refine ret_e (fun hr_ => ?_)
     subst hr_
     exact ret_ Tryz.func51 []
   ·refine go 3 ?_
    refine ret_e (fun hr_ => ?_)
    subst hr_
    exact ret_ Tryz.func51 []
mutual
def impl_risingNames.l0 : Nat → (List ByteArray) → Int → Option (Bool)
 | 0, _, _ => none
 | k + 1, v0, v2 => (bif decide (v2 < (v0.length : Int)) then ((ix v0 v2).bind fun v3 => ((impl_isName.f k v3).bind fun v4 => (bif v4 then (bif decide (0 < v2) then ((ix v0 (IntKind.i64.wrap (v2 - 1))).bind fun v5 => (bif slt v5 v3 then (impl_risingNames.l0 k v0 (IntKind.i64.wrap (v2 + 1))) else (some false))) else (impl_risingNames.l0 k v0 (IntKind.i64.wrap (v2 + 1)))) else (some false)))) else (some true))
def impl_risingNames.f : Nat → (List ByteArray) → Int → Option (Bool)
 | 0, _, _ => none
 | k + 1, v0, v1 => (bif decide (v1 < (v0.length : Int)) then (some false) else (impl_risingNames.l0 k v0 0))
end
set_option maxRecDepth 100000 in
set_option maxHeartbeats 4000000 in
theorem impl_risingNames.con {K : Kn} [KOk K] {k : Nat} {v0 : (List ByteArray)} {v1 : Int} {r : Bool} (h : impl_risingNames.f k v0 v1 = some r) : Con K Tryz.prog 49 [.p (.lst false (List.map srw v0)), .p (.int .i64 v1)] [] (.p (.bool r)) [] := by
 cases k with
 | zero => exact absurd h (by simp [impl_risingNames.f])
 | succ k =>
 rw [impl_risingNames.f] at h
 refine con_intro 35 [] Tryz.func49 (by kernel_rfl) rfl rfl (by kernel_rfl) fun ι0 w0 hk0 => ?_
 revert h
 refine bif_e (fun c1 => ?_) (fun c1 => ?_)
 ·refine go 8 ?_
  refine ret_e (fun hr_ => ?_)
  subst hr_
  exact ret_ Tryz.func49 []
 ·refine go 11 ?_
  refine fun h => good_loop (fun n st => n ≤ k ∧ ∃ (v2 : _), st = ⟨[(0, .p (.lst false (List.map srw v0))), (11, .p (.lst false (List.map srw v0))), (12, .p (.int .i64 (v0.length : Int))), (13, .p (.int .i64 v2))], []⟩ ∧ impl_risingNames.l0 n v0 v2 = some r) k ⟨_, ⟨Nat.le_refl _, _, rfl, h⟩, frle_, memle_⟩ ?_
  clear c1
  clear h
  rintro n _ ⟨hkl0, v2, rfl, h⟩ hl0
  cases n with
  | zero => exact absurd h (by simp [impl_risingNames.l0])
  | succ kl0 =>
  rw [impl_risingNames.l0] at h
  revert h
  refine bif_e (fun c2 => ?_) (fun c2 => ?_)
  ·refine bind_e (fun v3 e3 => ?_)
   replace e3 := nf_ (ix_en srw e3)
   refine go 10 ?_
   refine grs ?_
   refine gr_run ?_
   refine bind_e (fun v4 e4 => gr_call [] (impl_isName.con e4) ?_)
   clear e4
   refine bif_e (fun c3 => ?_) (fun c3 => ?_)
   ·refine bif_e (fun c4 => ?_) (fun c4 => ?_)
    ·refine bind_e (fun v5 e5 => ?_)
     replace e5 := nf_ (ix_en srw e5)
     refine gr_run ?_
     refine gr_done ?_
     refine bif_e (fun c5 => ?_) (fun c5 => ?_)
     ·refine go 4 ?_
      exact fun h => good_again hl0 (by omega) ⟨_, ⟨by omega, _, rfl, h⟩, frle_, memle_⟩
     ·refine go 3 ?_
      refine ret_e (fun hr_ => ?_)
      subst hr_
      exact ret_ Tryz.func49 []
    ·refine gr_run ?_
     refine gr_done ?_
     refine go 4 ?_
     exact fun h => good_again hl0 (by omega) ⟨_, ⟨by omega, _, rfl, h⟩, frle_, memle_⟩
   ·refine gr_run ?_
    refine gr_done ?_
    refine go 3 ?_
    refine ret_e (fun hr_ => ?_)
    subst hr_
    exact ret_ Tryz.func49 []
  ·refine go 7 ?_
   refine ret_e (fun hr_ => ?_)
   subst hr_
   exact ret_ Tryz.func49 []
def impl_reader_peek.f (k : Nat) (v0 : S115) : Option (Int × S115) := (bif decide (v0.f1 < (v0.f0.size : Int)) then ((bix v0.f0 v0.f1).bind fun v1 => (some (v1, v0))) else (some (0, v0)))
set_option maxRecDepth 100000 in
set_option maxHeartbeats 4000000 in
theorem impl_reader_peek.con {K : Kn} [KOk K] {k : Nat} {v0 : S115} {r : Int × S115} (h : impl_reader_peek.f k v0 = some r) : Con K Tryz.prog 79 [.ptr 1000 0 0] [(1000, (0, .cells [.p (.str v0.f0), .p (.int .i64 v0.f1)]))] (.p (.int .u8 r.1)) [(1000, (0, .cells [.p (.str r.2.f0), .p (.int .i64 r.2.f1)]))] := by
 rw [impl_reader_peek.f] at h
 refine con_intro 22 [] Tryz.func79 (by kernel_rfl) rfl rfl (by kernel_rfl) fun ι0 w0 hk0 => ?_
 revert h
 refine go 4 ?_
 refine grs ?_
 refine gr_run ?_
 refine gr_done ?_
 refine bif_e (fun c1 => ?_) (fun c1 => ?_)
 ·refine bind_e (fun v1 e1 => ?_)
  refine go 2 ?_
  refine grs ?_
  refine gr_run ?_
  refine gr_done ?_
  refine ret_e (fun hr_ => ?_)
  subst hr_
  exact ret_ Tryz.func79 [(1000, (0, 1000, 0))]
 ·refine go 4 ?_
  refine ret_e (fun hr_ => ?_)
  subst hr_
  exact ret_ Tryz.func79 [(1000, (0, 1000, 0))]
def internal_stringslite_HasPrefix.f (k : Nat) (v0 : ByteArray) (v1 : ByteArray) : Option (Bool) := (bif decide ((v1.size : Int) ≤ (v0.size : Int)) then ((sub v0 0 (v1.size : Int)).bind fun v2 => (some (decide (v2 = v1)))) else (some false))
set_option maxRecDepth 100000 in
set_option maxHeartbeats 4000000 in
theorem internal_stringslite_HasPrefix.con {K : Kn} [KOk K] {k : Nat} {v0 : ByteArray} {v1 : ByteArray} {r : Bool} (h : internal_stringslite_HasPrefix.f k v0 v1 = some r) : Con K Tryz.prog 108 [.p (.str v0), .p (.str v1)] [] (.p (.bool r)) [] := by
 rw [internal_stringslite_HasPrefix.f] at h
 refine con_intro 18 [] Tryz.func108 (by kernel_rfl) rfl rfl (by kernel_rfl) fun ι0 w0 hk0 => ?_
 revert h
 refine bif_e (fun c1 => ?_) (fun c1 => ?_)
 ·refine bind_e (fun v2 e2 => ?_)
  refine go 4 ?_
  refine ret_e (fun hr_ => ?_)
  subst hr_
  exact ret_ Tryz.func108 []
 ·refine go 4 ?_
  refine ret_e (fun hr_ => ?_)
  subst hr_
  exact ret_ Tryz.func108 []
def strings_HasPrefix.f (k : Nat) (v0 : ByteArray) (v1 : ByteArray) : Option (Bool) := ((internal_stringslite_HasPrefix.f k v0 v1).bind fun v2 => (some v2))
set_option maxRecDepth 100000 in
set_option maxHeartbeats 4000000 in
theorem strings_HasPrefix.con {K : Kn} [KOk K] {k : Nat} {v0 : ByteArray} {v1 : ByteArray} {r : Bool} (h : strings_HasPrefix.f k v0 v1 = some r) : Con K Tryz.prog 101 [.p (.str v0), .p (.str v1)] [] (.p (.bool r)) [] := by
 rw [strings_HasPrefix.f] at h
 refine con_intro 8 [] Tryz.func101 (by kernel_rfl) rfl rfl (by kernel_rfl) fun ι0 w0 hk0 => ?_
 revert h
 refine go 3 ?_
 refine grs ?_
 refine gr_run ?_
 refine bind_e (fun v2 e2 => gr_call [] (internal_stringslite_HasPrefix.con e2) ?_)
 clear e2
 refine gr_run ?_
 refine gr_done ?_
 refine ret_e (fun hr_ => ?_)
 subst hr_
 exact ret_ Tryz.func101 []
def impl_reader_eat.f (k : Nat) (v0 : ByteArray) (v1 : S115) : Option (Bool × S115) := ((sub v1.f0 v1.f1 (v1.f0.size : Int)).bind fun v2 => ((strings_HasPrefix.f k v2 v0).bind fun v3 => (bif v3 then (some (true, (⟨v1.f0, (IntKind.i64.wrap (v1.f1 + (v0.size : Int)))⟩ : S115))) else (some (false, v1)))))
set_option maxRecDepth 100000 in
set_option maxHeartbeats 4000000 in
theorem impl_reader_eat.con {K : Kn} [KOk K] {k : Nat} {v0 : ByteArray} {v1 : S115} {r : Bool × S115} (h : impl_reader_eat.f k v0 v1 = some r) : Con K Tryz.prog 87 [.ptr 1000 0 0, .p (.str v0)] [(1000, (0, .cells [.p (.str v1.f0), .p (.int .i64 v1.f1)]))] (.p (.bool r.1)) [(1000, (0, .cells [.p (.str r.2.f0), .p (.int .i64 r.2.f1)]))] := by
 rw [impl_reader_eat.f] at h
 refine con_intro 25 [] Tryz.func87 (by kernel_rfl) rfl rfl (by kernel_rfl) fun ι0 w0 hk0 => ?_
 revert h
 refine bind_e (fun v2 e2 => ?_)
 refine go 4 ?_
 refine grs ?_
 refine gr_run ?_
 refine bind_e (fun v3 e3 => gr_call [] (strings_HasPrefix.con e3) ?_)
 clear e3
 refine gr_done ?_
 refine bif_e (fun c1 => ?_) (fun c1 => ?_)
 ·refine go 5 ?_
  refine ret_e (fun hr_ => ?_)
  subst hr_
  exact ret_ Tryz.func87 [(1000, (0, 1000, 0))]
 ·refine go 4 ?_
  refine ret_e (fun hr_ => ?_)
  subst hr_
  exact ret_ Tryz.func87 [(1000, (0, 1000, 0))]
mutual
def impl_reader_quoted.j0 : Nat → (List Int) → (Int × S115) → Bool → Option (ByteArray × Bool × S115)
 | 0, _, _, _ => none
 | k + 1, v2, v9, v10 => (bif v10 then ((bix v9.2.f0 v9.2.f1).bind fun v11 => ((app v2 ([v11] : List Int)).bind fun v12 => (impl_reader_quoted.l0 k v12 v9.2.f0 (IntKind.i64.wrap (v9.2.f1 + 1))))) else (bif (v9.1 == 110) then ((app v2 ([10] : List Int)).bind fun v13 => (impl_reader_quoted.l0 k v13 v9.2.f0 (IntKind.i64.wrap (v9.2.f1 + 1)))) else (some ((⟨#[]⟩ : ByteArray), false, v9.2))))
def impl_reader_quoted.l0 : Nat → (List Int) → ByteArray → Int → Option (ByteArray × Bool × S115)
 | 0, _, _, _ => none
 | k + 1, v2, v3, v4 => (bif decide (v4 < (v3.size : Int)) then ((bix v3 v4).bind fun v8 => (bif (v8 == 34) then (some ((bstr v2), true, (⟨v3, (IntKind.i64.wrap (v4 + 1))⟩ : S115))) else (bif (v8 == 92) then ((impl_reader_peek.f k (⟨v3, (IntKind.i64.wrap (v4 + 1))⟩ : S115)).bind fun v9 => (bif (v9.1 == 34) then (impl_reader_quoted.j0 k v2 v9 true) else (impl_reader_quoted.j0 k v2 v9 (v9.1 == 92)))) else (bif decide (v8 < 32) then (some ((⟨#[]⟩ : ByteArray), false, (⟨v3, (IntKind.i64.wrap (v4 + 1))⟩ : S115))) else ((app v2 ([v8] : List Int)).bind fun v14 => (impl_reader_quoted.l0 k v14 v3 (IntKind.i64.wrap (v4 + 1)))))))) else (some ((⟨#[]⟩ : ByteArray), false, (⟨v3, v4⟩ : S115))))
def impl_reader_quoted.f : Nat → S115 → Option (ByteArray × Bool × S115)
 | 0, _ => none
 | k + 1, v0 => ((impl_reader_eat.f k (⟨#[34]⟩ : ByteArray) v0).bind fun v1 => (bif v1.1 then (impl_reader_quoted.l0 k [] v1.2.f0 v1.2.f1) else (some ((⟨#[]⟩ : ByteArray), false, v1.2))))
end
set_option maxRecDepth 100000 in
set_option maxHeartbeats 4000000 in
theorem impl_reader_quoted.con {K : Kn} [KOk K] {k : Nat} {v0 : S115} {r : ByteArray × Bool × S115} (h : impl_reader_quoted.f k v0 = some r) : Con K Tryz.prog 80 [.ptr 1000 0 0] [(1000, (0, .cells [.p (.str v0.f0), .p (.int .i64 v0.f1)]))] (.tup [.p (.str r.1), .p (.bool r.2.1)]) [(1000, (0, .cells [.p (.str r.2.2.f0), .p (.int .i64 r.2.2.f1)]))] := by
 cases k with
 | zero => exact absurd h (by simp [impl_reader_quoted.f])
 | succ k =>
 rw [impl_reader_quoted.f] at h
 refine con_intro 79 [] Tryz.func80 (by kernel_rfl) rfl rfl (by kernel_rfl) fun ι0 w0 hk0 => ?_
 revert h
 refine go 4 ?_
 refine grs ?_
 refine gr_run ?_
 refine bind_e (fun v1 e1 => gr_call [(1000, (0, 1000, 0))] (impl_reader_eat.con e1) ?_)
 clear e1
 refine gr_run ?_
 refine gr_done ?_
 refine bif_e (fun c1 => ?_) (fun c1 => ?_)
 ·refine go 6 ?_
  refine adopt_ 4 38 1 ?_
  refine fun h => good_loop (fun n st => n ≤ k ∧ ∃ (v2 : _) (v3 : _) (v4 : _) (g5 : Nat) (g6 : Nat) (g7 : Nat), st = ⟨[(0, .ptr 1000 0 0), (4, .tip 38 g7 (List.map (irow .u8) v2))], [(1000, (0, .cells [.p (.str v3), .p (.int .i64 v4)])), (63, (g5, .gone)), (68, (g6, .gone)), (38, (g7, .tip 1 (v2).length))]⟩ ∧ impl_reader_quoted.l0 n v2 v3 v4 = some r) k ⟨_, ⟨Nat.le_refl _, _, _, _, 0, 0, 1, rfl, h⟩, frle_, memle_⟩ ?_
  clear c1
  clear h
  rintro n _ ⟨hkl0, v2, v3, v4, g5, g6, g7, rfl, h⟩ hl0
  cases n with
  | zero => exact absurd h (by simp [impl_reader_quoted.l0])
  | succ kl0 =>
  rw [impl_reader_quoted.l0] at h
  revert h
  refine go 2 ?_
  refine grs ?_
  refine gr_run ?_
  refine gr_done ?_
  refine bif_e (fun c2 => ?_) (fun c2 => ?_)
  ·refine bind_e (fun v8 e8 => ?_)
   refine go 4 ?_
   refine grs ?_
   refine gr_run ?_
   refine gr_done ?_
   refine bif_e (fun c3 => ?_) (fun c3 => ?_)
   ·refine go 8 ?_
    refine ret_e (fun hr_ => ?_)
    subst hr_
    exact ret_ Tryz.func80 [(1000, (0, 1000, 0))]
   ·refine bif_e (fun c4 => ?_) (fun c4 => ?_)
    ·refine go 11 ?_
     refine grs ?_
     refine gr_run ?_
     refine bind_e (fun v9 e9 => gr_call [(1000, (0, 1000, 0))] (impl_reader_peek.con e9) ?_)
     clear e9
     refine gr_done ?_
     refine go 2 ?_
     refine good_cut (fun st => ∃ (v10 : _) (q_ : Nat), q_ ≤ kl0 ∧ st = ⟨[(0, .ptr 1000 0 0), (4, .tip 38 g7 (List.map (irow .u8) v2)), (48, .p (.int .u8 v9.1)), (49, .p (.bool v10))], [(1000, (0, .cells [.p (.str v9.2.f0), .p (.int .i64 v9.2.f1)])), (63, (g5, .gone)), (68, (g6, .gone)), (38, (g7, .tip 1 (v2).length))]⟩ ∧ impl_reader_quoted.j0 q_ v2 v9 v10 = some r) ?_ (fun hj0 => ?_)
     ·clear c2 e8 c3 c4
      rintro _ ⟨v10, q_, hqj0, rfl, h⟩
      cases q_ with
      | zero => exact absurd h (by simp [impl_reader_quoted.j0])
      | succ kj0 =>
      rw [impl_reader_quoted.j0] at h
      revert h
      refine bif_e (fun c5 => ?_) (fun c5 => ?_)
      ·refine bind_e (fun v11 e11 => ?_)
       refine bind_e (fun v12 e12 => ?_)
       replace e12 := nf_ (app_en (irow .u8) e12)
       refine go 1 ?_
       refine grs ?_
       refine gr_run ?_
       refine gr_done ?_
       refine go 4 ?_
       exact fun h => good_again hl0 (by omega) ⟨_, ⟨by omega, _, _, _, g5, g6, g7, rfl, h⟩, frle_, memle_⟩
      ·refine bif_e (fun c6 => ?_) (fun c6 => ?_)
       ·refine bind_e (fun v13 e13 => ?_)
        replace e13 := nf_ (app_en (irow .u8) e13)
        refine go 9 ?_
        exact fun h => good_again hl0 (by omega) ⟨_, ⟨by omega, _, _, _, g5, g6, g7, rfl, h⟩, frle_, memle_⟩
       ·refine go 6 ?_
        refine ret_e (fun hr_ => ?_)
        subst hr_
        exact ret_ Tryz.func80 [(1000, (0, 1000, 0))]
     ·refine bif_e (fun c7 => ?_) (fun c7 => ?_)
      ·refine go 4 ?_
       exact fun h => good_jump hj0 ⟨_, ⟨_, _, by omega, rfl, h⟩, frle_, memle_⟩
      ·refine go 4 ?_
       exact fun h => good_jump hj0 ⟨_, ⟨_, _, by omega, rfl, h⟩, frle_, memle_⟩
    ·refine bif_e (fun c8 => ?_) (fun c8 => ?_)
     ·refine go 14 ?_
      refine ret_e (fun hr_ => ?_)
      subst hr_
      exact ret_ Tryz.func80 [(1000, (0, 1000, 0))]
     ·refine bind_e (fun v14 e14 => ?_)
      replace e14 := nf_ (app_en (irow .u8) e14)
      refine go 15 ?_
      exact fun h => good_again hl0 (by omega) ⟨_, ⟨by omega, _, _, _, g5, g6, g7, rfl, h⟩, frle_, memle_⟩
  ·refine go 4 ?_
   refine ret_e (fun hr_ => ?_)
   subst hr_
   exact ret_ Tryz.func80 [(1000, (0, 1000, 0))]
 ·refine go 3 ?_
  refine ret_e (fun hr_ => ?_)
  subst hr_
  exact ret_ Tryz.func80 [(1000, (0, 1000, 0))]
mutual
def impl_reader_date_1.l0 : Nat → ByteArray → Int → Int → Option (Int)
 | 0, _, _, _ => none
 | k + 1, v0, v1, v2 => (bif decide (v2 < (v0.size : Int)) then ((bix v0 v2).bind fun v3 => ((impl_isDigit.f k v3).bind fun v4 => (bif v4 then (impl_reader_date_1.l0 k v0 (IntKind.i64.wrap ((IntKind.i64.wrap (v1 * 10)) + (IntKind.i64.wrap (IntKind.u8.wrap (v3 - 48))))) (IntKind.i64.wrap (v2 + 1))) else (some (-1))))) else (some v1))
def impl_reader_date_1.f : Nat → ByteArray → Option (Int)
 | 0, _ => none
 | k + 1, v0 => (impl_reader_date_1.l0 k v0 0 0)
end
set_option maxRecDepth 100000 in
set_option maxHeartbeats 4000000 in
theorem impl_reader_date_1.con {K : Kn} [KOk K] {k : Nat} {v0 : ByteArray} {r : Int} (h : impl_reader_date_1.f k v0 = some r) : Con K Tryz.prog 95 [.p (.str v0)] [] (.p (.int .i64 r)) [] := by
 cases k with
 | zero => exact absurd h (by simp [impl_reader_date_1.f])
 | succ k =>
 rw [impl_reader_date_1.f] at h
 refine con_intro 25 [] Tryz.func95 (by kernel_rfl) rfl rfl (by kernel_rfl) fun ι0 w0 hk0 => ?_
 revert h
 refine go 8 ?_
 refine fun h => good_loop (fun n st => n ≤ k ∧ ∃ (v1 : _) (v2 : _), st = ⟨[(0, .p (.str v0)), (3, .p (.int .i64 v1)), (6, .p (.int .i64 (v0.size : Int))), (7, .p (.int .i64 v2))], []⟩ ∧ impl_reader_date_1.l0 n v0 v1 v2 = some r) k ⟨_, ⟨Nat.le_refl _, _, _, rfl, h⟩, frle_, memle_⟩ ?_
 clear h
 rintro n _ ⟨hkl0, v1, v2, rfl, h⟩ hl0
 cases n with
 | zero => exact absurd h (by simp [impl_reader_date_1.l0])
 | succ kl0 =>
 rw [impl_reader_date_1.l0] at h
 revert h
 refine bif_e (fun c1 => ?_) (fun c1 => ?_)
 ·refine bind_e (fun v3 e3 => ?_)
  refine go 11 ?_
  refine grs ?_
  refine gr_run ?_
  refine bind_e (fun v4 e4 => gr_call [] (impl_isDigit.con e4) ?_)
  clear e4
  refine gr_run ?_
  refine gr_done ?_
  refine bif_e (fun c2 => ?_) (fun c2 => ?_)
  ·refine go 5 ?_
   exact fun h => good_again hl0 (by omega) ⟨_, ⟨by omega, _, _, rfl, h⟩, frle_, memle_⟩
  ·refine go 3 ?_
   refine ret_e (fun hr_ => ?_)
   subst hr_
   exact ret_ Tryz.func95 []
 ·refine go 7 ?_
  refine ret_e (fun hr_ => ?_)
  subst hr_
  exact ret_ Tryz.func95 []
def impl_leap.f (k : Nat) (v0 : Int) : Option (Bool) := ((rem v0 4).bind fun v1 => (bif (v1 == 0) then ((rem v0 100).bind fun v2 => (bif (v2 == 0) then ((rem v0 400).bind fun v3 => (some (v3 == 0))) else (some true))) else (some false)))
set_option maxRecDepth 100000 in
set_option maxHeartbeats 4000000 in
theorem impl_leap.con {K : Kn} [KOk K] {k : Nat} {v0 : Int} {r : Bool} (h : impl_leap.f k v0 = some r) : Con K Tryz.prog 104 [.p (.int .i64 v0)] [] (.p (.bool r)) [] := by
 rw [impl_leap.f] at h
 refine con_intro 16 [] Tryz.func104 (by kernel_rfl) rfl rfl (by kernel_rfl) fun ι0 w0 hk0 => ?_
 revert h
 refine bind_e (fun v1 e1 => ?_)
 refine bif_e (fun c1 => ?_) (fun c1 => ?_)
 ·refine bind_e (fun v2 e2 => ?_)
  refine bif_e (fun c2 => ?_) (fun c2 => ?_)
  ·refine bind_e (fun v3 e3 => ?_)
   refine go 4 ?_
   refine ret_e (fun hr_ => ?_)
   subst hr_
   exact ret_ Tryz.func104 []
  ·refine go 4 ?_
   refine ret_e (fun hr_ => ?_)
   subst hr_
   exact ret_ Tryz.func104 []
 ·refine go 4 ?_
  refine ret_e (fun hr_ => ?_)
  subst hr_
  exact ret_ Tryz.func104 []
def impl_monthDays.f (k : Nat) (v0 : Int) (v1 : Int) : Option (Int) := (bif (v1 == 2) then ((impl_leap.f k v0).bind fun v2 => (bif v2 then (some 29) else (some 28))) else (bif (v1 == 4) then (some 30) else (bif (v1 == 6) then (some 30) else (bif (v1 == 9) then (some 30) else (bif (v1 == 11) then (some 30) else (some 31))))))
set_option maxRecDepth 100000 in
set_option maxHeartbeats 4000000 in
theorem impl_monthDays.con {K : Kn} [KOk K] {k : Nat} {v0 : Int} {v1 : Int} {r : Int} (h : impl_monthDays.f k v0 v1 = some r) : Con K Tryz.prog 96 [.p (.int .i64 v0), .p (.int .i64 v1)] [] (.p (.int .i64 r)) [] := by
 rw [impl_monthDays.f] at h
 refine con_intro 15 [] Tryz.func96 (by kernel_rfl) rfl rfl (by kernel_rfl) fun ι0 w0 hk0 => ?_
 revert h
 refine bif_e (fun c1 => ?_) (fun c1 => ?_)
 ·refine go 11 ?_
  refine grs ?_
  refine gr_run ?_
  refine bind_e (fun v2 e2 => gr_call [] (impl_leap.con e2) ?_)
  clear e2
  refine gr_done ?_
  refine bif_e (fun c2 => ?_) (fun c2 => ?_)
  ·refine go 3 ?_
   refine ret_e (fun hr_ => ?_)
   subst hr_
   exact ret_ Tryz.func96 []
  ·refine go 4 ?_
   refine ret_e (fun hr_ => ?_)
   subst hr_
   exact ret_ Tryz.func96 []
 ·refine bif_e (fun c3 => ?_) (fun c3 => ?_)
  ·refine go 17 ?_
   refine ret_e (fun hr_ => ?_)
   subst hr_
   exact ret_ Tryz.func96 []
  ·refine bif_e (fun c4 => ?_) (fun c4 => ?_)
   ·refine go 20 ?_
    refine ret_e (fun hr_ => ?_)
    subst hr_
    exact ret_ Tryz.func96 []
   ·refine bif_e (fun c5 => ?_) (fun c5 => ?_)
    ·refine go 23 ?_
     refine ret_e (fun hr_ => ?_)
     subst hr_
     exact ret_ Tryz.func96 []
    ·refine bif_e (fun c6 => ?_) (fun c6 => ?_)
     ·refine go 23 ?_
      refine ret_e (fun hr_ => ?_)
      subst hr_
      exact ret_ Tryz.func96 []
     ·refine go 25 ?_
      refine ret_e (fun hr_ => ?_)
      subst hr_
      exact ret_ Tryz.func96 []
mutual
def impl_dayNumber.l0 : Nat → Int → Int → Int → Int → Int → Option (Int)
 | 0, _, _, _, _, _ => none
 | k + 1, v0, v1, v2, v6, v7 => (bif decide (v7 < v1) then ((impl_monthDays.f k v0 v7).bind fun v8 => (impl_dayNumber.l0 k v0 v1 v2 (IntKind.i64.wrap (v6 + v8)) (IntKind.i64.wrap (v7 + 1)))) else (some (IntKind.i64.wrap ((IntKind.i64.wrap (v6 + v2)) - 1))))
def impl_dayNumber.f : Nat → Int → Int → Int → Option (Int)
 | 0, _, _, _ => none
 | k + 1, v0, v1, v2 => ((quo .i64 (IntKind.i64.wrap (v0 - 1)) 4).bind fun v3 => ((quo .i64 (IntKind.i64.wrap (v0 - 1)) 100).bind fun v4 => ((quo .i64 (IntKind.i64.wrap (v0 - 1)) 400).bind fun v5 => (impl_dayNumber.l0 k v0 v1 v2 (IntKind.i64.wrap ((IntKind.i64.wrap ((IntKind.i64.wrap ((IntKind.i64.wrap ((IntKind.i64.wrap (v0 - 1)) * 365)) + v3)) - v4)) + v5)) 1))))
end
set_option maxRecDepth 100000 in
set_option maxHeartbeats 4000000 in
theorem impl_dayNumber.con {K : Kn} [KOk K] {k : Nat} {v0 : Int} {v1 : Int} {v2 : Int} {r : Int} (h : impl_dayNumber.f k v0 v1 v2 = some r) : Con K Tryz.prog 97 [.p (.int .i64 v0), .p (.int .i64 v1), .p (.int .i64 v2)] [] (.p (.int .i64 r)) [] := by
 cases k with
 | zero => exact absurd h (by simp [impl_dayNumber.f])
 | succ k =>
 rw [impl_dayNumber.f] at h
 refine con_intro 37 [] Tryz.func97 (by kernel_rfl) rfl rfl (by kernel_rfl) fun ι0 w0 hk0 => ?_
 revert h
 refine bind_e (fun v3 e3 => ?_)
 refine bind_e (fun v4 e4 => ?_)
 refine bind_e (fun v5 e5 => ?_)
 refine go 10 ?_
 refine fun h => good_loop (fun n st => n ≤ k ∧ ∃ (v6 : _) (v7 : _), st = ⟨[(0, .p (.int .i64 v0)), (1, .p (.int .i64 v1)), (2, .p (.int .i64 v2)), (8, .p (.int .i64 v6)), (9, .p (.int .i64 v7))], []⟩ ∧ impl_dayNumber.l0 n v0 v1 v2 v6 v7 = some r) k ⟨_, ⟨Nat.le_refl _, _, _, rfl, h⟩, frle_, memle_⟩ ?_
 clear e3 e4 e5
 clear h
 rintro n _ ⟨hkl0, v6, v7, rfl, h⟩ hl0
 cases n with
 | zero => exact absurd h (by simp [impl_dayNumber.l0])
 | succ kl0 =>
 rw [impl_dayNumber.l0] at h
 revert h
 refine bif_e (fun c1 => ?_) (fun c1 => ?_)
 ·refine go 7 ?_
  refine grs ?_
  refine gr_run ?_
  refine bind_e (fun v8 e8 => gr_call [] (impl_monthDays.con e8) ?_)
  clear e8
  refine gr_run ?_
  refine gr_done ?_
  refine go 2 ?_
  exact fun h => good_again hl0 (by omega) ⟨_, ⟨by omega, _, _, rfl, h⟩, frle_, memle_⟩
 ·refine go 7 ?_
  refine ret_e (fun hr_ => ?_)
  subst hr_
  exact ret_ Tryz.func97 []
def impl_reader_date.f (k : Nat) (v0 : S115) : Option (Int × Bool × S115) := (bif decide ((IntKind.i64.wrap ((v0.f0.size : Int) - v0.f1)) < 11) then (some (0, false, v0)) else ((bix v0.f0 v0.f1).bind fun v1 => (bif (v1 == 64) then ((bix v0.f0 (IntKind.i64.wrap (v0.f1 + 5))).bind fun v2 => (bif (v2 == 45) then ((bix v0.f0 (IntKind.i64.wrap (v0.f1 + 8))).bind fun v3 => (bif (v3 == 45) then ((sub v0.f0 (IntKind.i64.wrap (v0.f1 + 1)) (IntKind.i64.wrap (v0.f1 + 11))).bind fun v4 => ((sub v4 0 4).bind fun v5 => ((impl_reader_date_1.f k v5).bind fun v6 => ((sub v4 5 7).bind fun v7 => ((impl_reader_date_1.f k v7).bind fun v8 => ((sub v4 8 (v4.size : Int)).bind fun v9 => ((impl_reader_date_1.f k v9).bind fun v10 => (bif decide (v6 < 1) then (some (0, false, (⟨v0.f0, (IntKind.i64.wrap (v0.f1 + 11))⟩ : S115))) else (bif decide (v8 < 1) then (some (0, false, (⟨v0.f0, (IntKind.i64.wrap (v0.f1 + 11))⟩ : S115))) else (bif decide (12 < v8) then (some (0, false, (⟨v0.f0, (IntKind.i64.wrap (v0.f1 + 11))⟩ : S115))) else (bif decide (v10 < 1) then (some (0, false, (⟨v0.f0, (IntKind.i64.wrap (v0.f1 + 11))⟩ : S115))) else ((impl_monthDays.f k v6 v8).bind fun v11 => (bif decide (v11 < v10) then (some (0, false, (⟨v0.f0, (IntKind.i64.wrap (v0.f1 + 11))⟩ : S115))) else ((impl_dayNumber.f k v6 v8 v10).bind fun v12 => (some (v12, true, (⟨v0.f0, (IntKind.i64.wrap (v0.f1 + 11))⟩ : S115))))))))))))))))) else (some (0, false, v0)))) else (some (0, false, v0)))) else (some (0, false, v0)))))
set_option maxRecDepth 100000 in
set_option maxHeartbeats 4000000 in
theorem impl_reader_date.con {K : Kn} [KOk K] {k : Nat} {v0 : S115} {r : Int × Bool × S115} (h : impl_reader_date.f k v0 = some r) : Con K Tryz.prog 81 [.ptr 1000 0 0] [(1000, (0, .cells [.p (.str v0.f0), .p (.int .i64 v0.f1)]))] (.tup [.p (.int .i64 r.1), .p (.bool r.2.1)]) [(1000, (0, .cells [.p (.str r.2.2.f0), .p (.int .i64 r.2.2.f1)]))] := by
 rw [impl_reader_date.f] at h
 refine con_intro 117 [] Tryz.func81 (by kernel_rfl) rfl rfl (by kernel_rfl) fun ι0 w0 hk0 => ?_
 revert h
 refine bif_e (fun c1 => ?_) (fun c1 => ?_)
 ·refine go 4 ?_
  refine grs ?_
  refine gr_run ?_
  refine gr_done ?_
  refine go 3 ?_
  refine ret_e (fun hr_ => ?_)
  subst hr_
  exact ret_ Tryz.func81 [(1000, (0, 1000, 0))]
 ·refine bind_e (fun v1 e1 => ?_)
  refine bif_e (fun c2 => ?_) (fun c2 => ?_)
  ·refine bind_e (fun v2 e2 => ?_)
   refine bif_e (fun c3 => ?_) (fun c3 => ?_)
   ·refine bind_e (fun v3 e3 => ?_)
    refine go 4 ?_
    refine grs ?_
    refine gr_run ?_
    refine gr_done ?_
    refine bif_e (fun c4 => ?_) (fun c4 => ?_)
    ·refine bind_e (fun v4 e4 => ?_)
     refine go 3 ?_
     refine grs ?_
     refine gr_run ?_
     refine gr_done ?_
     refine bind_e (fun v5 e5 => ?_)
     refine go 5 ?_
     refine grs ?_
     refine gr_run ?_
     refine bind_e (fun v6 e6 => gr_call [] (impl_reader_date_1.con e6) ?_)
     clear e6
     refine bind_e (fun v7 e7 => ?_)
     refine gr_run ?_
     refine bind_e (fun v8 e8 => gr_call [] (impl_reader_date_1.con e8) ?_)
     clear e8
     refine bind_e (fun v9 e9 => ?_)
     refine gr_run ?_
     refine bind_e (fun v10 e10 => gr_call [] (impl_reader_date_1.con e10) ?_)
     clear e10
     refine gr_run ?_
     refine gr_done ?_
     refine bif_e (fun c5 => ?_) (fun c5 => ?_)
     ·refine go 6 ?_
      refine ret_e (fun hr_ => ?_)
      subst hr_
      exact ret_ Tryz.func81 [(1000, (0, 1000, 0))]
     ·refine bif_e (fun c6 => ?_) (fun c6 => ?_)
      ·refine go 6 ?_
       refine ret_e (fun hr_ => ?_)
       subst hr_
       exact ret_ Tryz.func81 [(1000, (0, 1000, 0))]
      ·refine bif_e (fun c7 => ?_) (fun c7 => ?_)
       ·refine go 6 ?_
        refine ret_e (fun hr_ => ?_)
        subst hr_
        exact ret_ Tryz.func81 [(1000, (0, 1000, 0))]
       ·refine bif_e (fun c8 => ?_) (fun c8 => ?_)
        ·refine go 6 ?_
         refine ret_e (fun hr_ => ?_)
         subst hr_
         exact ret_ Tryz.func81 [(1000, (0, 1000, 0))]
        ·refine go 2 ?_
         refine grs ?_
         refine gr_run ?_
         refine bind_e (fun v11 e11 => gr_call [] (impl_monthDays.con e11) ?_)
         clear e11
         refine gr_run ?_
         refine gr_done ?_
         refine bif_e (fun c9 => ?_) (fun c9 => ?_)
         ·refine go 3 ?_
          refine ret_e (fun hr_ => ?_)
          subst hr_
          exact ret_ Tryz.func81 [(1000, (0, 1000, 0))]
         ·refine go 3 ?_
          refine grs ?_
          refine gr_run ?_
          refine bind_e (fun v12 e12 => gr_call [] (impl_dayNumber.con e12) ?_)
          clear e12
          refine gr_run ?_
          refine gr_done ?_
          refine ret_e (fun hr_ => ?_)
          subst hr_
          exact ret_ Tryz.func81 [(1000, (0, 1000, 0))]
    ·refine go 3 ?_
     refine ret_e (fun hr_ => ?_)
     subst hr_
     exact ret_ Tryz.func81 [(1000, (0, 1000, 0))]
   ·refine go 4 ?_
    refine grs ?_
    refine gr_run ?_
    refine gr_done ?_
    refine go 3 ?_
    refine ret_e (fun hr_ => ?_)
    subst hr_
    exact ret_ Tryz.func81 [(1000, (0, 1000, 0))]
  ·refine go 4 ?_
   refine grs ?_
   refine gr_run ?_
   refine gr_done ?_
   refine go 3 ?_
   refine ret_e (fun hr_ => ?_)
   subst hr_
   exact ret_ Tryz.func81 [(1000, (0, 1000, 0))]
mutual
def impl_reader_whole.j1 : Nat → S115 → (Int × S115) → Int → Option (Int × Bool × S115)
 | 0, _, _, _ => none
 | k + 1, v0, v1, v3 => ((sub v1.2.f0 v0.f1 v3).bind fun v6 => ((strconv_ParseInt.f k v6 10 64).bind fun v7 => (bif v7.2 then ((strconv_FormatInt.f k v7.1 10).bind fun v8 => (bif decide (v8 = v6) then (some (v7.1, true, (⟨v1.2.f0, v3⟩ : S115))) else (some (0, false, (⟨v1.2.f0, v3⟩ : S115))))) else (some (0, false, (⟨v1.2.f0, v3⟩ : S115))))))
def impl_reader_whole.l0 : Nat → S115 → (Int × S115) → Int → Option (Int × Bool × S115)
 | 0, _, _, _ => none
 | k + 1, v0, v1, v3 => (bif decide (v3 < (v1.2.f0.size : Int)) then ((bix v1.2.f0 v3).bind fun v4 => ((impl_isDigit.f k v4).bind fun v5 => (bif v5 then (impl_reader_whole.l0 k v0 v1 (IntKind.i64.wrap (v3 + 1))) else (impl_reader_whole.j1 k v0 v1 v3)))) else (impl_reader_whole.j1 k v0 v1 v3))
def impl_reader_whole.j0 : Nat → S115 → (Int × S115) → Int → Option (Int × Bool × S115)
 | 0, _, _, _ => none
 | k + 1, v0, v1, v2 => (impl_reader_whole.l0 k v0 v1 v2)
def impl_reader_whole.f : Nat → S115 → Option (Int × Bool × S115)
 | 0, _ => none
 | k + 1, v0 => ((impl_reader_peek.f k v0).bind fun v1 => (bif (v1.1 == 45) then (impl_reader_whole.j0 k v0 v1 (IntKind.i64.wrap (v1.2.f1 + 1))) else (impl_reader_whole.j0 k v0 v1 v1.2.f1)))
end
set_option maxRecDepth 100000 in
set_option maxHeartbeats 4000000 in
theorem impl_reader_whole.con {K : Kn} [KOk K] {k : Nat} {v0 : S115} {r : Int × Bool × S115} (h : impl_reader_whole.f k v0 = some r) : Con K Tryz.prog 82 [.ptr 1000 0 0] [(1000, (0, .cells [.p (.str v0.f0), .p (.int .i64 v0.f1)]))] (.tup [.p (.int .i64 r.1), .p (.bool r.2.1)]) [(1000, (0, .cells [.p (.str r.2.2.f0), .p (.int .i64 r.2.2.f1)]))] := by
 cases k with
 | zero => exact absurd h (by simp [impl_reader_whole.f])
 | succ k =>
 rw [impl_reader_whole.f] at h
 refine con_intro 75 [] Tryz.func82 (by kernel_rfl) rfl rfl (by kernel_rfl) fun ι0 w0 hk0 => ?_
 revert h
 refine go 5 ?_
 refine good_cut (fun st => ∃ (v2 : _) (v1 : _) (q_ : Nat), q_ ≤ k ∧ st = ⟨[(0, .ptr 1000 0 0), (4, .p (.int .i64 v0.f1))], [(1000, (0, .cells [.p (.str v1.2.f0), .p (.int .i64 v2)]))]⟩ ∧ impl_reader_whole.j0 q_ v0 v1 v2 = some r) ?_ (fun hj0 => ?_)
 ·skip
  rintro _ ⟨v2, v1, q_, hqj0, rfl, h⟩
  cases q_ with
  | zero => exact absurd h (by simp [impl_reader_whole.j0])
  | succ kj0 =>
  rw [impl_reader_whole.j0] at h
  revert h
  refine go 2 ?_
  refine fun h => good_loop (fun n st => n ≤ kj0 ∧ ∃ (v3 : _), st = ⟨[(0, .ptr 1000 0 0), (4, .p (.int .i64 v0.f1))], [(1000, (0, .cells [.p (.str v1.2.f0), .p (.int .i64 v3)]))]⟩ ∧ impl_reader_whole.l0 n v0 v1 v3 = some r) kj0 ⟨_, ⟨Nat.le_refl _, _, rfl, h⟩, frle_, memle_⟩ ?_
  clear h
  rintro n _ ⟨hkl0, v3, rfl, h⟩ hl0
  cases n with
  | zero => exact absurd h (by simp [impl_reader_whole.l0])
  | succ kl0 =>
  rw [impl_reader_whole.l0] at h
  revert h
  refine go 2 ?_
  refine good_cut_f (fun st => ∃ (q_ : Nat), q_ ≤ kl0 ∧ st = ⟨[(0, .ptr 1000 0 0), (4, .p (.int .i64 v0.f1))], [(1000, (0, .cells [.p (.str v1.2.f0), .p (.int .i64 v3)]))]⟩ ∧ impl_reader_whole.j1 q_ v0 v1 v3 = some r) ?_ (fun hj1 => ?_)
  ·skip
   rintro _ ⟨q_, hqj1, rfl, h⟩
   cases q_ with
   | zero => exact absurd h (by simp [impl_reader_whole.j1])
   | succ kj1 =>
   rw [impl_reader_whole.j1] at h
   revert h
   refine bind_e (fun v6 e6 => ?_)
   refine go 2 ?_
   refine grs ?_
   refine gr_run ?_
   refine gr_done ?_
   refine go 1 ?_
   refine grs ?_
   refine gr_run ?_
   refine bind_e (fun v7 e7 => gr_call [] (strconv_ParseInt.con e7) ?_)
   clear e7
   refine gr_run ?_
   refine gr_done ?_
   refine bif_e (fun c1 => ?_) (fun c1 => ?_)
   ·refine go 2 ?_
    refine grs ?_
    refine gr_run ?_
    refine bind_e (fun v8 e8 => gr_call [] (strconv_FormatInt.con e8) ?_)
    clear e8
    refine gr_run ?_
    refine gr_done ?_
    refine bif_e (fun c2 => ?_) (fun c2 => ?_)
    ·refine go 4 ?_
     refine ret_e (fun hr_ => ?_)
     subst hr_
     exact ret_ Tryz.func82 [(1000, (0, 1000, 0))]
    ·refine go 3 ?_
     refine ret_e (fun hr_ => ?_)
     subst hr_
     exact ret_ Tryz.func82 [(1000, (0, 1000, 0))]
   ·refine go 6 ?_
    refine ret_e (fun hr_ => ?_)
    subst hr_
    exact ret_ Tryz.func82 [(1000, (0, 1000, 0))]
  ·refine bif_e (fun c3 => ?_) (fun c3 => ?_)
   ·refine bind_e (fun v4 e4 => ?_)
    refine grs ?_
    refine gr_run ?_
    refine bind_e (fun v5 e5 => gr_call [] (impl_isDigit.con e5) ?_)
    clear e5
    refine gr_run ?_
    refine gr_done ?_
    refine bif_e (fun c4 => ?_) (fun c4 => ?_)
    ·refine go 5 ?_
     exact fun h => good_again hl0 (by omega) ⟨_, ⟨by omega, _, rfl, h⟩, frle_, memle_⟩
    ·refine go 1 ?_
     exact fun h => good_jump hj1 ⟨_, ⟨_, by omega, rfl, h⟩, frle_, memle_⟩
   ·refine grs ?_
    refine gr_run ?_
    refine gr_done ?_
    refine go 1 ?_
    exact fun h => good_jump hj1 ⟨_, ⟨_, by omega, rfl, h⟩, frle_, memle_⟩
 ·refine go 1 ?_
  refine grs ?_
  refine gr_run ?_
  refine bind_e (fun v1 e1 => gr_call [(1000, (0, 1000, 0))] (impl_reader_peek.con e1) ?_)
  clear e1
  refine gr_run ?_
  refine gr_done ?_
  refine bif_e (fun c5 => ?_) (fun c5 => ?_)
  ·refine go 2 ?_
   exact fun h => good_jump hj0 ⟨_, ⟨_, _, _, by omega, rfl, h⟩, frle_, memle_⟩
  ·refine go 2 ?_
   exact fun h => good_jump hj0 ⟨_, ⟨_, _, _, by omega, rfl, h⟩, frle_, memle_⟩
def impl_reader_point.f (k : Nat) (v0 : S115) : Option (S105 × Bool × S115) := ((impl_reader_eat.f k (⟨#[40]⟩ : ByteArray) v0).bind fun v1 => (bif v1.1 then ((impl_reader_whole.f k v1.2).bind fun v2 => ((impl_reader_eat.f k (⟨#[32]⟩ : ByteArray) v2.2.2).bind fun v3 => (bif v2.2.1 then (bif v3.1 then ((impl_reader_whole.f k v3.2).bind fun v4 => (bif v4.2.1 then ((impl_reader_eat.f k (⟨#[41]⟩ : ByteArray) v4.2.2).bind fun v5 => (bif v5.1 then (bif decide (v2.1 < (-1000000)) then (some ((⟨0, 0, 0, (⟨#[]⟩ : ByteArray), ([] : (List ByteArray)), ([] : (List S105))⟩ : S105), false, v5.2)) else (bif decide (1000000 < v2.1) then (some ((⟨0, 0, 0, (⟨#[]⟩ : ByteArray), ([] : (List ByteArray)), ([] : (List S105))⟩ : S105), false, v5.2)) else (bif decide (v4.1 < (-1000000)) then (some ((⟨0, 0, 0, (⟨#[]⟩ : ByteArray), ([] : (List ByteArray)), ([] : (List S105))⟩ : S105), false, v5.2)) else (bif decide (1000000 < v4.1) then (some ((⟨0, 0, 0, (⟨#[]⟩ : ByteArray), ([] : (List ByteArray)), ([] : (List S105))⟩ : S105), false, v5.2)) else (some ((⟨5, v2.1, v4.1, (⟨#[]⟩ : ByteArray), ([] : (List ByteArray)), ([] : (List S105))⟩ : S105), true, v5.2)))))) else (some ((⟨0, 0, 0, (⟨#[]⟩ : ByteArray), ([] : (List ByteArray)), ([] : (List S105))⟩ : S105), false, v5.2)))) else (some ((⟨0, 0, 0, (⟨#[]⟩ : ByteArray), ([] : (List ByteArray)), ([] : (List S105))⟩ : S105), false, v4.2.2)))) else (some ((⟨0, 0, 0, (⟨#[]⟩ : ByteArray), ([] : (List ByteArray)), ([] : (List S105))⟩ : S105), false, v3.2))) else (some ((⟨0, 0, 0, (⟨#[]⟩ : ByteArray), ([] : (List ByteArray)), ([] : (List S105))⟩ : S105), false, v3.2))))) else (some ((⟨0, 0, 0, (⟨#[]⟩ : ByteArray), ([] : (List ByteArray)), ([] : (List S105))⟩ : S105), false, v1.2))))
set_option maxRecDepth 100000 in
set_option maxHeartbeats 4000000 in
theorem impl_reader_point.con {K : Kn} [KOk K] {k : Nat} {v0 : S115} {r : S105 × Bool × S115} (h : impl_reader_point.f k v0 = some r) : Con K Tryz.prog 83 [.ptr 1000 0 0] [(1000, (0, .cells [.p (.str v0.f0), .p (.int .i64 v0.f1)]))] (.tup [.agg [.p (.int .i64 r.1.f0), .p (.int .i64 r.1.f1), .p (.int .i64 r.1.f2), .p (.str r.1.f3), .p (.lst false (List.map srw r.1.f4)), .p (.lst false (List.map en105 r.1.f5))], .p (.bool r.2.1)]) [(1000, (0, .cells [.p (.str r.2.2.f0), .p (.int .i64 r.2.2.f1)]))] := by
 rw [impl_reader_point.f] at h
 refine con_intro 59 [] Tryz.func83 (by kernel_rfl) rfl rfl (by kernel_rfl) fun ι0 w0 hk0 => ?_
 revert h
 refine go 4 ?_
 refine grs ?_
 refine gr_run ?_
 refine bind_e (fun v1 e1 => gr_call [(1000, (0, 1000, 0))] (impl_reader_eat.con e1) ?_)
 clear e1
 refine gr_run ?_
 refine gr_done ?_
 refine bif_e (fun c1 => ?_) (fun c1 => ?_)
 ·refine go 3 ?_
  refine grs ?_
  refine gr_run ?_
  refine bind_e (fun v2 e2 => gr_call [(1000, (0, 1000, 0))] (impl_reader_whole.con e2) ?_)
  clear e2
  refine gr_run ?_
  refine gr_done ?_
  refine go 1 ?_
  refine grs ?_
  refine gr_run ?_
  refine bind_e (fun v3 e3 => gr_call [(1000, (0, 1000, 0))] (impl_reader_eat.con e3) ?_)
  clear e3
  refine gr_run ?_
  refine gr_done ?_
  refine bif_e (fun c2 => ?_) (fun c2 => ?_)
  ·refine bif_e (fun c3 => ?_) (fun c3 => ?_)
   ·refine go 6 ?_
    refine grs ?_
    refine gr_run ?_
    refine bind_e (fun v4 e4 => gr_call [(1000, (0, 1000, 0))] (impl_reader_whole.con e4) ?_)
    clear e4
    refine gr_run ?_
    refine gr_done ?_
    refine bif_e (fun c4 => ?_) (fun c4 => ?_)
    ·refine go 2 ?_
     refine grs ?_
     refine gr_run ?_
     refine bind_e (fun v5 e5 => gr_call [(1000, (0, 1000, 0))] (impl_reader_eat.con e5) ?_)
     clear e5
     refine bif_e (fun c5 => ?_) (fun c5 => ?_)
     ·refine bif_e (fun c6 => ?_) (fun c6 => ?_)
      ·refine gr_run ?_
       refine gr_done ?_
       refine go 3 ?_
       refine ret_e (fun hr_ => ?_)
       subst hr_
       exact ret_ Tryz.func83 [(1000, (0, 1000, 0))]
      ·refine bif_e (fun c7 => ?_) (fun c7 => ?_)
       ·refine gr_run ?_
        refine gr_done ?_
        refine go 3 ?_
        refine ret_e (fun hr_ => ?_)
        subst hr_
        exact ret_ Tryz.func83 [(1000, (0, 1000, 0))]
       ·refine bif_e (fun c8 => ?_) (fun c8 => ?_)
        ·refine gr_run ?_
         refine gr_done ?_
         refine go 3 ?_
         refine ret_e (fun hr_ => ?_)
         subst hr_
         exact ret_ Tryz.func83 [(1000, (0, 1000, 0))]
        ·refine gr_run ?_
         refine gr_done ?_
         refine bif_e (fun c9 => ?_) (fun c9 => ?_)
         ·refine go 3 ?_
          refine ret_e (fun hr_ => ?_)
          subst hr_
          exact ret_ Tryz.func83 [(1000, (0, 1000, 0))]
         ·refine go 4 ?_
          refine ret_e (fun hr_ => ?_)
          subst hr_
          exact ret_ Tryz.func83 [(1000, (0, 1000, 0))]
     ·refine gr_run ?_
      refine gr_done ?_
      refine go 3 ?_
      refine ret_e (fun hr_ => ?_)
      subst hr_
      exact ret_ Tryz.func83 [(1000, (0, 1000, 0))]
    ·refine go 6 ?_
     refine ret_e (fun hr_ => ?_)
     subst hr_
     exact ret_ Tryz.func83 [(1000, (0, 1000, 0))]
   ·refine go 6 ?_
    refine ret_e (fun hr_ => ?_)
    subst hr_
    exact ret_ Tryz.func83 [(1000, (0, 1000, 0))]
  ·refine go 6 ?_
   refine ret_e (fun hr_ => ?_)
   subst hr_
   exact ret_ Tryz.func83 [(1000, (0, 1000, 0))]
 ·refine go 3 ?_
  refine ret_e (fun hr_ => ?_)
  subst hr_
  exact ret_ Tryz.func83 [(1000, (0, 1000, 0))]
mutual
def impl_reader_name.j0 : Nat → S115 → Int → Option (ByteArray × Bool × S115)
 | 0, _, _ => none
 | k + 1, v0, v1 => (impl_reader_name.l0 k v0 (IntKind.i64.wrap (v1 + 1)))
def impl_reader_name.j1 : Nat → S115 → Int → Option (ByteArray × Bool × S115)
 | 0, _, _ => none
 | k + 1, v0, v1 => ((sub v0.f0 v0.f1 v1).bind fun v7 => ((impl_isName.f k v7).bind fun v9 => (some (v7, v9, (⟨v0.f0, v1⟩ : S115)))))
def impl_reader_name.l0 : Nat → S115 → Int → Option (ByteArray × Bool × S115)
 | 0, _, _ => none
 | k + 1, v0, v1 => (bif decide (v1 < (v0.f0.size : Int)) then ((bix v0.f0 v1).bind fun v2 => ((impl_isLetter.f k v2).bind fun v3 => (bif v3 then (impl_reader_name.j0 k v0 v1) else ((impl_isDigit.f k v2).bind fun v5 => (bif v5 then (impl_reader_name.j0 k v0 v1) else (bif (v2 == 95) then (impl_reader_name.j0 k v0 v1) else (impl_reader_name.j1 k v0 v1))))))) else (impl_reader_name.j1 k v0 v1))
def impl_reader_name.f : Nat → S115 → Option (ByteArray × Bool × S115)
 | 0, _ => none
 | k + 1, v0 => (impl_reader_name.l0 k v0 v0.f1)
end
set_option maxRecDepth 100000 in
set_option maxHeartbeats 4000000 in
theorem impl_reader_name.con {K : Kn} [KOk K] {k : Nat} {v0 : S115} {r : ByteArray × Bool × S115} (h : impl_reader_name.f k v0 = some r) : Con K Tryz.prog 100 [.ptr 1000 0 0] [(1000, (0, .cells [.p (.str v0.f0), .p (.int .i64 v0.f1)]))] (.tup [.p (.str r.1), .p (.bool r.2.1)]) [(1000, (0, .cells [.p (.str r.2.2.f0), .p (.int .i64 r.2.2.f1)]))] := by
 cases k with
 | zero => exact absurd h (by simp [impl_reader_name.f])
 | succ k =>
 rw [impl_reader_name.f] at h
 refine con_intro 83 [] Tryz.func100 (by kernel_rfl) rfl rfl (by kernel_rfl) fun ι0 w0 hk0 => ?_
 revert h
 refine go 6 ?_
 refine fun h => good_loop (fun n st => n ≤ k ∧ ∃ (v1 : _), st = ⟨[(0, .ptr 1000 0 0), (4, .p (.int .i64 v0.f1))], [(1000, (0, .cells [.p (.str v0.f0), .p (.int .i64 v1)]))]⟩ ∧ impl_reader_name.l0 n v0 v1 = some r) k ⟨_, ⟨Nat.le_refl _, _, rfl, h⟩, frle_, memle_⟩ ?_
 clear h
 rintro n _ ⟨hkl0, v1, rfl, h⟩ hl0
 cases n with
 | zero => exact absurd h (by simp [impl_reader_name.l0])
 | succ kl0 =>
 rw [impl_reader_name.l0] at h
 revert h
 refine go 2 ?_
 refine good_cut_t (fun st => ∃ (q_ : Nat), q_ ≤ kl0 ∧ st = ⟨[(0, .ptr 1000 0 0), (4, .p (.int .i64 v0.f1))], [(1000, (0, .cells [.p (.str v0.f0), .p (.int .i64 v1)]))]⟩ ∧ impl_reader_name.j0 q_ v0 v1 = some r) ?_ (fun hj0 => ?_)
 ·skip
  rintro _ ⟨q_, hqj0, rfl, h⟩
  cases q_ with
  | zero => exact absurd h (by simp [impl_reader_name.j0])
  | succ kj0 =>
  rw [impl_reader_name.j0] at h
  revert h
  refine go 4 ?_
  exact fun h => good_again hl0 (by omega) ⟨_, ⟨by omega, _, rfl, h⟩, frle_, memle_⟩
 ·refine good_cut_f (fun st => ∃ (q_ : Nat), q_ ≤ kl0 ∧ st = ⟨[(0, .ptr 1000 0 0), (4, .p (.int .i64 v0.f1))], [(1000, (0, .cells [.p (.str v0.f0), .p (.int .i64 v1)]))]⟩ ∧ impl_reader_name.j1 q_ v0 v1 = some r) ?_ (fun hj1 => ?_)
  ·skip
   rintro _ ⟨q_, hqj1, rfl, h⟩
   cases q_ with
   | zero => exact absurd h (by simp [impl_reader_name.j1])
   | succ kj1 =>
   rw [impl_reader_name.j1] at h
   revert h
   refine bind_e (fun v7 e7 => ?_)
   refine go 2 ?_
   refine grs ?_
   refine gr_run ?_
   refine bind_e (fun v9 e9 => gr_call [] (impl_isName.con e9) ?_)
   clear e9
   refine gr_run ?_
   refine gr_done ?_
   refine ret_e (fun hr_ => ?_)
   subst hr_
   exact ret_ Tryz.func100 [(1000, (0, 1000, 0))]
  ·refine bif_e (fun c1 => ?_) (fun c1 => ?_)
   ·refine bind_e (fun v2 e2 => ?_)
    refine grs ?_
    refine gr_run ?_
    refine bind_e (fun v3 e3 => gr_call [] (impl_isLetter.con e3) ?_)
    clear e3
    refine bif_e (fun c2 => ?_) (fun c2 => ?_)
    ·refine gr_run ?_
     refine gr_done ?_
     refine go 1 ?_
     exact fun h => good_jump hj0 ⟨_, ⟨_, by omega, rfl, h⟩, frle_, memle_⟩
    ·refine gr_run ?_
     refine bind_e (fun v5 e5 => gr_call [] (impl_isDigit.con e5) ?_)
     clear e5
     refine bif_e (fun c3 => ?_) (fun c3 => ?_)
     ·refine gr_run ?_
      refine gr_done ?_
      refine go 1 ?_
      exact fun h => good_jump hj0 ⟨_, ⟨_, by omega, rfl, h⟩, frle_, memle_⟩
     ·refine gr_run ?_
      refine gr_done ?_
      refine bif_e (fun c4 => ?_) (fun c4 => ?_)
      ·refine go 1 ?_
       exact fun h => good_jump hj0 ⟨_, ⟨_, by omega, rfl, h⟩, frle_, memle_⟩
      ·refine go 1 ?_
       exact fun h => good_jump hj1 ⟨_, ⟨_, by omega, rfl, h⟩, frle_, memle_⟩
   ·refine grs ?_
    refine gr_run ?_
    refine gr_done ?_
    refine go 1 ?_
    exact fun h => good_jump hj1 ⟨_, ⟨_, by omega, rfl, h⟩, frle_, memle_⟩
end Go.Ab
