/- What the functions compute, and their contracts, part 3. No condition beyond KOk. -/
import Derived.Test.YtfeieigajdekhaaAbX
namespace Go.Ab
open Go.Proofs
set_option linter.unusedVariables false
set_option linter.unusedSimpArgs false
def impl_isLetter.f (k : Nat) (v0 : Int) : Option (Bool) := (bif decide (97 ≤ v0) then (bif decide (v0 ≤ 122) then (some true) else (bif decide (65 ≤ v0) then (some (decide (v0 ≤ 90))) else (some false))) else (bif decide (65 ≤ v0) then (some (decide (v0 ≤ 90))) else (some false)))
set_option maxRecDepth 100000 in
set_option maxHeartbeats 4000000 in
theorem impl_isLetter.con {K : Kn} [KOk K] {k : Nat} {v0 : Int} {r : Bool} (h : impl_isLetter.f k v0 = some r) : Con K Try.prog 74 [.p (.int .u8 v0)] [] (.p (.bool r)) [] := by
 rw [impl_isLetter.f] at h
 refine con_intro 17 [] Try.func74 (by kernel_rfl) rfl rfl (by kernel_rfl) fun ι0 w0 hk0 => ?_
 revert h
 refine bif_e (fun c1 => ?_) (fun c1 => ?_)
 ·refine bif_e (fun c2 => ?_) (fun c2 => ?_)
  ·refine go 4 ?_
   refine ret_e (fun hr_ => ?_)
   subst hr_
   exact ret_ Try.func74 []
  ·refine bif_e (fun c3 => ?_) (fun c3 => ?_)
   ·refine go 4 ?_
    refine ret_e (fun hr_ => ?_)
    subst hr_
    exact ret_ Try.func74 []
   ·refine go 4 ?_
    refine ret_e (fun hr_ => ?_)
    subst hr_
    exact ret_ Try.func74 []
 ·refine bif_e (fun c4 => ?_) (fun c4 => ?_)
  ·refine go 4 ?_
   refine ret_e (fun hr_ => ?_)
   subst hr_
   exact ret_ Try.func74 []
  ·refine go 4 ?_
   refine ret_e (fun hr_ => ?_)
   subst hr_
   exact ret_ Try.func74 []
def impl_isDigit.f (k : Nat) (v0 : Int) : Option (Bool) := (bif decide (48 ≤ v0) then (some (decide (v0 ≤ 57))) else (some false))
set_option maxRecDepth 100000 in
set_option maxHeartbeats 4000000 in
theorem impl_isDigit.con {K : Kn} [KOk K] {k : Nat} {v0 : Int} {r : Bool} (h : impl_isDigit.f k v0 = some r) : Con K Try.prog 75 [.p (.int .u8 v0)] [] (.p (.bool r)) [] := by
 rw [impl_isDigit.f] at h
 refine con_intro 9 [] Try.func75 (by kernel_rfl) rfl rfl (by kernel_rfl) fun ι0 w0 hk0 => ?_
 revert h
 refine bif_e (fun c1 => ?_) (fun c1 => ?_)
 ·refine go 4 ?_
  refine ret_e (fun hr_ => ?_)
  subst hr_
  exact ret_ Try.func75 []
 ·refine go 4 ?_
  refine ret_e (fun hr_ => ?_)
  subst hr_
  exact ret_ Try.func75 []
mutual
def impl_isName.l0 : Nat → ByteArray → Int → Option (Bool)
 | 0, _, _ => none
 | k + 1, v0, v3 => (bif decide (v3 < (v0.size : Int)) then ((bix v0 v3).bind fun v4 => ((impl_isLetter.f k v4).bind fun v5 => (bif v5 then (impl_isName.l0 k v0 (IntKind.i64.wrap (v3 + 1))) else ((impl_isDigit.f k v4).bind fun v7 => (bif v7 then (impl_isName.l0 k v0 (IntKind.i64.wrap (v3 + 1))) else (bif (v4 == 95) then (impl_isName.l0 k v0 (IntKind.i64.wrap (v3 + 1))) else (some false))))))) else (some true))
def impl_isName.f : Nat → ByteArray → Option (Bool)
 | 0, _ => none
 | k + 1, v0 => (bif decide ((v0.size : Int) < 1) then (some false) else (bif decide (20 < (v0.size : Int)) then (some false) else ((bix v0 0).bind fun v1 => ((impl_isLetter.f k v1).bind fun v2 => (bif v2 then (impl_isName.l0 k v0 0) else (some false))))))
end
set_option maxRecDepth 100000 in
set_option maxHeartbeats 4000000 in
theorem impl_isName.con {K : Kn} [KOk K] {k : Nat} {v0 : ByteArray} {r : Bool} (h : impl_isName.f k v0 = some r) : Con K Try.prog 53 [.p (.str v0)] [] (.p (.bool r)) [] := by
 cases k with
 | zero => exact absurd h (by simp [impl_isName.f])
 | succ k =>
 rw [impl_isName.f] at h
 refine con_intro 42 [] Try.func53 (by kernel_rfl) rfl rfl (by kernel_rfl) fun ι0 w0 hk0 => ?_
 revert h
 refine bif_e (fun c1 => ?_) (fun c1 => ?_)
 ·refine go 8 ?_
  refine ret_e (fun hr_ => ?_)
  subst hr_
  exact ret_ Try.func53 []
 ·refine bif_e (fun c2 => ?_) (fun c2 => ?_)
  ·refine go 8 ?_
   refine ret_e (fun hr_ => ?_)
   subst hr_
   exact ret_ Try.func53 []
  ·refine bind_e (fun v1 e1 => ?_)
   refine go 4 ?_
   refine grs ?_
   refine gr_run ?_
   refine bind_e (fun v2 e2 => gr_call [] (impl_isLetter.con e2) ?_)
   clear e2
   refine gr_run ?_
   refine gr_done ?_
   refine bif_e (fun c3 => ?_) (fun c3 => ?_)
   ·refine go 6 ?_
    refine fun h => good_loop (fun n st => n ≤ k ∧ ∃ (v3 : _), st = ⟨[(0, .p (.str v0)), (19, .p (.int .i64 (v0.size : Int))), (20, .p (.int .i64 v3))], []⟩ ∧ impl_isName.l0 n v0 v3 = some r) k ⟨_, ⟨Nat.le_refl _, _, rfl, h⟩, frle_, memle_⟩ ?_
    clear c1 c2 e1 c3
    clear h
    rintro n _ ⟨hkl0, v3, rfl, h⟩ hl0
    cases n with
    | zero => exact absurd h (by simp [impl_isName.l0])
    | succ kl0 =>
    rw [impl_isName.l0] at h
    revert h
    refine bif_e (fun c4 => ?_) (fun c4 => ?_)
    ·refine bind_e (fun v4 e4 => ?_)
     refine go 10 ?_
     refine grs ?_
     refine gr_run ?_
     refine bind_e (fun v5 e5 => gr_call [] (impl_isLetter.con e5) ?_)
     clear e5
     refine bif_e (fun c5 => ?_) (fun c5 => ?_)
     ·refine gr_run ?_
      refine gr_done ?_
      refine go 4 ?_
      exact fun h => good_again hl0 (by omega) ⟨_, ⟨by omega, _, rfl, h⟩, frle_, memle_⟩
     ·refine gr_run ?_
      refine bind_e (fun v7 e7 => gr_call [] (impl_isDigit.con e7) ?_)
      clear e7
      refine bif_e (fun c6 => ?_) (fun c6 => ?_)
      ·refine gr_run ?_
       refine gr_done ?_
       refine go 4 ?_
       exact fun h => good_again hl0 (by omega) ⟨_, ⟨by omega, _, rfl, h⟩, frle_, memle_⟩
      ·refine gr_run ?_
       refine gr_done ?_
       refine bif_e (fun c7 => ?_) (fun c7 => ?_)
       ·refine go 4 ?_
        exact fun h => good_again hl0 (by omega) ⟨_, ⟨by omega, _, rfl, h⟩, frle_, memle_⟩
       ·refine go 3 ?_
        refine ret_e (fun hr_ => ?_)
        subst hr_
        exact ret_ Try.func53 []
    ·refine go 7 ?_
     refine ret_e (fun hr_ => ?_)
     subst hr_
     exact ret_ Try.func53 []
   ·refine go 3 ?_
    refine ret_e (fun hr_ => ?_)
    subst hr_
    exact ret_ Try.func53 []
def impl_isWord.f (k : Nat) (v0 : ByteArray) : Option (Bool) := ((cat (⟨#[32]⟩ : ByteArray) v0).bind fun v1 => ((cat v1 (⟨#[32]⟩ : ByteArray)).bind fun v2 => ((strings_Contains.f k (⟨#[32, 110, 117, 108, 108, 32, 116, 114, 117, 101, 32, 102, 97, 108, 115, 101, 32, 110, 111, 116, 32, 111, 114, 32, 120, 111, 114, 32, 97, 110, 100, 32, 105, 110, 32, 105, 115, 32, 99, 97, 115, 101, 32, 119, 104, 101, 110, 32, 116, 104, 101, 110, 32, 101, 108, 115, 101, 32, 101, 110, 100, 32, 119, 104, 101, 114, 101, 32, 97, 108, 108, 32, 97, 110, 121, 32, 109, 97, 116, 99, 104, 32, 111, 112, 116, 105, 111, 110, 97, 108, 32, 119, 105, 116, 104, 32, 114, 101, 116, 117, 114, 110, 32, 100, 105, 115, 116, 105, 110, 99, 116, 32, 111, 114, 100, 101, 114, 32, 98, 121, 32, 100, 101, 115, 99, 32, 115, 107, 105, 112, 32, 108, 105, 109, 105, 116, 32, 97, 115, 32, 117, 110, 119, 105, 110, 100, 32, 99, 114, 101, 97, 116, 101, 32, 115, 101, 116, 32, 114, 101, 109, 111, 118, 101, 32, 100, 101, 108, 101, 116, 101, 32, 100, 101, 116, 97, 99, 104, 32, 109, 101, 114, 103, 101, 32, 111, 110, 32, 117, 110, 105, 111, 110, 32, 115, 104, 111, 114, 116, 101, 115, 116, 32, 116, 114, 97, 105, 108, 32, 115, 105, 109, 112, 108, 101, 32, 119, 97, 108, 107, 32]⟩ : ByteArray) v2).bind fun v3 => (some v3))))
set_option maxRecDepth 100000 in
set_option maxHeartbeats 4000000 in
theorem impl_isWord.con {K : Kn} [KOk K] {k : Nat} {v0 : ByteArray} {r : Bool} (h : impl_isWord.f k v0 = some r) : Con K Try.prog 94 [.p (.str v0)] [] (.p (.bool r)) [] := by
 rw [impl_isWord.f] at h
 refine con_intro 7 [] Try.func94 (by kernel_rfl) rfl rfl (by kernel_rfl) fun ι0 w0 hk0 => ?_
 revert h
 refine bind_e (fun v1 e1 => ?_)
 refine bind_e (fun v2 e2 => ?_)
 refine go 3 ?_
 refine grs ?_
 refine gr_run ?_
 refine bind_e (fun v3 e3 => gr_call [] (strings_Contains.con e3) ?_)
 clear e3
 refine gr_run ?_
 refine gr_done ?_
 refine ret_e (fun hr_ => ?_)
 subst hr_
 exact ret_ Try.func94 []
def impl_free.f (k : Nat) (v0 : ByteArray) : Option (Bool) := ((impl_isName.f k v0).bind fun v1 => (bif v1 then ((impl_isWord.f k v0).bind fun v2 => (some (!v2))) else (some false)))
set_option maxRecDepth 100000 in
set_option maxHeartbeats 4000000 in
theorem impl_free.con {K : Kn} [KOk K] {k : Nat} {v0 : ByteArray} {r : Bool} (h : impl_free.f k v0 = some r) : Con K Try.prog 67 [.p (.str v0)] [] (.p (.bool r)) [] := by
 rw [impl_free.f] at h
 refine con_intro 10 [] Try.func67 (by kernel_rfl) rfl rfl (by kernel_rfl) fun ι0 w0 hk0 => ?_
 revert h
 refine go 3 ?_
 refine grs ?_
 refine gr_run ?_
 refine bind_e (fun v1 e1 => gr_call [] (impl_isName.con e1) ?_)
 clear e1
 refine bif_e (fun c1 => ?_) (fun c1 => ?_)
 ·refine gr_run ?_
  refine bind_e (fun v2 e2 => gr_call [] (impl_isWord.con e2) ?_)
  clear e2
  refine gr_run ?_
  refine gr_done ?_
  refine ret_e (fun hr_ => ?_)
  subst hr_
  exact ret_ Try.func67 []
 ·refine gr_run ?_
  refine gr_done ?_
  refine ret_e (fun hr_ => ?_)
  subst hr_
  exact ret_ Try.func67 []
mutual
def impl_atomsOk.l0 : Nat → (List S64) → Int → Option (Bool)
 | 0, _, _ => none
 | k + 1, v0, v1 => (bif decide (v1 < (v0.length : Int)) then ((ix v0 v1).bind fun v3 => ((impl_isName.f k v3.f0).bind fun v4 => (bif v4 then ((impl_free.f k v3.f1).bind fun v5 => (bif v5 then ((impl_free.f k v3.f2).bind fun v6 => (bif v6 then (impl_atomsOk.l0 k v0 (IntKind.i64.wrap (v1 + 1))) else (some false))) else (some false))) else (some false)))) else (some true))
def impl_atomsOk.f : Nat → (List S64) → Option (Bool)
 | 0, _ => none
 | k + 1, v0 => (bif decide ((v0.length : Int) < 1) then (some false) else (bif decide (6 < (v0.length : Int)) then (some false) else (impl_atomsOk.l0 k v0 0)))
end
set_option maxRecDepth 100000 in
set_option maxHeartbeats 4000000 in
theorem impl_atomsOk.con {K : Kn} [KOk K] {k : Nat} {v0 : (List S64)} {r : Bool} (h : impl_atomsOk.f k v0 = some r) : Con K Try.prog 44 [.p (.lst false (List.map en64 v0))] [] (.p (.bool r)) [] := by
 cases k with
 | zero => exact absurd h (by simp [impl_atomsOk.f])
 | succ k =>
 rw [impl_atomsOk.f] at h
 refine con_intro 36 [] Try.func44 (by kernel_rfl) rfl rfl (by kernel_rfl) fun ι0 w0 hk0 => ?_
 revert h
 refine bif_e (fun c1 => ?_) (fun c1 => ?_)
 ·refine go 8 ?_
  refine ret_e (fun hr_ => ?_)
  subst hr_
  exact ret_ Try.func44 []
 ·refine bif_e (fun c2 => ?_) (fun c2 => ?_)
  ·refine go 8 ?_
   refine ret_e (fun hr_ => ?_)
   subst hr_
   exact ret_ Try.func44 []
  ·refine go 11 ?_
   refine fun h => good_loop (fun n st => n ≤ k ∧ ∃ (v1 : _) (g2 : Nat), st = ⟨[(13, .p (.lst false (List.map en64 v0))), (14, .p (.int .i64 (v0.length : Int))), (15, .p (.int .i64 v1))], [(4, (g2, .gone))]⟩ ∧ impl_atomsOk.l0 n v0 v1 = some r) k ⟨_, ⟨Nat.le_refl _, _, 0, rfl, h⟩, frle_, memle_⟩ ?_
   clear c1 c2
   clear h
   rintro n _ ⟨hkl0, v1, g2, rfl, h⟩ hl0
   cases n with
   | zero => exact absurd h (by simp [impl_atomsOk.l0])
   | succ kl0 =>
   rw [impl_atomsOk.l0] at h
   revert h
   refine bif_e (fun c3 => ?_) (fun c3 => ?_)
   ·refine bind_e (fun v3 e3 => ?_)
    replace e3 := nf_ (ix_en en64 e3)
    refine go 10 ?_
    refine grs ?_
    refine gr_run ?_
    refine bind_e (fun v4 e4 => gr_call [] (impl_isName.con e4) ?_)
    clear e4
    refine bif_e (fun c4 => ?_) (fun c4 => ?_)
    ·refine gr_run ?_
     refine bind_e (fun v5 e5 => gr_call [] (impl_free.con e5) ?_)
     clear e5
     refine bif_e (fun c5 => ?_) (fun c5 => ?_)
     ·refine gr_run ?_
      refine bind_e (fun v6 e6 => gr_call [] (impl_free.con e6) ?_)
      clear e6
      refine gr_run ?_
      refine gr_done ?_
      refine bif_e (fun c6 => ?_) (fun c6 => ?_)
      ·refine go 4 ?_
       exact fun h => good_again hl0 (by omega) ⟨_, ⟨by omega, _, g2 + 1, rfl, h⟩, frle_, memle_⟩
      ·refine go 3 ?_
       refine ret_e (fun hr_ => ?_)
       subst hr_
       exact ret_ Try.func44 []
     ·refine gr_run ?_
      refine gr_done ?_
      refine go 3 ?_
      refine ret_e (fun hr_ => ?_)
      subst hr_
      exact ret_ Try.func44 []
    ·refine gr_run ?_
     refine gr_done ?_
     refine go 3 ?_
     refine ret_e (fun hr_ => ?_)
     subst hr_
     exact ret_ Try.func44 []
   ·refine go 7 ?_
    refine ret_e (fun hr_ => ?_)
    subst hr_
    exact ret_ Try.func44 []
mutual
def impl_insert.j1 : Nat → (List ByteArray) → ByteArray → Int → Option ((List ByteArray))
 | 0, _, _, _ => none
 | k + 1, v0, v1, v2 => ((mks (⟨#[]⟩ : ByteArray) 0 (IntKind.i64.wrap ((v0.length : Int) + 1))).bind fun v5 => ((lsub v0 0 v2).bind fun v6 => ((app v5 v6).bind fun v7 => ((app v7 ([v1] : List ByteArray)).bind fun v8 => ((lsub v0 v2 (v0.length : Int)).bind fun v9 => ((app v8 v9).bind fun v10 => (some v10)))))))
def impl_insert.j0 : Nat → (List ByteArray) → ByteArray → Int → Option ((List ByteArray))
 | 0, _, _, _ => none
 | k + 1, v0, v1, v2 => (bif decide (v2 < (v0.length : Int)) then ((ix v0 v2).bind fun v4 => (bif decide (v4 = v1) then (some v0) else (impl_insert.j1 k v0 v1 v2))) else (impl_insert.j1 k v0 v1 v2))
def impl_insert.l0 : Nat → (List ByteArray) → ByteArray → Int → Option ((List ByteArray))
 | 0, _, _, _ => none
 | k + 1, v0, v1, v2 => (bif decide (v2 < (v0.length : Int)) then ((ix v0 v2).bind fun v3 => (bif slt v3 v1 then (impl_insert.l0 k v0 v1 (IntKind.i64.wrap (v2 + 1))) else (impl_insert.j0 k v0 v1 v2))) else (impl_insert.j0 k v0 v1 v2))
def impl_insert.f : Nat → (List ByteArray) → ByteArray → Option ((List ByteArray))
 | 0, _, _ => none
 | k + 1, v0, v1 => (impl_insert.l0 k v0 v1 0)
end
set_option maxRecDepth 100000 in
set_option maxHeartbeats 4000000 in
theorem impl_insert.con {K : Kn} [KOk K] {k : Nat} {v0 : (List ByteArray)} {v1 : ByteArray} {r : (List ByteArray)} (h : impl_insert.f k v0 v1 = some r) : Con K Try.prog 95 [.p (.lst false (List.map srw v0)), .p (.str v1)] [] (.p (.lst false (List.map srw r))) [] := by
 cases k with
 | zero => exact absurd h (by simp [impl_insert.f])
 | succ k =>
 rw [impl_insert.f] at h
 refine con_intro 52 [42, 46, 51] Try.func95 (by kernel_rfl) rfl rfl (by kernel_rfl) fun ι0 w0 hk0 => ?_
 revert h
 refine go 6 ?_
 refine fun h => good_loop (fun n st => n ≤ k ∧ ∃ (v2 : _), st = ⟨[(0, .p (.lst false (List.map srw v0))), (1, .p (.str v1)), (5, .p (.int .i64 v2))], []⟩ ∧ impl_insert.l0 n v0 v1 v2 = some r) k ⟨_, ⟨Nat.le_refl _, _, rfl, h⟩, frle_, memle_⟩ ?_
 clear h
 rintro n _ ⟨hkl0, v2, rfl, h⟩ hl0
 cases n with
 | zero => exact absurd h (by simp [impl_insert.l0])
 | succ kl0 =>
 rw [impl_insert.l0] at h
 revert h
 refine go 2 ?_
 refine good_cut_f (fun st => ∃ (q_ : Nat), q_ ≤ kl0 ∧ st = ⟨[(0, .p (.lst false (List.map srw v0))), (1, .p (.str v1)), (5, .p (.int .i64 v2))], []⟩ ∧ impl_insert.j0 q_ v0 v1 v2 = some r) ?_ (fun hj0 => ?_)
 ·skip
  rintro _ ⟨q_, hqj0, rfl, h⟩
  cases q_ with
  | zero => exact absurd h (by simp [impl_insert.j0])
  | succ kj0 =>
  rw [impl_insert.j0] at h
  revert h
  refine go 3 ?_
  refine good_cut_f (fun st => ∃ (q_ : Nat), q_ ≤ kj0 ∧ st = ⟨[(0, .p (.lst false (List.map srw v0))), (1, .p (.str v1)), (5, .p (.int .i64 v2))], []⟩ ∧ impl_insert.j1 q_ v0 v1 v2 = some r) ?_ (fun hj1 => ?_)
  ·skip
   rintro _ ⟨q_, hqj1, rfl, h⟩
   cases q_ with
   | zero => exact absurd h (by simp [impl_insert.j1])
   | succ kj1 =>
   rw [impl_insert.j1] at h
   revert h
   refine bind_e (fun v5 e5 => ?_)
   replace e5 := nf_ (mks_en srw e5)
   refine bind_e (fun v6 e6 => ?_)
   replace e6 := nf_ (lsub_en srw e6)
   refine bind_e (fun v7 e7 => ?_)
   replace e7 := nf_ (app_en srw e7)
   refine bind_e (fun v8 e8 => ?_)
   replace e8 := nf_ (app_en srw e8)
   refine bind_e (fun v9 e9 => ?_)
   replace e9 := nf_ (lsub_en srw e9)
   refine bind_e (fun v10 e10 => ?_)
   replace e10 := nf_ (app_en srw e10)
   refine go 9 ?_
   refine freeze_ 4 ?_
   refine ret_e (fun hr_ => ?_)
   subst hr_
   exact ret_ Try.func95 []
  ·refine bif_e (fun c1 => ?_) (fun c1 => ?_)
   ·refine bind_e (fun v4 e4 => ?_)
    replace e4 := nf_ (ix_en srw e4)
    refine bif_e (fun c2 => ?_) (fun c2 => ?_)
    ·refine go 4 ?_
     refine ret_e (fun hr_ => ?_)
     subst hr_
     exact ret_ Try.func95 []
    ·refine go 2 ?_
     exact fun h => good_jump hj1 ⟨_, ⟨_, by omega, rfl, h⟩, frle_, memle_⟩
   ·refine go 2 ?_
    exact fun h => good_jump hj1 ⟨_, ⟨_, by omega, rfl, h⟩, frle_, memle_⟩
 ·refine bif_e (fun c3 => ?_) (fun c3 => ?_)
  ·refine bind_e (fun v3 e3 => ?_)
   replace e3 := nf_ (ix_en srw e3)
   refine bif_e (fun c4 => ?_) (fun c4 => ?_)
   ·refine go 6 ?_
    exact fun h => good_again hl0 (by omega) ⟨_, ⟨by omega, _, rfl, h⟩, frle_, memle_⟩
   ·refine go 2 ?_
    exact fun h => good_jump hj0 ⟨_, ⟨_, by omega, rfl, h⟩, frle_, memle_⟩
  ·refine go 2 ?_
   exact fun h => good_jump hj0 ⟨_, ⟨_, by omega, rfl, h⟩, frle_, memle_⟩
mutual
def impl_variables.l0 : Nat → (List ByteArray) → (List S64) → Int → Option ((List ByteArray))
 | 0, _, _, _ => none
 | k + 1, v1, v0, v2 => (bif decide (v2 < (v0.length : Int)) then ((ix v0 v2).bind fun v4 => ((impl_insert.f k v1 v4.f1).bind fun v5 => ((impl_insert.f k v5 v4.f2).bind fun v6 => (impl_variables.l0 k v6 v0 (IntKind.i64.wrap (v2 + 1)))))) else (some v1))
def impl_variables.f : Nat → (List S64) → Option ((List ByteArray))
 | 0, _ => none
 | k + 1, v0 => (impl_variables.l0 k [] v0 0)
end
set_option maxRecDepth 100000 in
set_option maxHeartbeats 4000000 in
theorem impl_variables.con {K : Kn} [KOk K] {k : Nat} {v0 : (List S64)} {r : (List ByteArray)} (h : impl_variables.f k v0 = some r) : Con K Try.prog 68 [.p (.lst false (List.map en64 v0))] [] (.p (.lst false (List.map srw r))) [] := by
 cases k with
 | zero => exact absurd h (by simp [impl_variables.f])
 | succ k =>
 rw [impl_variables.f] at h
 refine con_intro 21 [] Try.func68 (by kernel_rfl) rfl rfl (by kernel_rfl) fun ι0 w0 hk0 => ?_
 revert h
 refine go 8 ?_
 refine fun h => good_loop (fun n st => n ≤ k ∧ ∃ (v1 : _) (v2 : _) (g3 : Nat), st = ⟨[(3, .p (.lst false (List.map srw v1))), (6, .p (.lst false (List.map en64 v0))), (7, .p (.int .i64 (v0.length : Int))), (8, .p (.int .i64 v2))], [(5, (g3, .gone))]⟩ ∧ impl_variables.l0 n v1 v0 v2 = some r) k ⟨_, ⟨Nat.le_refl _, _, _, 0, rfl, h⟩, frle_, memle_⟩ ?_
 clear h
 rintro n _ ⟨hkl0, v1, v2, g3, rfl, h⟩ hl0
 cases n with
 | zero => exact absurd h (by simp [impl_variables.l0])
 | succ kl0 =>
 rw [impl_variables.l0] at h
 revert h
 refine bif_e (fun c1 => ?_) (fun c1 => ?_)
 ·refine bind_e (fun v4 e4 => ?_)
  replace e4 := nf_ (ix_en en64 e4)
  refine go 9 ?_
  refine grs ?_
  refine gr_run ?_
  refine bind_e (fun v5 e5 => gr_call [] (impl_insert.con e5) ?_)
  clear e5
  refine gr_run ?_
  refine bind_e (fun v6 e6 => gr_call [] (impl_insert.con e6) ?_)
  clear e6
  refine gr_run ?_
  refine gr_done ?_
  refine go 2 ?_
  exact fun h => good_again hl0 (by omega) ⟨_, ⟨by omega, _, _, g3 + 1, rfl, h⟩, frle_, memle_⟩
 ·refine go 7 ?_
  refine ret_e (fun hr_ => ?_)
  subst hr_
  exact ret_ Try.func68 []
def impl_isTree_1.f : Nat → ByteArray → (List (ByteArray × ByteArray)) → Option (ByteArray × (List (ByteArray × ByteArray)))
 | 0, _, _ => none
 | k + 1, v0, v1 => (bif decide ((tget v1 v0 (⟨#[]⟩ : ByteArray)) = v0) then (some (v0, v1)) else ((impl_isTree_1.f k (tget v1 v0 (⟨#[]⟩ : ByteArray)) v1).bind fun v2 => (some (v2.1, v2.2))))
def impl_isTree_1.C (K : Kn) (k : Nat) : Prop := ∀ (v0 : ByteArray) (v1 : (List (ByteArray × ByteArray))) (r : ByteArray × (List (ByteArray × ByteArray))), impl_isTree_1.f k v0 v1 = some r → Con K Try.prog 69 [.p (.str v0), .ptr 1000 0 0, .ptr 1001 0 0] [(1000, (0, .cells [.mp 1500 0])), (1500, (0, .map (.str) false (List.map (es srw) v1))), (1001, (0, .cells [.clo 69 [] [.ptr 1000 0 0, .ptr 1001 0 0]]))] (.p (.str r.1)) [(1000, (0, .cells [.mp 1500 0])), (1500, (0, .map (.str) false (List.map (es srw) r.2))), (1001, (0, .cells [.clo 69 [] [.ptr 1000 0 0, .ptr 1001 0 0]]))]
set_option maxRecDepth 100000 in
set_option maxHeartbeats 4000000 in
theorem impl_isTree_1.con1 {K : Kn} [KOk K] (k : Nat) (impl_isTree_1_ih : ∀ m, m < k → impl_isTree_1.C K m) : impl_isTree_1.C K k := by
 intro v0 v1 r h
 cases k with
 | zero => exact absurd h (by simp [impl_isTree_1.f])
 | succ k =>
 rw [impl_isTree_1.f] at h
 refine con_intro 16 [] Try.func69 (by kernel_rfl) rfl rfl (by kernel_rfl) fun ι0 w0 hk0 => ?_
 revert h
 refine bif_e (fun c1 => ?_) (fun c1 => ?_)
 ·refine go 8 ?_
  refine ret_e (fun hr_ => ?_)
  subst hr_
  exact ret_ Try.func69 [(1000, (0, 1000, 0)), (1500, (0, 1500, 0)), (1001, (0, 1001, 0))]
 ·refine go 8 ?_
  refine grs ?_
  refine gr_run ?_
  refine bind_e (fun v2 e2 => gr_call [(1000, (0, 1000, 0)), (1500, (0, 1500, 0)), (1001, (0, 1001, 0))] (impl_isTree_1_ih _ (by omega) _ _ _ e2) ?_)
  clear e2
  refine gr_run ?_
  refine gr_done ?_
  refine ret_e (fun hr_ => ?_)
  subst hr_
  exact ret_ Try.func69 [(1000, (0, 1000, 0)), (1500, (0, 1500, 0)), (1001, (0, 1001, 0))]
theorem impl_isTree_1.all {K : Kn} [KOk K] (k : Nat) : impl_isTree_1.C K k := by
 induction k using Nat.strongRecOn with
 | _ k ih => exact impl_isTree_1.con1 k ih
theorem impl_isTree_1.con {K : Kn} [KOk K] {k : Nat} {v0 : ByteArray} {v1 : (List (ByteArray × ByteArray))} {r : ByteArray × (List (ByteArray × ByteArray))} (h : impl_isTree_1.f k v0 v1 = some r) : Con K Try.prog 69 [.p (.str v0), .ptr 1000 0 0, .ptr 1001 0 0] [(1000, (0, .cells [.mp 1500 0])), (1500, (0, .map (.str) false (List.map (es srw) v1))), (1001, (0, .cells [.clo 69 [] [.ptr 1000 0 0, .ptr 1001 0 0]]))] (.p (.str r.1)) [(1000, (0, .cells [.mp 1500 0])), (1500, (0, .map (.str) false (List.map (es srw) r.2))), (1001, (0, .cells [.clo 69 [] [.ptr 1000 0 0, .ptr 1001 0 0]]))] := (impl_isTree_1.all k) _ _ r h
mutual
def impl_isTree.j0 : Nat → (List S64) → Int → (List (ByteArray × ByteArray)) → (List ((ByteArray × ByteArray) × Int)) → S64 → Option (Bool)
 | 0, _, _, _, _, _ => none
 | k + 1, v0, v5, v6, v7, v10 => (impl_isTree.l1 k v0 (IntKind.i64.wrap (v5 + 1)) v6 (tset1 (tent v7 ((bif slt v10.f2 v10.f1 then v10.f2 else v10.f1), (bif slt v10.f1 v10.f2 then v10.f2 else v10.f1)) 0) (tidx v7 ((bif slt v10.f2 v10.f1 then v10.f2 else v10.f1), (bif slt v10.f1 v10.f2 then v10.f2 else v10.f1))) (IntKind.i64.wrap ((tget v7 ((bif slt v10.f2 v10.f1 then v10.f2 else v10.f1), (bif slt v10.f1 v10.f2 then v10.f2 else v10.f1)) 0) + 1))))
def impl_isTree.l1 : Nat → (List S64) → Int → (List (ByteArray × ByteArray)) → (List ((ByteArray × ByteArray) × Int)) → Option (Bool)
 | 0, _, _, _, _ => none
 | k + 1, v0, v5, v6, v7 => (bif decide (v5 < (v0.length : Int)) then ((ix v0 v5).bind fun v10 => ((tst (tent v7 ((bif slt v10.f2 v10.f1 then v10.f2 else v10.f1), (bif slt v10.f1 v10.f2 then v10.f2 else v10.f1)) 0) ((tidx v7 ((bif slt v10.f2 v10.f1 then v10.f2 else v10.f1), (bif slt v10.f1 v10.f2 then v10.f2 else v10.f1)) : Nat) : Int)).bind fun v11 => (bif decide (v10.f1 = v10.f2) then (impl_isTree.j0 k v0 v5 v6 v7 v10) else (bif decide (1 < (tget (tset1 (tent v7 ((bif slt v10.f2 v10.f1 then v10.f2 else v10.f1), (bif slt v10.f1 v10.f2 then v10.f2 else v10.f1)) 0) (tidx v7 ((bif slt v10.f2 v10.f1 then v10.f2 else v10.f1), (bif slt v10.f1 v10.f2 then v10.f2 else v10.f1))) (IntKind.i64.wrap ((tget v7 ((bif slt v10.f2 v10.f1 then v10.f2 else v10.f1), (bif slt v10.f1 v10.f2 then v10.f2 else v10.f1)) 0) + 1))) ((bif slt v10.f2 v10.f1 then v10.f2 else v10.f1), (bif slt v10.f1 v10.f2 then v10.f2 else v10.f1)) 0)) then (impl_isTree.j0 k v0 v5 v6 v7 v10) else ((impl_isTree_1.f k v10.f1 v6).bind fun v12 => ((impl_isTree_1.f k v10.f2 v12.2).bind fun v13 => (bif decide (v12.1 = v13.1) then (some false) else (impl_isTree.l1 k v0 (IntKind.i64.wrap (v5 + 1)) (tput v13.2 v12.1 v13.1) (tset1 (tent v7 ((bif slt v10.f2 v10.f1 then v10.f2 else v10.f1), (bif slt v10.f1 v10.f2 then v10.f2 else v10.f1)) 0) (tidx v7 ((bif slt v10.f2 v10.f1 then v10.f2 else v10.f1), (bif slt v10.f1 v10.f2 then v10.f2 else v10.f1))) (IntKind.i64.wrap ((tget v7 ((bif slt v10.f2 v10.f1 then v10.f2 else v10.f1), (bif slt v10.f1 v10.f2 then v10.f2 else v10.f1)) 0) + 1))))))))))) else (some true))
def impl_isTree.l0 : Nat → (List S64) → (List ByteArray) → Int → (List (ByteArray × ByteArray)) → Option (Bool)
 | 0, _, _, _, _ => none
 | k + 1, v0, v1, v2, v3 => (bif decide (v2 < (v1.length : Int)) then ((ix v1 v2).bind fun v4 => (impl_isTree.l0 k v0 v1 (IntKind.i64.wrap (v2 + 1)) (tput v3 v4 v4))) else (impl_isTree.l1 k v0 0 v3 ([] : List ((ByteArray × ByteArray) × Int))))
def impl_isTree.f : Nat → (List S64) → Option (Bool)
 | 0, _ => none
 | k + 1, v0 => ((impl_variables.f k v0).bind fun v1 => (impl_isTree.l0 k v0 v1 0 ([] : List (ByteArray × ByteArray))))
end
set_option maxRecDepth 100000 in
set_option maxHeartbeats 4000000 in
theorem impl_isTree.con {K : Kn} [KOk K] {k : Nat} {v0 : (List S64)} {r : Bool} (h : impl_isTree.f k v0 = some r) : Con K Try.prog 45 [.p (.lst false (List.map en64 v0))] [] (.p (.bool r)) [] := by
 cases k with
 | zero => exact absurd h (by simp [impl_isTree.f])
 | succ k =>
 rw [impl_isTree.f] at h
 refine con_intro 78 [] Try.func45 (by kernel_rfl) rfl rfl (by kernel_rfl) fun ι0 w0 hk0 => ?_
 revert h
 refine go 3 ?_
 refine grs ?_
 refine gr_run ?_
 refine bind_e (fun v1 e1 => gr_call [] (impl_variables.con e1) ?_)
 clear e1
 refine gr_run ?_
 refine gr_done ?_
 refine go 6 ?_
 refine fun h => good_loop (fun n st => n ≤ k ∧ ∃ (v2 : _) (v3 : _), st = ⟨[(0, .p (.lst false (List.map en64 v0))), (4, .ptr 4 1 0), (17, .p (.lst false (List.map srw v1))), (18, .p (.int .i64 (v1.length : Int))), (19, .p (.int .i64 v2))], [(16, (1, .map (.str) false (List.map (es srw) v3))), (4, (1, .cells [.mp 16 1]))]⟩ ∧ impl_isTree.l0 n v0 v1 v2 v3 = some r) k ⟨_, ⟨Nat.le_refl _, _, _, rfl, h⟩, frle_, memle_⟩ ?_
 clear h
 rintro n _ ⟨hkl0, v2, v3, rfl, h⟩ hl0
 cases n with
 | zero => exact absurd h (by simp [impl_isTree.l0])
 | succ kl0 =>
 rw [impl_isTree.l0] at h
 revert h
 refine bif_e (fun c1 => ?_) (fun c1 => ?_)
 ·refine bind_e (fun v4 e4 => ?_)
  replace e4 := nf_ (ix_en srw e4)
  refine go 12 ?_
  exact fun h => good_again hl0 (by omega) ⟨_, ⟨by omega, _, _, rfl, h⟩, frle_, memle_⟩
 ·refine go 15 ?_
  refine fun h => good_loop (fun n st => n ≤ kl0 ∧ ∃ (v5 : _) (v6 : _) (v7 : _) (g8 : Nat) (g9 : Nat), st = ⟨[(4, .ptr 4 1 0), (7, .ptr 7 1 0), (8, .mp 28 1), (29, .p (.lst false (List.map en64 v0))), (30, .p (.int .i64 (v0.length : Int))), (31, .p (.int .i64 v5))], [(16, (1, .map (.str) false (List.map (es srw) v6))), (4, (1, .cells [.mp 16 1])), (7, (1, .cells [.clo 69 [] [.ptr 4 1 0, .ptr 7 1 0]])), (28, (1, .map (.arr2) false (List.map (ea (irow .i64)) v7))), (10, (g8, .gone)), (11, (g9, .gone))]⟩ ∧ impl_isTree.l1 n v0 v5 v6 v7 = some r) kl0 ⟨_, ⟨Nat.le_refl _, _, _, _, 0, 0, rfl, h⟩, frle_, memle_⟩ ?_
  clear c1
  clear h
  rintro n _ ⟨hkl1, v5, v6, v7, g8, g9, rfl, h⟩ hl1
  cases n with
  | zero => exact absurd h (by simp [impl_isTree.l1])
  | succ kl1 =>
  rw [impl_isTree.l1] at h
  revert h
  refine bif_e (fun c2 => ?_) (fun c2 => ?_)
  ·refine bind_e (fun v10 e10 => ?_)
   replace e10 := nf_ (ix_en en64 e10)
   refine bind_e (fun v11 e11 => ?_)
   refine go 12 ?_
   refine grs ?_
   refine gr_run ?_
   refine gr_done ?_
   refine go 2 ?_
   refine good_cut_t (fun st => ∃ (q_ : Nat), q_ ≤ kl1 ∧ st = ⟨[(4, .ptr 4 1 0), (7, .ptr 7 1 0), (8, .mp 28 1), (29, .p (.lst false (List.map en64 v0))), (30, .p (.int .i64 (v0.length : Int))), (31, .p (.int .i64 v5))], [(16, (1, .map (.str) false (List.map (es srw) v6))), (4, (1, .cells [.mp 16 1])), (7, (1, .cells [.clo 69 [] [.ptr 4 1 0, .ptr 7 1 0]])), (28, (1, .map (.arr2) false (List.map (ea (irow .i64)) (tset1 (tent v7 ((bif slt v10.f2 v10.f1 then v10.f2 else v10.f1), (bif slt v10.f1 v10.f2 then v10.f2 else v10.f1)) 0) (tidx v7 ((bif slt v10.f2 v10.f1 then v10.f2 else v10.f1), (bif slt v10.f1 v10.f2 then v10.f2 else v10.f1))) (IntKind.i64.wrap ((tget v7 ((bif slt v10.f2 v10.f1 then v10.f2 else v10.f1), (bif slt v10.f1 v10.f2 then v10.f2 else v10.f1)) 0) + 1)))))), (10, (g8 + 1, .gone)), (11, (g9 + 1, .gone))]⟩ ∧ impl_isTree.j0 q_ v0 v5 v6 v7 v10 = some r) ?_ (fun hj0 => ?_)
   ·clear c2 e10 e11
    rintro _ ⟨q_, hqj0, rfl, h⟩
    cases q_ with
    | zero => exact absurd h (by simp [impl_isTree.j0])
    | succ kj0 =>
    rw [impl_isTree.j0] at h
    revert h
    refine go 2 ?_
    exact fun h => good_again hl1 (by omega) ⟨_, ⟨by omega, _, _, _, g8 + 1, g9 + 1, rfl, h⟩, frle_, memle_⟩
   ·refine bif_e (fun c3 => ?_) (fun c3 => ?_)
    ·refine go 2 ?_
     exact fun h => good_jump hj0 ⟨_, ⟨_, by omega, rfl, h⟩, frle_, memle_⟩
    ·refine bif_e (fun c4 => ?_) (fun c4 => ?_)
     ·refine go 2 ?_
      exact fun h => good_jump hj0 ⟨_, ⟨_, by omega, rfl, h⟩, frle_, memle_⟩
     ·refine go 4 ?_
      refine grs ?_
      refine gr_run ?_
      refine bind_e (fun v12 e12 => gr_callr [4, 7] [(1000, (0, 4, 1)), (1500, (0, 16, 1)), (1001, (0, 7, 1))] (impl_isTree_1.con e12) ?_)
      clear e12
      refine gr_run ?_
      refine bind_e (fun v13 e13 => gr_callr [4, 7] [(1000, (0, 4, 1)), (1500, (0, 16, 1)), (1001, (0, 7, 1))] (impl_isTree_1.con e13) ?_)
      clear e13
      refine gr_run ?_
      refine gr_done ?_
      refine bif_e (fun c5 => ?_) (fun c5 => ?_)
      ·refine go 6 ?_
       refine ret_e (fun hr_ => ?_)
       subst hr_
       exact ret_ Try.func45 []
      ·refine go 8 ?_
       exact fun h => good_again hl1 (by omega) ⟨_, ⟨by omega, _, _, _, g8 + 1, g9 + 1, rfl, h⟩, frle_, memle_⟩
  ·refine go 7 ?_
   refine ret_e (fun hr_ => ?_)
   subst hr_
   exact ret_ Try.func45 []
def impl_IsTree.f (k : Nat) (v0 : (List S64)) : Option (Bool) := ((impl_atomsOk.f k v0).bind fun v1 => (bif v1 then ((impl_isTree.f k v0).bind fun v2 => (some v2)) else (some false)))
set_option maxRecDepth 100000 in
set_option maxHeartbeats 4000000 in
theorem impl_IsTree.con {K : Kn} [KOk K] {k : Nat} {v0 : (List S64)} {r : Bool} (h : impl_IsTree.f k v0 = some r) : Con K Try.prog 19 [.p (.lst false (List.map en64 v0))] [] (.p (.bool r)) [] := by
 rw [impl_IsTree.f] at h
 refine con_intro 9 [] Try.func19 (by kernel_rfl) rfl rfl (by kernel_rfl) fun ι0 w0 hk0 => ?_
 revert h
 refine go 3 ?_
 refine grs ?_
 refine gr_run ?_
 refine bind_e (fun v1 e1 => gr_call [] (impl_atomsOk.con e1) ?_)
 clear e1
 refine bif_e (fun c1 => ?_) (fun c1 => ?_)
 ·refine gr_run ?_
  refine bind_e (fun v2 e2 => gr_call [] (impl_isTree.con e2) ?_)
  clear e2
  refine gr_run ?_
  refine gr_done ?_
  refine ret_e (fun hr_ => ?_)
  subst hr_
  exact ret_ Try.func19 []
 ·refine gr_run ?_
  refine gr_done ?_
  refine ret_e (fun hr_ => ?_)
  subst hr_
  exact ret_ Try.func19 []
end Go.Ab
