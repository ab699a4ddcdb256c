/- What the functions compute, and their contracts, part 2. No condition beyond KOk. -/
import Derived.Test.YtfeieigajdekhaaAbX
namespace Go.Ab
open Go.Proofs
set_option linter.unusedVariables false
set_option linter.unusedSimpArgs false
def spec_l01Letter.f (k : Nat) (v0 : Int) : Option (Bool) := (bif decide (97 ≤ v0) then (bif decide (v0 ≤ 122) then (some true) else (bif decide (65 ≤ v0) then (some (decide (v0 ≤ 90))) else (some false))) else (bif decide (65 ≤ v0) then (some (decide (v0 ≤ 90))) else (some false)))
set_option maxRecDepth 100000 in
set_option maxHeartbeats 4000000 in
theorem spec_l01Letter.con {K : Kn} [KOk K] {k : Nat} {v0 : Int} {r : Bool} (h : spec_l01Letter.f k v0 = some r) : Con K Try.prog 48 [.p (.int .u8 v0)] [] (.p (.bool r)) [] := by
 rw [spec_l01Letter.f] at h
 refine con_intro 17 [] Try.func48 (by kernel_rfl) rfl rfl (by kernel_rfl) fun ι0 w0 hk0 => ?_
 revert h
 refine bif_e (fun c1 => ?_) (fun c1 => ?_)
 ·refine bif_e (fun c2 => ?_) (fun c2 => ?_)
  ·refine go 4 ?_
   refine ret_e (fun hr_ => ?_)
   subst hr_
   exact ret_ Try.func48 []
  ·refine bif_e (fun c3 => ?_) (fun c3 => ?_)
   ·refine go 4 ?_
    refine ret_e (fun hr_ => ?_)
    subst hr_
    exact ret_ Try.func48 []
   ·refine go 4 ?_
    refine ret_e (fun hr_ => ?_)
    subst hr_
    exact ret_ Try.func48 []
 ·refine bif_e (fun c4 => ?_) (fun c4 => ?_)
  ·refine go 4 ?_
   refine ret_e (fun hr_ => ?_)
   subst hr_
   exact ret_ Try.func48 []
  ·refine go 4 ?_
   refine ret_e (fun hr_ => ?_)
   subst hr_
   exact ret_ Try.func48 []
def spec_l01Digit.f (k : Nat) (v0 : Int) : Option (Bool) := (bif decide (48 ≤ v0) then (some (decide (v0 ≤ 57))) else (some false))
set_option maxRecDepth 100000 in
set_option maxHeartbeats 4000000 in
theorem spec_l01Digit.con {K : Kn} [KOk K] {k : Nat} {v0 : Int} {r : Bool} (h : spec_l01Digit.f k v0 = some r) : Con K Try.prog 49 [.p (.int .u8 v0)] [] (.p (.bool r)) [] := by
 rw [spec_l01Digit.f] at h
 refine con_intro 9 [] Try.func49 (by kernel_rfl) rfl rfl (by kernel_rfl) fun ι0 w0 hk0 => ?_
 revert h
 refine bif_e (fun c1 => ?_) (fun c1 => ?_)
 ·refine go 4 ?_
  refine ret_e (fun hr_ => ?_)
  subst hr_
  exact ret_ Try.func49 []
 ·refine go 4 ?_
  refine ret_e (fun hr_ => ?_)
  subst hr_
  exact ret_ Try.func49 []
mutual
def spec_l01Name.l0 : Nat → ByteArray → Int → Option (Bool)
 | 0, _, _ => none
 | k + 1, v0, v3 => (bif decide (v3 < (v0.size : Int)) then ((bix v0 v3).bind fun v4 => ((spec_l01Letter.f k v4).bind fun v5 => (bif v5 then (spec_l01Name.l0 k v0 (IntKind.i64.wrap (v3 + 1))) else ((spec_l01Digit.f k v4).bind fun v7 => (bif v7 then (spec_l01Name.l0 k v0 (IntKind.i64.wrap (v3 + 1))) else (bif (v4 == 95) then (spec_l01Name.l0 k v0 (IntKind.i64.wrap (v3 + 1))) else (some false))))))) else (some true))
def spec_l01Name.f : Nat → ByteArray → Option (Bool)
 | 0, _ => none
 | k + 1, v0 => (bif decide ((v0.size : Int) < 1) then (some false) else (bif decide (20 < (v0.size : Int)) then (some false) else ((bix v0 0).bind fun v1 => ((spec_l01Letter.f k v1).bind fun v2 => (bif v2 then (spec_l01Name.l0 k v0 1) else (some false))))))
end
set_option maxRecDepth 100000 in
set_option maxHeartbeats 4000000 in
theorem spec_l01Name.con {K : Kn} [KOk K] {k : Nat} {v0 : ByteArray} {r : Bool} (h : spec_l01Name.f k v0 = some r) : Con K Try.prog 22 [.p (.str v0)] [] (.p (.bool r)) [] := by
 cases k with
 | zero => exact absurd h (by simp [spec_l01Name.f])
 | succ k =>
 rw [spec_l01Name.f] at h
 refine con_intro 42 [] Try.func22 (by kernel_rfl) rfl rfl (by kernel_rfl) fun ι0 w0 hk0 => ?_
 revert h
 refine bif_e (fun c1 => ?_) (fun c1 => ?_)
 ·refine go 8 ?_
  refine ret_e (fun hr_ => ?_)
  subst hr_
  exact ret_ Try.func22 []
 ·refine bif_e (fun c2 => ?_) (fun c2 => ?_)
  ·refine go 8 ?_
   refine ret_e (fun hr_ => ?_)
   subst hr_
   exact ret_ Try.func22 []
  ·refine bind_e (fun v1 e1 => ?_)
   refine go 4 ?_
   refine grs ?_
   refine gr_run ?_
   refine bind_e (fun v2 e2 => gr_call [] (spec_l01Letter.con e2) ?_)
   clear e2
   refine gr_run ?_
   refine gr_done ?_
   refine bif_e (fun c3 => ?_) (fun c3 => ?_)
   ·refine go 6 ?_
    refine fun h => good_loop (fun n st => n ≤ k ∧ ∃ (v3 : _), st = ⟨[(0, .p (.str v0)), (3, .p (.int .i64 v3))], []⟩ ∧ spec_l01Name.l0 n v0 v3 = some r) k ⟨_, ⟨Nat.le_refl _, _, rfl, h⟩, frle_, memle_⟩ ?_
    clear c1 c2 e1 c3
    clear h
    rintro n _ ⟨hkl0, v3, rfl, h⟩ hl0
    cases n with
    | zero => exact absurd h (by simp [spec_l01Name.l0])
    | succ kl0 =>
    rw [spec_l01Name.l0] at h
    revert h
    refine bif_e (fun c4 => ?_) (fun c4 => ?_)
    ·refine bind_e (fun v4 e4 => ?_)
     refine go 8 ?_
     refine grs ?_
     refine gr_run ?_
     refine bind_e (fun v5 e5 => gr_call [] (spec_l01Letter.con e5) ?_)
     clear e5
     refine bif_e (fun c5 => ?_) (fun c5 => ?_)
     ·refine gr_run ?_
      refine gr_done ?_
      refine go 4 ?_
      exact fun h => good_again hl0 (by omega) ⟨_, ⟨by omega, _, rfl, h⟩, frle_, memle_⟩
     ·refine gr_run ?_
      refine bind_e (fun v7 e7 => gr_call [] (spec_l01Digit.con e7) ?_)
      clear e7
      refine bif_e (fun c6 => ?_) (fun c6 => ?_)
      ·refine gr_run ?_
       refine gr_done ?_
       refine go 4 ?_
       exact fun h => good_again hl0 (by omega) ⟨_, ⟨by omega, _, rfl, h⟩, frle_, memle_⟩
      ·refine gr_run ?_
       refine gr_done ?_
       refine bif_e (fun c7 => ?_) (fun c7 => ?_)
       ·refine go 4 ?_
        exact fun h => good_again hl0 (by omega) ⟨_, ⟨by omega, _, rfl, h⟩, frle_, memle_⟩
       ·refine go 3 ?_
        refine ret_e (fun hr_ => ?_)
        subst hr_
        exact ret_ Try.func22 []
    ·refine go 7 ?_
     refine ret_e (fun hr_ => ?_)
     subst hr_
     exact ret_ Try.func22 []
   ·refine go 3 ?_
    refine ret_e (fun hr_ => ?_)
    subst hr_
    exact ret_ Try.func22 []
def spec_l06Words.f (k : Nat) : Option ((List ByteArray)) := (some ([(⟨#[110, 117, 108, 108]⟩ : ByteArray), (⟨#[116, 114, 117, 101]⟩ : ByteArray), (⟨#[102, 97, 108, 115, 101]⟩ : ByteArray), (⟨#[110, 111, 116]⟩ : ByteArray), (⟨#[111, 114]⟩ : ByteArray), (⟨#[120, 111, 114]⟩ : ByteArray), (⟨#[97, 110, 100]⟩ : ByteArray), (⟨#[105, 110]⟩ : ByteArray), (⟨#[105, 115]⟩ : ByteArray), (⟨#[99, 97, 115, 101]⟩ : ByteArray), (⟨#[119, 104, 101, 110]⟩ : ByteArray), (⟨#[116, 104, 101, 110]⟩ : ByteArray), (⟨#[101, 108, 115, 101]⟩ : ByteArray), (⟨#[101, 110, 100]⟩ : ByteArray), (⟨#[119, 104, 101, 114, 101]⟩ : ByteArray), (⟨#[97, 108, 108]⟩ : ByteArray), (⟨#[97, 110, 121]⟩ : ByteArray), (⟨#[109, 97, 116, 99, 104]⟩ : ByteArray), (⟨#[111, 112, 116, 105, 111, 110, 97, 108]⟩ : ByteArray), (⟨#[119, 105, 116, 104]⟩ : ByteArray), (⟨#[114, 101, 116, 117, 114, 110]⟩ : ByteArray), (⟨#[100, 105, 115, 116, 105, 110, 99, 116]⟩ : ByteArray), (⟨#[111, 114, 100, 101, 114]⟩ : ByteArray), (⟨#[98, 121]⟩ : ByteArray), (⟨#[100, 101, 115, 99]⟩ : ByteArray), (⟨#[115, 107, 105, 112]⟩ : ByteArray), (⟨#[108, 105, 109, 105, 116]⟩ : ByteArray), (⟨#[97, 115]⟩ : ByteArray), (⟨#[117, 110, 119, 105, 110, 100]⟩ : ByteArray), (⟨#[99, 114, 101, 97, 116, 101]⟩ : ByteArray), (⟨#[115, 101, 116]⟩ : ByteArray), (⟨#[114, 101, 109, 111, 118, 101]⟩ : ByteArray), (⟨#[100, 101, 108, 101, 116, 101]⟩ : ByteArray), (⟨#[100, 101, 116, 97, 99, 104]⟩ : ByteArray), (⟨#[109, 101, 114, 103, 101]⟩ : ByteArray), (⟨#[111, 110]⟩ : ByteArray), (⟨#[117, 110, 105, 111, 110]⟩ : ByteArray), (⟨#[115, 104, 111, 114, 116, 101, 115, 116]⟩ : ByteArray), (⟨#[116, 114, 97, 105, 108]⟩ : ByteArray), (⟨#[115, 105, 109, 112, 108, 101]⟩ : ByteArray), (⟨#[119, 97, 108, 107]⟩ : ByteArray)] : List ByteArray))
set_option maxRecDepth 100000 in
set_option maxHeartbeats 4000000 in
theorem spec_l06Words.con {K : Kn} [KOk K] {k : Nat} {r : (List ByteArray)} (h : spec_l06Words.f k = some r) : Con K Try.prog 93 [] [] (.p (.lst false (List.map srw r))) [] := by
 rw [spec_l06Words.f] at h
 refine con_intro 2 [] Try.func93 (by kernel_rfl) rfl rfl (by kernel_rfl) fun ι0 w0 hk0 => ?_
 revert h
 refine go 4 ?_
 refine ret_e (fun hr_ => ?_)
 subst hr_
 exact ret_ Try.func93 []
mutual
def spec_l01InTexts.l0 : Nat → (List ByteArray) → ByteArray → Int → Option (Bool)
 | 0, _, _, _ => none
 | k + 1, v0, v1, v2 => (bif decide (v2 < (v0.length : Int)) then ((ix v0 v2).bind fun v3 => (bif decide (v3 = v1) then (some true) else (spec_l01InTexts.l0 k v0 v1 (IntKind.i64.wrap (v2 + 1))))) else (some false))
def spec_l01InTexts.f : Nat → (List ByteArray) → ByteArray → Option (Bool)
 | 0, _, _ => none
 | k + 1, v0, v1 => (spec_l01InTexts.l0 k v0 v1 0)
end
set_option maxRecDepth 100000 in
set_option maxHeartbeats 4000000 in
theorem spec_l01InTexts.con {K : Kn} [KOk K] {k : Nat} {v0 : (List ByteArray)} {v1 : ByteArray} {r : Bool} (h : spec_l01InTexts.f k v0 v1 = some r) : Con K Try.prog 41 [.p (.lst false (List.map srw v0)), .p (.str v1)] [] (.p (.bool r)) [] := by
 cases k with
 | zero => exact absurd h (by simp [spec_l01InTexts.f])
 | succ k =>
 rw [spec_l01InTexts.f] at h
 refine con_intro 18 [] Try.func41 (by kernel_rfl) rfl rfl (by kernel_rfl) fun ι0 w0 hk0 => ?_
 revert h
 refine go 6 ?_
 refine fun h => good_loop (fun n st => n ≤ k ∧ ∃ (v2 : _), st = ⟨[(0, .p (.lst false (List.map srw v0))), (1, .p (.str v1)), (5, .p (.int .i64 v2))], []⟩ ∧ spec_l01InTexts.l0 n v0 v1 v2 = some r) k ⟨_, ⟨Nat.le_refl _, _, rfl, h⟩, frle_, memle_⟩ ?_
 clear h
 rintro n _ ⟨hkl0, v2, rfl, h⟩ hl0
 cases n with
 | zero => exact absurd h (by simp [spec_l01InTexts.l0])
 | succ kl0 =>
 rw [spec_l01InTexts.l0] at h
 revert h
 refine bif_e (fun c1 => ?_) (fun c1 => ?_)
 ·refine bind_e (fun v3 e3 => ?_)
  replace e3 := nf_ (ix_en srw e3)
  refine bif_e (fun c2 => ?_) (fun c2 => ?_)
  ·refine go 12 ?_
   refine ret_e (fun hr_ => ?_)
   subst hr_
   exact ret_ Try.func41 []
  ·refine go 13 ?_
   exact fun h => good_again hl0 (by omega) ⟨_, ⟨by omega, _, rfl, h⟩, frle_, memle_⟩
 ·refine go 7 ?_
  refine ret_e (fun hr_ => ?_)
  subst hr_
  exact ret_ Try.func41 []
def spec_l06Name.f (k : Nat) (v0 : ByteArray) : Option (Bool) := ((spec_l01Name.f k v0).bind fun v1 => (bif v1 then ((spec_l06Words.f k).bind fun v2 => ((spec_l01InTexts.f k v2 v0).bind fun v3 => (some (!v3)))) else (some false)))
set_option maxRecDepth 100000 in
set_option maxHeartbeats 4000000 in
theorem spec_l06Name.con {K : Kn} [KOk K] {k : Nat} {v0 : ByteArray} {r : Bool} (h : spec_l06Name.f k v0 = some r) : Con K Try.prog 65 [.p (.str v0)] [] (.p (.bool r)) [] := by
 rw [spec_l06Name.f] at h
 refine con_intro 11 [] Try.func65 (by kernel_rfl) rfl rfl (by kernel_rfl) fun ι0 w0 hk0 => ?_
 revert h
 refine go 3 ?_
 refine grs ?_
 refine gr_run ?_
 refine bind_e (fun v1 e1 => gr_call [] (spec_l01Name.con e1) ?_)
 clear e1
 refine bif_e (fun c1 => ?_) (fun c1 => ?_)
 ·refine gr_run ?_
  refine bind_e (fun v2 e2 => gr_call [] (spec_l06Words.con e2) ?_)
  clear e2
  refine gr_run ?_
  refine bind_e (fun v3 e3 => gr_call [] (spec_l01InTexts.con e3) ?_)
  clear e3
  refine gr_run ?_
  refine gr_done ?_
  refine ret_e (fun hr_ => ?_)
  subst hr_
  exact ret_ Try.func65 []
 ·refine gr_run ?_
  refine gr_done ?_
  refine ret_e (fun hr_ => ?_)
  subst hr_
  exact ret_ Try.func65 []
mutual
def spec_AtomsFault.l0 : Nat → (List S64) → Int → Option (Int)
 | 0, _, _ => none
 | k + 1, v0, v1 => (bif decide (v1 < (v0.length : Int)) then ((ix v0 v1).bind fun v2 => ((spec_l01Name.f k v2.f0).bind fun v3 => (bif v3 then ((spec_l06Name.f k v2.f1).bind fun v5 => (bif v5 then ((spec_l06Name.f k v2.f2).bind fun v7 => (bif v7 then (spec_AtomsFault.l0 k v0 (IntKind.i64.wrap (v1 + 1))) else (some 1))) else (some 1))) else (some 1)))) else (some 0))
def spec_AtomsFault.f : Nat → (List S64) → Option (Int)
 | 0, _ => none
 | k + 1, v0 => (bif decide ((v0.length : Int) < 1) then (some 1) else (bif decide (6 < (v0.length : Int)) then (some 1) else (spec_AtomsFault.l0 k v0 0)))
end
set_option maxRecDepth 100000 in
set_option maxHeartbeats 4000000 in
theorem spec_AtomsFault.con {K : Kn} [KOk K] {k : Nat} {v0 : (List S64)} {r : Int} (h : spec_AtomsFault.f k v0 = some r) : Con K Try.prog 39 [.p (.lst false (List.map en64 v0))] [] (.p (.int .i64 r)) [] := by
 cases k with
 | zero => exact absurd h (by simp [spec_AtomsFault.f])
 | succ k =>
 rw [spec_AtomsFault.f] at h
 refine con_intro 43 [] Try.func39 (by kernel_rfl) rfl rfl (by kernel_rfl) fun ι0 w0 hk0 => ?_
 revert h
 refine bif_e (fun c1 => ?_) (fun c1 => ?_)
 ·refine go 8 ?_
  refine ret_e (fun hr_ => ?_)
  subst hr_
  exact ret_ Try.func39 []
 ·refine bif_e (fun c2 => ?_) (fun c2 => ?_)
  ·refine go 8 ?_
   refine ret_e (fun hr_ => ?_)
   subst hr_
   exact ret_ Try.func39 []
  ·refine go 11 ?_
   refine fun h => good_loop (fun n st => n ≤ k ∧ ∃ (v1 : _), st = ⟨[(0, .p (.lst false (List.map en64 v0))), (3, .p (.int .i64 v1))], []⟩ ∧ spec_AtomsFault.l0 n v0 v1 = some r) k ⟨_, ⟨Nat.le_refl _, _, rfl, h⟩, frle_, memle_⟩ ?_
   clear c1 c2
   clear h
   rintro n _ ⟨hkl0, v1, rfl, h⟩ hl0
   cases n with
   | zero => exact absurd h (by simp [spec_AtomsFault.l0])
   | succ kl0 =>
   rw [spec_AtomsFault.l0] at h
   revert h
   refine bif_e (fun c3 => ?_) (fun c3 => ?_)
   ·refine bind_e (fun v2 e2 => ?_)
    replace e2 := nf_ (ix_en en64 e2)
    refine go 8 ?_
    refine grs ?_
    refine gr_run ?_
    refine bind_e (fun v3 e3 => gr_call [] (spec_l01Name.con e3) ?_)
    clear e3
    refine bif_e (fun c4 => ?_) (fun c4 => ?_)
    ·refine gr_run ?_
     refine bind_e (fun v5 e5 => gr_call [] (spec_l06Name.con e5) ?_)
     clear e5
     refine bif_e (fun c5 => ?_) (fun c5 => ?_)
     ·refine gr_run ?_
      refine bind_e (fun v7 e7 => gr_call [] (spec_l06Name.con e7) ?_)
      clear e7
      refine gr_run ?_
      refine gr_done ?_
      refine bif_e (fun c6 => ?_) (fun c6 => ?_)
      ·refine go 4 ?_
       exact fun h => good_again hl0 (by omega) ⟨_, ⟨by omega, _, rfl, h⟩, frle_, memle_⟩
      ·refine go 3 ?_
       refine ret_e (fun hr_ => ?_)
       subst hr_
       exact ret_ Try.func39 []
     ·refine gr_run ?_
      refine gr_done ?_
      refine go 3 ?_
      refine ret_e (fun hr_ => ?_)
      subst hr_
      exact ret_ Try.func39 []
    ·refine gr_run ?_
     refine gr_done ?_
     refine go 3 ?_
     refine ret_e (fun hr_ => ?_)
     subst hr_
     exact ret_ Try.func39 []
   ·refine go 7 ?_
    refine ret_e (fun hr_ => ?_)
    subst hr_
    exact ret_ Try.func39 []
def spec_l01Texts_O.f (k : Nat) (v0 : (List ByteArray)) : Option ((List ByteArray)) := ((app ([] : List ByteArray) v0).bind fun v1 => (some v1))
set_option maxRecDepth 100000 in
set_option maxHeartbeats 4000000 in
theorem spec_l01Texts_O.con {K : Kn} [KOk K] {k : Nat} {v0 : (List ByteArray)} {r : (List ByteArray)} (h : spec_l01Texts_O.f k v0 = some r) : Con K Try.prog 59 [.p (.lst false (List.map srw v0))] [] (.buf 2000 1 0 r.length) [(2000, (1, .buf 1 (List.map srw r)))] := by
 rw [spec_l01Texts_O.f] at h
 refine con_intro 6 [5] Try.func59 (by kernel_rfl) rfl rfl (by kernel_rfl) fun ι0 w0 hk0 => ?_
 revert h
 refine bind_e (fun v1 e1 => ?_)
 replace e1 := nf_ (app_en srw e1)
 refine go 4 ?_
 refine ret_e (fun hr_ => ?_)
 subst hr_
 exact ret_ Try.func59 [(2000, (1, 5, 1))]
def spec_l01Texts_b.f (k : Nat) (v0 : Nat) (v1 : Nat) (v2 : (List ByteArray)) : Option ((List ByteArray)) := spec_l01Texts_O.f k ((v2.drop v1).take v0)
theorem spec_l01Texts_b.con {K : Kn} [KOk K] {k : Nat} {v0 : Nat} {v1 : Nat} {v2 : (List ByteArray)} {r : (List ByteArray)} (h : spec_l01Texts_b.f k v0 v1 v2 = some r) : Con K Try.prog 59 [.buf 1000 0 v1 v0] [(1000, (0, .buf 1 (List.map srw v2)))] (.p (.lst false (List.map srw r))) [(1000, (0, .buf 1 (List.map srw v2)))] := by
 rw [spec_l01Texts_b.f] at h
 have h1 := spec_l01Texts_O.con (K := K) h
 rw [List.map_take, List.map_drop] at h1
 refine con_lend (r := List.map srw r) (fun row hr c hc => ?_) (by rw [List.length_map]; exact h1)
 obtain ⟨x, _, rfl⟩ := List.mem_map.1 hr
 simp [srw, irow, brw] at hc
 subst hc
 rfl
mutual
def spec_l03Sort.j1 : Nat → (List ByteArray) → Nat → Int → Int → (List ByteArray) → Option ((List ByteArray))
 | 0, _, _, _, _, _ => none
 | k + 1, v0, v1, v2, v5, v4 => ((bnd v5 (v1 : Int) (v1 : Int)).bind fun v12 => ((spec_l01Texts_b.f k (v1 - Int.toNat v5) (Int.toNat v5) v4).bind fun v13 => ((bnd 0 v5 (v1 : Int)).bind fun v14 => ((ix v0 v2).bind fun v15 => ((app (List.take (Int.toNat v5) v4) ([v15] : List ByteArray)).bind fun v16 => ((app v16 v13).bind fun v17 => (spec_l03Sort.l0 k v0 v17.length (IntKind.i64.wrap (v2 + 1)) v17)))))))
def spec_l03Sort.j0 : Nat → (List ByteArray) → Nat → Int → Int → (List ByteArray) → Option ((List ByteArray))
 | 0, _, _, _, _, _ => none
 | k + 1, v0, v1, v2, v5, v4 => (bif decide (0 < v5) then ((inr (IntKind.i64.wrap (v5 - 1)) v1).bind fun v9 => ((v4[(Int.toNat (IntKind.i64.wrap (v5 - 1)))]?).bind fun v10 => ((ix v0 v2).bind fun v11 => (bif decide (v10 = v11) then (spec_l03Sort.l0 k v0 v1 (IntKind.i64.wrap (v2 + 1)) v4) else (spec_l03Sort.j1 k v0 v1 v2 v5 v4))))) else (spec_l03Sort.j1 k v0 v1 v2 v5 v4))
def spec_l03Sort.l1 : Nat → (List ByteArray) → Nat → Int → Int → (List ByteArray) → Option ((List ByteArray))
 | 0, _, _, _, _, _ => none
 | k + 1, v0, v1, v2, v5, v4 => (bif decide (0 < v5) then ((inr (IntKind.i64.wrap (v5 - 1)) v1).bind fun v6 => ((v4[(Int.toNat (IntKind.i64.wrap (v5 - 1)))]?).bind fun v7 => ((ix v0 v2).bind fun v8 => (bif slt v8 v7 then (spec_l03Sort.l1 k v0 v1 v2 (IntKind.i64.wrap (v5 - 1)) v4) else (spec_l03Sort.j0 k v0 v1 v2 v5 v4))))) else (spec_l03Sort.j0 k v0 v1 v2 v5 v4))
def spec_l03Sort.l0 : Nat → (List ByteArray) → Nat → Int → (List ByteArray) → Option ((List ByteArray))
 | 0, _, _, _, _ => none
 | k + 1, v0, v1, v2, v4 => (bif decide (v2 < (v0.length : Int)) then (spec_l03Sort.l1 k v0 v1 v2 (v1 : Int) v4) else (some (List.take v1 v4)))
def spec_l03Sort.f : Nat → (List ByteArray) → Option ((List ByteArray))
 | 0, _ => none
 | k + 1, v0 => (spec_l03Sort.l0 k v0 0 0 ([] : List ByteArray))
end
set_option maxRecDepth 100000 in
set_option maxHeartbeats 4000000 in
theorem spec_l03Sort.con {K : Kn} [KOk K] {k : Nat} {v0 : (List ByteArray)} {r : (List ByteArray)} (h : spec_l03Sort.f k v0 = some r) : Con K Try.prog 31 [.p (.lst false (List.map srw v0))] [] (.p (.lst false (List.map srw r))) [] := by
 cases k with
 | zero => exact absurd h (by simp [spec_l03Sort.f])
 | succ k =>
 rw [spec_l03Sort.f] at h
 refine con_intro 62 [58, 60] Try.func31 (by kernel_rfl) rfl rfl (by kernel_rfl) fun ι0 w0 hk0 => ?_
 revert h
 refine go 8 ?_
 refine adoptB_ 3 2603 1 ?_
 refine fun h => good_loop (fun n st => n ≤ k ∧ ∃ (v1 : _) (v2 : _) (v4 : _) (g3 : Nat), st = ⟨[(0, .p (.lst false (List.map srw v0))), (3, .buf 2603 g3 0 v1), (4, .p (.int .i64 v2))], [(2603, (g3, .buf 1 (List.map srw v4)))]⟩ ∧ spec_l03Sort.l0 n v0 v1 v2 v4 = some r) k ⟨_, ⟨Nat.le_refl _, _, _, _, 1, rfl, h⟩, frle_, memle_⟩ ?_
 clear h
 rintro n _ ⟨hkl0, v1, v2, v4, g3, rfl, h⟩ hl0
 cases n with
 | zero => exact absurd h (by simp [spec_l03Sort.l0])
 | succ kl0 =>
 rw [spec_l03Sort.l0] at h
 revert h
 refine bif_e (fun c1 => ?_) (fun c1 => ?_)
 ·refine go 11 ?_
  refine fun h => good_loop (fun n st => n ≤ kl0 ∧ ∃ (v5 : _), st = ⟨[(0, .p (.lst false (List.map srw v0))), (3, .buf 2603 g3 0 v1), (4, .p (.int .i64 v2)), (5, .p (.int .i64 v5))], [(2603, (g3, .buf 1 (List.map srw v4)))]⟩ ∧ spec_l03Sort.l1 n v0 v1 v2 v5 v4 = some r) kl0 ⟨_, ⟨Nat.le_refl _, _, rfl, h⟩, frle_, memle_⟩ ?_
  clear c1
  clear h
  rintro n _ ⟨hkl1, v5, rfl, h⟩ hl1
  cases n with
  | zero => exact absurd h (by simp [spec_l03Sort.l1])
  | succ kl1 =>
  rw [spec_l03Sort.l1] at h
  revert h
  refine go 2 ?_
  refine good_cut_f (fun st => ∃ (q_ : Nat), q_ ≤ kl1 ∧ st = ⟨[(0, .p (.lst false (List.map srw v0))), (3, .buf 2603 g3 0 v1), (4, .p (.int .i64 v2)), (5, .p (.int .i64 v5))], [(2603, (g3, .buf 1 (List.map srw v4)))]⟩ ∧ spec_l03Sort.j0 q_ v0 v1 v2 v5 v4 = some r) ?_ (fun hj0 => ?_)
  ·skip
   rintro _ ⟨q_, hqj0, rfl, h⟩
   cases q_ with
   | zero => exact absurd h (by simp [spec_l03Sort.j0])
   | succ kj0 =>
   rw [spec_l03Sort.j0] at h
   revert h
   refine go 3 ?_
   refine good_cut_f (fun st => ∃ (q_ : Nat), q_ ≤ kj0 ∧ st = ⟨[(0, .p (.lst false (List.map srw v0))), (3, .buf 2603 g3 0 v1), (4, .p (.int .i64 v2)), (5, .p (.int .i64 v5))], [(2603, (g3, .buf 1 (List.map srw v4)))]⟩ ∧ spec_l03Sort.j1 q_ v0 v1 v2 v5 v4 = some r) ?_ (fun hj1 => ?_)
   ·skip
    rintro _ ⟨q_, hqj1, rfl, h⟩
    cases q_ with
    | zero => exact absurd h (by simp [spec_l03Sort.j1])
    | succ kj1 =>
    rw [spec_l03Sort.j1] at h
    revert h
    refine bind_e (fun v12 e12 => ?_)
    refine go 2 ?_
    refine grs ?_
    refine gr_run ?_
    refine bind_e (fun v13 e13 => gr_call [(1000, (0, 2603, g3))] (spec_l01Texts_b.con e13) ?_)
    clear e13
    refine gr_run ?_
    refine gr_done ?_
    refine bind_e (fun v14 e14 => ?_)
    refine bind_e (fun v15 e15 => ?_)
    replace e15 := nf_ (ix_en srw e15)
    refine bind_e (fun v16 e16 => ?_)
    replace e16 := nf_ (app_en srw e16)
    refine bind_e (fun v17 e17 => ?_)
    replace e17 := nf_ (app_en srw e17)
    refine grs ?_
    refine gr_run ?_
    refine gr_done ?_
    refine go 2 ?_
    exact fun h => good_again hl0 (by omega) ⟨_, ⟨by omega, _, _, _, g3 + 2, rfl, h⟩, frle_, memle_⟩
   ·refine bif_e (fun c2 => ?_) (fun c2 => ?_)
    ·refine bind_e (fun v9 e9 => ?_)
     refine bind_e (fun v10 e10 => ?_)
     replace e10 := nf_ (gx_en srw e10)
     refine bind_e (fun v11 e11 => ?_)
     replace e11 := nf_ (ix_en srw e11)
     refine grs ?_
     refine gr_run ?_
     refine gr_done ?_
     refine bif_e (fun c3 => ?_) (fun c3 => ?_)
     ·refine go 3 ?_
      exact fun h => good_again hl0 (by omega) ⟨_, ⟨by omega, _, _, _, g3, rfl, h⟩, frle_, memle_⟩
     ·refine go 1 ?_
      exact fun h => good_jump hj1 ⟨_, ⟨_, by omega, rfl, h⟩, frle_, memle_⟩
    ·refine grs ?_
     refine gr_run ?_
     refine gr_done ?_
     refine go 1 ?_
     exact fun h => good_jump hj1 ⟨_, ⟨_, by omega, rfl, h⟩, frle_, memle_⟩
  ·refine bif_e (fun c4 => ?_) (fun c4 => ?_)
   ·refine bind_e (fun v6 e6 => ?_)
    refine bind_e (fun v7 e7 => ?_)
    replace e7 := nf_ (gx_en srw e7)
    refine bind_e (fun v8 e8 => ?_)
    replace e8 := nf_ (ix_en srw e8)
    refine grs ?_
    refine gr_run ?_
    refine gr_done ?_
    refine bif_e (fun c5 => ?_) (fun c5 => ?_)
    ·refine go 5 ?_
     exact fun h => good_again hl1 (by omega) ⟨_, ⟨by omega, _, rfl, h⟩, frle_, memle_⟩
    ·refine go 1 ?_
     exact fun h => good_jump hj0 ⟨_, ⟨_, by omega, rfl, h⟩, frle_, memle_⟩
   ·refine grs ?_
    refine gr_run ?_
    refine gr_done ?_
    refine go 1 ?_
    exact fun h => good_jump hj0 ⟨_, ⟨_, by omega, rfl, h⟩, frle_, memle_⟩
 ·refine go 7 ?_
  refine freeze_ 2 ?_
  refine ret_e (fun hr_ => ?_)
  subst hr_
  exact ret_ Try.func31 []
mutual
def spec_l12Vars.l0 : Nat → (List S64) → (List ByteArray) → Int → Option ((List ByteArray))
 | 0, _, _, _ => none
 | k + 1, v0, v1, v2 => (bif decide (v2 < (v0.length : Int)) then ((ix v0 v2).bind fun v5 => ((app v1 ([v5.f1, v5.f2] : List ByteArray)).bind fun v7 => (spec_l12Vars.l0 k v0 v7 (IntKind.i64.wrap (v2 + 1))))) else ((spec_l03Sort.f k v1).bind fun v4 => (some v4)))
def spec_l12Vars.f : Nat → (List S64) → Option ((List ByteArray))
 | 0, _ => none
 | k + 1, v0 => (spec_l12Vars.l0 k v0 ([] : List ByteArray) 0)
end
set_option maxRecDepth 100000 in
set_option maxHeartbeats 4000000 in
theorem spec_l12Vars.con {K : Kn} [KOk K] {k : Nat} {v0 : (List S64)} {r : (List ByteArray)} (h : spec_l12Vars.f k v0 = some r) : Con K Try.prog 40 [.p (.lst false (List.map en64 v0))] [] (.p (.lst false (List.map srw r))) [] := by
 cases k with
 | zero => exact absurd h (by simp [spec_l12Vars.f])
 | succ k =>
 rw [spec_l12Vars.f] at h
 refine con_intro 27 [] Try.func40 (by kernel_rfl) rfl rfl (by kernel_rfl) fun ι0 w0 hk0 => ?_
 revert h
 refine go 8 ?_
 refine adoptF_ 3 24 1 ?_
 refine fun h => good_loop (fun n st => n ≤ k ∧ ∃ (v1 : _) (v2 : _) (g3 : Nat), st = ⟨[(0, .p (.lst false (List.map en64 v0))), (3, .tip 24 g3 (List.map srw v1)), (4, .p (.int .i64 v2))], [(24, (g3, .tip 1 (v1).length))]⟩ ∧ spec_l12Vars.l0 n v0 v1 v2 = some r) k ⟨_, ⟨Nat.le_refl _, _, _, 1, rfl, h⟩, frle_, memle_⟩ ?_
 clear h
 rintro n _ ⟨hkl0, v1, v2, g3, rfl, h⟩ hl0
 cases n with
 | zero => exact absurd h (by simp [spec_l12Vars.l0])
 | succ kl0 =>
 rw [spec_l12Vars.l0] at h
 revert h
 refine bif_e (fun c1 => ?_) (fun c1 => ?_)
 ·refine bind_e (fun v5 e5 => ?_)
  replace e5 := nf_ (ix_en en64 e5)
  refine bind_e (fun v7 e7 => ?_)
  replace e7 := nf_ (app_en srw e7)
  refine go 7 ?_
  refine grs ?_
  refine gr_run ?_
  refine gr_done ?_
  refine go 2 ?_
  exact fun h => good_again hl0 (by omega) ⟨_, ⟨by omega, _, _, g3, rfl, h⟩, frle_, memle_⟩
 ·refine go 6 ?_
  refine grs ?_
  refine gr_run ?_
  refine bind_e (fun v4 e4 => gr_call [] (spec_l03Sort.con e4) ?_)
  clear e4
  refine gr_run ?_
  refine gr_done ?_
  refine ret_e (fun hr_ => ?_)
  subst hr_
  exact ret_ Try.func40 []
mutual
def spec_l01InTexts_bv.l0 : Nat → Nat → ByteArray → Int → (List ByteArray) → Option (Bool)
 | 0, _, _, _, _ => none
 | k + 1, v0, v1, v3, v2 => (bif decide (v3 < (v0 : Int)) then ((inr v3 v0).bind fun v4 => ((v2[(Int.toNat v3)]?).bind fun v5 => (bif decide (v5 = v1) then (some true) else (spec_l01InTexts_bv.l0 k v0 v1 (IntKind.i64.wrap (v3 + 1)) v2)))) else (some false))
def spec_l01InTexts_bv.f : Nat → Nat → ByteArray → (List ByteArray) → Option (Bool)
 | 0, _, _, _ => none
 | k + 1, v0, v1, v2 => (spec_l01InTexts_bv.l0 k v0 v1 0 v2)
end
set_option maxRecDepth 100000 in
set_option maxHeartbeats 4000000 in
theorem spec_l01InTexts_bv.con {K : Kn} [KOk K] {k : Nat} {v0 : Nat} {v1 : ByteArray} {v2 : (List ByteArray)} {r : Bool} (h : spec_l01InTexts_bv.f k v0 v1 v2 = some r) : Con K Try.prog 41 [.buf 1000 0 0 v0, .p (.str v1)] [(1000, (0, .buf 1 (List.map srw v2)))] (.p (.bool r)) [(1000, (0, .buf 1 (List.map srw v2)))] := by
 cases k with
 | zero => exact absurd h (by simp [spec_l01InTexts_bv.f])
 | succ k =>
 rw [spec_l01InTexts_bv.f] at h
 refine con_intro 18 [] Try.func41 (by kernel_rfl) rfl rfl (by kernel_rfl) fun ι0 w0 hk0 => ?_
 revert h
 refine go 6 ?_
 refine fun h => good_loop (fun n st => n ≤ k ∧ ∃ (v3 : _), st = ⟨[(0, .buf 1000 0 0 v0), (1, .p (.str v1)), (5, .p (.int .i64 v3))], [(1000, (0, .buf 1 (List.map srw v2)))]⟩ ∧ spec_l01InTexts_bv.l0 n v0 v1 v3 v2 = some r) k ⟨_, ⟨Nat.le_refl _, _, rfl, h⟩, frle_, memle_⟩ ?_
 clear h
 rintro n _ ⟨hkl0, v3, rfl, h⟩ hl0
 cases n with
 | zero => exact absurd h (by simp [spec_l01InTexts_bv.l0])
 | succ kl0 =>
 rw [spec_l01InTexts_bv.l0] at h
 revert h
 refine bif_e (fun c1 => ?_) (fun c1 => ?_)
 ·refine bind_e (fun v4 e4 => ?_)
  refine bind_e (fun v5 e5 => ?_)
  replace e5 := nf_ (gx_en srw e5)
  refine bif_e (fun c2 => ?_) (fun c2 => ?_)
  ·refine go 12 ?_
   refine ret_e (fun hr_ => ?_)
   subst hr_
   exact ret_ Try.func41 [(1000, (0, 1000, 0))]
  ·refine go 13 ?_
   exact fun h => good_again hl0 (by omega) ⟨_, ⟨by omega, _, rfl, h⟩, frle_, memle_⟩
 ·refine go 7 ?_
  refine ret_e (fun hr_ => ?_)
  subst hr_
  exact ret_ Try.func41 [(1000, (0, 1000, 0))]
mutual
def spec_l12Beside.j0 : Nat → (List S64) → ByteArray → (List ByteArray) → Int → Option ((List ByteArray))
 | 0, _, _, _, _ => none
 | k + 1, v0, v1, v2, v3 => ((ix v0 v3).bind fun v9 => (bif decide (v9.f2 = v1) then (bif decide (v9.f1 = v1) then (spec_l12Beside.l0 k v0 v1 v2 (IntKind.i64.wrap (v3 + 1))) else ((app v2 ([v9.f1] : List ByteArray)).bind fun v12 => (spec_l12Beside.l0 k v0 v1 v12 (IntKind.i64.wrap (v3 + 1))))) else (spec_l12Beside.l0 k v0 v1 v2 (IntKind.i64.wrap (v3 + 1)))))
def spec_l12Beside.l0 : Nat → (List S64) → ByteArray → (List ByteArray) → Int → Option ((List ByteArray))
 | 0, _, _, _, _ => none
 | k + 1, v0, v1, v2, v3 => (bif decide (v3 < (v0.length : Int)) then ((ix v0 v3).bind fun v7 => (bif decide (v7.f1 = v1) then (bif decide (v7.f2 = v1) then (spec_l12Beside.j0 k v0 v1 v2 v3) else ((app v2 ([v7.f2] : List ByteArray)).bind fun v14 => (spec_l12Beside.l0 k v0 v1 v14 (IntKind.i64.wrap (v3 + 1))))) else (spec_l12Beside.j0 k v0 v1 v2 v3))) else ((spec_l03Sort.f k v2).bind fun v6 => (some v6)))
def spec_l12Beside.f : Nat → (List S64) → ByteArray → Option ((List ByteArray))
 | 0, _, _ => none
 | k + 1, v0, v1 => (spec_l12Beside.l0 k v0 v1 ([] : List ByteArray) 0)
end
set_option maxRecDepth 100000 in
set_option maxHeartbeats 4000000 in
theorem spec_l12Beside.con {K : Kn} [KOk K] {k : Nat} {v0 : (List S64)} {v1 : ByteArray} {r : (List ByteArray)} (h : spec_l12Beside.f k v0 v1 = some r) : Con K Try.prog 66 [.p (.lst false (List.map en64 v0)), .p (.str v1)] [] (.p (.lst false (List.map srw r))) [] := by
 cases k with
 | zero => exact absurd h (by simp [spec_l12Beside.f])
 | succ k =>
 rw [spec_l12Beside.f] at h
 refine con_intro 66 [] Try.func66 (by kernel_rfl) rfl rfl (by kernel_rfl) fun ι0 w0 hk0 => ?_
 revert h
 refine go 8 ?_
 refine adoptF_ 5 38 1 ?_
 refine fun h => good_loop (fun n st => n ≤ k ∧ ∃ (v2 : _) (v3 : _) (g4 : Nat) (g5 : Nat), st = ⟨[(0, .p (.lst false (List.map en64 v0))), (1, .p (.str v1)), (5, .tip 38 g5 (List.map srw v2)), (6, .p (.int .i64 v3))], [(63, (g4, .gone)), (38, (g5, .tip 1 (v2).length))]⟩ ∧ spec_l12Beside.l0 n v0 v1 v2 v3 = some r) k ⟨_, ⟨Nat.le_refl _, _, _, 0, 1, rfl, h⟩, frle_, memle_⟩ ?_
 clear h
 rintro n _ ⟨hkl0, v2, v3, g4, g5, rfl, h⟩ hl0
 cases n with
 | zero => exact absurd h (by simp [spec_l12Beside.l0])
 | succ kl0 =>
 rw [spec_l12Beside.l0] at h
 revert h
 refine bif_e (fun c1 => ?_) (fun c1 => ?_)
 ·refine go 9 ?_
  refine good_cut_f (fun st => ∃ (q_ : Nat), q_ ≤ kl0 ∧ st = ⟨[(0, .p (.lst false (List.map en64 v0))), (1, .p (.str v1)), (5, .tip 38 g5 (List.map srw v2)), (6, .p (.int .i64 v3))], [(63, (g4, .gone)), (38, (g5, .tip 1 (v2).length))]⟩ ∧ spec_l12Beside.j0 q_ v0 v1 v2 v3 = some r) ?_ (fun hj0 => ?_)
  ·clear c1
   rintro _ ⟨q_, hqj0, rfl, h⟩
   cases q_ with
   | zero => exact absurd h (by simp [spec_l12Beside.j0])
   | succ kj0 =>
   rw [spec_l12Beside.j0] at h
   revert h
   refine bind_e (fun v9 e9 => ?_)
   replace e9 := nf_ (ix_en en64 e9)
   refine bif_e (fun c2 => ?_) (fun c2 => ?_)
   ·refine bif_e (fun c3 => ?_) (fun c3 => ?_)
    ·refine go 7 ?_
     exact fun h => good_again hl0 (by omega) ⟨_, ⟨by omega, _, _, g4, g5, rfl, h⟩, frle_, memle_⟩
    ·refine bind_e (fun v12 e12 => ?_)
     replace e12 := nf_ (app_en srw e12)
     refine go 7 ?_
     exact fun h => good_again hl0 (by omega) ⟨_, ⟨by omega, _, _, g4, g5, rfl, h⟩, frle_, memle_⟩
   ·refine go 7 ?_
    exact fun h => good_again hl0 (by omega) ⟨_, ⟨by omega, _, _, g4, g5, rfl, h⟩, frle_, memle_⟩
  ·refine bind_e (fun v7 e7 => ?_)
   replace e7 := nf_ (ix_en en64 e7)
   refine bif_e (fun c4 => ?_) (fun c4 => ?_)
   ·refine bif_e (fun c5 => ?_) (fun c5 => ?_)
    ·refine go 2 ?_
     exact fun h => good_jump hj0 ⟨_, ⟨_, by omega, rfl, h⟩, frle_, memle_⟩
    ·refine bind_e (fun v14 e14 => ?_)
     replace e14 := nf_ (app_en srw e14)
     refine go 6 ?_
     exact fun h => good_again hl0 (by omega) ⟨_, ⟨by omega, _, _, g4, g5, rfl, h⟩, frle_, memle_⟩
   ·refine go 2 ?_
    exact fun h => good_jump hj0 ⟨_, ⟨_, by omega, rfl, h⟩, frle_, memle_⟩
 ·refine go 6 ?_
  refine grs ?_
  refine gr_run ?_
  refine bind_e (fun v6 e6 => gr_call [] (spec_l03Sort.con e6) ?_)
  clear e6
  refine gr_run ?_
  refine gr_done ?_
  refine ret_e (fun hr_ => ?_)
  subst hr_
  exact ret_ Try.func66 []
mutual
def spec_l12Reach_vvvb_O.l0 : Nat → (List S64) → ByteArray → ByteArray → (List ByteArray) → (List ByteArray) → Int → Option ((List ByteArray) × Bool)
 | 0, _, _, _, _, _, _ => none
 | k + 1, v0, v1, v2, v8, v5, v6 => (bif decide (v6 < (v5.length : Int)) then ((ix v5 v6).bind fun v10 => (bif decide (v10 = v2) then (spec_l12Reach_vvvb_O.l0 k v0 v1 v2 v8 v5 (IntKind.i64.wrap (v6 + 1))) else ((spec_l01InTexts_bv.f k v8.length v10 v8).bind fun v12 => (bif v12 then (some (v8, false)) else ((spec_l12Reach_vvvb_O.f k v0 v10 v1 v8).bind fun v14 => (bif v14.2 then (spec_l12Reach_vvvb_O.l0 k v0 v1 v2 v14.1 v5 (IntKind.i64.wrap (v6 + 1))) else (some (v14.1, false)))))))) else (some (v8, true)))
def spec_l12Reach_vvvb_O.f : Nat → (List S64) → ByteArray → ByteArray → (List ByteArray) → Option ((List ByteArray) × Bool)
 | 0, _, _, _, _ => none
 | k + 1, v0, v1, v2, v3 => ((app v3 ([v1] : List ByteArray)).bind fun v4 => ((spec_l12Beside.f k v0 v1).bind fun v5 => (spec_l12Reach_vvvb_O.l0 k v0 v1 v2 v4 v5 0)))
end
def spec_l12Reach_vvvb_O.C (K : Kn) (k : Nat) : Prop := ∀ (v0 : (List S64)) (v1 : ByteArray) (v2 : ByteArray) (v3 : (List ByteArray)) (r : (List ByteArray) × Bool), spec_l12Reach_vvvb_O.f k v0 v1 v2 v3 = some r → Con K Try.prog 42 [.p (.lst false (List.map en64 v0)), .p (.str v1), .p (.str v2), .buf 1000 0 0 v3.length] [(1000, (0, .buf 1 (List.map srw v3)))] (.tup [.buf 2000 1 0 r.1.length, .p (.bool r.2)]) [(2000, (1, .buf 1 (List.map srw r.1))), (1000, (0, .gone))]
set_option maxRecDepth 100000 in
set_option maxHeartbeats 4000000 in
theorem spec_l12Reach_vvvb_O.con1 {K : Kn} [KOk K] (k : Nat) (spec_l12Reach_vvvb_O_ih : ∀ m, m < k → spec_l12Reach_vvvb_O.C K m) : spec_l12Reach_vvvb_O.C K k := by
 intro v0 v1 v2 v3 r h
 cases k with
 | zero => exact absurd h (by simp [spec_l12Reach_vvvb_O.f])
 | succ k =>
 rw [spec_l12Reach_vvvb_O.f] at h
 refine con_intro 56 [17] Try.func42 (by kernel_rfl) rfl rfl (by kernel_rfl) fun ι0 w0 hk0 => ?_
 revert h
 refine go 2 ?_
 refine moveB_ 3 2603 1000 ?_
 refine bind_e (fun v4 e4 => ?_)
 replace e4 := nf_ (app_en srw e4)
 refine go 3 ?_
 refine grs ?_
 refine gr_run ?_
 refine bind_e (fun v5 e5 => gr_call [] (spec_l12Beside.con e5) ?_)
 clear e5
 refine gr_run ?_
 refine gr_done ?_
 refine go 4 ?_
 refine fun h => good_loop (fun n st => n ≤ k ∧ ∃ (v6 : _) (v8 : _) (g7 : Nat) (g9 : Nat), st = ⟨[(0, .p (.lst false (List.map en64 v0))), (1, .p (.str v1)), (2, .p (.str v2)), (3, .buf 2603 g7 0 v8.length), (10, .p (.lst false (List.map srw v5))), (11, .p (.int .i64 v6))], [(1000, (0, .gone)), (2603, (g7, .buf 1 (List.map srw v8))), (48, (g9, .gone))]⟩ ∧ spec_l12Reach_vvvb_O.l0 n v0 v1 v2 v8 v5 v6 = some r) k ⟨_, ⟨Nat.le_refl _, _, _, 2, 0, rfl, h⟩, frle_, memle_⟩ ?_
 clear e4
 clear h
 rintro n _ ⟨hkl0, v6, v8, g7, g9, rfl, h⟩ hl0
 cases n with
 | zero => exact absurd h (by simp [spec_l12Reach_vvvb_O.l0])
 | succ kl0 =>
 rw [spec_l12Reach_vvvb_O.l0] at h
 revert h
 refine bif_e (fun c1 => ?_) (fun c1 => ?_)
 ·refine bind_e (fun v10 e10 => ?_)
  replace e10 := nf_ (ix_en srw e10)
  refine bif_e (fun c2 => ?_) (fun c2 => ?_)
  ·refine go 13 ?_
   exact fun h => good_again hl0 (by omega) ⟨_, ⟨by omega, _, _, g7, g9, rfl, h⟩, frle_, memle_⟩
  ·refine go 14 ?_
   refine grs ?_
   refine gr_run ?_
   refine bind_e (fun v12 e12 => gr_call [(1000, (0, 2603, g7))] (spec_l01InTexts_bv.con e12) ?_)
   clear e12
   refine gr_done ?_
   refine bif_e (fun c3 => ?_) (fun c3 => ?_)
   ·refine go 3 ?_
    refine ret_e (fun hr_ => ?_)
    subst hr_
    exact ret_ Try.func42 [(2000, (1, 2603, g7)), (1000, (0, 1000, 0))]
   ·refine go 3 ?_
    refine grs ?_
    refine gr_run ?_
    refine bind_e (fun v14 e14 => gr_call [(2000, (1, 48, g9 + 1)), (1000, (0, 2603, g7))] (spec_l12Reach_vvvb_O_ih _ (by omega) _ _ _ _ _ e14) ?_)
    clear e14
    refine gr_run ?_
    refine gr_done ?_
    refine bif_e (fun c4 => ?_) (fun c4 => ?_)
    ·refine go 6 ?_
     refine moveB_ 3 2603 48 ?_
     refine go 2 ?_
     exact fun h => good_again hl0 (by omega) ⟨_, ⟨by omega, _, _, g7 + 1, g9 + 1, rfl, h⟩, frle_, memle_⟩
    ·refine go 6 ?_
     refine ret_e (fun hr_ => ?_)
     subst hr_
     exact ret_ Try.func42 [(2000, (1, 48, g9 + 1)), (1000, (0, 1000, 0))]
 ·refine go 7 ?_
  refine ret_e (fun hr_ => ?_)
  subst hr_
  exact ret_ Try.func42 [(2000, (1, 2603, g7)), (1000, (0, 1000, 0))]
theorem spec_l12Reach_vvvb_O.all {K : Kn} [KOk K] (k : Nat) : spec_l12Reach_vvvb_O.C K k := by
 induction k using Nat.strongRecOn with
 | _ k ih => exact spec_l12Reach_vvvb_O.con1 k ih
theorem spec_l12Reach_vvvb_O.con {K : Kn} [KOk K] {k : Nat} {v0 : (List S64)} {v1 : ByteArray} {v2 : ByteArray} {v3 : (List ByteArray)} {r : (List ByteArray) × Bool} (h : spec_l12Reach_vvvb_O.f k v0 v1 v2 v3 = some r) : Con K Try.prog 42 [.p (.lst false (List.map en64 v0)), .p (.str v1), .p (.str v2), .buf 1000 0 0 v3.length] [(1000, (0, .buf 1 (List.map srw v3)))] (.tup [.buf 2000 1 0 r.1.length, .p (.bool r.2)]) [(2000, (1, .buf 1 (List.map srw r.1))), (1000, (0, .gone))] := (spec_l12Reach_vvvb_O.all k) _ _ _ _ r h
mutual
def spec_IsTree.l0 : Nat → (List S64) → (List ByteArray) → (List ByteArray) → Int → Option (Bool)
 | 0, _, _, _, _ => none
 | k + 1, v0, v2, v5, v3 => (bif decide (v3 < (v2.length : Int)) then ((ix v2 v3).bind fun v7 => ((spec_l01InTexts_bv.f k v5.length v7 v5).bind fun v8 => (bif v8 then (spec_IsTree.l0 k v0 v2 v5 (IntKind.i64.wrap (v3 + 1))) else ((spec_l12Reach_vvvb_O.f k v0 v7 (⟨#[]⟩ : ByteArray) v5).bind fun v10 => (bif v10.2 then (spec_IsTree.l0 k v0 v2 v10.1 (IntKind.i64.wrap (v3 + 1))) else (some false)))))) else (some true))
def spec_IsTree.f : Nat → (List S64) → Option (Bool)
 | 0, _ => none
 | k + 1, v0 => ((spec_AtomsFault.f k v0).bind fun v1 => (bif (v1 == 0) then ((spec_l12Vars.f k v0).bind fun v2 => (spec_IsTree.l0 k v0 v2 ([] : List ByteArray) 0)) else (some false)))
end
set_option maxRecDepth 100000 in
set_option maxHeartbeats 4000000 in
theorem spec_IsTree.con {K : Kn} [KOk K] {k : Nat} {v0 : (List S64)} {r : Bool} (h : spec_IsTree.f k v0 = some r) : Con K Try.prog 17 [.p (.lst false (List.map en64 v0))] [] (.p (.bool r)) [] := by
 cases k with
 | zero => exact absurd h (by simp [spec_IsTree.f])
 | succ k =>
 rw [spec_IsTree.f] at h
 refine con_intro 39 [] Try.func17 (by kernel_rfl) rfl rfl (by kernel_rfl) fun ι0 w0 hk0 => ?_
 revert h
 refine go 4 ?_
 refine grs ?_
 refine gr_run ?_
 refine bind_e (fun v1 e1 => gr_call [] (spec_AtomsFault.con e1) ?_)
 clear e1
 refine gr_run ?_
 refine gr_done ?_
 refine bif_e (fun c1 => ?_) (fun c1 => ?_)
 ·refine go 3 ?_
  refine grs ?_
  refine gr_run ?_
  refine bind_e (fun v2 e2 => gr_call [] (spec_l12Vars.con e2) ?_)
  clear e2
  refine gr_run ?_
  refine gr_done ?_
  refine go 2 ?_
  refine adoptB_ 4 2604 1 ?_
  refine go 4 ?_
  refine fun h => good_loop (fun n st => n ≤ k ∧ ∃ (v3 : _) (v5 : _) (g4 : Nat) (g6 : Nat), st = ⟨[(0, .p (.lst false (List.map en64 v0))), (3, .p (.lst false (List.map srw v2))), (4, .buf 2604 g4 0 v5.length), (5, .p (.int .i64 v3))], [(2604, (g4, .buf 1 (List.map srw v5))), (33, (g6, .gone))]⟩ ∧ spec_IsTree.l0 n v0 v2 v5 v3 = some r) k ⟨_, ⟨Nat.le_refl _, _, _, 1, 0, rfl, h⟩, frle_, memle_⟩ ?_
  clear c1
  clear h
  rintro n _ ⟨hkl0, v3, v5, g4, g6, rfl, h⟩ hl0
  cases n with
  | zero => exact absurd h (by simp [spec_IsTree.l0])
  | succ kl0 =>
  rw [spec_IsTree.l0] at h
  revert h
  refine bif_e (fun c2 => ?_) (fun c2 => ?_)
  ·refine bind_e (fun v7 e7 => ?_)
   replace e7 := nf_ (ix_en srw e7)
   refine go 9 ?_
   refine grs ?_
   refine gr_run ?_
   refine bind_e (fun v8 e8 => gr_call [(1000, (0, 2604, g4))] (spec_l01InTexts_bv.con e8) ?_)
   clear e8
   refine gr_done ?_
   refine bif_e (fun c3 => ?_) (fun c3 => ?_)
   ·refine go 3 ?_
    exact fun h => good_again hl0 (by omega) ⟨_, ⟨by omega, _, _, g4, g6, rfl, h⟩, frle_, memle_⟩
   ·refine go 3 ?_
    refine grs ?_
    refine gr_run ?_
    refine bind_e (fun v10 e10 => gr_call [(2000, (1, 33, g6 + 1)), (1000, (0, 2604, g4))] (spec_l12Reach_vvvb_O.con e10) ?_)
    clear e10
    refine gr_run ?_
    refine gr_done ?_
    refine bif_e (fun c4 => ?_) (fun c4 => ?_)
    ·refine go 6 ?_
     refine moveB_ 4 2604 33 ?_
     refine go 2 ?_
     exact fun h => good_again hl0 (by omega) ⟨_, ⟨by omega, _, _, g4 + 1, g6 + 1, rfl, h⟩, frle_, memle_⟩
    ·refine go 6 ?_
     refine ret_e (fun hr_ => ?_)
     subst hr_
     exact ret_ Try.func17 []
  ·refine go 7 ?_
   refine ret_e (fun hr_ => ?_)
   subst hr_
   exact ret_ Try.func17 []
 ·refine go 3 ?_
  refine ret_e (fun hr_ => ?_)
  subst hr_
  exact ret_ Try.func17 []
end Go.Ab
