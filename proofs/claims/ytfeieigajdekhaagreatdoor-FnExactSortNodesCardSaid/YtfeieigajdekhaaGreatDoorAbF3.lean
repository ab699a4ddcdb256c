/- What the functions compute, and their contracts, part 3. No condition beyond KOk. -/
import Derived.Test.YtfeieigajdekhaaGreatDoorAbX
import Derived.Test.YtfeieigajdekhaaGreatDoorAbF2
namespace Go.Ab
open Go.Proofs
set_option linter.unusedVariables false
set_option linter.unusedSimpArgs false
def spec_l01Reader_thing.f (k : Nat) (v0 : Int) (v1 : S111) : Option (S100 × S111) := ((spec_l01Reader_number.f k v1).bind fun v2 => (bif decide (v2.1 < 1) then (some ((⟨v0, v2.1, 0, (⟨#[]⟩ : ByteArray), ([] : (List S100)), ([] : (List ByteArray))⟩ : S100), (⟨v2.2.f0, v2.2.f1, true⟩ : S111))) else (bif decide (1000000000000 < v2.1) then (some ((⟨v0, v2.1, 0, (⟨#[]⟩ : ByteArray), ([] : (List S100)), ([] : (List ByteArray))⟩ : S100), (⟨v2.2.f0, v2.2.f1, true⟩ : S111))) else (some ((⟨v0, v2.1, 0, (⟨#[]⟩ : ByteArray), ([] : (List S100)), ([] : (List ByteArray))⟩ : S100), v2.2)))))
set_option maxRecDepth 100000 in
set_option maxHeartbeats 4000000 in
theorem spec_l01Reader_thing.con {K : Kn} [KOk K] {k : Nat} {v0 : Int} {v1 : S111} {r : S100 × S111} (h : spec_l01Reader_thing.f k v0 v1 = some r) : Con K Tryz.prog 75 [.ptr 1000 0 0, .p (.int .i64 v0)] [(1000, (0, .cells [.p (.str v1.f0), .p (.int .i64 v1.f1), .p (.bool v1.f2)]))] (.agg [.p (.int .i64 r.1.f0), .p (.int .i64 r.1.f1), .p (.int .i64 r.1.f2), .p (.str r.1.f3), .p (.lst false (List.map en100 r.1.f4)), .p (.lst false (List.map srw r.1.f5))]) [(1000, (0, .cells [.p (.str r.2.f0), .p (.int .i64 r.2.f1), .p (.bool r.2.f2)]))] := by
 rw [spec_l01Reader_thing.f] at h
 refine con_intro 20 [] Tryz.func75 (by kernel_rfl) rfl rfl (by kernel_rfl) fun ι0 w0 hk0 => ?_
 revert h
 refine go 3 ?_
 refine grs ?_
 refine gr_run ?_
 refine bind_e (fun v2 e2 => gr_call [(1000, (0, 1000, 0))] (spec_l01Reader_number.con e2) ?_)
 clear e2
 refine gr_run ?_
 refine gr_done ?_
 refine bif_e (fun c1 => ?_) (fun c1 => ?_)
 ·refine go 7 ?_
  refine ret_e (fun hr_ => ?_)
  subst hr_
  exact ret_ Tryz.func75 [(1000, (0, 1000, 0))]
 ·refine bif_e (fun c2 => ?_) (fun c2 => ?_)
  ·refine go 7 ?_
   refine ret_e (fun hr_ => ?_)
   subst hr_
   exact ret_ Tryz.func75 [(1000, (0, 1000, 0))]
  ·refine go 7 ?_
   refine ret_e (fun hr_ => ?_)
   subst hr_
   exact ret_ Tryz.func75 [(1000, (0, 1000, 0))]
mutual
def spec_l01Reader_path.j0 : Nat → ByteArray → Int → ByteArray → Int → (List S100) → Option (S100 × S111)
 | 0, _, _, _, _, _ => none
 | k + 1, v7, v8, v1, v2, v4 => ((spec_l01Reader_takes.f k v7 (⟨v1, v2, false⟩ : S111)).bind fun v9 => (bif v9.1 then ((spec_l01Reader_thing.f k v8 v9.2).bind fun v11 => ((app v4 ([v11.1] : List S100)).bind fun v12 => (bif (v8 == 8) then ((spec_l01Reader_takes.f k (⟨#[62]⟩ : ByteArray) v11.2).bind fun v13 => (bif v13.1 then (some ((⟨10, 0, 0, (⟨#[]⟩ : ByteArray), v12, ([] : (List ByteArray))⟩ : S100), v13.2)) else ((spec_l01Reader_takes.f k (⟨#[32]⟩ : ByteArray) v13.2).bind fun v14 => (bif v14.1 then (spec_l01Reader_path.l0 k v14.2.f0 v14.2.f1 v14.2.f2 v12) else ((spec_l01Reader_fail.f k v14.2).bind fun v15 => (some (v15.1, v15.2))))))) else ((spec_l01Reader_takes.f k (⟨#[32]⟩ : ByteArray) v11.2).bind fun v16 => (bif v16.1 then (spec_l01Reader_path.l0 k v16.2.f0 v16.2.f1 v16.2.f2 v12) else ((spec_l01Reader_fail.f k v16.2).bind fun v17 => (some (v17.1, v17.2)))))))) else ((spec_l01Reader_fail.f k v9.2).bind fun v10 => (some (v10.1, v10.2)))))
def spec_l01Reader_path.l0 : Nat → ByteArray → Int → Bool → (List S100) → Option (S100 × S111)
 | 0, _, _, _, _ => none
 | k + 1, v1, v2, v3, v4 => (bif v3 then (some ((⟨10, 0, 0, (⟨#[]⟩ : ByteArray), v4, ([] : (List ByteArray))⟩ : S100), (⟨v1, v2, v3⟩ : S111))) else ((rem (v4.length : Int) 2).bind fun v6 => (bif (v6 == 1) then (spec_l01Reader_path.j0 k (⟨#[101]⟩ : ByteArray) 9 v1 v2 v4) else (spec_l01Reader_path.j0 k (⟨#[110]⟩ : ByteArray) 8 v1 v2 v4))))
def spec_l01Reader_path.f : Nat → S111 → Option (S100 × S111)
 | 0, _ => none
 | k + 1, v0 => (spec_l01Reader_path.l0 k v0.f0 v0.f1 v0.f2 [])
end
set_option maxRecDepth 100000 in
set_option maxHeartbeats 4000000 in
theorem spec_l01Reader_path.con {K : Kn} [KOk K] {k : Nat} {v0 : S111} {r : S100 × S111} (h : spec_l01Reader_path.f k v0 = some r) : Con K Tryz.prog 76 [.ptr 1000 0 0] [(1000, (0, .cells [.p (.str v0.f0), .p (.int .i64 v0.f1), .p (.bool v0.f2)]))] (.agg [.p (.int .i64 r.1.f0), .p (.int .i64 r.1.f1), .p (.int .i64 r.1.f2), .p (.str r.1.f3), .p (.lst false (List.map en100 r.1.f4)), .p (.lst false (List.map srw r.1.f5))]) [(1000, (0, .cells [.p (.str r.2.f0), .p (.int .i64 r.2.f1), .p (.bool r.2.f2)]))] := by
 cases k with
 | zero => exact absurd h (by simp [spec_l01Reader_path.f])
 | succ k =>
 rw [spec_l01Reader_path.f] at h
 refine con_intro 44 [] Tryz.func76 (by kernel_rfl) rfl rfl (by kernel_rfl) fun ι0 w0 hk0 => ?_
 revert h
 refine go 6 ?_
 refine adoptc_ 3 4 29 6 ?_
 refine fun h => good_loop (fun n st => n ≤ k ∧ ∃ (v1 : _) (v2 : _) (v3 : _) (v4 : _) (g5 : Nat), st = ⟨[(0, .ptr 1000 0 0), (2, .ptr 2 1 0), (3, .ptr 3 1 0)], [(1000, (0, .cells [.p (.str v1), .p (.int .i64 v2), .p (.bool v3)])), (2, (1, .cells [.p (.int .i64 0), .p (.int .i64 0), .p (.int .i64 0), .p (.str (⟨#[]⟩ : ByteArray)), .p .nilS, .p .nilS])), (3, (1, .cells [.p (.int .i64 10), .p (.int .i64 0), .p (.int .i64 0), .p (.str (⟨#[]⟩ : ByteArray)), .tip 29 g5 (List.map en100 v4), .p .nilS])), (29, (g5, .tip 6 (v4).length))]⟩ ∧ spec_l01Reader_path.l0 n v1 v2 v3 v4 = some r) k ⟨_, ⟨Nat.le_refl _, _, _, _, _, 1, rfl, h⟩, frle_, memle_⟩ ?_
 clear h
 rintro n _ ⟨hkl0, v1, v2, v3, v4, g5, rfl, h⟩ hl0
 cases n with
 | zero => exact absurd h (by simp [spec_l01Reader_path.l0])
 | succ kl0 =>
 rw [spec_l01Reader_path.l0] at h
 revert h
 refine bif_e (fun c1 => ?_) (fun c1 => ?_)
 ·refine go 7 ?_
  refine ret_e (fun hr_ => ?_)
  subst hr_
  exact ret_ Tryz.func76 [(1000, (0, 1000, 0))]
 ·refine go 11 ?_
  refine good_cut (fun st => ∃ (v7 : _) (v8 : _) (q_ : Nat), q_ ≤ kl0 ∧ st = ⟨[(0, .ptr 1000 0 0), (2, .ptr 2 1 0), (3, .ptr 3 1 0), (4, .p (.str v7)), (5, .p (.int .i64 v8))], [(1000, (0, .cells [.p (.str v1), .p (.int .i64 v2), .p (.bool false)])), (2, (1, .cells [.p (.int .i64 0), .p (.int .i64 0), .p (.int .i64 0), .p (.str (⟨#[]⟩ : ByteArray)), .p .nilS, .p .nilS])), (3, (1, .cells [.p (.int .i64 10), .p (.int .i64 0), .p (.int .i64 0), .p (.str (⟨#[]⟩ : ByteArray)), .tip 29 g5 (List.map en100 v4), .p .nilS])), (29, (g5, .tip 6 (v4).length))]⟩ ∧ spec_l01Reader_path.j0 q_ v7 v8 v1 v2 v4 = some r) ?_ (fun hj0 => ?_)
  ·clear c1
   rintro _ ⟨v7, v8, q_, hqj0, rfl, h⟩
   cases q_ with
   | zero => exact absurd h (by simp [spec_l01Reader_path.j0])
   | succ kj0 =>
   rw [spec_l01Reader_path.j0] at h
   revert h
   refine go 2 ?_
   refine grs ?_
   refine gr_run ?_
   refine bind_e (fun v9 e9 => gr_call [(1000, (0, 1000, 0))] (spec_l01Reader_takes.con e9) ?_)
   clear e9
   refine gr_run ?_
   refine gr_done ?_
   refine bif_e (fun c2 => ?_) (fun c2 => ?_)
   ·refine go 3 ?_
    refine grs ?_
    refine gr_run ?_
    refine bind_e (fun v11 e11 => gr_call [(1000, (0, 1000, 0))] (spec_l01Reader_thing.con e11) ?_)
    clear e11
    refine bind_e (fun v12 e12 => ?_)
    replace e12 := nf_ (app_en en100 e12)
    refine gr_run ?_
    refine gr_done ?_
    refine bif_e (fun c3 => ?_) (fun c3 => ?_)
    ·refine go 2 ?_
     refine grs ?_
     refine gr_run ?_
     refine bind_e (fun v13 e13 => gr_call [(1000, (0, 1000, 0))] (spec_l01Reader_takes.con e13) ?_)
     clear e13
     refine gr_run ?_
     refine gr_done ?_
     refine bif_e (fun c4 => ?_) (fun c4 => ?_)
     ·refine go 3 ?_
      refine ret_e (fun hr_ => ?_)
      subst hr_
      exact ret_ Tryz.func76 [(1000, (0, 1000, 0))]
     ·refine go 3 ?_
      refine grs ?_
      refine gr_run ?_
      refine bind_e (fun v14 e14 => gr_call [(1000, (0, 1000, 0))] (spec_l01Reader_takes.con e14) ?_)
      clear e14
      refine gr_run ?_
      refine gr_done ?_
      refine bif_e (fun c5 => ?_) (fun c5 => ?_)
      ·refine go 3 ?_
       exact fun h => good_again hl0 (by omega) ⟨_, ⟨by omega, _, _, _, _, g5, rfl, h⟩, frle_, memle_⟩
      ·refine go 2 ?_
       refine grs ?_
       refine gr_run ?_
       refine bind_e (fun v15 e15 => gr_call [(1000, (0, 1000, 0))] (spec_l01Reader_fail.con e15) ?_)
       clear e15
       refine gr_run ?_
       refine gr_done ?_
       refine ret_e (fun hr_ => ?_)
       subst hr_
       exact ret_ Tryz.func76 [(1000, (0, 1000, 0))]
    ·refine go 6 ?_
     refine grs ?_
     refine gr_run ?_
     refine bind_e (fun v16 e16 => gr_call [(1000, (0, 1000, 0))] (spec_l01Reader_takes.con e16) ?_)
     clear e16
     refine gr_run ?_
     refine gr_done ?_
     refine bif_e (fun c6 => ?_) (fun c6 => ?_)
     ·refine go 3 ?_
      exact fun h => good_again hl0 (by omega) ⟨_, ⟨by omega, _, _, _, _, g5, rfl, h⟩, frle_, memle_⟩
     ·refine go 2 ?_
      refine grs ?_
      refine gr_run ?_
      refine bind_e (fun v17 e17 => gr_call [(1000, (0, 1000, 0))] (spec_l01Reader_fail.con e17) ?_)
      clear e17
      refine gr_run ?_
      refine gr_done ?_
      refine ret_e (fun hr_ => ?_)
      subst hr_
      exact ret_ Tryz.func76 [(1000, (0, 1000, 0))]
   ·refine go 2 ?_
    refine grs ?_
    refine gr_run ?_
    refine bind_e (fun v10 e10 => gr_call [(1000, (0, 1000, 0))] (spec_l01Reader_fail.con e10) ?_)
    clear e10
    refine gr_run ?_
    refine gr_done ?_
    refine ret_e (fun hr_ => ?_)
    subst hr_
    exact ret_ Tryz.func76 [(1000, (0, 1000, 0))]
  ·refine bind_e (fun v6 e6 => ?_)
   refine bif_e (fun c7 => ?_) (fun c7 => ?_)
   ·refine go 6 ?_
    exact fun h => good_jump hj0 ⟨_, ⟨_, _, _, by omega, rfl, h⟩, frle_, memle_⟩
   ·refine go 4 ?_
    exact fun h => good_jump hj0 ⟨_, ⟨_, _, _, by omega, rfl, h⟩, frle_, memle_⟩
mutual
def spec_l01Reader_name.j0 : Nat → S111 → Int → Option (ByteArray × S111)
 | 0, _, _ => none
 | k + 1, v0, v1 => (spec_l01Reader_name.l0 k v0 (IntKind.i64.wrap (v1 + 1)))
def spec_l01Reader_name.j1 : Nat → S111 → Int → Option (ByteArray × S111)
 | 0, _, _ => none
 | k + 1, v0, v1 => ((sub v0.f0 v0.f1 v1).bind fun v7 => ((spec_l01Name.f k v7).bind fun v8 => (bif v8 then (some (v7, (⟨v0.f0, v1, v0.f2⟩ : S111))) else (some (v7, (⟨v0.f0, v1, true⟩ : S111))))))
def spec_l01Reader_name.l0 : Nat → S111 → Int → Option (ByteArray × S111)
 | 0, _, _ => none
 | k + 1, v0, v1 => (bif decide (v1 < (v0.f0.size : Int)) then ((bix v0.f0 v1).bind fun v2 => ((spec_l01Letter.f k v2).bind fun v3 => (bif v3 then (spec_l01Reader_name.j0 k v0 v1) else ((spec_l01Digit.f k v2).bind fun v5 => (bif v5 then (spec_l01Reader_name.j0 k v0 v1) else (bif (v2 == 95) then (spec_l01Reader_name.j0 k v0 v1) else (spec_l01Reader_name.j1 k v0 v1))))))) else (spec_l01Reader_name.j1 k v0 v1))
def spec_l01Reader_name.f : Nat → S111 → Option (ByteArray × S111)
 | 0, _ => none
 | k + 1, v0 => (spec_l01Reader_name.l0 k v0 v0.f1)
end
set_option maxRecDepth 100000 in
set_option maxHeartbeats 4000000 in
theorem spec_l01Reader_name.con {K : Kn} [KOk K] {k : Nat} {v0 : S111} {r : ByteArray × S111} (h : spec_l01Reader_name.f k v0 = some r) : Con K Tryz.prog 94 [.ptr 1000 0 0] [(1000, (0, .cells [.p (.str v0.f0), .p (.int .i64 v0.f1), .p (.bool v0.f2)]))] (.p (.str r.1)) [(1000, (0, .cells [.p (.str r.2.f0), .p (.int .i64 r.2.f1), .p (.bool r.2.f2)]))] := by
 cases k with
 | zero => exact absurd h (by simp [spec_l01Reader_name.f])
 | succ k =>
 rw [spec_l01Reader_name.f] at h
 refine con_intro 87 [] Tryz.func94 (by kernel_rfl) rfl rfl (by kernel_rfl) fun ι0 w0 hk0 => ?_
 revert h
 refine go 6 ?_
 refine fun h => good_loop (fun n st => n ≤ k ∧ ∃ (v1 : _), st = ⟨[(0, .ptr 1000 0 0), (3, .p (.int .i64 v0.f1))], [(1000, (0, .cells [.p (.str v0.f0), .p (.int .i64 v1), .p (.bool v0.f2)]))]⟩ ∧ spec_l01Reader_name.l0 n v0 v1 = some r) k ⟨_, ⟨Nat.le_refl _, _, rfl, h⟩, frle_, memle_⟩ ?_
 clear h
 rintro n _ ⟨hkl0, v1, rfl, h⟩ hl0
 cases n with
 | zero => exact absurd h (by simp [spec_l01Reader_name.l0])
 | succ kl0 =>
 rw [spec_l01Reader_name.l0] at h
 revert h
 refine go 2 ?_
 refine good_cut_t (fun st => ∃ (q_ : Nat), q_ ≤ kl0 ∧ st = ⟨[(0, .ptr 1000 0 0), (3, .p (.int .i64 v0.f1))], [(1000, (0, .cells [.p (.str v0.f0), .p (.int .i64 v1), .p (.bool v0.f2)]))]⟩ ∧ spec_l01Reader_name.j0 q_ v0 v1 = some r) ?_ (fun hj0 => ?_)
 ·skip
  rintro _ ⟨q_, hqj0, rfl, h⟩
  cases q_ with
  | zero => exact absurd h (by simp [spec_l01Reader_name.j0])
  | succ kj0 =>
  rw [spec_l01Reader_name.j0] at h
  revert h
  refine go 4 ?_
  exact fun h => good_again hl0 (by omega) ⟨_, ⟨by omega, _, rfl, h⟩, frle_, memle_⟩
 ·refine good_cut_f (fun st => ∃ (q_ : Nat), q_ ≤ kl0 ∧ st = ⟨[(0, .ptr 1000 0 0), (3, .p (.int .i64 v0.f1))], [(1000, (0, .cells [.p (.str v0.f0), .p (.int .i64 v1), .p (.bool v0.f2)]))]⟩ ∧ spec_l01Reader_name.j1 q_ v0 v1 = some r) ?_ (fun hj1 => ?_)
  ·skip
   rintro _ ⟨q_, hqj1, rfl, h⟩
   cases q_ with
   | zero => exact absurd h (by simp [spec_l01Reader_name.j1])
   | succ kj1 =>
   rw [spec_l01Reader_name.j1] at h
   revert h
   refine bind_e (fun v7 e7 => ?_)
   refine go 3 ?_
   refine grs ?_
   refine gr_run ?_
   refine bind_e (fun v8 e8 => gr_call [] (spec_l01Name.con e8) ?_)
   clear e8
   refine gr_run ?_
   refine gr_done ?_
   refine bif_e (fun c1 => ?_) (fun c1 => ?_)
   ·refine go 3 ?_
    refine grs ?_
    refine gr_run ?_
    refine gr_done ?_
    refine ret_e (fun hr_ => ?_)
    subst hr_
    exact ret_ Tryz.func94 [(1000, (0, 1000, 0))]
   ·refine go 3 ?_
    refine grs ?_
    refine gr_run ?_
    refine gr_done ?_
    refine ret_e (fun hr_ => ?_)
    subst hr_
    exact ret_ Tryz.func94 [(1000, (0, 1000, 0))]
  ·refine bif_e (fun c2 => ?_) (fun c2 => ?_)
   ·refine bind_e (fun v2 e2 => ?_)
    refine grs ?_
    refine gr_run ?_
    refine bind_e (fun v3 e3 => gr_call [] (spec_l01Letter.con e3) ?_)
    clear e3
    refine bif_e (fun c3 => ?_) (fun c3 => ?_)
    ·refine gr_run ?_
     refine gr_done ?_
     refine go 1 ?_
     exact fun h => good_jump hj0 ⟨_, ⟨_, by omega, rfl, h⟩, frle_, memle_⟩
    ·refine gr_run ?_
     refine bind_e (fun v5 e5 => gr_call [] (spec_l01Digit.con e5) ?_)
     clear e5
     refine bif_e (fun c4 => ?_) (fun c4 => ?_)
     ·refine gr_run ?_
      refine gr_done ?_
      refine go 1 ?_
      exact fun h => good_jump hj0 ⟨_, ⟨_, by omega, rfl, h⟩, frle_, memle_⟩
     ·refine gr_run ?_
      refine gr_done ?_
      refine bif_e (fun c5 => ?_) (fun c5 => ?_)
      ·refine go 1 ?_
       exact fun h => good_jump hj0 ⟨_, ⟨_, by omega, rfl, h⟩, frle_, memle_⟩
      ·refine go 1 ?_
       exact fun h => good_jump hj1 ⟨_, ⟨_, by omega, rfl, h⟩, frle_, memle_⟩
   ·refine grs ?_
    refine gr_run ?_
    refine gr_done ?_
    refine go 1 ?_
    exact fun h => good_jump hj1 ⟨_, ⟨_, by omega, rfl, h⟩, frle_, memle_⟩
mutual
def spec_l01Reader_list.l0 : Nat → Int → ByteArray → Int → Bool → (List S100) → Option (S100 × S111)
 | 0, _, _, _, _, _ => none
 | k + 1, v0, v3, v4, v5, v6 => (bif v5 then (some ((⟨6, 0, 0, (⟨#[]⟩ : ByteArray), v6, ([] : (List ByteArray))⟩ : S100), (⟨v3, v4, v5⟩ : S111))) else ((spec_l01Reader_value.f k (IntKind.i64.wrap (v0 + 1)) (⟨v3, v4, v5⟩ : S111)).bind fun v8 => ((app v6 ([v8.1] : List S100)).bind fun v9 => ((spec_l01Reader_takes.f k (⟨#[93]⟩ : ByteArray) v8.2).bind fun v10 => (bif v10.1 then (some ((⟨6, 0, 0, (⟨#[]⟩ : ByteArray), v9, ([] : (List ByteArray))⟩ : S100), v10.2)) else ((spec_l01Reader_takes.f k (⟨#[44]⟩ : ByteArray) v10.2).bind fun v11 => (bif v11.1 then (spec_l01Reader_list.l0 k v0 v11.2.f0 v11.2.f1 v11.2.f2 v9) else ((spec_l01Reader_fail.f k v11.2).bind fun v12 => (some (v12.1, v12.2))))))))))
def spec_l01Reader_list.f : Nat → Int → S111 → Option (S100 × S111)
 | 0, _, _ => none
 | k + 1, v0, v1 => ((spec_l01Reader_takes.f k (⟨#[93]⟩ : ByteArray) v1).bind fun v2 => (bif v2.1 then (some ((⟨6, 0, 0, (⟨#[]⟩ : ByteArray), ([] : (List S100)), ([] : (List ByteArray))⟩ : S100), v2.2)) else (spec_l01Reader_list.l0 k v0 v2.2.f0 v2.2.f1 v2.2.f2 [])))
def spec_l01Reader_value.j0 : Nat → (Int × S111) → ByteArray → Int → Bool → Option (S100 × S111)
 | 0, _, _, _, _ => none
 | k + 1, v12, v14, v15, v16 => ((spec_l01Reader_number.f k (⟨v14, v15, v16⟩ : S111)).bind fun v17 => (bif v17.2.f2 then ((spec_l01Reader_fail.f k v17.2).bind fun v19 => (some (v19.1, v19.2))) else ((spec_l01Reader_takes.f k (⟨#[41]⟩ : ByteArray) v17.2).bind fun v18 => (bif v18.1 then (bif decide (v12.1 < (-1000000)) then ((spec_l01Reader_fail.f k v18.2).bind fun v20 => (some (v20.1, v20.2))) else (bif decide (1000000 < v12.1) then ((spec_l01Reader_fail.f k v18.2).bind fun v21 => (some (v21.1, v21.2))) else (bif decide (v17.1 < (-1000000)) then ((spec_l01Reader_fail.f k v18.2).bind fun v22 => (some (v22.1, v22.2))) else (bif decide (1000000 < v17.1) then ((spec_l01Reader_fail.f k v18.2).bind fun v23 => (some (v23.1, v23.2))) else (some ((⟨5, v12.1, v17.1, (⟨#[]⟩ : ByteArray), ([] : (List S100)), ([] : (List ByteArray))⟩ : S100), v18.2)))))) else ((spec_l01Reader_fail.f k v18.2).bind fun v24 => (some (v24.1, v24.2)))))))
def spec_l01Reader_value.j1 : Nat → Int → ByteArray → Int → Bool → Option (S100 × S111)
 | 0, _, _, _, _ => none
 | k + 1, v0, v32, v33, v34 => (bif decide (v0 < 5) then ((spec_l01Reader_takes.f k (⟨#[123]⟩ : ByteArray) (⟨v32, v33, v34⟩ : S111)).bind fun v35 => (bif v35.1 then ((spec_l01Reader_fields.f k v0 v35.2).bind fun v36 => (some (v36.1, v36.2))) else ((spec_l01Reader_number.f k v35.2).bind fun v37 => (some ((⟨2, v37.1, 0, (⟨#[]⟩ : ByteArray), ([] : (List S100)), ([] : (List ByteArray))⟩ : S100), v37.2))))) else ((spec_l01Reader_number.f k (⟨v32, v33, v34⟩ : S111)).bind fun v38 => (some ((⟨2, v38.1, 0, (⟨#[]⟩ : ByteArray), ([] : (List S100)), ([] : (List ByteArray))⟩ : S100), v38.2))))
def spec_l01Reader_value.f : Nat → Int → S111 → Option (S100 × S111)
 | 0, _, _ => none
 | k + 1, v0, v1 => (bif v1.f2 then ((spec_l01Reader_fail.f k v1).bind fun v2 => (some (v2.1, v2.2))) else (bif decide ((v1.f0.size : Int) ≤ v1.f1) then ((spec_l01Reader_fail.f k v1).bind fun v3 => (some (v3.1, v3.2))) else ((spec_l01Reader_takes.f k (⟨#[110, 117, 108, 108]⟩ : ByteArray) v1).bind fun v4 => (bif v4.1 then (some ((⟨0, 0, 0, (⟨#[]⟩ : ByteArray), ([] : (List S100)), ([] : (List ByteArray))⟩ : S100), v4.2)) else ((spec_l01Reader_takes.f k (⟨#[116, 114, 117, 101]⟩ : ByteArray) v4.2).bind fun v5 => (bif v5.1 then (some ((⟨1, 1, 0, (⟨#[]⟩ : ByteArray), ([] : (List S100)), ([] : (List ByteArray))⟩ : S100), v5.2)) else ((spec_l01Reader_takes.f k (⟨#[102, 97, 108, 115, 101]⟩ : ByteArray) v5.2).bind fun v6 => (bif v6.1 then (some ((⟨1, 0, 0, (⟨#[]⟩ : ByteArray), ([] : (List S100)), ([] : (List ByteArray))⟩ : S100), v6.2)) else ((spec_l01Reader_takes.f k (⟨#[34]⟩ : ByteArray) v6.2).bind fun v7 => (bif v7.1 then ((spec_l01Reader_quoted.f k v7.2).bind fun v8 => (some ((⟨3, 0, 0, v8.1, ([] : (List S100)), ([] : (List ByteArray))⟩ : S100), v8.2))) else ((spec_l01Reader_takes.f k (⟨#[64]⟩ : ByteArray) v7.2).bind fun v9 => (bif v9.1 then ((spec_l01Reader_date.f k v9.2).bind fun v10 => (some (v10.1, v10.2))) else ((spec_l01Reader_takes.f k (⟨#[40]⟩ : ByteArray) v9.2).bind fun v11 => (bif v11.1 then ((spec_l01Reader_number.f k v11.2).bind fun v12 => (bif v12.2.f2 then (spec_l01Reader_value.j0 k v12 v12.2.f0 v12.2.f1 true) else ((spec_l01Reader_takes.f k (⟨#[32]⟩ : ByteArray) v12.2).bind fun v13 => (spec_l01Reader_value.j0 k v12 v13.2.f0 v13.2.f1 (!v13.1))))) else ((spec_l01Reader_takes.f k (⟨#[110]⟩ : ByteArray) v11.2).bind fun v25 => (bif v25.1 then ((spec_l01Reader_thing.f k 8 v25.2).bind fun v26 => (some (v26.1, v26.2))) else ((spec_l01Reader_takes.f k (⟨#[101]⟩ : ByteArray) v25.2).bind fun v27 => (bif v27.1 then ((spec_l01Reader_thing.f k 9 v27.2).bind fun v28 => (some (v28.1, v28.2))) else ((spec_l01Reader_takes.f k (⟨#[60]⟩ : ByteArray) v27.2).bind fun v29 => (bif v29.1 then ((spec_l01Reader_path.f k v29.2).bind fun v30 => (some (v30.1, v30.2))) else (bif decide (v0 < 5) then ((spec_l01Reader_takes.f k (⟨#[91]⟩ : ByteArray) v29.2).bind fun v31 => (bif v31.1 then ((spec_l01Reader_list.f k v0 v31.2).bind fun v39 => (some (v39.1, v39.2))) else (spec_l01Reader_value.j1 k v0 v31.2.f0 v31.2.f1 v31.2.f2))) else (spec_l01Reader_value.j1 k v0 v29.2.f0 v29.2.f1 v29.2.f2))))))))))))))))))))))
def spec_l01Reader_fields.l0 : Nat → Int → ByteArray → Int → Bool → (List S100) → (List ByteArray) → Option (S100 × S111)
 | 0, _, _, _, _, _, _ => none
 | k + 1, v0, v3, v4, v5, v6, v7 => (bif v5 then (some ((⟨7, 0, 0, (⟨#[]⟩ : ByteArray), v6, v7⟩ : S100), (⟨v3, v4, v5⟩ : S111))) else ((spec_l01Reader_name.f k (⟨v3, v4, v5⟩ : S111)).bind fun v10 => ((app v7 ([v10.1] : List ByteArray)).bind fun v11 => ((spec_l01Reader_takes.f k (⟨#[58]⟩ : ByteArray) v10.2).bind fun v12 => (bif v12.1 then ((spec_l01Reader_value.f k (IntKind.i64.wrap (v0 + 1)) v12.2).bind fun v14 => ((app v6 ([v14.1] : List S100)).bind fun v15 => ((spec_l01Reader_takes.f k (⟨#[125]⟩ : ByteArray) v14.2).bind fun v16 => (bif v16.1 then ((spec_l01Rising.f k v11).bind fun v17 => (bif v17 then (some ((⟨7, 0, 0, (⟨#[]⟩ : ByteArray), v15, v11⟩ : S100), v16.2)) else ((spec_l01Reader_fail.f k v16.2).bind fun v18 => (some (v18.1, v18.2))))) else ((spec_l01Reader_takes.f k (⟨#[44]⟩ : ByteArray) v16.2).bind fun v19 => (bif v19.1 then (spec_l01Reader_fields.l0 k v0 v19.2.f0 v19.2.f1 v19.2.f2 v15 v11) else ((spec_l01Reader_fail.f k v19.2).bind fun v20 => (some (v20.1, v20.2))))))))) else ((spec_l01Reader_fail.f k v12.2).bind fun v13 => (some (v13.1, v13.2))))))))
def spec_l01Reader_fields.f : Nat → Int → S111 → Option (S100 × S111)
 | 0, _, _ => none
 | k + 1, v0, v1 => ((spec_l01Reader_takes.f k (⟨#[125]⟩ : ByteArray) v1).bind fun v2 => (bif v2.1 then (some ((⟨7, 0, 0, (⟨#[]⟩ : ByteArray), ([] : (List S100)), ([] : (List ByteArray))⟩ : S100), v2.2)) else (spec_l01Reader_fields.l0 k v0 v2.2.f0 v2.2.f1 v2.2.f2 [] [])))
end
def spec_l01Reader_list.C (K : Kn) (k : Nat) : Prop := ∀ (v0 : Int) (v1 : S111) (r : S100 × S111), spec_l01Reader_list.f k v0 v1 = some r → Con K Tryz.prog 77 [.ptr 1000 0 0, .p (.int .i64 v0)] [(1000, (0, .cells [.p (.str v1.f0), .p (.int .i64 v1.f1), .p (.bool v1.f2)]))] (.agg [.p (.int .i64 r.1.f0), .p (.int .i64 r.1.f1), .p (.int .i64 r.1.f2), .p (.str r.1.f3), .p (.lst false (List.map en100 r.1.f4)), .p (.lst false (List.map srw r.1.f5))]) [(1000, (0, .cells [.p (.str r.2.f0), .p (.int .i64 r.2.f1), .p (.bool r.2.f2)]))]
def spec_l01Reader_value.C (K : Kn) (k : Nat) : Prop := ∀ (v0 : Int) (v1 : S111) (r : S100 × S111), spec_l01Reader_value.f k v0 v1 = some r → Con K Tryz.prog 68 [.ptr 1000 0 0, .p (.int .i64 v0)] [(1000, (0, .cells [.p (.str v1.f0), .p (.int .i64 v1.f1), .p (.bool v1.f2)]))] (.agg [.p (.int .i64 r.1.f0), .p (.int .i64 r.1.f1), .p (.int .i64 r.1.f2), .p (.str r.1.f3), .p (.lst false (List.map en100 r.1.f4)), .p (.lst false (List.map srw r.1.f5))]) [(1000, (0, .cells [.p (.str r.2.f0), .p (.int .i64 r.2.f1), .p (.bool r.2.f2)]))]
def spec_l01Reader_fields.C (K : Kn) (k : Nat) : Prop := ∀ (v0 : Int) (v1 : S111) (r : S100 × S111), spec_l01Reader_fields.f k v0 v1 = some r → Con K Tryz.prog 78 [.ptr 1000 0 0, .p (.int .i64 v0)] [(1000, (0, .cells [.p (.str v1.f0), .p (.int .i64 v1.f1), .p (.bool v1.f2)]))] (.agg [.p (.int .i64 r.1.f0), .p (.int .i64 r.1.f1), .p (.int .i64 r.1.f2), .p (.str r.1.f3), .p (.lst false (List.map en100 r.1.f4)), .p (.lst false (List.map srw r.1.f5))]) [(1000, (0, .cells [.p (.str r.2.f0), .p (.int .i64 r.2.f1), .p (.bool r.2.f2)]))]
set_option maxRecDepth 100000 in
set_option maxHeartbeats 4000000 in
theorem spec_l01Reader_list.con1 {K : Kn} [KOk K] (k : Nat) (spec_l01Reader_list_ih : ∀ m, m < k → spec_l01Reader_list.C K m) (spec_l01Reader_value_ih : ∀ m, m < k → spec_l01Reader_value.C K m) (spec_l01Reader_fields_ih : ∀ m, m < k → spec_l01Reader_fields.C K m) : spec_l01Reader_list.C K k := by
 intro v0 v1 r h
 cases k with
 | zero => exact absurd h (by simp [spec_l01Reader_list.f])
 | succ k =>
 rw [spec_l01Reader_list.f] at h
 refine con_intro 33 [] Tryz.func77 (by kernel_rfl) rfl rfl (by kernel_rfl) fun ι0 w0 hk0 => ?_
 revert h
 refine go 6 ?_
 refine grs ?_
 refine gr_run ?_
 refine bind_e (fun v2 e2 => gr_call [(1000, (0, 1000, 0))] (spec_l01Reader_takes.con e2) ?_)
 clear e2
 refine gr_done ?_
 refine bif_e (fun c1 => ?_) (fun c1 => ?_)
 ·refine go 3 ?_
  refine ret_e (fun hr_ => ?_)
  subst hr_
  exact ret_ Tryz.func77 [(1000, (0, 1000, 0))]
 ·refine go 4 ?_
  refine adoptc_ 5 4 22 6 ?_
  refine fun h => good_loop (fun n st => n ≤ k ∧ ∃ (v3 : _) (v4 : _) (v5 : _) (v6 : _) (g7 : Nat), st = ⟨[(0, .ptr 1000 0 0), (1, .p (.int .i64 v0)), (4, .ptr 4 1 0), (5, .ptr 5 1 0)], [(1000, (0, .cells [.p (.str v3), .p (.int .i64 v4), .p (.bool v5)])), (4, (1, .cells [.p (.int .i64 0), .p (.int .i64 0), .p (.int .i64 0), .p (.str (⟨#[]⟩ : ByteArray)), .p .nilS, .p .nilS])), (5, (1, .cells [.p (.int .i64 6), .p (.int .i64 0), .p (.int .i64 0), .p (.str (⟨#[]⟩ : ByteArray)), .tip 22 g7 (List.map en100 v6), .p .nilS])), (22, (g7, .tip 6 (v6).length))]⟩ ∧ spec_l01Reader_list.l0 n v0 v3 v4 v5 v6 = some r) k ⟨_, ⟨Nat.le_refl _, _, _, _, _, 1, rfl, h⟩, frle_, memle_⟩ ?_
  clear c1
  clear h
  rintro n _ ⟨hkl0, v3, v4, v5, v6, g7, rfl, h⟩ hl0
  cases n with
  | zero => exact absurd h (by simp [spec_l01Reader_list.l0])
  | succ kl0 =>
  rw [spec_l01Reader_list.l0] at h
  revert h
  refine bif_e (fun c2 => ?_) (fun c2 => ?_)
  ·refine go 7 ?_
   refine ret_e (fun hr_ => ?_)
   subst hr_
   exact ret_ Tryz.func77 [(1000, (0, 1000, 0))]
  ·refine go 7 ?_
   refine grs ?_
   refine gr_run ?_
   refine bind_e (fun v8 e8 => gr_call [(1000, (0, 1000, 0))] (spec_l01Reader_value_ih _ (by omega) _ _ _ e8) ?_)
   clear e8
   refine bind_e (fun v9 e9 => ?_)
   replace e9 := nf_ (app_en en100 e9)
   refine gr_run ?_
   refine gr_done ?_
   refine go 2 ?_
   refine grs ?_
   refine gr_run ?_
   refine bind_e (fun v10 e10 => gr_call [(1000, (0, 1000, 0))] (spec_l01Reader_takes.con e10) ?_)
   clear e10
   refine gr_done ?_
   refine bif_e (fun c3 => ?_) (fun c3 => ?_)
   ·refine go 3 ?_
    refine ret_e (fun hr_ => ?_)
    subst hr_
    exact ret_ Tryz.func77 [(1000, (0, 1000, 0))]
   ·refine go 3 ?_
    refine grs ?_
    refine gr_run ?_
    refine bind_e (fun v11 e11 => gr_call [(1000, (0, 1000, 0))] (spec_l01Reader_takes.con e11) ?_)
    clear e11
    refine gr_run ?_
    refine gr_done ?_
    refine bif_e (fun c4 => ?_) (fun c4 => ?_)
    ·refine go 3 ?_
     exact fun h => good_again hl0 (by omega) ⟨_, ⟨by omega, _, _, _, _, g7, rfl, h⟩, frle_, memle_⟩
    ·refine go 2 ?_
     refine grs ?_
     refine gr_run ?_
     refine bind_e (fun v12 e12 => gr_call [(1000, (0, 1000, 0))] (spec_l01Reader_fail.con e12) ?_)
     clear e12
     refine gr_run ?_
     refine gr_done ?_
     refine ret_e (fun hr_ => ?_)
     subst hr_
     exact ret_ Tryz.func77 [(1000, (0, 1000, 0))]
set_option maxRecDepth 100000 in
set_option maxHeartbeats 4000000 in
theorem spec_l01Reader_value.con1 {K : Kn} [KOk K] (k : Nat) (spec_l01Reader_list_ih : ∀ m, m < k → spec_l01Reader_list.C K m) (spec_l01Reader_value_ih : ∀ m, m < k → spec_l01Reader_value.C K m) (spec_l01Reader_fields_ih : ∀ m, m < k → spec_l01Reader_fields.C K m) : spec_l01Reader_value.C K k := by
 intro v0 v1 r h
 cases k with
 | zero => exact absurd h (by simp [spec_l01Reader_value.f])
 | succ k =>
 rw [spec_l01Reader_value.f] at h
 refine con_intro 135 [] Tryz.func68 (by kernel_rfl) rfl rfl (by kernel_rfl) fun ι0 w0 hk0 => ?_
 revert h
 refine bif_e (fun c1 => ?_) (fun c1 => ?_)
 ·refine go 4 ?_
  refine grs ?_
  refine gr_run ?_
  refine gr_done ?_
  refine go 2 ?_
  refine grs ?_
  refine gr_run ?_
  refine bind_e (fun v2 e2 => gr_call [(1000, (0, 1000, 0))] (spec_l01Reader_fail.con e2) ?_)
  clear e2
  refine gr_run ?_
  refine gr_done ?_
  refine ret_e (fun hr_ => ?_)
  subst hr_
  exact ret_ Tryz.func68 [(1000, (0, 1000, 0))]
 ·refine go 4 ?_
  refine grs ?_
  refine gr_run ?_
  refine gr_done ?_
  refine bif_e (fun c2 => ?_) (fun c2 => ?_)
  ·refine go 2 ?_
   refine grs ?_
   refine gr_run ?_
   refine bind_e (fun v3 e3 => gr_call [(1000, (0, 1000, 0))] (spec_l01Reader_fail.con e3) ?_)
   clear e3
   refine gr_run ?_
   refine gr_done ?_
   refine ret_e (fun hr_ => ?_)
   subst hr_
   exact ret_ Tryz.func68 [(1000, (0, 1000, 0))]
  ·refine go 5 ?_
   refine grs ?_
   refine gr_run ?_
   refine bind_e (fun v4 e4 => gr_call [(1000, (0, 1000, 0))] (spec_l01Reader_takes.con e4) ?_)
   clear e4
   refine gr_run ?_
   refine gr_done ?_
   refine bif_e (fun c3 => ?_) (fun c3 => ?_)
   ·refine go 3 ?_
    refine ret_e (fun hr_ => ?_)
    subst hr_
    exact ret_ Tryz.func68 [(1000, (0, 1000, 0))]
   ·refine go 2 ?_
    refine grs ?_
    refine gr_run ?_
    refine bind_e (fun v5 e5 => gr_call [(1000, (0, 1000, 0))] (spec_l01Reader_takes.con e5) ?_)
    clear e5
    refine gr_run ?_
    refine gr_done ?_
    refine bif_e (fun c4 => ?_) (fun c4 => ?_)
    ·refine go 3 ?_
     refine ret_e (fun hr_ => ?_)
     subst hr_
     exact ret_ Tryz.func68 [(1000, (0, 1000, 0))]
    ·refine go 2 ?_
     refine grs ?_
     refine gr_run ?_
     refine bind_e (fun v6 e6 => gr_call [(1000, (0, 1000, 0))] (spec_l01Reader_takes.con e6) ?_)
     clear e6
     refine gr_run ?_
     refine gr_done ?_
     refine bif_e (fun c5 => ?_) (fun c5 => ?_)
     ·refine go 3 ?_
      refine ret_e (fun hr_ => ?_)
      subst hr_
      exact ret_ Tryz.func68 [(1000, (0, 1000, 0))]
     ·refine go 2 ?_
      refine grs ?_
      refine gr_run ?_
      refine bind_e (fun v7 e7 => gr_call [(1000, (0, 1000, 0))] (spec_l01Reader_takes.con e7) ?_)
      clear e7
      refine gr_run ?_
      refine gr_done ?_
      refine bif_e (fun c6 => ?_) (fun c6 => ?_)
      ·refine go 2 ?_
       refine grs ?_
       refine gr_run ?_
       refine bind_e (fun v8 e8 => gr_call [(1000, (0, 1000, 0))] (spec_l01Reader_quoted.con e8) ?_)
       clear e8
       refine gr_run ?_
       refine gr_done ?_
       refine ret_e (fun hr_ => ?_)
       subst hr_
       exact ret_ Tryz.func68 [(1000, (0, 1000, 0))]
      ·refine go 2 ?_
       refine grs ?_
       refine gr_run ?_
       refine bind_e (fun v9 e9 => gr_call [(1000, (0, 1000, 0))] (spec_l01Reader_takes.con e9) ?_)
       clear e9
       refine gr_run ?_
       refine gr_done ?_
       refine bif_e (fun c7 => ?_) (fun c7 => ?_)
       ·refine go 2 ?_
        refine grs ?_
        refine gr_run ?_
        refine bind_e (fun v10 e10 => gr_call [(1000, (0, 1000, 0))] (spec_l01Reader_date.con e10) ?_)
        clear e10
        refine gr_run ?_
        refine gr_done ?_
        refine ret_e (fun hr_ => ?_)
        subst hr_
        exact ret_ Tryz.func68 [(1000, (0, 1000, 0))]
       ·refine go 2 ?_
        refine grs ?_
        refine gr_run ?_
        refine bind_e (fun v11 e11 => gr_call [(1000, (0, 1000, 0))] (spec_l01Reader_takes.con e11) ?_)
        clear e11
        refine gr_run ?_
        refine gr_done ?_
        refine bif_e (fun c8 => ?_) (fun c8 => ?_)
        ·refine go 2 ?_
         refine grs ?_
         refine gr_run ?_
         refine bind_e (fun v12 e12 => gr_call [(1000, (0, 1000, 0))] (spec_l01Reader_number.con e12) ?_)
         clear e12
         refine gr_run ?_
         refine gr_done ?_
         refine go 1 ?_
         refine good_cut (fun st => ∃ (v14 : _) (v15 : _) (v16 : _) (q_ : Nat), q_ ≤ k ∧ st = ⟨[(0, .ptr 1000 0 0), (4, .ptr 4 1 0), (5, .p (.int .i64 v12.1))], [(1000, (0, .cells [.p (.str v14), .p (.int .i64 v15), .p (.bool v16)])), (4, (1, .cells [.p (.int .i64 0), .p (.int .i64 0), .p (.int .i64 0), .p (.str (⟨#[]⟩ : ByteArray)), .p .nilS, .p .nilS]))]⟩ ∧ spec_l01Reader_value.j0 q_ v12 v14 v15 v16 = some r) ?_ (fun hj0 => ?_)
         ·clear c1 c2 c3 c4 c5 c6 c7 c8
          rintro _ ⟨v14, v15, v16, q_, hqj0, rfl, h⟩
          cases q_ with
          | zero => exact absurd h (by simp [spec_l01Reader_value.j0])
          | succ kj0 =>
          rw [spec_l01Reader_value.j0] at h
          revert h
          refine go 1 ?_
          refine grs ?_
          refine gr_run ?_
          refine bind_e (fun v17 e17 => gr_call [(1000, (0, 1000, 0))] (spec_l01Reader_number.con e17) ?_)
          clear e17
          refine gr_run ?_
          refine gr_done ?_
          refine bif_e (fun c9 => ?_) (fun c9 => ?_)
          ·refine go 5 ?_
           refine grs ?_
           refine gr_run ?_
           refine bind_e (fun v19 e19 => gr_call [(1000, (0, 1000, 0))] (spec_l01Reader_fail.con e19) ?_)
           clear e19
           refine gr_run ?_
           refine gr_done ?_
           refine ret_e (fun hr_ => ?_)
           subst hr_
           exact ret_ Tryz.func68 [(1000, (0, 1000, 0))]
          ·refine go 2 ?_
           refine grs ?_
           refine gr_run ?_
           refine bind_e (fun v18 e18 => gr_call [(1000, (0, 1000, 0))] (spec_l01Reader_takes.con e18) ?_)
           clear e18
           refine bif_e (fun c10 => ?_) (fun c10 => ?_)
           ·refine bif_e (fun c11 => ?_) (fun c11 => ?_)
            ·refine gr_run ?_
             refine gr_done ?_
             refine go 2 ?_
             refine grs ?_
             refine gr_run ?_
             refine bind_e (fun v20 e20 => gr_call [(1000, (0, 1000, 0))] (spec_l01Reader_fail.con e20) ?_)
             clear e20
             refine gr_run ?_
             refine gr_done ?_
             refine ret_e (fun hr_ => ?_)
             subst hr_
             exact ret_ Tryz.func68 [(1000, (0, 1000, 0))]
            ·refine bif_e (fun c12 => ?_) (fun c12 => ?_)
             ·refine gr_run ?_
              refine gr_done ?_
              refine go 2 ?_
              refine grs ?_
              refine gr_run ?_
              refine bind_e (fun v21 e21 => gr_call [(1000, (0, 1000, 0))] (spec_l01Reader_fail.con e21) ?_)
              clear e21
              refine gr_run ?_
              refine gr_done ?_
              refine ret_e (fun hr_ => ?_)
              subst hr_
              exact ret_ Tryz.func68 [(1000, (0, 1000, 0))]
             ·refine bif_e (fun c13 => ?_) (fun c13 => ?_)
              ·refine gr_run ?_
               refine gr_done ?_
               refine go 2 ?_
               refine grs ?_
               refine gr_run ?_
               refine bind_e (fun v22 e22 => gr_call [(1000, (0, 1000, 0))] (spec_l01Reader_fail.con e22) ?_)
               clear e22
               refine gr_run ?_
               refine gr_done ?_
               refine ret_e (fun hr_ => ?_)
               subst hr_
               exact ret_ Tryz.func68 [(1000, (0, 1000, 0))]
              ·refine gr_run ?_
               refine gr_done ?_
               refine bif_e (fun c14 => ?_) (fun c14 => ?_)
               ·refine go 2 ?_
                refine grs ?_
                refine gr_run ?_
                refine bind_e (fun v23 e23 => gr_call [(1000, (0, 1000, 0))] (spec_l01Reader_fail.con e23) ?_)
                clear e23
                refine gr_run ?_
                refine gr_done ?_
                refine ret_e (fun hr_ => ?_)
                subst hr_
                exact ret_ Tryz.func68 [(1000, (0, 1000, 0))]
               ·refine go 4 ?_
                refine ret_e (fun hr_ => ?_)
                subst hr_
                exact ret_ Tryz.func68 [(1000, (0, 1000, 0))]
           ·refine gr_run ?_
            refine gr_done ?_
            refine go 2 ?_
            refine grs ?_
            refine gr_run ?_
            refine bind_e (fun v24 e24 => gr_call [(1000, (0, 1000, 0))] (spec_l01Reader_fail.con e24) ?_)
            clear e24
            refine gr_run ?_
            refine gr_done ?_
            refine ret_e (fun hr_ => ?_)
            subst hr_
            exact ret_ Tryz.func68 [(1000, (0, 1000, 0))]
         ·refine bif_e (fun c15 => ?_) (fun c15 => ?_)
          ·refine go 1 ?_
           exact fun h => good_jump hj0 ⟨_, ⟨_, _, _, _, by omega, rfl, h⟩, frle_, memle_⟩
          ·refine grs ?_
           refine gr_run ?_
           refine bind_e (fun v13 e13 => gr_call [(1000, (0, 1000, 0))] (spec_l01Reader_takes.con e13) ?_)
           clear e13
           refine gr_run ?_
           refine gr_done ?_
           exact fun h => good_jump hj0 ⟨_, ⟨_, _, _, _, by omega, rfl, h⟩, frle_, memle_⟩
        ·refine go 2 ?_
         refine grs ?_
         refine gr_run ?_
         refine bind_e (fun v25 e25 => gr_call [(1000, (0, 1000, 0))] (spec_l01Reader_takes.con e25) ?_)
         clear e25
         refine gr_run ?_
         refine gr_done ?_
         refine bif_e (fun c16 => ?_) (fun c16 => ?_)
         ·refine go 2 ?_
          refine grs ?_
          refine gr_run ?_
          refine bind_e (fun v26 e26 => gr_call [(1000, (0, 1000, 0))] (spec_l01Reader_thing.con e26) ?_)
          clear e26
          refine gr_run ?_
          refine gr_done ?_
          refine ret_e (fun hr_ => ?_)
          subst hr_
          exact ret_ Tryz.func68 [(1000, (0, 1000, 0))]
         ·refine go 2 ?_
          refine grs ?_
          refine gr_run ?_
          refine bind_e (fun v27 e27 => gr_call [(1000, (0, 1000, 0))] (spec_l01Reader_takes.con e27) ?_)
          clear e27
          refine gr_run ?_
          refine gr_done ?_
          refine bif_e (fun c17 => ?_) (fun c17 => ?_)
          ·refine go 2 ?_
           refine grs ?_
           refine gr_run ?_
           refine bind_e (fun v28 e28 => gr_call [(1000, (0, 1000, 0))] (spec_l01Reader_thing.con e28) ?_)
           clear e28
           refine gr_run ?_
           refine gr_done ?_
           refine ret_e (fun hr_ => ?_)
           subst hr_
           exact ret_ Tryz.func68 [(1000, (0, 1000, 0))]
          ·refine go 2 ?_
           refine grs ?_
           refine gr_run ?_
           refine bind_e (fun v29 e29 => gr_call [(1000, (0, 1000, 0))] (spec_l01Reader_takes.con e29) ?_)
           clear e29
           refine gr_run ?_
           refine gr_done ?_
           refine bif_e (fun c18 => ?_) (fun c18 => ?_)
           ·refine go 2 ?_
            refine grs ?_
            refine gr_run ?_
            refine bind_e (fun v30 e30 => gr_call [(1000, (0, 1000, 0))] (spec_l01Reader_path.con e30) ?_)
            clear e30
            refine gr_run ?_
            refine gr_done ?_
            refine ret_e (fun hr_ => ?_)
            subst hr_
            exact ret_ Tryz.func68 [(1000, (0, 1000, 0))]
           ·refine go 2 ?_
            refine good_cut_f (fun st => ∃ (v32 : _) (v33 : _) (v34 : _) (q_ : Nat), q_ ≤ k ∧ st = ⟨[(0, .ptr 1000 0 0), (1, .p (.int .i64 v0)), (4, .ptr 4 1 0)], [(1000, (0, .cells [.p (.str v32), .p (.int .i64 v33), .p (.bool v34)])), (4, (1, .cells [.p (.int .i64 0), .p (.int .i64 0), .p (.int .i64 0), .p (.str (⟨#[]⟩ : ByteArray)), .p .nilS, .p .nilS]))]⟩ ∧ spec_l01Reader_value.j1 q_ v0 v32 v33 v34 = some r) ?_ (fun hj1 => ?_)
            ·clear c1 c2 c3 c4 c5 c6 c7 c8 c16 c17 c18
             rintro _ ⟨v32, v33, v34, q_, hqj1, rfl, h⟩
             cases q_ with
             | zero => exact absurd h (by simp [spec_l01Reader_value.j1])
             | succ kj1 =>
             rw [spec_l01Reader_value.j1] at h
             revert h
             refine bif_e (fun c19 => ?_) (fun c19 => ?_)
             ·refine go 1 ?_
              refine grs ?_
              refine gr_run ?_
              refine bind_e (fun v35 e35 => gr_call [(1000, (0, 1000, 0))] (spec_l01Reader_takes.con e35) ?_)
              clear e35
              refine gr_run ?_
              refine gr_done ?_
              refine bif_e (fun c20 => ?_) (fun c20 => ?_)
              ·refine go 2 ?_
               refine grs ?_
               refine gr_run ?_
               refine bind_e (fun v36 e36 => gr_call [(1000, (0, 1000, 0))] (spec_l01Reader_fields_ih _ (by omega) _ _ _ e36) ?_)
               clear e36
               refine gr_run ?_
               refine gr_done ?_
               refine ret_e (fun hr_ => ?_)
               subst hr_
               exact ret_ Tryz.func68 [(1000, (0, 1000, 0))]
              ·refine go 4 ?_
               refine grs ?_
               refine gr_run ?_
               refine bind_e (fun v37 e37 => gr_call [(1000, (0, 1000, 0))] (spec_l01Reader_number.con e37) ?_)
               clear e37
               refine gr_run ?_
               refine gr_done ?_
               refine ret_e (fun hr_ => ?_)
               subst hr_
               exact ret_ Tryz.func68 [(1000, (0, 1000, 0))]
             ·refine go 6 ?_
              refine grs ?_
              refine gr_run ?_
              refine bind_e (fun v38 e38 => gr_call [(1000, (0, 1000, 0))] (spec_l01Reader_number.con e38) ?_)
              clear e38
              refine gr_run ?_
              refine gr_done ?_
              refine ret_e (fun hr_ => ?_)
              subst hr_
              exact ret_ Tryz.func68 [(1000, (0, 1000, 0))]
            ·refine bif_e (fun c21 => ?_) (fun c21 => ?_)
             ·refine grs ?_
              refine gr_run ?_
              refine bind_e (fun v31 e31 => gr_call [(1000, (0, 1000, 0))] (spec_l01Reader_takes.con e31) ?_)
              clear e31
              refine gr_run ?_
              refine gr_done ?_
              refine bif_e (fun c22 => ?_) (fun c22 => ?_)
              ·refine go 2 ?_
               refine grs ?_
               refine gr_run ?_
               refine bind_e (fun v39 e39 => gr_call [(1000, (0, 1000, 0))] (spec_l01Reader_list_ih _ (by omega) _ _ _ e39) ?_)
               clear e39
               refine gr_run ?_
               refine gr_done ?_
               refine ret_e (fun hr_ => ?_)
               subst hr_
               exact ret_ Tryz.func68 [(1000, (0, 1000, 0))]
              ·refine go 1 ?_
               exact fun h => good_jump hj1 ⟨_, ⟨_, _, _, _, by omega, rfl, h⟩, frle_, memle_⟩
             ·refine go 2 ?_
              exact fun h => good_jump hj1 ⟨_, ⟨_, _, _, _, by omega, rfl, h⟩, frle_, memle_⟩
set_option maxRecDepth 100000 in
set_option maxHeartbeats 4000000 in
theorem spec_l01Reader_fields.con1 {K : Kn} [KOk K] (k : Nat) (spec_l01Reader_list_ih : ∀ m, m < k → spec_l01Reader_list.C K m) (spec_l01Reader_value_ih : ∀ m, m < k → spec_l01Reader_value.C K m) (spec_l01Reader_fields_ih : ∀ m, m < k → spec_l01Reader_fields.C K m) : spec_l01Reader_fields.C K k := by
 intro v0 v1 r h
 cases k with
 | zero => exact absurd h (by simp [spec_l01Reader_fields.f])
 | succ k =>
 rw [spec_l01Reader_fields.f] at h
 refine con_intro 51 [] Tryz.func78 (by kernel_rfl) rfl rfl (by kernel_rfl) fun ι0 w0 hk0 => ?_
 revert h
 refine go 6 ?_
 refine grs ?_
 refine gr_run ?_
 refine bind_e (fun v2 e2 => gr_call [(1000, (0, 1000, 0))] (spec_l01Reader_takes.con e2) ?_)
 clear e2
 refine gr_done ?_
 refine bif_e (fun c1 => ?_) (fun c1 => ?_)
 ·refine go 3 ?_
  refine ret_e (fun hr_ => ?_)
  subst hr_
  exact ret_ Tryz.func78 [(1000, (0, 1000, 0))]
 ·refine go 4 ?_
  refine adoptc_ 5 4 34 6 ?_
  refine adoptc_ 5 5 20 1 ?_
  refine fun h => good_loop (fun n st => n ≤ k ∧ ∃ (v3 : _) (v4 : _) (v5 : _) (v6 : _) (v7 : _) (g8 : Nat) (g9 : Nat), st = ⟨[(0, .ptr 1000 0 0), (1, .p (.int .i64 v0)), (4, .ptr 4 1 0), (5, .ptr 5 1 0)], [(1000, (0, .cells [.p (.str v3), .p (.int .i64 v4), .p (.bool v5)])), (4, (1, .cells [.p (.int .i64 0), .p (.int .i64 0), .p (.int .i64 0), .p (.str (⟨#[]⟩ : ByteArray)), .p .nilS, .p .nilS])), (5, (1, .cells [.p (.int .i64 7), .p (.int .i64 0), .p (.int .i64 0), .p (.str (⟨#[]⟩ : ByteArray)), .tip 34 g9 (List.map en100 v6), .tip 20 g8 (List.map srw v7)])), (20, (g8, .tip 1 (v7).length)), (34, (g9, .tip 6 (v6).length))]⟩ ∧ spec_l01Reader_fields.l0 n v0 v3 v4 v5 v6 v7 = some r) k ⟨_, ⟨Nat.le_refl _, _, _, _, _, _, 1, 1, rfl, h⟩, frle_, memle_⟩ ?_
  clear c1
  clear h
  rintro n _ ⟨hkl0, v3, v4, v5, v6, v7, g8, g9, rfl, h⟩ hl0
  cases n with
  | zero => exact absurd h (by simp [spec_l01Reader_fields.l0])
  | succ kl0 =>
  rw [spec_l01Reader_fields.l0] at h
  revert h
  refine bif_e (fun c2 => ?_) (fun c2 => ?_)
  ·refine go 7 ?_
   refine ret_e (fun hr_ => ?_)
   subst hr_
   exact ret_ Tryz.func78 [(1000, (0, 1000, 0))]
  ·refine go 7 ?_
   refine grs ?_
   refine gr_run ?_
   refine bind_e (fun v10 e10 => gr_call [(1000, (0, 1000, 0))] (spec_l01Reader_name.con e10) ?_)
   clear e10
   refine bind_e (fun v11 e11 => ?_)
   replace e11 := nf_ (app_en srw e11)
   refine gr_run ?_
   refine gr_done ?_
   refine go 2 ?_
   refine grs ?_
   refine gr_run ?_
   refine bind_e (fun v12 e12 => gr_call [(1000, (0, 1000, 0))] (spec_l01Reader_takes.con e12) ?_)
   clear e12
   refine gr_run ?_
   refine gr_done ?_
   refine bif_e (fun c3 => ?_) (fun c3 => ?_)
   ·refine go 3 ?_
    refine grs ?_
    refine gr_run ?_
    refine bind_e (fun v14 e14 => gr_call [(1000, (0, 1000, 0))] (spec_l01Reader_value_ih _ (by omega) _ _ _ e14) ?_)
    clear e14
    refine bind_e (fun v15 e15 => ?_)
    replace e15 := nf_ (app_en en100 e15)
    refine gr_run ?_
    refine gr_done ?_
    refine go 2 ?_
    refine grs ?_
    refine gr_run ?_
    refine bind_e (fun v16 e16 => gr_call [(1000, (0, 1000, 0))] (spec_l01Reader_takes.con e16) ?_)
    clear e16
    refine gr_done ?_
    refine bif_e (fun c4 => ?_) (fun c4 => ?_)
    ·refine go 3 ?_
     refine grs ?_
     refine gr_run ?_
     refine bind_e (fun v17 e17 => gr_call [] (spec_l01Rising.con e17) ?_)
     clear e17
     refine gr_run ?_
     refine gr_done ?_
     refine bif_e (fun c5 => ?_) (fun c5 => ?_)
     ·refine go 4 ?_
      refine ret_e (fun hr_ => ?_)
      subst hr_
      exact ret_ Tryz.func78 [(1000, (0, 1000, 0))]
     ·refine go 2 ?_
      refine grs ?_
      refine gr_run ?_
      refine bind_e (fun v18 e18 => gr_call [(1000, (0, 1000, 0))] (spec_l01Reader_fail.con e18) ?_)
      clear e18
      refine gr_run ?_
      refine gr_done ?_
      refine ret_e (fun hr_ => ?_)
      subst hr_
      exact ret_ Tryz.func78 [(1000, (0, 1000, 0))]
    ·refine go 3 ?_
     refine grs ?_
     refine gr_run ?_
     refine bind_e (fun v19 e19 => gr_call [(1000, (0, 1000, 0))] (spec_l01Reader_takes.con e19) ?_)
     clear e19
     refine gr_run ?_
     refine gr_done ?_
     refine bif_e (fun c6 => ?_) (fun c6 => ?_)
     ·refine go 3 ?_
      exact fun h => good_again hl0 (by omega) ⟨_, ⟨by omega, _, _, _, _, _, g8, g9, rfl, h⟩, frle_, memle_⟩
     ·refine go 2 ?_
      refine grs ?_
      refine gr_run ?_
      refine bind_e (fun v20 e20 => gr_call [(1000, (0, 1000, 0))] (spec_l01Reader_fail.con e20) ?_)
      clear e20
      refine gr_run ?_
      refine gr_done ?_
      refine ret_e (fun hr_ => ?_)
      subst hr_
      exact ret_ Tryz.func78 [(1000, (0, 1000, 0))]
   ·refine go 2 ?_
    refine grs ?_
    refine gr_run ?_
    refine bind_e (fun v13 e13 => gr_call [(1000, (0, 1000, 0))] (spec_l01Reader_fail.con e13) ?_)
    clear e13
    refine gr_run ?_
    refine gr_done ?_
    refine ret_e (fun hr_ => ?_)
    subst hr_
    exact ret_ Tryz.func78 [(1000, (0, 1000, 0))]
theorem spec_l01Reader_list.all {K : Kn} [KOk K] (k : Nat) : spec_l01Reader_list.C K k ∧ spec_l01Reader_value.C K k ∧ spec_l01Reader_fields.C K k := by
 induction k using Nat.strongRecOn with
 | _ k ih => exact ⟨spec_l01Reader_list.con1 k (fun m hm => (ih m hm).1) (fun m hm => (ih m hm).2.1) (fun m hm => (ih m hm).2.2), spec_l01Reader_value.con1 k (fun m hm => (ih m hm).1) (fun m hm => (ih m hm).2.1) (fun m hm => (ih m hm).2.2), spec_l01Reader_fields.con1 k (fun m hm => (ih m hm).1) (fun m hm => (ih m hm).2.1) (fun m hm => (ih m hm).2.2)⟩
theorem spec_l01Reader_list.con {K : Kn} [KOk K] {k : Nat} {v0 : Int} {v1 : S111} {r : S100 × S111} (h : spec_l01Reader_list.f k v0 v1 = some r) : Con K Tryz.prog 77 [.ptr 1000 0 0, .p (.int .i64 v0)] [(1000, (0, .cells [.p (.str v1.f0), .p (.int .i64 v1.f1), .p (.bool v1.f2)]))] (.agg [.p (.int .i64 r.1.f0), .p (.int .i64 r.1.f1), .p (.int .i64 r.1.f2), .p (.str r.1.f3), .p (.lst false (List.map en100 r.1.f4)), .p (.lst false (List.map srw r.1.f5))]) [(1000, (0, .cells [.p (.str r.2.f0), .p (.int .i64 r.2.f1), .p (.bool r.2.f2)]))] := (spec_l01Reader_list.all k).1 _ _ r h
theorem spec_l01Reader_value.con {K : Kn} [KOk K] {k : Nat} {v0 : Int} {v1 : S111} {r : S100 × S111} (h : spec_l01Reader_value.f k v0 v1 = some r) : Con K Tryz.prog 68 [.ptr 1000 0 0, .p (.int .i64 v0)] [(1000, (0, .cells [.p (.str v1.f0), .p (.int .i64 v1.f1), .p (.bool v1.f2)]))] (.agg [.p (.int .i64 r.1.f0), .p (.int .i64 r.1.f1), .p (.int .i64 r.1.f2), .p (.str r.1.f3), .p (.lst false (List.map en100 r.1.f4)), .p (.lst false (List.map srw r.1.f5))]) [(1000, (0, .cells [.p (.str r.2.f0), .p (.int .i64 r.2.f1), .p (.bool r.2.f2)]))] := (spec_l01Reader_list.all k).2.1 _ _ r h
theorem spec_l01Reader_fields.con {K : Kn} [KOk K] {k : Nat} {v0 : Int} {v1 : S111} {r : S100 × S111} (h : spec_l01Reader_fields.f k v0 v1 = some r) : Con K Tryz.prog 78 [.ptr 1000 0 0, .p (.int .i64 v0)] [(1000, (0, .cells [.p (.str v1.f0), .p (.int .i64 v1.f1), .p (.bool v1.f2)]))] (.agg [.p (.int .i64 r.1.f0), .p (.int .i64 r.1.f1), .p (.int .i64 r.1.f2), .p (.str r.1.f3), .p (.lst false (List.map en100 r.1.f4)), .p (.lst false (List.map srw r.1.f5))]) [(1000, (0, .cells [.p (.str r.2.f0), .p (.int .i64 r.2.f1), .p (.bool r.2.f2)]))] := (spec_l01Reader_list.all k).2.2 _ _ r h
end Go.Ab
