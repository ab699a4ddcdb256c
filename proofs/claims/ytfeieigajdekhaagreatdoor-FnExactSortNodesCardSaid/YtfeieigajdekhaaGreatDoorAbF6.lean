/- What the functions compute, and their contracts, part 6. No condition beyond KOk. -/
import Derived.Test.YtfeieigajdekhaaGreatDoorAbX
import Derived.Test.YtfeieigajdekhaaGreatDoorAbF5
namespace Go.Ab
open Go.Proofs
set_option linter.unusedVariables false
set_option linter.unusedSimpArgs false
def impl_reader_id.f (k : Nat) (v0 : S115) : Option (Int × Bool × S115) := ((impl_reader_peek.f k v0).bind fun v1 => ((impl_isDigit.f k v1.1).bind fun v2 => (bif v2 then ((impl_reader_whole.f k v1.2).bind fun v3 => (bif v3.2.1 then (bif decide (1 ≤ v3.1) then (some (v3.1, decide (v3.1 ≤ 1000000000000), v3.2.2)) else (some (v3.1, false, v3.2.2))) else (some (v3.1, false, v3.2.2)))) else (some (0, false, v1.2)))))
set_option maxRecDepth 100000 in
set_option maxHeartbeats 4000000 in
theorem impl_reader_id.con {K : Kn} [KOk K] {k : Nat} {v0 : S115} {r : Int × Bool × S115} (h : impl_reader_id.f k v0 = some r) : Con K Tryz.prog 102 [.ptr 1000 0 0] [(1000, (0, .cells [.p (.str v0.f0), .p (.int .i64 v0.f1)]))] (.tup [.p (.int .i64 r.1), .p (.bool r.2.1)]) [(1000, (0, .cells [.p (.str r.2.2.f0), .p (.int .i64 r.2.2.f1)]))] := by
 rw [impl_reader_id.f] at h
 refine con_intro 25 [] Tryz.func102 (by kernel_rfl) rfl rfl (by kernel_rfl) fun ι0 w0 hk0 => ?_
 revert h
 refine go 4 ?_
 refine grs ?_
 refine gr_run ?_
 refine bind_e (fun v1 e1 => gr_call [(1000, (0, 1000, 0))] (impl_reader_peek.con e1) ?_)
 clear e1
 refine bind_e (fun v2 e2 => gr_call [] (impl_isDigit.con e2) ?_)
 clear e2
 refine gr_run ?_
 refine gr_done ?_
 refine bif_e (fun c1 => ?_) (fun c1 => ?_)
 ·refine go 3 ?_
  refine grs ?_
  refine gr_run ?_
  refine bind_e (fun v3 e3 => gr_call [(1000, (0, 1000, 0))] (impl_reader_whole.con e3) ?_)
  clear e3
  refine gr_run ?_
  refine gr_done ?_
  refine bif_e (fun c2 => ?_) (fun c2 => ?_)
  ·refine bif_e (fun c3 => ?_) (fun c3 => ?_)
   ·refine go 2 ?_
    refine ret_e (fun hr_ => ?_)
    subst hr_
    exact ret_ Tryz.func102 [(1000, (0, 1000, 0))]
   ·refine go 2 ?_
    refine ret_e (fun hr_ => ?_)
    subst hr_
    exact ret_ Tryz.func102 [(1000, (0, 1000, 0))]
  ·refine go 2 ?_
   refine ret_e (fun hr_ => ?_)
   subst hr_
   exact ret_ Tryz.func102 [(1000, (0, 1000, 0))]
 ·refine go 3 ?_
  refine ret_e (fun hr_ => ?_)
  subst hr_
  exact ret_ Tryz.func102 [(1000, (0, 1000, 0))]
mutual
def impl_reader_thing.j0 : Nat → Int → ByteArray → Int → Option (S105 × Bool × S115)
 | 0, _, _, _ => none
 | k + 1, v3, v4, v5 => ((impl_reader_id.f k (⟨v4, (IntKind.i64.wrap (v5 + 1))⟩ : S115)).bind fun v6 => (some ((⟨v3, v6.1, 0, (⟨#[]⟩ : ByteArray), ([] : (List ByteArray)), ([] : (List S105))⟩ : S105), v6.2.1, v6.2.2)))
def impl_reader_thing.f : Nat → S115 → Option (S105 × Bool × S115)
 | 0, _ => none
 | k + 1, v0 => ((impl_reader_peek.f k v0).bind fun v1 => (bif (v1.1 == 101) then (impl_reader_thing.j0 k 9 v1.2.f0 v1.2.f1) else ((impl_reader_peek.f k v1.2).bind fun v2 => (bif (v2.1 == 110) then (impl_reader_thing.j0 k 8 v2.2.f0 v2.2.f1) else (some ((⟨0, 0, 0, (⟨#[]⟩ : ByteArray), ([] : (List ByteArray)), ([] : (List S105))⟩ : S105), false, v2.2))))))
end
set_option maxRecDepth 100000 in
set_option maxHeartbeats 4000000 in
theorem impl_reader_thing.con {K : Kn} [KOk K] {k : Nat} {v0 : S115} {r : S105 × Bool × S115} (h : impl_reader_thing.f k v0 = some r) : Con K Tryz.prog 88 [.ptr 1000 0 0] [(1000, (0, .cells [.p (.str v0.f0), .p (.int .i64 v0.f1)]))] (.tup [.agg [.p (.int .i64 r.1.f0), .p (.int .i64 r.1.f1), .p (.int .i64 r.1.f2), .p (.str r.1.f3), .p (.lst false (List.map srw r.1.f4)), .p (.lst false (List.map en105 r.1.f5))], .p (.bool r.2.1)]) [(1000, (0, .cells [.p (.str r.2.2.f0), .p (.int .i64 r.2.2.f1)]))] := by
 cases k with
 | zero => exact absurd h (by simp [impl_reader_thing.f])
 | succ k =>
 rw [impl_reader_thing.f] at h
 refine con_intro 30 [] Tryz.func88 (by kernel_rfl) rfl rfl (by kernel_rfl) fun ι0 w0 hk0 => ?_
 revert h
 refine go 5 ?_
 refine good_cut (fun st => ∃ (v3 : _) (v4 : _) (v5 : _) (q_ : Nat), q_ ≤ k ∧ st = ⟨[(0, .ptr 1000 0 0), (2, .ptr 2 1 0), (4, .p (.int .i64 v3))], [(1000, (0, .cells [.p (.str v4), .p (.int .i64 v5)])), (2, (1, .cells [.p (.int .i64 0), .p (.int .i64 0), .p (.int .i64 0), .p (.str (⟨#[]⟩ : ByteArray)), .p .nilS, .p .nilS]))]⟩ ∧ impl_reader_thing.j0 q_ v3 v4 v5 = some r) ?_ (fun hj0 => ?_)
 ·skip
  rintro _ ⟨v3, v4, v5, q_, hqj0, rfl, h⟩
  cases q_ with
  | zero => exact absurd h (by simp [impl_reader_thing.j0])
  | succ kj0 =>
  rw [impl_reader_thing.j0] at h
  revert h
  refine go 3 ?_
  refine grs ?_
  refine gr_run ?_
  refine bind_e (fun v6 e6 => gr_call [(1000, (0, 1000, 0))] (impl_reader_id.con e6) ?_)
  clear e6
  refine gr_run ?_
  refine gr_done ?_
  refine go 2 ?_
  refine ret_e (fun hr_ => ?_)
  subst hr_
  exact ret_ Tryz.func88 [(1000, (0, 1000, 0))]
 ·refine go 1 ?_
  refine grs ?_
  refine gr_run ?_
  refine bind_e (fun v1 e1 => gr_call [(1000, (0, 1000, 0))] (impl_reader_peek.con e1) ?_)
  clear e1
  refine gr_run ?_
  refine gr_done ?_
  refine bif_e (fun c1 => ?_) (fun c1 => ?_)
  ·refine go 2 ?_
   exact fun h => good_jump hj0 ⟨_, ⟨_, _, _, _, by omega, rfl, h⟩, frle_, memle_⟩
  ·refine go 2 ?_
   refine grs ?_
   refine gr_run ?_
   refine bind_e (fun v2 e2 => gr_call [(1000, (0, 1000, 0))] (impl_reader_peek.con e2) ?_)
   clear e2
   refine gr_run ?_
   refine gr_done ?_
   refine bif_e (fun c2 => ?_) (fun c2 => ?_)
   ·refine go 2 ?_
    exact fun h => good_jump hj0 ⟨_, ⟨_, _, _, _, by omega, rfl, h⟩, frle_, memle_⟩
   ·refine go 3 ?_
    refine ret_e (fun hr_ => ?_)
    subst hr_
    exact ret_ Tryz.func88 [(1000, (0, 1000, 0))]
mutual
def impl_reader_path.l0 : Nat → Int → ByteArray → Int → (List S105) → Option (S105 × Bool × S115)
 | 0, _, _, _, _ => none
 | k + 1, v2, v3, v4, v5 => ((impl_reader_thing.f k (⟨v3, v4⟩ : S115)).bind fun v8 => (bif v8.2.1 then (bif (v8.1.f0 == v2) then ((app v5 ([v8.1] : List S105)).bind fun v9 => (bif (v2 == 8) then ((impl_reader_eat.f k (⟨#[62]⟩ : ByteArray) v8.2.2).bind fun v10 => (bif v10.1 then (some ((⟨10, 0, 0, (⟨#[]⟩ : ByteArray), ([] : (List ByteArray)), v9⟩ : S105), true, v10.2)) else ((impl_reader_eat.f k (⟨#[32]⟩ : ByteArray) v10.2).bind fun v11 => (bif v11.1 then (impl_reader_path.l0 k (IntKind.i64.wrap (17 - v2)) v11.2.f0 v11.2.f1 v9) else (some ((⟨10, 0, 0, (⟨#[]⟩ : ByteArray), ([] : (List ByteArray)), v9⟩ : S105), false, v11.2)))))) else ((impl_reader_eat.f k (⟨#[32]⟩ : ByteArray) v8.2.2).bind fun v12 => (bif v12.1 then (impl_reader_path.l0 k (IntKind.i64.wrap (17 - v2)) v12.2.f0 v12.2.f1 v9) else (some ((⟨10, 0, 0, (⟨#[]⟩ : ByteArray), ([] : (List ByteArray)), v9⟩ : S105), false, v12.2)))))) else (some ((⟨10, 0, 0, (⟨#[]⟩ : ByteArray), ([] : (List ByteArray)), v5⟩ : S105), false, v8.2.2))) else (some ((⟨10, 0, 0, (⟨#[]⟩ : ByteArray), ([] : (List ByteArray)), v5⟩ : S105), false, v8.2.2))))
def impl_reader_path.f : Nat → S115 → Option (S105 × Bool × S115)
 | 0, _ => none
 | k + 1, v0 => ((impl_reader_eat.f k (⟨#[60]⟩ : ByteArray) v0).bind fun v1 => (bif v1.1 then (impl_reader_path.l0 k 8 v1.2.f0 v1.2.f1 []) else (some ((⟨10, 0, 0, (⟨#[]⟩ : ByteArray), ([] : (List ByteArray)), ([] : (List S105))⟩ : S105), false, v1.2))))
end
set_option maxRecDepth 100000 in
set_option maxHeartbeats 4000000 in
theorem impl_reader_path.con {K : Kn} [KOk K] {k : Nat} {v0 : S115} {r : S105 × Bool × S115} (h : impl_reader_path.f k v0 = some r) : Con K Tryz.prog 86 [.ptr 1000 0 0] [(1000, (0, .cells [.p (.str v0.f0), .p (.int .i64 v0.f1)]))] (.tup [.agg [.p (.int .i64 r.1.f0), .p (.int .i64 r.1.f1), .p (.int .i64 r.1.f2), .p (.str r.1.f3), .p (.lst false (List.map srw r.1.f4)), .p (.lst false (List.map en105 r.1.f5))], .p (.bool r.2.1)]) [(1000, (0, .cells [.p (.str r.2.2.f0), .p (.int .i64 r.2.2.f1)]))] := by
 cases k with
 | zero => exact absurd h (by simp [impl_reader_path.f])
 | succ k =>
 rw [impl_reader_path.f] at h
 refine con_intro 46 [] Tryz.func86 (by kernel_rfl) rfl rfl (by kernel_rfl) fun ι0 w0 hk0 => ?_
 revert h
 refine go 6 ?_
 refine grs ?_
 refine gr_run ?_
 refine bind_e (fun v1 e1 => gr_call [(1000, (0, 1000, 0))] (impl_reader_eat.con e1) ?_)
 clear e1
 refine gr_run ?_
 refine gr_done ?_
 refine bif_e (fun c1 => ?_) (fun c1 => ?_)
 ·refine go 5 ?_
  refine adoptc_ 4 5 31 6 ?_
  refine fun h => good_loop (fun n st => n ≤ k ∧ ∃ (v2 : _) (v3 : _) (v4 : _) (v5 : _) (g6 : Nat) (g7 : Nat), st = ⟨[(0, .ptr 1000 0 0), (2, .ptr 2 1 0), (4, .ptr 4 1 0), (5, .p (.int .i64 v2))], [(1000, (0, .cells [.p (.str v3), .p (.int .i64 v4)])), (2, (1, .cells [.p (.int .i64 0), .p (.int .i64 0), .p (.int .i64 0), .p (.str (⟨#[]⟩ : ByteArray)), .p .nilS, .p .nilS])), (4, (1, .cells [.p (.int .i64 10), .p (.int .i64 0), .p (.int .i64 0), .p (.str (⟨#[]⟩ : ByteArray)), .p .nilS, .tip 31 g7 (List.map en105 v5)])), (6, (g6, .gone)), (31, (g7, .tip 6 (v5).length))]⟩ ∧ impl_reader_path.l0 n v2 v3 v4 v5 = some r) k ⟨_, ⟨Nat.le_refl _, _, _, _, _, 0, 1, rfl, h⟩, frle_, memle_⟩ ?_
  clear c1
  clear h
  rintro n _ ⟨hkl0, v2, v3, v4, v5, g6, g7, rfl, h⟩ hl0
  cases n with
  | zero => exact absurd h (by simp [impl_reader_path.l0])
  | succ kl0 =>
  rw [impl_reader_path.l0] at h
  revert h
  refine go 2 ?_
  refine grs ?_
  refine gr_run ?_
  refine bind_e (fun v8 e8 => gr_call [(1000, (0, 1000, 0))] (impl_reader_thing.con e8) ?_)
  clear e8
  refine gr_run ?_
  refine gr_done ?_
  refine bif_e (fun c2 => ?_) (fun c2 => ?_)
  ·refine bif_e (fun c3 => ?_) (fun c3 => ?_)
   ·refine bind_e (fun v9 e9 => ?_)
    replace e9 := nf_ (app_en en105 e9)
    refine bif_e (fun c4 => ?_) (fun c4 => ?_)
    ·refine go 9 ?_
     refine grs ?_
     refine gr_run ?_
     refine bind_e (fun v10 e10 => gr_call [(1000, (0, 1000, 0))] (impl_reader_eat.con e10) ?_)
     clear e10
     refine gr_run ?_
     refine gr_done ?_
     refine bif_e (fun c5 => ?_) (fun c5 => ?_)
     ·refine go 3 ?_
      refine ret_e (fun hr_ => ?_)
      subst hr_
      exact ret_ Tryz.func86 [(1000, (0, 1000, 0))]
     ·refine go 4 ?_
      refine grs ?_
      refine gr_run ?_
      refine bind_e (fun v11 e11 => gr_call [(1000, (0, 1000, 0))] (impl_reader_eat.con e11) ?_)
      clear e11
      refine gr_run ?_
      refine gr_done ?_
      refine bif_e (fun c6 => ?_) (fun c6 => ?_)
      ·refine go 4 ?_
       exact fun h => good_again hl0 (by omega) ⟨_, ⟨by omega, _, _, _, _, g6 + 1, g7, rfl, h⟩, frle_, memle_⟩
      ·refine go 3 ?_
       refine ret_e (fun hr_ => ?_)
       subst hr_
       exact ret_ Tryz.func86 [(1000, (0, 1000, 0))]
    ·refine go 14 ?_
     refine grs ?_
     refine gr_run ?_
     refine bind_e (fun v12 e12 => gr_call [(1000, (0, 1000, 0))] (impl_reader_eat.con e12) ?_)
     clear e12
     refine gr_run ?_
     refine gr_done ?_
     refine bif_e (fun c7 => ?_) (fun c7 => ?_)
     ·refine go 4 ?_
      exact fun h => good_again hl0 (by omega) ⟨_, ⟨by omega, _, _, _, _, g6 + 1, g7, rfl, h⟩, frle_, memle_⟩
     ·refine go 3 ?_
      refine ret_e (fun hr_ => ?_)
      subst hr_
      exact ret_ Tryz.func86 [(1000, (0, 1000, 0))]
   ·refine go 6 ?_
    refine ret_e (fun hr_ => ?_)
    subst hr_
    exact ret_ Tryz.func86 [(1000, (0, 1000, 0))]
  ·refine go 6 ?_
   refine ret_e (fun hr_ => ?_)
   subst hr_
   exact ret_ Tryz.func86 [(1000, (0, 1000, 0))]
 ·refine go 3 ?_
  refine ret_e (fun hr_ => ?_)
  subst hr_
  exact ret_ Tryz.func86 [(1000, (0, 1000, 0))]
mutual
def impl_reader_fields.j0 : Nat → Int → (ByteArray × Bool × S115) → (Bool × S115) → (List ByteArray) → (List S105) → Option (S105 × Bool × S115)
 | 0, _, _, _, _, _ => none
 | k + 1, v0, v11, v12, v6, v7 => ((impl_reader_value.f k (IntKind.i64.wrap (v0 + 1)) v12.2).bind fun v14 => (bif v14.2.1 then ((app v6 ([v11.1] : List ByteArray)).bind fun v15 => ((app v7 ([v14.1] : List S105)).bind fun v16 => ((impl_reader_eat.f k (⟨#[125]⟩ : ByteArray) v14.2.2).bind fun v17 => (bif v17.1 then (some ((⟨7, 0, 0, (⟨#[]⟩ : ByteArray), v15, v16⟩ : S105), true, v17.2)) else ((impl_reader_eat.f k (⟨#[44]⟩ : ByteArray) v17.2).bind fun v18 => (bif v18.1 then (impl_reader_fields.l0 k v0 v18.2.f0 v18.2.f1 v15 v16) else (some ((⟨7, 0, 0, (⟨#[]⟩ : ByteArray), v15, v16⟩ : S105), false, v18.2)))))))) else (some ((⟨7, 0, 0, (⟨#[]⟩ : ByteArray), v6, v7⟩ : S105), false, v14.2.2))))
def impl_reader_fields.l0 : Nat → Int → ByteArray → Int → (List ByteArray) → (List S105) → Option (S105 × Bool × S115)
 | 0, _, _, _, _, _ => none
 | k + 1, v0, v4, v5, v6, v7 => ((impl_reader_name.f k (⟨v4, v5⟩ : S115)).bind fun v11 => (bif v11.2.1 then ((impl_reader_eat.f k (⟨#[58]⟩ : ByteArray) v11.2.2).bind fun v12 => (bif v12.1 then (bif decide (0 < (v6.length : Int)) then ((ix v6 (IntKind.i64.wrap ((v6.length : Int) - 1))).bind fun v13 => (bif slt v13 v11.1 then (impl_reader_fields.j0 k v0 v11 v12 v6 v7) else (some ((⟨7, 0, 0, (⟨#[]⟩ : ByteArray), v6, v7⟩ : S105), false, v12.2)))) else (impl_reader_fields.j0 k v0 v11 v12 v6 v7)) else (some ((⟨7, 0, 0, (⟨#[]⟩ : ByteArray), v6, v7⟩ : S105), false, v12.2)))) else (some ((⟨7, 0, 0, (⟨#[]⟩ : ByteArray), v6, v7⟩ : S105), false, v11.2.2))))
def impl_reader_fields.f : Nat → Int → S115 → Option (S105 × Bool × S115)
 | 0, _, _ => none
 | k + 1, v0, v1 => ((impl_reader_eat.f k (⟨#[123]⟩ : ByteArray) v1).bind fun v2 => (bif v2.1 then (bif (v0 == 5) then (some ((⟨7, 0, 0, (⟨#[]⟩ : ByteArray), ([] : (List ByteArray)), ([] : (List S105))⟩ : S105), false, v2.2)) else ((impl_reader_eat.f k (⟨#[125]⟩ : ByteArray) v2.2).bind fun v3 => (bif v3.1 then (some ((⟨7, 0, 0, (⟨#[]⟩ : ByteArray), ([] : (List ByteArray)), ([] : (List S105))⟩ : S105), true, v3.2)) else (impl_reader_fields.l0 k v0 v3.2.f0 v3.2.f1 [] [])))) else (some ((⟨7, 0, 0, (⟨#[]⟩ : ByteArray), ([] : (List ByteArray)), ([] : (List S105))⟩ : S105), false, v2.2))))
def impl_reader_value.f : Nat → Int → S115 → Option (S105 × Bool × S115)
 | 0, _, _ => none
 | k + 1, v0, v1 => ((impl_reader_peek.f k v1).bind fun v2 => (bif (v2.1 == 34) then ((impl_reader_quoted.f k v2.2).bind fun v3 => (some ((⟨3, 0, 0, v3.1, ([] : (List ByteArray)), ([] : (List S105))⟩ : S105), v3.2.1, v3.2.2))) else (bif (v2.1 == 64) then ((impl_reader_date.f k v2.2).bind fun v4 => (some ((⟨4, v4.1, 0, (⟨#[]⟩ : ByteArray), ([] : (List ByteArray)), ([] : (List S105))⟩ : S105), v4.2.1, v4.2.2))) else (bif (v2.1 == 45) then ((impl_reader_whole.f k v2.2).bind fun v6 => (some ((⟨2, v6.1, 0, (⟨#[]⟩ : ByteArray), ([] : (List ByteArray)), ([] : (List S105))⟩ : S105), v6.2.1, v6.2.2))) else ((impl_isDigit.f k v2.1).bind fun v5 => (bif v5 then ((impl_reader_whole.f k v2.2).bind fun v7 => (some ((⟨2, v7.1, 0, (⟨#[]⟩ : ByteArray), ([] : (List ByteArray)), ([] : (List S105))⟩ : S105), v7.2.1, v7.2.2))) else (bif (v2.1 == 40) then ((impl_reader_point.f k v2.2).bind fun v8 => (some (v8.1, v8.2.1, v8.2.2))) else (bif (v2.1 == 91) then ((impl_reader_list.f k v0 v2.2).bind fun v9 => (some (v9.1, v9.2.1, v9.2.2))) else (bif (v2.1 == 123) then ((impl_reader_fields.f k v0 v2.2).bind fun v10 => (some (v10.1, v10.2.1, v10.2.2))) else (bif (v2.1 == 60) then ((impl_reader_path.f k v2.2).bind fun v11 => (some (v11.1, v11.2.1, v11.2.2))) else ((impl_reader_eat.f k (⟨#[110, 117, 108, 108]⟩ : ByteArray) v2.2).bind fun v12 => (bif v12.1 then (some ((⟨0, 0, 0, (⟨#[]⟩ : ByteArray), ([] : (List ByteArray)), ([] : (List S105))⟩ : S105), true, v12.2)) else ((impl_reader_eat.f k (⟨#[116, 114, 117, 101]⟩ : ByteArray) v12.2).bind fun v13 => (bif v13.1 then (some ((⟨1, 1, 0, (⟨#[]⟩ : ByteArray), ([] : (List ByteArray)), ([] : (List S105))⟩ : S105), true, v13.2)) else ((impl_reader_eat.f k (⟨#[102, 97, 108, 115, 101]⟩ : ByteArray) v13.2).bind fun v14 => (bif v14.1 then (some ((⟨1, 0, 0, (⟨#[]⟩ : ByteArray), ([] : (List ByteArray)), ([] : (List S105))⟩ : S105), true, v14.2)) else (bif (v2.1 == 110) then ((impl_reader_thing.f k v14.2).bind fun v15 => (some (v15.1, v15.2.1, v15.2.2))) else (bif (v2.1 == 101) then ((impl_reader_thing.f k v14.2).bind fun v16 => (some (v16.1, v16.2.1, v16.2.2))) else (some ((⟨0, 0, 0, (⟨#[]⟩ : ByteArray), ([] : (List ByteArray)), ([] : (List S105))⟩ : S105), false, v14.2))))))))))))))))))))
def impl_reader_list.l0 : Nat → Int → ByteArray → Int → (List S105) → Option (S105 × Bool × S115)
 | 0, _, _, _, _ => none
 | k + 1, v0, v4, v5, v6 => ((impl_reader_value.f k (IntKind.i64.wrap (v0 + 1)) (⟨v4, v5⟩ : S115)).bind fun v9 => (bif v9.2.1 then ((app v6 ([v9.1] : List S105)).bind fun v10 => ((impl_reader_eat.f k (⟨#[93]⟩ : ByteArray) v9.2.2).bind fun v11 => (bif v11.1 then (some ((⟨6, 0, 0, (⟨#[]⟩ : ByteArray), ([] : (List ByteArray)), v10⟩ : S105), true, v11.2)) else ((impl_reader_eat.f k (⟨#[44]⟩ : ByteArray) v11.2).bind fun v12 => (bif v12.1 then (impl_reader_list.l0 k v0 v12.2.f0 v12.2.f1 v10) else (some ((⟨6, 0, 0, (⟨#[]⟩ : ByteArray), ([] : (List ByteArray)), v10⟩ : S105), false, v12.2))))))) else (some ((⟨6, 0, 0, (⟨#[]⟩ : ByteArray), ([] : (List ByteArray)), v6⟩ : S105), false, v9.2.2))))
def impl_reader_list.f : Nat → Int → S115 → Option (S105 × Bool × S115)
 | 0, _, _ => none
 | k + 1, v0, v1 => ((impl_reader_eat.f k (⟨#[91]⟩ : ByteArray) v1).bind fun v2 => (bif v2.1 then (bif (v0 == 5) then (some ((⟨6, 0, 0, (⟨#[]⟩ : ByteArray), ([] : (List ByteArray)), ([] : (List S105))⟩ : S105), false, v2.2)) else ((impl_reader_eat.f k (⟨#[93]⟩ : ByteArray) v2.2).bind fun v3 => (bif v3.1 then (some ((⟨6, 0, 0, (⟨#[]⟩ : ByteArray), ([] : (List ByteArray)), ([] : (List S105))⟩ : S105), true, v3.2)) else (impl_reader_list.l0 k v0 v3.2.f0 v3.2.f1 [])))) else (some ((⟨6, 0, 0, (⟨#[]⟩ : ByteArray), ([] : (List ByteArray)), ([] : (List S105))⟩ : S105), false, v2.2))))
end
def impl_reader_fields.C (K : Kn) (k : Nat) : Prop := ∀ (v0 : Int) (v1 : S115) (r : S105 × Bool × S115), impl_reader_fields.f k v0 v1 = some r → Con K Tryz.prog 85 [.ptr 1000 0 0, .p (.int .i64 v0)] [(1000, (0, .cells [.p (.str v1.f0), .p (.int .i64 v1.f1)]))] (.tup [.agg [.p (.int .i64 r.1.f0), .p (.int .i64 r.1.f1), .p (.int .i64 r.1.f2), .p (.str r.1.f3), .p (.lst false (List.map srw r.1.f4)), .p (.lst false (List.map en105 r.1.f5))], .p (.bool r.2.1)]) [(1000, (0, .cells [.p (.str r.2.2.f0), .p (.int .i64 r.2.2.f1)]))]
def impl_reader_value.C (K : Kn) (k : Nat) : Prop := ∀ (v0 : Int) (v1 : S115) (r : S105 × Bool × S115), impl_reader_value.f k v0 v1 = some r → Con K Tryz.prog 69 [.ptr 1000 0 0, .p (.int .i64 v0)] [(1000, (0, .cells [.p (.str v1.f0), .p (.int .i64 v1.f1)]))] (.tup [.agg [.p (.int .i64 r.1.f0), .p (.int .i64 r.1.f1), .p (.int .i64 r.1.f2), .p (.str r.1.f3), .p (.lst false (List.map srw r.1.f4)), .p (.lst false (List.map en105 r.1.f5))], .p (.bool r.2.1)]) [(1000, (0, .cells [.p (.str r.2.2.f0), .p (.int .i64 r.2.2.f1)]))]
def impl_reader_list.C (K : Kn) (k : Nat) : Prop := ∀ (v0 : Int) (v1 : S115) (r : S105 × Bool × S115), impl_reader_list.f k v0 v1 = some r → Con K Tryz.prog 84 [.ptr 1000 0 0, .p (.int .i64 v0)] [(1000, (0, .cells [.p (.str v1.f0), .p (.int .i64 v1.f1)]))] (.tup [.agg [.p (.int .i64 r.1.f0), .p (.int .i64 r.1.f1), .p (.int .i64 r.1.f2), .p (.str r.1.f3), .p (.lst false (List.map srw r.1.f4)), .p (.lst false (List.map en105 r.1.f5))], .p (.bool r.2.1)]) [(1000, (0, .cells [.p (.str r.2.2.f0), .p (.int .i64 r.2.2.f1)]))]
set_option maxRecDepth 100000 in
set_option maxHeartbeats 4000000 in
theorem impl_reader_fields.con1 {K : Kn} [KOk K] (k : Nat) (impl_reader_fields_ih : ∀ m, m < k → impl_reader_fields.C K m) (impl_reader_value_ih : ∀ m, m < k → impl_reader_value.C K m) (impl_reader_list_ih : ∀ m, m < k → impl_reader_list.C K m) : impl_reader_fields.C K k := by
 intro v0 v1 r h
 cases k with
 | zero => exact absurd h (by simp [impl_reader_fields.f])
 | succ k =>
 rw [impl_reader_fields.f] at h
 refine con_intro 82 [] Tryz.func85 (by kernel_rfl) rfl rfl (by kernel_rfl) fun ι0 w0 hk0 => ?_
 revert h
 refine go 6 ?_
 refine grs ?_
 refine gr_run ?_
 refine bind_e (fun v2 e2 => gr_call [(1000, (0, 1000, 0))] (impl_reader_eat.con e2) ?_)
 clear e2
 refine bif_e (fun c1 => ?_) (fun c1 => ?_)
 ·refine gr_run ?_
  refine gr_done ?_
  refine bif_e (fun c2 => ?_) (fun c2 => ?_)
  ·refine go 3 ?_
   refine ret_e (fun hr_ => ?_)
   subst hr_
   exact ret_ Tryz.func85 [(1000, (0, 1000, 0))]
  ·refine go 4 ?_
   refine grs ?_
   refine gr_run ?_
   refine bind_e (fun v3 e3 => gr_call [(1000, (0, 1000, 0))] (impl_reader_eat.con e3) ?_)
   clear e3
   refine gr_done ?_
   refine bif_e (fun c3 => ?_) (fun c3 => ?_)
   ·refine go 3 ?_
    refine ret_e (fun hr_ => ?_)
    subst hr_
    exact ret_ Tryz.func85 [(1000, (0, 1000, 0))]
   ·refine go 3 ?_
    refine adoptc_ 6 4 67 1 ?_
    refine adoptc_ 6 5 73 6 ?_
    refine fun h => good_loop (fun n st => n ≤ k ∧ ∃ (v4 : _) (v5 : _) (v6 : _) (v7 : _) (g8 : Nat) (g9 : Nat) (g10 : Nat), st = ⟨[(0, .ptr 1000 0 0), (1, .p (.int .i64 v0)), (4, .ptr 4 1 0), (6, .ptr 6 1 0)], [(1000, (0, .cells [.p (.str v4), .p (.int .i64 v5)])), (4, (1, .cells [.p (.int .i64 0), .p (.int .i64 0), .p (.int .i64 0), .p (.str (⟨#[]⟩ : ByteArray)), .p .nilS, .p .nilS])), (6, (1, .cells [.p (.int .i64 7), .p (.int .i64 0), .p (.int .i64 0), .p (.str (⟨#[]⟩ : ByteArray)), .tip 67 g9 (List.map srw v6), .tip 73 g10 (List.map en105 v7)])), (9, (g8, .gone)), (67, (g9, .tip 1 (v6).length)), (73, (g10, .tip 6 (v7).length))]⟩ ∧ impl_reader_fields.l0 n v0 v4 v5 v6 v7 = some r) k ⟨_, ⟨Nat.le_refl _, _, _, _, _, 0, 1, 1, rfl, h⟩, frle_, memle_⟩ ?_
    clear c1 c2 c3
    clear h
    rintro n _ ⟨hkl0, v4, v5, v6, v7, g8, g9, g10, rfl, h⟩ hl0
    cases n with
    | zero => exact absurd h (by simp [impl_reader_fields.l0])
    | succ kl0 =>
    rw [impl_reader_fields.l0] at h
    revert h
    refine go 2 ?_
    refine grs ?_
    refine gr_run ?_
    refine bind_e (fun v11 e11 => gr_call [(1000, (0, 1000, 0))] (impl_reader_name.con e11) ?_)
    clear e11
    refine gr_run ?_
    refine gr_done ?_
    refine go 2 ?_
    refine good_cut_f (fun st => ∃ (v12 : _) (q_ : Nat), q_ ≤ kl0 ∧ st = ⟨[(0, .ptr 1000 0 0), (1, .p (.int .i64 v0)), (4, .ptr 4 1 0), (6, .ptr 6 1 0), (7, .p (.str v11.1))], [(1000, (0, .cells [.p (.str v12.2.f0), .p (.int .i64 v12.2.f1)])), (4, (1, .cells [.p (.int .i64 0), .p (.int .i64 0), .p (.int .i64 0), .p (.str (⟨#[]⟩ : ByteArray)), .p .nilS, .p .nilS])), (6, (1, .cells [.p (.int .i64 7), .p (.int .i64 0), .p (.int .i64 0), .p (.str (⟨#[]⟩ : ByteArray)), .tip 67 g9 (List.map srw v6), .tip 73 g10 (List.map en105 v7)])), (9, (g8, .gone)), (67, (g9, .tip 1 (v6).length)), (73, (g10, .tip 6 (v7).length))]⟩ ∧ impl_reader_fields.j0 q_ v0 v11 v12 v6 v7 = some r) ?_ (fun hj0 => ?_)
    ·skip
     rintro _ ⟨v12, q_, hqj0, rfl, h⟩
     cases q_ with
     | zero => exact absurd h (by simp [impl_reader_fields.j0])
     | succ kj0 =>
     rw [impl_reader_fields.j0] at h
     revert h
     refine go 2 ?_
     refine grs ?_
     refine gr_run ?_
     refine bind_e (fun v14 e14 => gr_call [(1000, (0, 1000, 0))] (impl_reader_value_ih _ (by omega) _ _ _ e14) ?_)
     clear e14
     refine gr_run ?_
     refine gr_done ?_
     refine bif_e (fun c4 => ?_) (fun c4 => ?_)
     ·refine bind_e (fun v15 e15 => ?_)
      replace e15 := nf_ (app_en srw e15)
      refine bind_e (fun v16 e16 => ?_)
      replace e16 := nf_ (app_en en105 e16)
      refine go 11 ?_
      refine grs ?_
      refine gr_run ?_
      refine bind_e (fun v17 e17 => gr_call [(1000, (0, 1000, 0))] (impl_reader_eat.con e17) ?_)
      clear e17
      refine gr_done ?_
      refine bif_e (fun c5 => ?_) (fun c5 => ?_)
      ·refine go 3 ?_
       refine ret_e (fun hr_ => ?_)
       subst hr_
       exact ret_ Tryz.func85 [(1000, (0, 1000, 0))]
      ·refine go 3 ?_
       refine grs ?_
       refine gr_run ?_
       refine bind_e (fun v18 e18 => gr_call [(1000, (0, 1000, 0))] (impl_reader_eat.con e18) ?_)
       clear e18
       refine gr_run ?_
       refine gr_done ?_
       refine bif_e (fun c6 => ?_) (fun c6 => ?_)
       ·refine go 3 ?_
        exact fun h => good_again hl0 (by omega) ⟨_, ⟨by omega, _, _, _, _, g8 + 1, g9, g10, rfl, h⟩, frle_, memle_⟩
       ·refine go 3 ?_
        refine ret_e (fun hr_ => ?_)
        subst hr_
        exact ret_ Tryz.func85 [(1000, (0, 1000, 0))]
     ·refine go 6 ?_
      refine ret_e (fun hr_ => ?_)
      subst hr_
      exact ret_ Tryz.func85 [(1000, (0, 1000, 0))]
    ·refine bif_e (fun c7 => ?_) (fun c7 => ?_)
     ·refine grs ?_
      refine gr_run ?_
      refine bind_e (fun v12 e12 => gr_call [(1000, (0, 1000, 0))] (impl_reader_eat.con e12) ?_)
      clear e12
      refine bif_e (fun c8 => ?_) (fun c8 => ?_)
      ·refine bif_e (fun c9 => ?_) (fun c9 => ?_)
       ·refine bind_e (fun v13 e13 => ?_)
        replace e13 := nf_ (ix_en srw e13)
        refine gr_run ?_
        refine gr_done ?_
        refine bif_e (fun c10 => ?_) (fun c10 => ?_)
        ·refine go 1 ?_
         exact fun h => good_jump hj0 ⟨_, ⟨_, _, by omega, rfl, h⟩, frle_, memle_⟩
        ·refine go 3 ?_
         refine ret_e (fun hr_ => ?_)
         subst hr_
         exact ret_ Tryz.func85 [(1000, (0, 1000, 0))]
       ·refine gr_run ?_
        refine gr_done ?_
        refine go 1 ?_
        exact fun h => good_jump hj0 ⟨_, ⟨_, _, by omega, rfl, h⟩, frle_, memle_⟩
      ·refine gr_run ?_
       refine gr_done ?_
       refine go 3 ?_
       refine ret_e (fun hr_ => ?_)
       subst hr_
       exact ret_ Tryz.func85 [(1000, (0, 1000, 0))]
     ·refine go 4 ?_
      refine ret_e (fun hr_ => ?_)
      subst hr_
      exact ret_ Tryz.func85 [(1000, (0, 1000, 0))]
 ·refine gr_run ?_
  refine gr_done ?_
  refine go 3 ?_
  refine ret_e (fun hr_ => ?_)
  subst hr_
  exact ret_ Tryz.func85 [(1000, (0, 1000, 0))]
set_option maxRecDepth 100000 in
set_option maxHeartbeats 4000000 in
theorem impl_reader_value.con1 {K : Kn} [KOk K] (k : Nat) (impl_reader_fields_ih : ∀ m, m < k → impl_reader_fields.C K m) (impl_reader_value_ih : ∀ m, m < k → impl_reader_value.C K m) (impl_reader_list_ih : ∀ m, m < k → impl_reader_list.C K m) : impl_reader_value.C K k := by
 intro v0 v1 r h
 cases k with
 | zero => exact absurd h (by simp [impl_reader_value.f])
 | succ k =>
 rw [impl_reader_value.f] at h
 refine con_intro 106 [] Tryz.func69 (by kernel_rfl) rfl rfl (by kernel_rfl) fun ι0 w0 hk0 => ?_
 revert h
 refine go 4 ?_
 refine grs ?_
 refine gr_run ?_
 refine bind_e (fun v2 e2 => gr_call [(1000, (0, 1000, 0))] (impl_reader_peek.con e2) ?_)
 clear e2
 refine gr_run ?_
 refine gr_done ?_
 refine bif_e (fun c1 => ?_) (fun c1 => ?_)
 ·refine go 5 ?_
  refine grs ?_
  refine gr_run ?_
  refine bind_e (fun v3 e3 => gr_call [(1000, (0, 1000, 0))] (impl_reader_quoted.con e3) ?_)
  clear e3
  refine gr_run ?_
  refine gr_done ?_
  refine go 2 ?_
  refine ret_e (fun hr_ => ?_)
  subst hr_
  exact ret_ Tryz.func69 [(1000, (0, 1000, 0))]
 ·refine bif_e (fun c2 => ?_) (fun c2 => ?_)
  ·refine go 8 ?_
   refine grs ?_
   refine gr_run ?_
   refine bind_e (fun v4 e4 => gr_call [(1000, (0, 1000, 0))] (impl_reader_date.con e4) ?_)
   clear e4
   refine gr_run ?_
   refine gr_done ?_
   refine go 2 ?_
   refine ret_e (fun hr_ => ?_)
   subst hr_
   exact ret_ Tryz.func69 [(1000, (0, 1000, 0))]
  ·refine bif_e (fun c3 => ?_) (fun c3 => ?_)
   ·refine go 11 ?_
    refine grs ?_
    refine gr_run ?_
    refine bind_e (fun v6 e6 => gr_call [(1000, (0, 1000, 0))] (impl_reader_whole.con e6) ?_)
    clear e6
    refine gr_run ?_
    refine gr_done ?_
    refine go 2 ?_
    refine ret_e (fun hr_ => ?_)
    subst hr_
    exact ret_ Tryz.func69 [(1000, (0, 1000, 0))]
   ·refine go 8 ?_
    refine grs ?_
    refine gr_run ?_
    refine bind_e (fun v5 e5 => gr_call [] (impl_isDigit.con e5) ?_)
    clear e5
    refine gr_run ?_
    refine gr_done ?_
    refine bif_e (fun c4 => ?_) (fun c4 => ?_)
    ·refine go 2 ?_
     refine grs ?_
     refine gr_run ?_
     refine bind_e (fun v7 e7 => gr_call [(1000, (0, 1000, 0))] (impl_reader_whole.con e7) ?_)
     clear e7
     refine gr_run ?_
     refine gr_done ?_
     refine go 2 ?_
     refine ret_e (fun hr_ => ?_)
     subst hr_
     exact ret_ Tryz.func69 [(1000, (0, 1000, 0))]
    ·refine bif_e (fun c5 => ?_) (fun c5 => ?_)
     ·refine go 5 ?_
      refine grs ?_
      refine gr_run ?_
      refine bind_e (fun v8 e8 => gr_call [(1000, (0, 1000, 0))] (impl_reader_point.con e8) ?_)
      clear e8
      refine gr_run ?_
      refine gr_done ?_
      refine ret_e (fun hr_ => ?_)
      subst hr_
      exact ret_ Tryz.func69 [(1000, (0, 1000, 0))]
     ·refine bif_e (fun c6 => ?_) (fun c6 => ?_)
      ·refine go 8 ?_
       refine grs ?_
       refine gr_run ?_
       refine bind_e (fun v9 e9 => gr_call [(1000, (0, 1000, 0))] (impl_reader_list_ih _ (by omega) _ _ _ e9) ?_)
       clear e9
       refine gr_run ?_
       refine gr_done ?_
       refine ret_e (fun hr_ => ?_)
       subst hr_
       exact ret_ Tryz.func69 [(1000, (0, 1000, 0))]
      ·refine bif_e (fun c7 => ?_) (fun c7 => ?_)
       ·refine go 11 ?_
        refine grs ?_
        refine gr_run ?_
        refine bind_e (fun v10 e10 => gr_call [(1000, (0, 1000, 0))] (impl_reader_fields_ih _ (by omega) _ _ _ e10) ?_)
        clear e10
        refine gr_run ?_
        refine gr_done ?_
        refine ret_e (fun hr_ => ?_)
        subst hr_
        exact ret_ Tryz.func69 [(1000, (0, 1000, 0))]
       ·refine bif_e (fun c8 => ?_) (fun c8 => ?_)
        ·refine go 14 ?_
         refine grs ?_
         refine gr_run ?_
         refine bind_e (fun v11 e11 => gr_call [(1000, (0, 1000, 0))] (impl_reader_path.con e11) ?_)
         clear e11
         refine gr_run ?_
         refine gr_done ?_
         refine ret_e (fun hr_ => ?_)
         subst hr_
         exact ret_ Tryz.func69 [(1000, (0, 1000, 0))]
        ·refine go 14 ?_
         refine grs ?_
         refine gr_run ?_
         refine bind_e (fun v12 e12 => gr_call [(1000, (0, 1000, 0))] (impl_reader_eat.con e12) ?_)
         clear e12
         refine gr_run ?_
         refine gr_done ?_
         refine bif_e (fun c9 => ?_) (fun c9 => ?_)
         ·refine go 3 ?_
          refine ret_e (fun hr_ => ?_)
          subst hr_
          exact ret_ Tryz.func69 [(1000, (0, 1000, 0))]
         ·refine go 2 ?_
          refine grs ?_
          refine gr_run ?_
          refine bind_e (fun v13 e13 => gr_call [(1000, (0, 1000, 0))] (impl_reader_eat.con e13) ?_)
          clear e13
          refine gr_run ?_
          refine gr_done ?_
          refine bif_e (fun c10 => ?_) (fun c10 => ?_)
          ·refine go 3 ?_
           refine ret_e (fun hr_ => ?_)
           subst hr_
           exact ret_ Tryz.func69 [(1000, (0, 1000, 0))]
          ·refine go 2 ?_
           refine grs ?_
           refine gr_run ?_
           refine bind_e (fun v14 e14 => gr_call [(1000, (0, 1000, 0))] (impl_reader_eat.con e14) ?_)
           clear e14
           refine gr_run ?_
           refine gr_done ?_
           refine bif_e (fun c11 => ?_) (fun c11 => ?_)
           ·refine go 3 ?_
            refine ret_e (fun hr_ => ?_)
            subst hr_
            exact ret_ Tryz.func69 [(1000, (0, 1000, 0))]
           ·refine bif_e (fun c12 => ?_) (fun c12 => ?_)
            ·refine go 5 ?_
             refine grs ?_
             refine gr_run ?_
             refine bind_e (fun v15 e15 => gr_call [(1000, (0, 1000, 0))] (impl_reader_thing.con e15) ?_)
             clear e15
             refine gr_run ?_
             refine gr_done ?_
             refine ret_e (fun hr_ => ?_)
             subst hr_
             exact ret_ Tryz.func69 [(1000, (0, 1000, 0))]
            ·refine bif_e (fun c13 => ?_) (fun c13 => ?_)
             ·refine go 5 ?_
              refine grs ?_
              refine gr_run ?_
              refine bind_e (fun v16 e16 => gr_call [(1000, (0, 1000, 0))] (impl_reader_thing.con e16) ?_)
              clear e16
              refine gr_run ?_
              refine gr_done ?_
              refine ret_e (fun hr_ => ?_)
              subst hr_
              exact ret_ Tryz.func69 [(1000, (0, 1000, 0))]
             ·refine go 8 ?_
              refine ret_e (fun hr_ => ?_)
              subst hr_
              exact ret_ Tryz.func69 [(1000, (0, 1000, 0))]
set_option maxRecDepth 100000 in
set_option maxHeartbeats 4000000 in
theorem impl_reader_list.con1 {K : Kn} [KOk K] (k : Nat) (impl_reader_fields_ih : ∀ m, m < k → impl_reader_fields.C K m) (impl_reader_value_ih : ∀ m, m < k → impl_reader_value.C K m) (impl_reader_list_ih : ∀ m, m < k → impl_reader_list.C K m) : impl_reader_list.C K k := by
 intro v0 v1 r h
 cases k with
 | zero => exact absurd h (by simp [impl_reader_list.f])
 | succ k =>
 rw [impl_reader_list.f] at h
 refine con_intro 44 [] Tryz.func84 (by kernel_rfl) rfl rfl (by kernel_rfl) fun ι0 w0 hk0 => ?_
 revert h
 refine go 6 ?_
 refine grs ?_
 refine gr_run ?_
 refine bind_e (fun v2 e2 => gr_call [(1000, (0, 1000, 0))] (impl_reader_eat.con e2) ?_)
 clear e2
 refine bif_e (fun c1 => ?_) (fun c1 => ?_)
 ·refine gr_run ?_
  refine gr_done ?_
  refine bif_e (fun c2 => ?_) (fun c2 => ?_)
  ·refine go 3 ?_
   refine ret_e (fun hr_ => ?_)
   subst hr_
   exact ret_ Tryz.func84 [(1000, (0, 1000, 0))]
  ·refine go 4 ?_
   refine grs ?_
   refine gr_run ?_
   refine bind_e (fun v3 e3 => gr_call [(1000, (0, 1000, 0))] (impl_reader_eat.con e3) ?_)
   clear e3
   refine gr_done ?_
   refine bif_e (fun c3 => ?_) (fun c3 => ?_)
   ·refine go 3 ?_
    refine ret_e (fun hr_ => ?_)
    subst hr_
    exact ret_ Tryz.func84 [(1000, (0, 1000, 0))]
   ·refine go 3 ?_
    refine adoptc_ 6 5 35 6 ?_
    refine fun h => good_loop (fun n st => n ≤ k ∧ ∃ (v4 : _) (v5 : _) (v6 : _) (g7 : Nat) (g8 : Nat), st = ⟨[(0, .ptr 1000 0 0), (1, .p (.int .i64 v0)), (4, .ptr 4 1 0), (6, .ptr 6 1 0)], [(1000, (0, .cells [.p (.str v4), .p (.int .i64 v5)])), (4, (1, .cells [.p (.int .i64 0), .p (.int .i64 0), .p (.int .i64 0), .p (.str (⟨#[]⟩ : ByteArray)), .p .nilS, .p .nilS])), (6, (1, .cells [.p (.int .i64 6), .p (.int .i64 0), .p (.int .i64 0), .p (.str (⟨#[]⟩ : ByteArray)), .p .nilS, .tip 35 g8 (List.map en105 v6)])), (7, (g7, .gone)), (35, (g8, .tip 6 (v6).length))]⟩ ∧ impl_reader_list.l0 n v0 v4 v5 v6 = some r) k ⟨_, ⟨Nat.le_refl _, _, _, _, 0, 1, rfl, h⟩, frle_, memle_⟩ ?_
    clear c1 c2 c3
    clear h
    rintro n _ ⟨hkl0, v4, v5, v6, g7, g8, rfl, h⟩ hl0
    cases n with
    | zero => exact absurd h (by simp [impl_reader_list.l0])
    | succ kl0 =>
    rw [impl_reader_list.l0] at h
    revert h
    refine go 2 ?_
    refine grs ?_
    refine gr_run ?_
    refine bind_e (fun v9 e9 => gr_call [(1000, (0, 1000, 0))] (impl_reader_value_ih _ (by omega) _ _ _ e9) ?_)
    clear e9
    refine gr_run ?_
    refine gr_done ?_
    refine bif_e (fun c4 => ?_) (fun c4 => ?_)
    ·refine bind_e (fun v10 e10 => ?_)
     replace e10 := nf_ (app_en en105 e10)
     refine go 9 ?_
     refine grs ?_
     refine gr_run ?_
     refine bind_e (fun v11 e11 => gr_call [(1000, (0, 1000, 0))] (impl_reader_eat.con e11) ?_)
     clear e11
     refine gr_done ?_
     refine bif_e (fun c5 => ?_) (fun c5 => ?_)
     ·refine go 3 ?_
      refine ret_e (fun hr_ => ?_)
      subst hr_
      exact ret_ Tryz.func84 [(1000, (0, 1000, 0))]
     ·refine go 3 ?_
      refine grs ?_
      refine gr_run ?_
      refine bind_e (fun v12 e12 => gr_call [(1000, (0, 1000, 0))] (impl_reader_eat.con e12) ?_)
      clear e12
      refine gr_run ?_
      refine gr_done ?_
      refine bif_e (fun c6 => ?_) (fun c6 => ?_)
      ·refine go 3 ?_
       exact fun h => good_again hl0 (by omega) ⟨_, ⟨by omega, _, _, _, g7 + 1, g8, rfl, h⟩, frle_, memle_⟩
      ·refine go 3 ?_
       refine ret_e (fun hr_ => ?_)
       subst hr_
       exact ret_ Tryz.func84 [(1000, (0, 1000, 0))]
    ·refine go 6 ?_
     refine ret_e (fun hr_ => ?_)
     subst hr_
     exact ret_ Tryz.func84 [(1000, (0, 1000, 0))]
 ·refine gr_run ?_
  refine gr_done ?_
  refine go 3 ?_
  refine ret_e (fun hr_ => ?_)
  subst hr_
  exact ret_ Tryz.func84 [(1000, (0, 1000, 0))]
theorem impl_reader_fields.all {K : Kn} [KOk K] (k : Nat) : impl_reader_fields.C K k ∧ impl_reader_value.C K k ∧ impl_reader_list.C K k := by
 induction k using Nat.strongRecOn with
 | _ k ih => exact ⟨impl_reader_fields.con1 k (fun m hm => (ih m hm).1) (fun m hm => (ih m hm).2.1) (fun m hm => (ih m hm).2.2), impl_reader_value.con1 k (fun m hm => (ih m hm).1) (fun m hm => (ih m hm).2.1) (fun m hm => (ih m hm).2.2), impl_reader_list.con1 k (fun m hm => (ih m hm).1) (fun m hm => (ih m hm).2.1) (fun m hm => (ih m hm).2.2)⟩
theorem impl_reader_fields.con {K : Kn} [KOk K] {k : Nat} {v0 : Int} {v1 : S115} {r : S105 × Bool × S115} (h : impl_reader_fields.f k v0 v1 = some r) : Con K Tryz.prog 85 [.ptr 1000 0 0, .p (.int .i64 v0)] [(1000, (0, .cells [.p (.str v1.f0), .p (.int .i64 v1.f1)]))] (.tup [.agg [.p (.int .i64 r.1.f0), .p (.int .i64 r.1.f1), .p (.int .i64 r.1.f2), .p (.str r.1.f3), .p (.lst false (List.map srw r.1.f4)), .p (.lst false (List.map en105 r.1.f5))], .p (.bool r.2.1)]) [(1000, (0, .cells [.p (.str r.2.2.f0), .p (.int .i64 r.2.2.f1)]))] := (impl_reader_fields.all k).1 _ _ r h
theorem impl_reader_value.con {K : Kn} [KOk K] {k : Nat} {v0 : Int} {v1 : S115} {r : S105 × Bool × S115} (h : impl_reader_value.f k v0 v1 = some r) : Con K Tryz.prog 69 [.ptr 1000 0 0, .p (.int .i64 v0)] [(1000, (0, .cells [.p (.str v1.f0), .p (.int .i64 v1.f1)]))] (.tup [.agg [.p (.int .i64 r.1.f0), .p (.int .i64 r.1.f1), .p (.int .i64 r.1.f2), .p (.str r.1.f3), .p (.lst false (List.map srw r.1.f4)), .p (.lst false (List.map en105 r.1.f5))], .p (.bool r.2.1)]) [(1000, (0, .cells [.p (.str r.2.2.f0), .p (.int .i64 r.2.2.f1)]))] := (impl_reader_fields.all k).2.1 _ _ r h
theorem impl_reader_list.con {K : Kn} [KOk K] {k : Nat} {v0 : Int} {v1 : S115} {r : S105 × Bool × S115} (h : impl_reader_list.f k v0 v1 = some r) : Con K Tryz.prog 84 [.ptr 1000 0 0, .p (.int .i64 v0)] [(1000, (0, .cells [.p (.str v1.f0), .p (.int .i64 v1.f1)]))] (.tup [.agg [.p (.int .i64 r.1.f0), .p (.int .i64 r.1.f1), .p (.int .i64 r.1.f2), .p (.str r.1.f3), .p (.lst false (List.map srw r.1.f4)), .p (.lst false (List.map en105 r.1.f5))], .p (.bool r.2.1)]) [(1000, (0, .cells [.p (.str r.2.2.f0), .p (.int .i64 r.2.2.f1)]))] := (impl_reader_fields.all k).2.2 _ _ r h
def impl_read.f (k : Nat) (v0 : ByteArray) : Option (S105 × Bool) := (bif decide (2000 < (v0.size : Int)) then (some ((⟨0, 0, 0, (⟨#[]⟩ : ByteArray), ([] : (List ByteArray)), ([] : (List S105))⟩ : S105), false)) else ((impl_reader_value.f k 0 (⟨v0, 0⟩ : S115)).bind fun v1 => (bif v1.2.1 then (some (v1.1, (v1.2.2.f1 == (v0.size : Int)))) else (some (v1.1, false)))))
set_option maxRecDepth 100000 in
set_option maxHeartbeats 4000000 in
theorem impl_read.con {K : Kn} [KOk K] {k : Nat} {v0 : ByteArray} {r : S105 × Bool} (h : impl_read.f k v0 = some r) : Con K Tryz.prog 66 [.p (.str v0)] [] (.tup [.agg [.p (.int .i64 r.1.f0), .p (.int .i64 r.1.f1), .p (.int .i64 r.1.f2), .p (.str r.1.f3), .p (.lst false (List.map srw r.1.f4)), .p (.lst false (List.map en105 r.1.f5))], .p (.bool r.2)]) [] := by
 rw [impl_read.f] at h
 refine con_intro 30 [] Tryz.func66 (by kernel_rfl) rfl rfl (by kernel_rfl) fun ι0 w0 hk0 => ?_
 revert h
 refine bif_e (fun c1 => ?_) (fun c1 => ?_)
 ·refine go 8 ?_
  refine ret_e (fun hr_ => ?_)
  subst hr_
  exact ret_ Tryz.func66 []
 ·refine go 10 ?_
  refine grs ?_
  refine gr_run ?_
  refine bind_e (fun v1 e1 => gr_call [(1000, (0, 13, 1))] (impl_reader_value.con e1) ?_)
  clear e1
  refine gr_run ?_
  refine gr_done ?_
  refine bif_e (fun c2 => ?_) (fun c2 => ?_)
  ·refine go 1 ?_
   refine grs ?_
   refine gr_run ?_
   refine gr_done ?_
   refine ret_e (fun hr_ => ?_)
   subst hr_
   exact ret_ Tryz.func66 []
  ·refine go 1 ?_
   refine grs ?_
   refine gr_run ?_
   refine gr_done ?_
   refine ret_e (fun hr_ => ?_)
   subst hr_
   exact ret_ Tryz.func66 []
mutual
def impl_val_wild.l0 : Nat → S105 → Int → Option (Bool)
 | 0, _, _ => none
 | k + 1, v0, v1 => (bif decide (v1 < (v0.f5.length : Int)) then ((ix v0.f5 v1).bind fun v3 => ((impl_val_wild.f k v3).bind fun v4 => (bif v4 then (some true) else (impl_val_wild.l0 k v0 (IntKind.i64.wrap (v1 + 1)))))) else (some false))
def impl_val_wild.f : Nat → S105 → Option (Bool)
 | 0, _ => none
 | k + 1, v0 => (bif decide (8 ≤ v0.f0) then (some true) else (impl_val_wild.l0 k v0 0))
end
def impl_val_wild.C (K : Kn) (k : Nat) : Prop := ∀ (v0 : S105) (r : Bool), impl_val_wild.f k v0 = some r → Con K Tryz.prog 67 [.agg [.p (.int .i64 v0.f0), .p (.int .i64 v0.f1), .p (.int .i64 v0.f2), .p (.str v0.f3), .p (.lst false (List.map srw v0.f4)), .p (.lst false (List.map en105 v0.f5))]] [] (.p (.bool r)) []
set_option maxRecDepth 100000 in
set_option maxHeartbeats 4000000 in
theorem impl_val_wild.con1 {K : Kn} [KOk K] (k : Nat) (impl_val_wild_ih : ∀ m, m < k → impl_val_wild.C K m) : impl_val_wild.C K k := by
 intro v0 r h
 cases k with
 | zero => exact absurd h (by simp [impl_val_wild.f])
 | succ k =>
 rw [impl_val_wild.f] at h
 refine con_intro 18 [] Tryz.func67 (by kernel_rfl) rfl rfl (by kernel_rfl) fun ι0 w0 hk0 => ?_
 revert h
 refine bif_e (fun c1 => ?_) (fun c1 => ?_)
 ·refine go 8 ?_
  refine ret_e (fun hr_ => ?_)
  subst hr_
  exact ret_ Tryz.func67 []
 ·refine go 11 ?_
  refine fun h => good_loop (fun n st => n ≤ k ∧ ∃ (v1 : _) (g2 : Nat), st = ⟨[(9, .p (.lst false (List.map en105 v0.f5))), (10, .p (.int .i64 (v0.f5.length : Int))), (11, .p (.int .i64 v1))], [(1, (1, .gone)), (4, (g2, .gone))]⟩ ∧ impl_val_wild.l0 n v0 v1 = some r) k ⟨_, ⟨Nat.le_refl _, _, 0, rfl, h⟩, frle_, memle_⟩ ?_
  clear c1
  clear h
  rintro n _ ⟨hkl0, v1, g2, rfl, h⟩ hl0
  cases n with
  | zero => exact absurd h (by simp [impl_val_wild.l0])
  | succ kl0 =>
  rw [impl_val_wild.l0] at h
  revert h
  refine bif_e (fun c2 => ?_) (fun c2 => ?_)
  ·refine bind_e (fun v3 e3 => ?_)
   replace e3 := nf_ (ix_en en105 e3)
   refine go 10 ?_
   refine grs ?_
   refine gr_run ?_
   refine bind_e (fun v4 e4 => gr_call [] (impl_val_wild_ih _ (by omega) _ _ e4) ?_)
   clear e4
   refine gr_done ?_
   refine bif_e (fun c3 => ?_) (fun c3 => ?_)
   ·refine go 3 ?_
    refine ret_e (fun hr_ => ?_)
    subst hr_
    exact ret_ Tryz.func67 []
   ·refine go 4 ?_
    exact fun h => good_again hl0 (by omega) ⟨_, ⟨by omega, _, g2 + 1, rfl, h⟩, frle_, memle_⟩
  ·refine go 7 ?_
   refine ret_e (fun hr_ => ?_)
   subst hr_
   exact ret_ Tryz.func67 []
theorem impl_val_wild.all {K : Kn} [KOk K] (k : Nat) : impl_val_wild.C K k := by
 induction k using Nat.strongRecOn with
 | _ k ih => exact impl_val_wild.con1 k ih
theorem impl_val_wild.con {K : Kn} [KOk K] {k : Nat} {v0 : S105} {r : Bool} (h : impl_val_wild.f k v0 = some r) : Con K Tryz.prog 67 [.agg [.p (.int .i64 v0.f0), .p (.int .i64 v0.f1), .p (.int .i64 v0.f2), .p (.str v0.f3), .p (.lst false (List.map srw v0.f4)), .p (.lst false (List.map en105 v0.f5))]] [] (.p (.bool r)) [] := (impl_val_wild.all k) _ r h
def impl_fieldValue.f (k : Nat) (v0 : ByteArray) : Option (Bool) := ((impl_read.f k v0).bind fun v1 => (bif v1.2 then (bif (v1.1.f0 == 0) then (some false) else ((impl_val_wild.f k v1.1).bind fun v2 => (some (!v2)))) else (some false)))
set_option maxRecDepth 100000 in
set_option maxHeartbeats 4000000 in
theorem impl_fieldValue.con {K : Kn} [KOk K] {k : Nat} {v0 : ByteArray} {r : Bool} (h : impl_fieldValue.f k v0 = some r) : Con K Tryz.prog 60 [.p (.str v0)] [] (.p (.bool r)) [] := by
 rw [impl_fieldValue.f] at h
 refine con_intro 21 [] Tryz.func60 (by kernel_rfl) rfl rfl (by kernel_rfl) fun ι0 w0 hk0 => ?_
 revert h
 refine go 3 ?_
 refine grs ?_
 refine gr_run ?_
 refine bind_e (fun v1 e1 => gr_call [] (impl_read.con e1) ?_)
 clear e1
 refine gr_run ?_
 refine gr_done ?_
 refine bif_e (fun c1 => ?_) (fun c1 => ?_)
 ·refine bif_e (fun c2 => ?_) (fun c2 => ?_)
  ·refine go 2 ?_
   refine ret_e (fun hr_ => ?_)
   subst hr_
   exact ret_ Tryz.func60 []
  ·refine go 1 ?_
   refine grs ?_
   refine gr_run ?_
   refine bind_e (fun v2 e2 => gr_call [] (impl_val_wild.con e2) ?_)
   clear e2
   refine gr_run ?_
   refine gr_done ?_
   refine ret_e (fun hr_ => ?_)
   subst hr_
   exact ret_ Tryz.func60 []
 ·refine go 2 ?_
  refine ret_e (fun hr_ => ?_)
  subst hr_
  exact ret_ Tryz.func60 []
mutual
def impl_fieldsOk.l0 : Nat → (List S91) → Int → Option (Bool)
 | 0, _, _ => none
 | k + 1, v0, v1 => (bif decide (v1 < (v0.length : Int)) then ((ix v0 v1).bind fun v3 => ((impl_isName.f k v3.f0).bind fun v4 => (bif v4 then (bif decide (0 < v1) then ((ix v0 (IntKind.i64.wrap (v1 - 1))).bind fun v5 => (bif slt v5.f0 v3.f0 then ((impl_fieldValue.f k v3.f1).bind fun v6 => (bif v6 then (impl_fieldsOk.l0 k v0 (IntKind.i64.wrap (v1 + 1))) else (some false))) else (some false))) else ((impl_fieldValue.f k v3.f1).bind fun v7 => (bif v7 then (impl_fieldsOk.l0 k v0 (IntKind.i64.wrap (v1 + 1))) else (some false)))) else (some false)))) else (some true))
def impl_fieldsOk.f : Nat → (List S91) → Option (Bool)
 | 0, _ => none
 | k + 1, v0 => (bif decide (20 < (v0.length : Int)) then (some false) else (impl_fieldsOk.l0 k v0 0))
end
set_option maxRecDepth 100000 in
set_option maxHeartbeats 4000000 in
theorem impl_fieldsOk.con {K : Kn} [KOk K] {k : Nat} {v0 : (List S91)} {r : Bool} (h : impl_fieldsOk.f k v0 = some r) : Con K Tryz.prog 50 [.p (.lst false (List.map en91 v0))] [] (.p (.bool r)) [] := by
 cases k with
 | zero => exact absurd h (by simp [impl_fieldsOk.f])
 | succ k =>
 rw [impl_fieldsOk.f] at h
 refine con_intro 41 [] Tryz.func50 (by kernel_rfl) rfl rfl (by kernel_rfl) fun ι0 w0 hk0 => ?_
 revert h
 refine bif_e (fun c1 => ?_) (fun c1 => ?_)
 ·refine go 8 ?_
  refine ret_e (fun hr_ => ?_)
  subst hr_
  exact ret_ Tryz.func50 []
 ·refine go 11 ?_
  refine fun h => good_loop (fun n st => n ≤ k ∧ ∃ (v1 : _) (g2 : Nat), st = ⟨[(0, .p (.lst false (List.map en91 v0))), (8, .p (.lst false (List.map en91 v0))), (9, .p (.int .i64 (v0.length : Int))), (10, .p (.int .i64 v1))], [(4, (g2, .gone))]⟩ ∧ impl_fieldsOk.l0 n v0 v1 = some r) k ⟨_, ⟨Nat.le_refl _, _, 0, rfl, h⟩, frle_, memle_⟩ ?_
  clear c1
  clear h
  rintro n _ ⟨hkl0, v1, g2, rfl, h⟩ hl0
  cases n with
  | zero => exact absurd h (by simp [impl_fieldsOk.l0])
  | succ kl0 =>
  rw [impl_fieldsOk.l0] at h
  revert h
  refine bif_e (fun c2 => ?_) (fun c2 => ?_)
  ·refine bind_e (fun v3 e3 => ?_)
   replace e3 := nf_ (ix_en en91 e3)
   refine go 10 ?_
   refine grs ?_
   refine gr_run ?_
   refine bind_e (fun v4 e4 => gr_call [] (impl_isName.con e4) ?_)
   clear e4
   refine bif_e (fun c3 => ?_) (fun c3 => ?_)
   ·refine bif_e (fun c4 => ?_) (fun c4 => ?_)
    ·refine bind_e (fun v5 e5 => ?_)
     replace e5 := nf_ (ix_en en91 e5)
     refine bif_e (fun c5 => ?_) (fun c5 => ?_)
     ·refine gr_run ?_
      refine bind_e (fun v6 e6 => gr_call [] (impl_fieldValue.con e6) ?_)
      clear e6
      refine gr_run ?_
      refine gr_done ?_
      refine bif_e (fun c6 => ?_) (fun c6 => ?_)
      ·refine go 4 ?_
       exact fun h => good_again hl0 (by omega) ⟨_, ⟨by omega, _, g2 + 1, rfl, h⟩, frle_, memle_⟩
      ·refine go 3 ?_
       refine ret_e (fun hr_ => ?_)
       subst hr_
       exact ret_ Tryz.func50 []
     ·refine gr_run ?_
      refine gr_done ?_
      refine go 3 ?_
      refine ret_e (fun hr_ => ?_)
      subst hr_
      exact ret_ Tryz.func50 []
    ·refine gr_run ?_
     refine bind_e (fun v7 e7 => gr_call [] (impl_fieldValue.con e7) ?_)
     clear e7
     refine gr_run ?_
     refine gr_done ?_
     refine bif_e (fun c7 => ?_) (fun c7 => ?_)
     ·refine go 4 ?_
      exact fun h => good_again hl0 (by omega) ⟨_, ⟨by omega, _, g2 + 1, rfl, h⟩, frle_, memle_⟩
     ·refine go 3 ?_
      refine ret_e (fun hr_ => ?_)
      subst hr_
      exact ret_ Tryz.func50 []
   ·refine gr_run ?_
    refine gr_done ?_
    refine go 3 ?_
    refine ret_e (fun hr_ => ?_)
    subst hr_
    exact ret_ Tryz.func50 []
  ·refine go 7 ?_
   refine ret_e (fun hr_ => ?_)
   subst hr_
   exact ret_ Tryz.func50 []
end Go.Ab
