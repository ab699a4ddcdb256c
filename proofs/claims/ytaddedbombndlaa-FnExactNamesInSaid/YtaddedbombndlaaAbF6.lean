/- What the functions compute, and their contracts, part 6. No condition beyond KOk. -/
import Derived.Test.YtaddedbombndlaaAbX
import Derived.Test.YtaddedbombndlaaAbF1
import Derived.Test.YtaddedbombndlaaAbF3
import Derived.Test.YtaddedbombndlaaAbF5
namespace Go.Ab
open Go.Proofs
set_option linter.unusedVariables false
set_option linter.unusedSimpArgs false
def laws_markPattern_sv.f (k : Nat) (v0 : (List S124)) (v1 : (List S127)) (v2 : Int) : Option (Int) := ((laws_markPatNodeS_sv.f k v0 v2).bind fun v3 => ((laws_markPatEdgeS_sv.f k v1 v3).bind fun v4 => (some v4)))
set_option maxRecDepth 100000 in
set_option maxHeartbeats 4000000 in
theorem laws_markPattern_sv.con {K : Kn} [KOk K] {k : Nat} {v0 : (List S124)} {v1 : (List S127)} {v2 : Int} {r : Int} (h : laws_markPattern_sv.f k v0 v1 v2 = some r) : Con K Try.prog 19 [.agg [.u, .u, .u, .sh 1000 0 (List.map en124 v0), .sh 1000 0 (List.map en127 v1)], .p (.int .i64 v2)] [(1000, (0, .pool))] (.p (.int .i64 r)) [(1000, (0, .pool))] := by
 rw [laws_markPattern_sv.f] at h
 refine con_intro 14 [] Try.func19 (by kernel_rfl) rfl rfl (by kernel_rfl) fun ι0 w0 hk0 => ?_
 revert h
 refine go 3 ?_
 refine grs ?_
 refine gr_run ?_
 refine bind_e (fun v3 e3 => gr_call [(1000, (0, 1000, 0))] (laws_markPatNodeS_sv.con e3) ?_)
 clear e3
 refine gr_run ?_
 refine gr_done ?_
 refine go 1 ?_
 refine grs ?_
 refine gr_run ?_
 refine bind_e (fun v4 e4 => gr_call [(1000, (0, 1000, 0))] (laws_markPatEdgeS_sv.con e4) ?_)
 clear e4
 refine gr_run ?_
 refine gr_done ?_
 refine go 2 ?_
 refine ret_e (fun hr_ => ?_)
 subst hr_
 exact ret_ Try.func19 [(1000, (0, 1000, 0))]
mutual
def laws_markStringS_bv.l0 : Nat → Nat → Int → Int → (List ByteArray) → Option (Int × (List ByteArray))
 | 0, _, _, _, _ => none
 | k + 1, v0, v3, v4, v5 => (bif decide (v4 < (v0 : Int)) then ((laws_markText.f k v3).bind fun v6 => ((inr v4 v0).bind fun v7 => ((v5[(Int.toNat v4)]?).bind fun v8 => (laws_markStringS_bv.l0 k v0 (IntKind.i64.wrap (v3 + 1)) (IntKind.i64.wrap (v4 + 1)) (setr v5 (Int.toNat v4) v6))))) else (some (v3, v5)))
def laws_markStringS_bv.f : Nat → Nat → Int → (List ByteArray) → Option (Int × (List ByteArray))
 | 0, _, _, _ => none
 | k + 1, v0, v1, v2 => (laws_markStringS_bv.l0 k v0 v1 0 v2)
end
set_option maxRecDepth 100000 in
set_option maxHeartbeats 4000000 in
theorem laws_markStringS_bv.con {K : Kn} [KOk K] {k : Nat} {v0 : Nat} {v1 : Int} {v2 : (List ByteArray)} {r : Int × (List ByteArray)} (h : laws_markStringS_bv.f k v0 v1 v2 = some r) : Con K Try.prog 12 [.buf 1000 0 0 v0, .p (.int .i64 v1)] [(1000, (0, .buf 1 (List.map srw v2)))] (.p (.int .i64 r.1)) [(1000, (0, .buf 1 (List.map srw r.2)))] := by
 cases k with
 | zero => exact absurd h (by simp [laws_markStringS_bv.f])
 | succ k =>
 rw [laws_markStringS_bv.f] at h
 refine con_intro 20 [] Try.func12 (by kernel_rfl) rfl rfl (by kernel_rfl) fun ι0 w0 hk0 => ?_
 revert h
 refine go 6 ?_
 refine fun h => good_loop (fun n st => n ≤ k ∧ ∃ (v3 : _) (v4 : _) (v5 : _), st = ⟨[(0, .buf 1000 0 0 v0), (1, .p (.int .i64 v3)), (5, .p (.int .i64 v4))], [(1000, (0, .buf 1 (List.map srw v5)))]⟩ ∧ laws_markStringS_bv.l0 n v0 v3 v4 v5 = some r) k ⟨_, ⟨Nat.le_refl _, _, _, _, rfl, h⟩, frle_, memle_⟩ ?_
 clear h
 rintro n _ ⟨hkl0, v3, v4, v5, rfl, h⟩ hl0
 cases n with
 | zero => exact absurd h (by simp [laws_markStringS_bv.l0])
 | succ kl0 =>
 rw [laws_markStringS_bv.l0] at h
 revert h
 refine bif_e (fun c1 => ?_) (fun c1 => ?_)
 ·refine go 8 ?_
  refine grs ?_
  refine gr_run ?_
  refine bind_e (fun v6 e6 => gr_call [] (laws_markText.con e6) ?_)
  clear e6
  refine bind_e (fun v7 e7 => ?_)
  refine bind_e (fun v8 e8 => ?_)
  replace e8 := nf_ (gx_en srw e8)
  refine gr_run ?_
  refine gr_done ?_
  refine go 3 ?_
  exact fun h => good_again hl0 (by omega) ⟨_, ⟨by omega, _, _, _, rfl, h⟩, frle_, memle_⟩
 ·refine go 7 ?_
  refine ret_e (fun hr_ => ?_)
  subst hr_
  exact ret_ Try.func12 [(1000, (0, 1000, 0))]
mutual
def laws_heldStringS_bv.l0 : Nat → Nat → Int → Int → (List ByteArray) → Option (Int)
 | 0, _, _, _, _ => none
 | k + 1, v0, v3, v4, v2 => (bif decide (v4 < (v0 : Int)) then ((inr v4 v0).bind fun v5 => ((v2[(Int.toNat v4)]?).bind fun v6 => ((laws_markText.f k v3).bind fun v7 => (bif decide (v6 = v7) then (laws_heldStringS_bv.l0 k v0 (IntKind.i64.wrap (v3 + 1)) (IntKind.i64.wrap (v4 + 1)) v2) else (some (-1)))))) else (some v3))
def laws_heldStringS_bv.f : Nat → Nat → Int → (List ByteArray) → Option (Int)
 | 0, _, _, _ => none
 | k + 1, v0, v1, v2 => (laws_heldStringS_bv.l0 k v0 v1 0 v2)
end
set_option maxRecDepth 100000 in
set_option maxHeartbeats 4000000 in
theorem laws_heldStringS_bv.con {K : Kn} [KOk K] {k : Nat} {v0 : Nat} {v1 : Int} {v2 : (List ByteArray)} {r : Int} (h : laws_heldStringS_bv.f k v0 v1 v2 = some r) : Con K Try.prog 13 [.buf 1000 0 0 v0, .p (.int .i64 v1)] [(1000, (0, .buf 1 (List.map srw v2)))] (.p (.int .i64 r)) [(1000, (0, .buf 1 (List.map srw v2)))] := by
 cases k with
 | zero => exact absurd h (by simp [laws_heldStringS_bv.f])
 | succ k =>
 rw [laws_heldStringS_bv.f] at h
 refine con_intro 22 [] Try.func13 (by kernel_rfl) rfl rfl (by kernel_rfl) fun ι0 w0 hk0 => ?_
 revert h
 refine go 6 ?_
 refine fun h => good_loop (fun n st => n ≤ k ∧ ∃ (v3 : _) (v4 : _), st = ⟨[(0, .buf 1000 0 0 v0), (1, .p (.int .i64 v3)), (5, .p (.int .i64 v4))], [(1000, (0, .buf 1 (List.map srw v2)))]⟩ ∧ laws_heldStringS_bv.l0 n v0 v3 v4 v2 = some r) k ⟨_, ⟨Nat.le_refl _, _, _, rfl, h⟩, frle_, memle_⟩ ?_
 clear h
 rintro n _ ⟨hkl0, v3, v4, rfl, h⟩ hl0
 cases n with
 | zero => exact absurd h (by simp [laws_heldStringS_bv.l0])
 | succ kl0 =>
 rw [laws_heldStringS_bv.l0] at h
 revert h
 refine bif_e (fun c1 => ?_) (fun c1 => ?_)
 ·refine bind_e (fun v5 e5 => ?_)
  refine bind_e (fun v6 e6 => ?_)
  replace e6 := nf_ (gx_en srw e6)
  refine go 9 ?_
  refine grs ?_
  refine gr_run ?_
  refine bind_e (fun v7 e7 => gr_call [] (laws_markText.con e7) ?_)
  clear e7
  refine gr_run ?_
  refine gr_done ?_
  refine bif_e (fun c2 => ?_) (fun c2 => ?_)
  ·refine go 5 ?_
   exact fun h => good_again hl0 (by omega) ⟨_, ⟨by omega, _, _, rfl, h⟩, frle_, memle_⟩
  ·refine go 3 ?_
   refine ret_e (fun hr_ => ?_)
   subst hr_
   exact ret_ Try.func13 [(1000, (0, 1000, 0))]
 ·refine go 7 ?_
  refine ret_e (fun hr_ => ?_)
  subst hr_
  exact ret_ Try.func13 [(1000, (0, 1000, 0))]
def laws_FnExactNamesIn.f (k : Nat) (v0 : S43) : Option (Bool) := ((laws_szPattern.f k v0 1048576).bind fun v1 => (bif decide (v1 < 0) then (some true) else ((laws_toPattern.f k v0).bind fun v2 => ((spec_NamesIn_O.f k v2).bind fun v3 => ((laws_toPattern.f k v0).bind fun v4 => ((impl_NamesIn_O.f k v4).bind fun v5 => ((laws_eqStringS_bb.f k v5.length v3.length v5 v3).bind fun v6 => (bif v6 then ((laws_toPattern.f k v0).bind fun v7 => ((laws_eqPattern.f k v4 v7).bind fun v8 => (bif v8 then ((laws_markPattern_sv.f k v4.f3 v4.f4 1).bind fun v9 => (bif decide (v9 < 0) then (some false) else ((laws_eqStringS_bb.f k v5.length v3.length v5 v3).bind fun v10 => (bif v10 then ((laws_markStringS_bv.f k v5.length 1 v5).bind fun v11 => ((laws_heldStringS_bv.f k v5.length 1 v11.2).bind fun v12 => (bif decide (v12 < 0) then (some false) else (bif (v12 == v11.1) then ((laws_toPattern.f k v0).bind fun v13 => ((impl_NamesIn_O.f k v13).bind fun v14 => ((laws_eqStringS_bb.f k v14.length v3.length v14 v3).bind fun v15 => (bif v15 then ((laws_heldStringS_bv.f k v5.length 1 v11.2).bind fun v16 => (bif decide (v16 < 0) then (some false) else (bif (v16 == v11.1) then (some true) else (some false)))) else (some false))))) else (some false))))) else (some false))))) else (some false)))) else (some false)))))))))
set_option maxRecDepth 100000 in
set_option maxHeartbeats 4000000 in
theorem laws_FnExactNamesIn.con {K : Kn} [KOk K] {k : Nat} {v0 : S43} {r : Bool} (h : laws_FnExactNamesIn.f k v0 = some r) : ConT K Try.prog 4 [.agg [.p (.str v0.f0), .p (.int .i64 v0.f1), .p (.bool v0.f2), .od (.lst false (List.map en124 v0.f3)), .od (.lst false (List.map en127 v0.f4))]] [] (.p (.bool r)) [] := by
 rw [laws_FnExactNamesIn.f] at h
 refine conT_intro 69 [] Try.func4 (by kernel_rfl) rfl rfl (by kernel_rfl) fun ι0 w0 hN0 hk0 => ?_
 revert h
 refine go 5 ?_
 refine grs ?_
 refine gr_run ?_
 refine bind_e (fun v1 e1 => gr_call [] (laws_szPattern.con e1) ?_)
 clear e1
 refine gr_run ?_
 refine gr_done ?_
 refine bif_e (fun c1 => ?_) (fun c1 => ?_)
 ·refine go 6 ?_
  refine ret_e (fun hr_ => ?_)
  subst hr_
  exact ret_ Try.func4 []
 ·refine go 6 ?_
  refine grs ?_
  refine gr_run ?_
  refine bind_e (fun v2 e2 => gr_call [] (laws_toPattern.con e2) ?_)
  clear e2
  refine bind_e (fun v3 e3 => gr_call [(2000, (1, 18, 1))] (spec_NamesIn_O.con e3) ?_)
  clear e3
  refine gr_run ?_
  refine gr_done ?_
  refine go 1 ?_
  refine grs ?_
  refine gr_run ?_
  refine bind_e (fun v4 e4 => gr_call [] (laws_toPattern.con e4) ?_)
  clear e4
  refine gr_run ?_
  refine gr_done ?_
  refine go 1 ?_
  refine grs ?_
  refine gr_run ?_
  refine bind_e (fun v5 e5 => gr_call [(2000, (1, 22, 1))] (impl_NamesIn_O.con e5) ?_)
  clear e5
  refine gr_run ?_
  refine gr_done ?_
  refine go 2 ?_
  refine grs ?_
  refine gr_run ?_
  refine bind_e (fun v6 e6 => gr_call [(1000, (0, 22, 1)), (1001, (0, 18, 1))] (laws_eqStringS_bb.con e6) ?_)
  clear e6
  refine gr_run ?_
  refine gr_done ?_
  refine bif_e (fun c2 => ?_) (fun c2 => ?_)
  ·refine go 4 ?_
   refine grs ?_
   refine gr_run ?_
   refine bind_e (fun v7 e7 => gr_call [] (laws_toPattern.con e7) ?_)
   clear e7
   refine bind_e (fun v8 e8 => gr_call [] (laws_eqPattern.con e8) ?_)
   clear e8
   refine gr_run ?_
   refine gr_done ?_
   refine bif_e (fun c3 => ?_) (fun c3 => ?_)
   ·refine go 5 ?_
    refine pool_ 900 (⟨[(1, .ptr 1 1 0), (4, .buf 18 1 0 v3.length), (5, .ptr 5 1 0), (6, .buf 22 1 0 v5.length), (7, .p (.int .i64 1))], [(1, (1, .cells [.p (.str v0.f0), .p (.int .i64 v0.f1), .p (.bool v0.f2), .od (.lst false (List.map en124 v0.f3)), .od (.lst false (List.map en127 v0.f4))])), (18, (1, .buf 1 (List.map srw v3))), (5, (1, .cells [.p (.str v4.f0), .p (.int .i64 v4.f1), .p (.bool v4.f2), .nw (.lst false (List.map en124 v4.f3)), .nw (.lst false (List.map en127 v4.f4))])), (22, (1, .buf 1 (List.map srw v5)))]⟩) (⟨[(1, .ptr 1 1 0), (4, .buf 18 1 0 v3.length), (5, .ptr 5 1 0), (6, .buf 22 1 0 v5.length), (7, .p (.int .i64 1))], [(900, (1, .pool)), (1, (1, .cells [.p (.str v0.f0), .p (.int .i64 v0.f1), .p (.bool v0.f2), .od (.lst false (List.map en124 v0.f3)), .od (.lst false (List.map en127 v0.f4))])), (18, (1, .buf 1 (List.map srw v3))), (5, (1, .cells [.p (.str v4.f0), .p (.int .i64 v4.f1), .p (.bool v4.f2), .sh 900 1 (List.map en124 v4.f3), .sh 900 1 (List.map en127 v4.f4)])), (22, (1, .buf 1 (List.map srw v5)))]⟩) ?_
    refine grs ?_
    refine gr_run ?_
    refine bind_e (fun v9 e9 => gr_call [(1000, (0, 900, 1))] (laws_markPattern_sv.con e9) ?_)
    clear e9
    refine gr_run ?_
    refine gr_done ?_
    refine bif_e (fun c4 => ?_) (fun c4 => ?_)
    ·refine go 6 ?_
     refine ret_e (fun hr_ => ?_)
     subst hr_
     exact ret_ Try.func4 []
    ·refine go 2 ?_
     refine grs ?_
     refine gr_run ?_
     refine bind_e (fun v10 e10 => gr_call [(1000, (0, 22, 1)), (1001, (0, 18, 1))] (laws_eqStringS_bb.con e10) ?_)
     clear e10
     refine gr_run ?_
     refine gr_done ?_
     refine bif_e (fun c5 => ?_) (fun c5 => ?_)
     ·refine go 5 ?_
      refine grs ?_
      refine gr_run ?_
      refine bind_e (fun v11 e11 => gr_call [(1000, (0, 22, 1))] (laws_markStringS_bv.con e11) ?_)
      clear e11
      refine gr_run ?_
      refine gr_done ?_
      refine go 3 ?_
      refine grs ?_
      refine gr_run ?_
      refine bind_e (fun v12 e12 => gr_call [(1000, (0, 22, 1))] (laws_heldStringS_bv.con e12) ?_)
      clear e12
      refine gr_run ?_
      refine gr_done ?_
      refine bif_e (fun c6 => ?_) (fun c6 => ?_)
      ·refine go 6 ?_
       refine ret_e (fun hr_ => ?_)
       subst hr_
       exact ret_ Try.func4 []
      ·refine bif_e (fun c7 => ?_) (fun c7 => ?_)
       ·refine go 11 ?_
        refine grs ?_
        refine gr_run ?_
        refine bind_e (fun v13 e13 => gr_call [] (laws_toPattern.con e13) ?_)
        clear e13
        refine bind_e (fun v14 e14 => gr_call [(2000, (1, 56, 1))] (impl_NamesIn_O.con e14) ?_)
        clear e14
        refine gr_run ?_
        refine gr_done ?_
        refine go 2 ?_
        refine grs ?_
        refine gr_run ?_
        refine bind_e (fun v15 e15 => gr_call [(1000, (0, 56, 1)), (1001, (0, 18, 1))] (laws_eqStringS_bb.con e15) ?_)
        clear e15
        refine gr_run ?_
        refine gr_done ?_
        refine bif_e (fun c8 => ?_) (fun c8 => ?_)
        ·refine go 5 ?_
         refine grs ?_
         refine gr_run ?_
         refine bind_e (fun v16 e16 => gr_call [(1000, (0, 22, 1))] (laws_heldStringS_bv.con e16) ?_)
         clear e16
         refine gr_run ?_
         refine gr_done ?_
         refine bif_e (fun c9 => ?_) (fun c9 => ?_)
         ·refine go 6 ?_
          refine ret_e (fun hr_ => ?_)
          subst hr_
          exact ret_ Try.func4 []
         ·refine bif_e (fun c10 => ?_) (fun c10 => ?_)
          ·refine go 12 ?_
           refine ret_e (fun hr_ => ?_)
           subst hr_
           exact ret_ Try.func4 []
          ·refine go 11 ?_
           refine ret_e (fun hr_ => ?_)
           subst hr_
           exact ret_ Try.func4 []
        ·refine go 3 ?_
         refine ret_e (fun hr_ => ?_)
         subst hr_
         exact ret_ Try.func4 []
       ·refine go 11 ?_
        refine ret_e (fun hr_ => ?_)
        subst hr_
        exact ret_ Try.func4 []
     ·refine go 3 ?_
      refine ret_e (fun hr_ => ?_)
      subst hr_
      exact ret_ Try.func4 []
   ·refine go 3 ?_
    refine ret_e (fun hr_ => ?_)
    subst hr_
    exact ret_ Try.func4 []
  ·refine go 3 ?_
   refine ret_e (fun hr_ => ?_)
   subst hr_
   exact ret_ Try.func4 []
end Go.Ab
