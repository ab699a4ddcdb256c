/- What the functions compute, and their contracts, part 3. No condition beyond KOk. -/
import Derived.Test.YtfeieigajdekhaaAbX
import Derived.Test.YtfeieigajdekhaaAbY
import Derived.Test.YtfeieigajdekhaaAbF2
namespace Go.Ab
open Go.Proofs
set_option linter.unusedVariables false
set_option linter.unusedSimpArgs false
mutual
def laws_eqStringS_bb.l0 : Nat → Nat → Nat → Int → (List ByteArray) → (List ByteArray) → Option (Bool)
 | 0, _, _, _, _, _ => none
 | k + 1, v0, v1, v4, v2, v3 => (bif decide (v4 < (v0 : Int)) then ((inr v4 v0).bind fun v5 => ((v2[(Int.toNat v4)]?).bind fun v6 => ((inr v4 v1).bind fun v7 => ((v3[(Int.toNat v4)]?).bind fun v8 => (bif decide (v6 = v8) then (laws_eqStringS_bb.l0 k v0 v1 (IntKind.i64.wrap (v4 + 1)) v2 v3) else (some false)))))) else (some true))
def laws_eqStringS_bb.f : Nat → Nat → Nat → (List ByteArray) → (List ByteArray) → Option (Bool)
 | 0, _, _, _, _ => none
 | k + 1, v0, v1, v2, v3 => (bif ((v0 : Int) == (v1 : Int)) then (laws_eqStringS_bb.l0 k v0 v1 0 v2 v3) else (some false))
end
set_option maxRecDepth 100000 in
set_option maxHeartbeats 4000000 in
theorem laws_eqStringS_bb.con {K : Kn} [KOk K] {k : Nat} {v0 : Nat} {v1 : Nat} {v2 : (List ByteArray)} {v3 : (List ByteArray)} {r : Bool} (h : laws_eqStringS_bb.f k v0 v1 v2 v3 = some r) : Con K Try.prog 13 [.buf 1000 0 0 v0, .buf 1001 0 0 v1] [(1000, (0, .buf 1 (List.map srw v2))), (1001, (0, .buf 1 (List.map srw v3)))] (.p (.bool r)) [(1000, (0, .buf 1 (List.map srw v2))), (1001, (0, .buf 1 (List.map srw v3)))] := by
 cases k with
 | zero => exact absurd h (by simp [laws_eqStringS_bb.f])
 | succ k =>
 rw [laws_eqStringS_bb.f] at h
 refine con_intro 26 [] Try.func13 (by kernel_rfl) rfl rfl (by kernel_rfl) fun ι0 w0 hk0 => ?_
 revert h
 refine bif_e (fun c1 => ?_) (fun c1 => ?_)
 ·refine go 11 ?_
  refine fun h => good_loop (fun n st => n ≤ k ∧ ∃ (v4 : _), st = ⟨[(0, .buf 1000 0 0 v0), (1, .buf 1001 0 0 v1), (5, .p (.int .i64 v4))], [(1000, (0, .buf 1 (List.map srw v2))), (1001, (0, .buf 1 (List.map srw v3)))]⟩ ∧ laws_eqStringS_bb.l0 n v0 v1 v4 v2 v3 = some r) k ⟨_, ⟨Nat.le_refl _, _, rfl, h⟩, frle_, memle_⟩ ?_
  clear c1
  clear h
  rintro n _ ⟨hkl0, v4, rfl, h⟩ hl0
  cases n with
  | zero => exact absurd h (by simp [laws_eqStringS_bb.l0])
  | succ kl0 =>
  rw [laws_eqStringS_bb.l0] at h
  revert h
  refine bif_e (fun c2 => ?_) (fun c2 => ?_)
  ·refine bind_e (fun v5 e5 => ?_)
   refine bind_e (fun v6 e6 => ?_)
   replace e6 := nf_ (gx_en srw e6)
   refine bind_e (fun v7 e7 => ?_)
   refine bind_e (fun v8 e8 => ?_)
   replace e8 := nf_ (gx_en srw e8)
   refine go 8 ?_
   refine grs ?_
   refine gr_run ?_
   refine gr_done ?_
   refine bif_e (fun c3 => ?_) (fun c3 => ?_)
   ·refine go 4 ?_
    exact fun h => good_again hl0 (by omega) ⟨_, ⟨by omega, _, rfl, h⟩, frle_, memle_⟩
   ·refine go 3 ?_
    refine ret_e (fun hr_ => ?_)
    subst hr_
    exact ret_ Try.func13 [(1000, (0, 1000, 0)), (1001, (0, 1001, 0))]
  ·refine go 7 ?_
   refine ret_e (fun hr_ => ?_)
   subst hr_
   exact ret_ Try.func13 [(1000, (0, 1000, 0)), (1001, (0, 1001, 0))]
 ·refine go 8 ?_
  refine ret_e (fun hr_ => ?_)
  subst hr_
  exact ret_ Try.func13 [(1000, (0, 1000, 0)), (1001, (0, 1001, 0))]
mutual
def laws_markText.l0 : Nat → Int → ByteArray → Option (ByteArray)
 | 0, _, _ => none
 | k + 1, v1, v2 => (bif decide (0 < v1) then ((rem v1 10).bind fun v4 => ((cat (bstr ([(IntKind.u8.wrap (IntKind.i64.wrap (48 + v4)))] : List Int)) v2).bind fun v5 => ((quo .i64 v1 10).bind fun v6 => (laws_markText.l0 k v6 v5)))) else ((cat (⟨#[109]⟩ : ByteArray) v2).bind fun v3 => (some v3)))
def laws_markText.f : Nat → Int → Option (ByteArray)
 | 0, _ => none
 | k + 1, v0 => (bif decide (v0 ≤ 0) then (some (⟨#[109, 48]⟩ : ByteArray)) else (laws_markText.l0 k v0 (⟨#[]⟩ : ByteArray)))
end
set_option maxRecDepth 100000 in
set_option maxHeartbeats 4000000 in
theorem laws_markText.con {K : Kn} [KOk K] {k : Nat} {v0 : Int} {r : ByteArray} (h : laws_markText.f k v0 = some r) : Con K Try.prog 37 [.p (.int .i64 v0)] [] (.p (.str r)) [] := by
 cases k with
 | zero => exact absurd h (by simp [laws_markText.f])
 | succ k =>
 rw [laws_markText.f] at h
 refine con_intro 20 [] Try.func37 (by kernel_rfl) rfl rfl (by kernel_rfl) fun ι0 w0 hk0 => ?_
 revert h
 refine bif_e (fun c1 => ?_) (fun c1 => ?_)
 ·refine go 8 ?_
  refine ret_e (fun hr_ => ?_)
  subst hr_
  exact ret_ Try.func37 []
 ·refine go 11 ?_
  refine fun h => good_loop (fun n st => n ≤ k ∧ ∃ (v1 : _) (v2 : _), st = ⟨[(0, .p (.int .i64 v1)), (3, .p (.str v2))], []⟩ ∧ laws_markText.l0 n v1 v2 = some r) k ⟨_, ⟨Nat.le_refl _, _, _, rfl, h⟩, frle_, memle_⟩ ?_
  clear c1
  clear h
  rintro n _ ⟨hkl0, v1, v2, rfl, h⟩ hl0
  cases n with
  | zero => exact absurd h (by simp [laws_markText.l0])
  | succ kl0 =>
  rw [laws_markText.l0] at h
  revert h
  refine bif_e (fun c2 => ?_) (fun c2 => ?_)
  ·refine bind_e (fun v4 e4 => ?_)
   refine bind_e (fun v5 e5 => ?_)
   refine bind_e (fun v6 e6 => ?_)
   refine go 10 ?_
   exact fun h => good_again hl0 (by omega) ⟨_, ⟨by omega, _, _, rfl, h⟩, frle_, memle_⟩
  ·refine bind_e (fun v3 e3 => ?_)
   refine go 7 ?_
   refine ret_e (fun hr_ => ?_)
   subst hr_
   exact ret_ Try.func37 []
mutual
def laws_markStringS_bv.l0 : Nat → Nat → Int → Int → (List ByteArray) → Option (Int × (List ByteArray))
 | 0, _, _, _, _ => none
 | k + 1, v0, v3, v4, v5 => (bif decide (v4 < (v0 : Int)) then ((laws_markText.f k v3).bind fun v6 => ((inr v4 v0).bind fun v7 => ((v5[(Int.toNat v4)]?).bind fun v8 => (laws_markStringS_bv.l0 k v0 (IntKind.i64.wrap (v3 + 1)) (IntKind.i64.wrap (v4 + 1)) (setr v5 (Int.toNat v4) v6))))) else (some (v3, v5)))
def laws_markStringS_bv.f : Nat → Nat → Int → (List ByteArray) → Option (Int × (List ByteArray))
 | 0, _, _, _ => none
 | k + 1, v0, v1, v2 => (laws_markStringS_bv.l0 k v0 v1 0 v2)
end
set_option maxRecDepth 100000 in
set_option maxHeartbeats 4000000 in
theorem laws_markStringS_bv.con {K : Kn} [KOk K] {k : Nat} {v0 : Nat} {v1 : Int} {v2 : (List ByteArray)} {r : Int × (List ByteArray)} (h : laws_markStringS_bv.f k v0 v1 v2 = some r) : Con K Try.prog 14 [.buf 1000 0 0 v0, .p (.int .i64 v1)] [(1000, (0, .buf 1 (List.map srw v2)))] (.p (.int .i64 r.1)) [(1000, (0, .buf 1 (List.map srw r.2)))] := by
 cases k with
 | zero => exact absurd h (by simp [laws_markStringS_bv.f])
 | succ k =>
 rw [laws_markStringS_bv.f] at h
 refine con_intro 20 [] Try.func14 (by kernel_rfl) rfl rfl (by kernel_rfl) fun ι0 w0 hk0 => ?_
 revert h
 refine go 6 ?_
 refine fun h => good_loop (fun n st => n ≤ k ∧ ∃ (v3 : _) (v4 : _) (v5 : _), st = ⟨[(0, .buf 1000 0 0 v0), (1, .p (.int .i64 v3)), (5, .p (.int .i64 v4))], [(1000, (0, .buf 1 (List.map srw v5)))]⟩ ∧ laws_markStringS_bv.l0 n v0 v3 v4 v5 = some r) k ⟨_, ⟨Nat.le_refl _, _, _, _, rfl, h⟩, frle_, memle_⟩ ?_
 clear h
 rintro n _ ⟨hkl0, v3, v4, v5, rfl, h⟩ hl0
 cases n with
 | zero => exact absurd h (by simp [laws_markStringS_bv.l0])
 | succ kl0 =>
 rw [laws_markStringS_bv.l0] at h
 revert h
 refine bif_e (fun c1 => ?_) (fun c1 => ?_)
 ·refine go 8 ?_
  refine grs ?_
  refine gr_run ?_
  refine bind_e (fun v6 e6 => gr_call [] (laws_markText.con e6) ?_)
  clear e6
  refine bind_e (fun v7 e7 => ?_)
  refine bind_e (fun v8 e8 => ?_)
  replace e8 := nf_ (gx_en srw e8)
  refine gr_run ?_
  refine gr_done ?_
  refine go 3 ?_
  exact fun h => good_again hl0 (by omega) ⟨_, ⟨by omega, _, _, _, rfl, h⟩, frle_, memle_⟩
 ·refine go 7 ?_
  refine ret_e (fun hr_ => ?_)
  subst hr_
  exact ret_ Try.func14 [(1000, (0, 1000, 0))]
mutual
def laws_heldStringS_bv.l0 : Nat → Nat → Int → Int → (List ByteArray) → Option (Int)
 | 0, _, _, _, _ => none
 | k + 1, v0, v3, v4, v2 => (bif decide (v4 < (v0 : Int)) then ((inr v4 v0).bind fun v5 => ((v2[(Int.toNat v4)]?).bind fun v6 => ((laws_markText.f k v3).bind fun v7 => (bif decide (v6 = v7) then (laws_heldStringS_bv.l0 k v0 (IntKind.i64.wrap (v3 + 1)) (IntKind.i64.wrap (v4 + 1)) v2) else (some (-1)))))) else (some v3))
def laws_heldStringS_bv.f : Nat → Nat → Int → (List ByteArray) → Option (Int)
 | 0, _, _, _ => none
 | k + 1, v0, v1, v2 => (laws_heldStringS_bv.l0 k v0 v1 0 v2)
end
set_option maxRecDepth 100000 in
set_option maxHeartbeats 4000000 in
theorem laws_heldStringS_bv.con {K : Kn} [KOk K] {k : Nat} {v0 : Nat} {v1 : Int} {v2 : (List ByteArray)} {r : Int} (h : laws_heldStringS_bv.f k v0 v1 v2 = some r) : Con K Try.prog 15 [.buf 1000 0 0 v0, .p (.int .i64 v1)] [(1000, (0, .buf 1 (List.map srw v2)))] (.p (.int .i64 r)) [(1000, (0, .buf 1 (List.map srw v2)))] := by
 cases k with
 | zero => exact absurd h (by simp [laws_heldStringS_bv.f])
 | succ k =>
 rw [laws_heldStringS_bv.f] at h
 refine con_intro 22 [] Try.func15 (by kernel_rfl) rfl rfl (by kernel_rfl) fun ι0 w0 hk0 => ?_
 revert h
 refine go 6 ?_
 refine fun h => good_loop (fun n st => n ≤ k ∧ ∃ (v3 : _) (v4 : _), st = ⟨[(0, .buf 1000 0 0 v0), (1, .p (.int .i64 v3)), (5, .p (.int .i64 v4))], [(1000, (0, .buf 1 (List.map srw v2)))]⟩ ∧ laws_heldStringS_bv.l0 n v0 v3 v4 v2 = some r) k ⟨_, ⟨Nat.le_refl _, _, _, rfl, h⟩, frle_, memle_⟩ ?_
 clear h
 rintro n _ ⟨hkl0, v3, v4, rfl, h⟩ hl0
 cases n with
 | zero => exact absurd h (by simp [laws_heldStringS_bv.l0])
 | succ kl0 =>
 rw [laws_heldStringS_bv.l0] at h
 revert h
 refine bif_e (fun c1 => ?_) (fun c1 => ?_)
 ·refine bind_e (fun v5 e5 => ?_)
  refine bind_e (fun v6 e6 => ?_)
  replace e6 := nf_ (gx_en srw e6)
  refine go 9 ?_
  refine grs ?_
  refine gr_run ?_
  refine bind_e (fun v7 e7 => gr_call [] (laws_markText.con e7) ?_)
  clear e7
  refine gr_run ?_
  refine gr_done ?_
  refine bif_e (fun c2 => ?_) (fun c2 => ?_)
  ·refine go 5 ?_
   exact fun h => good_again hl0 (by omega) ⟨_, ⟨by omega, _, _, rfl, h⟩, frle_, memle_⟩
  ·refine go 3 ?_
   refine ret_e (fun hr_ => ?_)
   subst hr_
   exact ret_ Try.func15 [(1000, (0, 1000, 0))]
 ·refine go 7 ?_
  refine ret_e (fun hr_ => ?_)
  subst hr_
  exact ret_ Try.func15 [(1000, (0, 1000, 0))]
def laws_FnExactWordsOf.f (k : Nat) (v0 : ByteArray) : Option (Bool) := (bif decide (1048576 < (v0.size : Int)) then (some true) else ((spec_WordsOf_O.f k v0).bind fun v1 => ((impl_WordsOf_O.f k v0).bind fun v2 => ((laws_eqStringS_bb.f k v2.length v1.length v2 v1).bind fun v3 => (bif v3 then ((laws_markStringS_bv.f k v2.length 1 v2).bind fun v4 => ((laws_heldStringS_bv.f k v2.length 1 v4.2).bind fun v5 => (bif decide (v5 < 0) then (some false) else (bif (v5 == v4.1) then ((impl_WordsOf_O.f k v0).bind fun v6 => ((laws_eqStringS_bb.f k v6.length v1.length v6 v1).bind fun v7 => (bif v7 then ((laws_heldStringS_bv.f k v2.length 1 v4.2).bind fun v8 => (bif decide (v8 < 0) then (some false) else (bif (v8 == v4.1) then (some true) else (some false)))) else (some false)))) else (some false))))) else (some false))))))
set_option maxRecDepth 100000 in
set_option maxHeartbeats 4000000 in
theorem laws_FnExactWordsOf.con {K : Kn} [KOk K] {k : Nat} {v0 : ByteArray} {r : Bool} (h : laws_FnExactWordsOf.f k v0 = some r) : ConT K Try.prog 4 [.p (.str v0)] [] (.p (.bool r)) [] := by
 rw [laws_FnExactWordsOf.f] at h
 refine conT_intro 44 [] Try.func4 (by kernel_rfl) rfl rfl (by kernel_rfl) fun ι0 w0 hN0 hk0 => ?_
 revert h
 refine bif_e (fun c1 => ?_) (fun c1 => ?_)
 ·refine go 8 ?_
  refine ret_e (fun hr_ => ?_)
  subst hr_
  exact ret_ Try.func4 []
 ·refine go 8 ?_
  refine grs ?_
  refine gr_run ?_
  refine bind_e (fun v1 e1 => gr_call [(2000, (1, 12, 1))] (spec_WordsOf_O.con e1) ?_)
  clear e1
  refine gr_run ?_
  refine gr_done ?_
  refine go 1 ?_
  refine grs ?_
  refine gr_run ?_
  refine bind_e (fun v2 e2 => gr_call [(2000, (1, 14, 1))] (impl_WordsOf_O.con e2) ?_)
  clear e2
  refine gr_run ?_
  refine gr_done ?_
  refine go 2 ?_
  refine grs ?_
  refine gr_run ?_
  refine bind_e (fun v3 e3 => gr_call [(1000, (0, 14, 1)), (1001, (0, 12, 1))] (laws_eqStringS_bb.con e3) ?_)
  clear e3
  refine gr_run ?_
  refine gr_done ?_
  refine bif_e (fun c2 => ?_) (fun c2 => ?_)
  ·refine go 5 ?_
   refine grs ?_
   refine gr_run ?_
   refine bind_e (fun v4 e4 => gr_call [(1000, (0, 14, 1))] (laws_markStringS_bv.con e4) ?_)
   clear e4
   refine gr_run ?_
   refine gr_done ?_
   refine go 3 ?_
   refine grs ?_
   refine gr_run ?_
   refine bind_e (fun v5 e5 => gr_call [(1000, (0, 14, 1))] (laws_heldStringS_bv.con e5) ?_)
   clear e5
   refine gr_run ?_
   refine gr_done ?_
   refine bif_e (fun c3 => ?_) (fun c3 => ?_)
   ·refine go 6 ?_
    refine ret_e (fun hr_ => ?_)
    subst hr_
    exact ret_ Try.func4 []
   ·refine bif_e (fun c4 => ?_) (fun c4 => ?_)
    ·refine go 11 ?_
     refine grs ?_
     refine gr_run ?_
     refine bind_e (fun v6 e6 => gr_call [(2000, (1, 31, 1))] (impl_WordsOf_O.con e6) ?_)
     clear e6
     refine gr_run ?_
     refine gr_done ?_
     refine go 2 ?_
     refine grs ?_
     refine gr_run ?_
     refine bind_e (fun v7 e7 => gr_call [(1000, (0, 31, 1)), (1001, (0, 12, 1))] (laws_eqStringS_bb.con e7) ?_)
     clear e7
     refine gr_run ?_
     refine gr_done ?_
     refine bif_e (fun c5 => ?_) (fun c5 => ?_)
     ·refine go 5 ?_
      refine grs ?_
      refine gr_run ?_
      refine bind_e (fun v8 e8 => gr_call [(1000, (0, 14, 1))] (laws_heldStringS_bv.con e8) ?_)
      clear e8
      refine gr_run ?_
      refine gr_done ?_
      refine bif_e (fun c6 => ?_) (fun c6 => ?_)
      ·refine go 6 ?_
       refine ret_e (fun hr_ => ?_)
       subst hr_
       exact ret_ Try.func4 []
      ·refine bif_e (fun c7 => ?_) (fun c7 => ?_)
       ·refine go 12 ?_
        refine ret_e (fun hr_ => ?_)
        subst hr_
        exact ret_ Try.func4 []
       ·refine go 11 ?_
        refine ret_e (fun hr_ => ?_)
        subst hr_
        exact ret_ Try.func4 []
     ·refine go 3 ?_
      refine ret_e (fun hr_ => ?_)
      subst hr_
      exact ret_ Try.func4 []
    ·refine go 11 ?_
     refine ret_e (fun hr_ => ?_)
     subst hr_
     exact ret_ Try.func4 []
  ·refine go 3 ?_
   refine ret_e (fun hr_ => ?_)
   subst hr_
   exact ret_ Try.func4 []
end Go.Ab
