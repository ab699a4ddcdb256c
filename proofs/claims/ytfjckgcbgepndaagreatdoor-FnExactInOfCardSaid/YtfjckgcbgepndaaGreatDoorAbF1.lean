/- What the functions compute, and their contracts, part 1. No condition beyond KOk. -/
import Derived.Test.YtfjckgcbgepndaaGreatDoorAbX
import Derived.Test.YtfjckgcbgepndaaGreatDoorAbF4
import Derived.Test.YtfjckgcbgepndaaGreatDoorAbF7
namespace Go.Ab
open Go.Proofs
set_option linter.unusedVariables false
set_option linter.unusedSimpArgs false
mutual
def laws_szStringS.l0 : Nat → (List ByteArray) → Int → Int → Option (Int)
 | 0, _, _, _ => none
 | k + 1, v0, v2, v3 => (bif decide (v3 < (v0.length : Int)) then ((ix v0 v3).bind fun v4 => (bif decide ((IntKind.i64.wrap (v2 - (v4.size : Int))) < 0) then (some (-1)) else (laws_szStringS.l0 k v0 (IntKind.i64.wrap (v2 - (v4.size : Int))) (IntKind.i64.wrap (v3 + 1))))) else (some v2))
def laws_szStringS.f : Nat → (List ByteArray) → Int → Option (Int)
 | 0, _, _ => none
 | k + 1, v0, v1 => (bif decide ((IntKind.i64.wrap (v1 - (v0.length : Int))) < 0) then (some (-1)) else (laws_szStringS.l0 k v0 (IntKind.i64.wrap (v1 - (v0.length : Int))) 0))
end
set_option maxRecDepth 100000 in
set_option maxHeartbeats 4000000 in
theorem laws_szStringS.con {K : Kn} [KOk K] {k : Nat} {v0 : (List ByteArray)} {v1 : Int} {r : Int} (h : laws_szStringS.f k v0 v1 = some r) : Con K Tryz.prog 19 [.p (.lst false (List.map srw v0)), .p (.int .i64 v1)] [] (.p (.int .i64 r)) [] := by
 cases k with
 | zero => exact absurd h (by simp [laws_szStringS.f])
 | succ k =>
 rw [laws_szStringS.f] at h
 refine con_intro 28 [] Tryz.func19 (by kernel_rfl) rfl rfl (by kernel_rfl) fun ι0 w0 hk0 => ?_
 revert h
 refine bif_e (fun c1 => ?_) (fun c1 => ?_)
 ·refine go 10 ?_
  refine ret_e (fun hr_ => ?_)
  subst hr_
  exact ret_ Tryz.func19 []
 ·refine go 13 ?_
  refine fun h => good_loop (fun n st => n ≤ k ∧ ∃ (v2 : _) (v3 : _), st = ⟨[(0, .p (.lst false (List.map srw v0))), (1, .p (.int .i64 v2)), (5, .p (.int .i64 v3))], []⟩ ∧ laws_szStringS.l0 n v0 v2 v3 = some r) k ⟨_, ⟨Nat.le_refl _, _, _, rfl, h⟩, frle_, memle_⟩ ?_
  clear c1
  clear h
  rintro n _ ⟨hkl0, v2, v3, rfl, h⟩ hl0
  cases n with
  | zero => exact absurd h (by simp [laws_szStringS.l0])
  | succ kl0 =>
  rw [laws_szStringS.l0] at h
  revert h
  refine bif_e (fun c2 => ?_) (fun c2 => ?_)
  ·refine bind_e (fun v4 e4 => ?_)
   replace e4 := nf_ (ix_en srw e4)
   refine bif_e (fun c3 => ?_) (fun c3 => ?_)
   ·refine go 14 ?_
    refine ret_e (fun hr_ => ?_)
    subst hr_
    exact ret_ Tryz.func19 []
   ·refine go 15 ?_
    exact fun h => good_again hl0 (by omega) ⟨_, ⟨by omega, _, _, rfl, h⟩, frle_, memle_⟩
  ·refine go 7 ?_
   refine ret_e (fun hr_ => ?_)
   subst hr_
   exact ret_ Tryz.func19 []
def laws_szIndexEntry.f (k : Nat) (v0 : S73) (v1 : Int) : Option (Int) := ((laws_szStringS.f k v0.f0 v1).bind fun v2 => (bif decide (v2 < 0) then (some (-1)) else (some v2)))
set_option maxRecDepth 100000 in
set_option maxHeartbeats 4000000 in
theorem laws_szIndexEntry.con {K : Kn} [KOk K] {k : Nat} {v0 : S73} {v1 : Int} {r : Int} (h : laws_szIndexEntry.f k v0 v1 = some r) : Con K Tryz.prog 59 [.agg [.p (.lst false (List.map srw v0.f0)), .p (.int .i64 v0.f1)], .p (.int .i64 v1)] [] (.p (.int .i64 r)) [] := by
 rw [laws_szIndexEntry.f] at h
 refine con_intro 12 [] Tryz.func59 (by kernel_rfl) rfl rfl (by kernel_rfl) fun ι0 w0 hk0 => ?_
 revert h
 refine go 3 ?_
 refine grs ?_
 refine gr_run ?_
 refine bind_e (fun v2 e2 => gr_call [] (laws_szStringS.con e2) ?_)
 clear e2
 refine gr_run ?_
 refine gr_done ?_
 refine bif_e (fun c1 => ?_) (fun c1 => ?_)
 ·refine go 6 ?_
  refine ret_e (fun hr_ => ?_)
  subst hr_
  exact ret_ Tryz.func59 []
 ·refine go 7 ?_
  refine ret_e (fun hr_ => ?_)
  subst hr_
  exact ret_ Tryz.func59 []
mutual
def laws_szIndexEntryS.l0 : Nat → (List S73) → Int → Int → Option (Int)
 | 0, _, _, _ => none
 | k + 1, v0, v2, v3 => (bif decide (v3 < (v0.length : Int)) then ((ix v0 v3).bind fun v4 => ((laws_szIndexEntry.f k v4 v2).bind fun v5 => (bif decide (v5 < 0) then (some (-1)) else (laws_szIndexEntryS.l0 k v0 v5 (IntKind.i64.wrap (v3 + 1)))))) else (some v2))
def laws_szIndexEntryS.f : Nat → (List S73) → Int → Option (Int)
 | 0, _, _ => none
 | k + 1, v0, v1 => (bif decide ((IntKind.i64.wrap (v1 - (v0.length : Int))) < 0) then (some (-1)) else (laws_szIndexEntryS.l0 k v0 (IntKind.i64.wrap (v1 - (v0.length : Int))) 0))
end
set_option maxRecDepth 100000 in
set_option maxHeartbeats 4000000 in
theorem laws_szIndexEntryS.con {K : Kn} [KOk K] {k : Nat} {v0 : (List S73)} {v1 : Int} {r : Int} (h : laws_szIndexEntryS.f k v0 v1 = some r) : Con K Tryz.prog 14 [.p (.lst false (List.map en73 v0)), .p (.int .i64 v1)] [] (.p (.int .i64 r)) [] := by
 cases k with
 | zero => exact absurd h (by simp [laws_szIndexEntryS.f])
 | succ k =>
 rw [laws_szIndexEntryS.f] at h
 refine con_intro 27 [] Tryz.func14 (by kernel_rfl) rfl rfl (by kernel_rfl) fun ι0 w0 hk0 => ?_
 revert h
 refine bif_e (fun c1 => ?_) (fun c1 => ?_)
 ·refine go 10 ?_
  refine ret_e (fun hr_ => ?_)
  subst hr_
  exact ret_ Tryz.func14 []
 ·refine go 13 ?_
  refine fun h => good_loop (fun n st => n ≤ k ∧ ∃ (v2 : _) (v3 : _), st = ⟨[(0, .p (.lst false (List.map en73 v0))), (1, .p (.int .i64 v2)), (5, .p (.int .i64 v3))], []⟩ ∧ laws_szIndexEntryS.l0 n v0 v2 v3 = some r) k ⟨_, ⟨Nat.le_refl _, _, _, rfl, h⟩, frle_, memle_⟩ ?_
  clear c1
  clear h
  rintro n _ ⟨hkl0, v2, v3, rfl, h⟩ hl0
  cases n with
  | zero => exact absurd h (by simp [laws_szIndexEntryS.l0])
  | succ kl0 =>
  rw [laws_szIndexEntryS.l0] at h
  revert h
  refine bif_e (fun c2 => ?_) (fun c2 => ?_)
  ·refine bind_e (fun v4 e4 => ?_)
   replace e4 := nf_ (ix_en en73 e4)
   refine go 8 ?_
   refine grs ?_
   refine gr_run ?_
   refine bind_e (fun v5 e5 => gr_call [] (laws_szIndexEntry.con e5) ?_)
   clear e5
   refine gr_run ?_
   refine gr_done ?_
   refine bif_e (fun c3 => ?_) (fun c3 => ?_)
   ·refine go 5 ?_
    refine ret_e (fun hr_ => ?_)
    subst hr_
    exact ret_ Tryz.func14 []
   ·refine go 6 ?_
    exact fun h => good_again hl0 (by omega) ⟨_, ⟨by omega, _, _, rfl, h⟩, frle_, memle_⟩
  ·refine go 7 ?_
   refine ret_e (fun hr_ => ?_)
   subst hr_
   exact ret_ Tryz.func14 []
mutual
def laws_toStringS.l0 : Nat → (List ByteArray) → (List ByteArray) → Int → (List ByteArray) → Option ((List ByteArray))
 | 0, _, _, _, _ => none
 | k + 1, v0, v1, v2, v3 => (bif decide (v2 < (v0.length : Int)) then ((ix v0 v2).bind fun v4 => ((inr v2 v1.length).bind fun v5 => ((v3[(Int.toNat v2)]?).bind fun v6 => (laws_toStringS.l0 k v0 v1 (IntKind.i64.wrap (v2 + 1)) (setr v3 (Int.toNat v2) v4))))) else (some (List.take v1.length v3)))
def laws_toStringS.f : Nat → (List ByteArray) → Option ((List ByteArray))
 | 0, _ => none
 | k + 1, v0 => ((mks (⟨#[]⟩ : ByteArray) (v0.length : Int) (v0.length : Int)).bind fun v1 => (laws_toStringS.l0 k v0 v1 0 v1))
end
set_option maxRecDepth 100000 in
set_option maxHeartbeats 4000000 in
theorem laws_toStringS.con {K : Kn} [KOk K] {k : Nat} {v0 : (List ByteArray)} {r : (List ByteArray)} (h : laws_toStringS.f k v0 = some r) : Con K Tryz.prog 21 [.p (.lst false (List.map srw v0))] [] (.nw (.lst false (List.map srw r))) [] := by
 cases k with
 | zero => exact absurd h (by simp [laws_toStringS.f])
 | succ k =>
 rw [laws_toStringS.f] at h
 refine con_intro 22 [7] Tryz.func21 (by kernel_rfl) rfl rfl (by kernel_rfl) fun ι0 w0 hk0 => ?_
 revert h
 refine bind_e (fun v1 e1 => ?_)
 replace e1 := nf_ (mks_en srw e1)
 refine go 8 ?_
 refine fun h => good_loop (fun n st => n ≤ k ∧ ∃ (v2 : _) (v3 : _), st = ⟨[(0, .p (.lst false (List.map srw v0))), (3, .buf 7 1 0 v1.length), (4, .p (.int .i64 v2))], [(7, (1, .bufn 1 (List.map srw v3)))]⟩ ∧ laws_toStringS.l0 n v0 v1 v2 v3 = some r) k ⟨_, ⟨Nat.le_refl _, _, _, rfl, h⟩, frle_, memle_⟩ ?_
 clear e1
 clear h
 rintro n _ ⟨hkl0, v2, v3, rfl, h⟩ hl0
 cases n with
 | zero => exact absurd h (by simp [laws_toStringS.l0])
 | succ kl0 =>
 rw [laws_toStringS.l0] at h
 revert h
 refine bif_e (fun c1 => ?_) (fun c1 => ?_)
 ·refine bind_e (fun v4 e4 => ?_)
  replace e4 := nf_ (ix_en srw e4)
  refine bind_e (fun v5 e5 => ?_)
  refine bind_e (fun v6 e6 => ?_)
  replace e6 := nf_ (gx_en srw e6)
  refine go 10 ?_
  exact fun h => good_again hl0 (by omega) ⟨_, ⟨by omega, _, _, rfl, h⟩, frle_, memle_⟩
 ·refine go 7 ?_
  refine freezeN_ 2 ?_
  refine ret_e (fun hr_ => ?_)
  subst hr_
  exact ret_ Tryz.func21 []
def laws_toIndexEntry.f (k : Nat) (v0 : S73) : Option (S73) := ((laws_toStringS.f k v0.f0).bind fun v1 => (some (⟨v1, v0.f1⟩ : S73)))
set_option maxRecDepth 100000 in
set_option maxHeartbeats 4000000 in
theorem laws_toIndexEntry.con {K : Kn} [KOk K] {k : Nat} {v0 : S73} {r : S73} (h : laws_toIndexEntry.f k v0 = some r) : Con K Tryz.prog 62 [.agg [.p (.lst false (List.map srw v0.f0)), .p (.int .i64 v0.f1)]] [] (.agg [.nw (.lst false (List.map srw r.f0)), .p (.int .i64 r.f1)]) [] := by
 rw [laws_toIndexEntry.f] at h
 refine con_intro 12 [] Tryz.func62 (by kernel_rfl) rfl rfl (by kernel_rfl) fun ι0 w0 hk0 => ?_
 revert h
 refine go 5 ?_
 refine grs ?_
 refine gr_run ?_
 refine bind_e (fun v1 e1 => gr_call [] (laws_toStringS.con e1) ?_)
 clear e1
 refine gr_run ?_
 refine gr_done ?_
 refine go 4 ?_
 refine ret_e (fun hr_ => ?_)
 subst hr_
 exact ret_ Tryz.func62 []
mutual
def laws_toIndexEntryS.l0 : Nat → (List S73) → (List S73) → Int → (List S73) → Option ((List S73))
 | 0, _, _, _, _ => none
 | k + 1, v0, v1, v2, v3 => (bif decide (v2 < (v0.length : Int)) then ((ix v0 v2).bind fun v4 => ((laws_toIndexEntry.f k v4).bind fun v5 => ((inr v2 v1.length).bind fun v6 => ((v3[(Int.toNat v2)]?).bind fun v7 => (laws_toIndexEntryS.l0 k v0 v1 (IntKind.i64.wrap (v2 + 1)) (setr v3 (Int.toNat v2) v5)))))) else (some (List.take v1.length v3)))
def laws_toIndexEntryS.f : Nat → (List S73) → Option ((List S73))
 | 0, _ => none
 | k + 1, v0 => ((mks (⟨([] : (List ByteArray)), 0⟩ : S73) (v0.length : Int) (v0.length : Int)).bind fun v1 => (laws_toIndexEntryS.l0 k v0 v1 0 v1))
end
set_option maxRecDepth 100000 in
set_option maxHeartbeats 4000000 in
theorem laws_toIndexEntryS.con {K : Kn} [KOk K] {k : Nat} {v0 : (List S73)} {r : (List S73)} (h : laws_toIndexEntryS.f k v0 = some r) : Con K Tryz.prog 16 [.p (.lst false (List.map en73 v0))] [] (.nw (.lst false (List.map en73 r))) [] := by
 cases k with
 | zero => exact absurd h (by simp [laws_toIndexEntryS.f])
 | succ k =>
 rw [laws_toIndexEntryS.f] at h
 refine con_intro 23 [7] Tryz.func16 (by kernel_rfl) rfl rfl (by kernel_rfl) fun ι0 w0 hk0 => ?_
 revert h
 refine bind_e (fun v1 e1 => ?_)
 replace e1 := nf_ (mks_en en73 e1)
 refine go 8 ?_
 refine fun h => good_loop (fun n st => n ≤ k ∧ ∃ (v2 : _) (v3 : _), st = ⟨[(0, .p (.lst false (List.map en73 v0))), (3, .buf 7 1 0 v1.length), (4, .p (.int .i64 v2))], [(7, (1, .bufn 2 (List.map en73 v3)))]⟩ ∧ laws_toIndexEntryS.l0 n v0 v1 v2 v3 = some r) k ⟨_, ⟨Nat.le_refl _, _, _, rfl, h⟩, frle_, memle_⟩ ?_
 clear e1
 clear h
 rintro n _ ⟨hkl0, v2, v3, rfl, h⟩ hl0
 cases n with
 | zero => exact absurd h (by simp [laws_toIndexEntryS.l0])
 | succ kl0 =>
 rw [laws_toIndexEntryS.l0] at h
 revert h
 refine bif_e (fun c1 => ?_) (fun c1 => ?_)
 ·refine bind_e (fun v4 e4 => ?_)
  replace e4 := nf_ (ix_en en73 e4)
  refine go 7 ?_
  refine grs ?_
  refine gr_run ?_
  refine bind_e (fun v5 e5 => gr_call [] (laws_toIndexEntry.con e5) ?_)
  clear e5
  refine bind_e (fun v6 e6 => ?_)
  refine bind_e (fun v7 e7 => ?_)
  replace e7 := nf_ (gx_en en73 e7)
  refine gr_run ?_
  refine gr_done ?_
  refine go 2 ?_
  exact fun h => good_again hl0 (by omega) ⟨_, ⟨by omega, _, _, rfl, h⟩, frle_, memle_⟩
 ·refine go 7 ?_
  refine freezeN_ 2 ?_
  refine ret_e (fun hr_ => ?_)
  subst hr_
  exact ret_ Tryz.func16 []
mutual
def laws_eqStringS.l0 : Nat → (List ByteArray) → (List ByteArray) → Int → Option (Bool)
 | 0, _, _, _ => none
 | k + 1, v0, v1, v2 => (bif decide (v2 < (v0.length : Int)) then ((ix v0 v2).bind fun v3 => ((ix v1 v2).bind fun v4 => (bif decide (v3 = v4) then (laws_eqStringS.l0 k v0 v1 (IntKind.i64.wrap (v2 + 1))) else (some false)))) else (some true))
def laws_eqStringS.f : Nat → (List ByteArray) → (List ByteArray) → Option (Bool)
 | 0, _, _ => none
 | k + 1, v0, v1 => (bif ((v0.length : Int) == (v1.length : Int)) then (laws_eqStringS.l0 k v0 v1 0) else (some false))
end
set_option maxRecDepth 100000 in
set_option maxHeartbeats 4000000 in
theorem laws_eqStringS.con {K : Kn} [KOk K] {k : Nat} {v0 : (List ByteArray)} {v1 : (List ByteArray)} {r : Bool} (h : laws_eqStringS.f k v0 v1 = some r) : Con K Tryz.prog 23 [.p (.lst false (List.map srw v0)), .p (.lst false (List.map srw v1))] [] (.p (.bool r)) [] := by
 cases k with
 | zero => exact absurd h (by simp [laws_eqStringS.f])
 | succ k =>
 rw [laws_eqStringS.f] at h
 refine con_intro 26 [] Tryz.func23 (by kernel_rfl) rfl rfl (by kernel_rfl) fun ι0 w0 hk0 => ?_
 revert h
 refine bif_e (fun c1 => ?_) (fun c1 => ?_)
 ·refine go 11 ?_
  refine fun h => good_loop (fun n st => n ≤ k ∧ ∃ (v2 : _), st = ⟨[(0, .p (.lst false (List.map srw v0))), (1, .p (.lst false (List.map srw v1))), (5, .p (.int .i64 v2))], []⟩ ∧ laws_eqStringS.l0 n v0 v1 v2 = some r) k ⟨_, ⟨Nat.le_refl _, _, rfl, h⟩, frle_, memle_⟩ ?_
  clear c1
  clear h
  rintro n _ ⟨hkl0, v2, rfl, h⟩ hl0
  cases n with
  | zero => exact absurd h (by simp [laws_eqStringS.l0])
  | succ kl0 =>
  rw [laws_eqStringS.l0] at h
  revert h
  refine bif_e (fun c2 => ?_) (fun c2 => ?_)
  ·refine bind_e (fun v3 e3 => ?_)
   replace e3 := nf_ (ix_en srw e3)
   refine bind_e (fun v4 e4 => ?_)
   replace e4 := nf_ (ix_en srw e4)
   refine go 8 ?_
   refine grs ?_
   refine gr_run ?_
   refine gr_done ?_
   refine bif_e (fun c3 => ?_) (fun c3 => ?_)
   ·refine go 4 ?_
    exact fun h => good_again hl0 (by omega) ⟨_, ⟨by omega, _, rfl, h⟩, frle_, memle_⟩
   ·refine go 3 ?_
    refine ret_e (fun hr_ => ?_)
    subst hr_
    exact ret_ Tryz.func23 []
  ·refine go 7 ?_
   refine ret_e (fun hr_ => ?_)
   subst hr_
   exact ret_ Tryz.func23 []
 ·refine go 8 ?_
  refine ret_e (fun hr_ => ?_)
  subst hr_
  exact ret_ Tryz.func23 []
def laws_eqIndexEntry.f (k : Nat) (v0 : S73) (v1 : S73) : Option (Bool) := ((laws_eqStringS.f k v0.f0 v1.f0).bind fun v2 => (bif v2 then (bif (v0.f1 == v1.f1) then (some true) else (some false)) else (some false)))
set_option maxRecDepth 100000 in
set_option maxHeartbeats 4000000 in
theorem laws_eqIndexEntry.con {K : Kn} [KOk K] {k : Nat} {v0 : S73} {v1 : S73} {r : Bool} (h : laws_eqIndexEntry.f k v0 v1 = some r) : Con K Tryz.prog 64 [.agg [.p (.lst false (List.map srw v0.f0)), .p (.int .i64 v0.f1)], .agg [.p (.lst false (List.map srw v1.f0)), .p (.int .i64 v1.f1)]] [] (.p (.bool r)) [] := by
 rw [laws_eqIndexEntry.f] at h
 refine con_intro 16 [] Tryz.func64 (by kernel_rfl) rfl rfl (by kernel_rfl) fun ι0 w0 hk0 => ?_
 revert h
 refine go 4 ?_
 refine grs ?_
 refine gr_run ?_
 refine bind_e (fun v2 e2 => gr_call [] (laws_eqStringS.con e2) ?_)
 clear e2
 refine gr_run ?_
 refine gr_done ?_
 refine bif_e (fun c1 => ?_) (fun c1 => ?_)
 ·refine bif_e (fun c2 => ?_) (fun c2 => ?_)
  ·refine go 9 ?_
   refine ret_e (fun hr_ => ?_)
   subst hr_
   exact ret_ Tryz.func64 []
  ·refine go 8 ?_
   refine ret_e (fun hr_ => ?_)
   subst hr_
   exact ret_ Tryz.func64 []
 ·refine go 3 ?_
  refine ret_e (fun hr_ => ?_)
  subst hr_
  exact ret_ Tryz.func64 []
mutual
def laws_eqIndexEntryS.l0 : Nat → (List S73) → (List S73) → Int → Option (Bool)
 | 0, _, _, _ => none
 | k + 1, v0, v1, v2 => (bif decide (v2 < (v0.length : Int)) then ((ix v0 v2).bind fun v3 => ((ix v1 v2).bind fun v4 => ((laws_eqIndexEntry.f k v3 v4).bind fun v5 => (bif v5 then (laws_eqIndexEntryS.l0 k v0 v1 (IntKind.i64.wrap (v2 + 1))) else (some false))))) else (some true))
def laws_eqIndexEntryS.f : Nat → (List S73) → (List S73) → Option (Bool)
 | 0, _, _ => none
 | k + 1, v0, v1 => (bif ((v0.length : Int) == (v1.length : Int)) then (laws_eqIndexEntryS.l0 k v0 v1 0) else (some false))
end
set_option maxRecDepth 100000 in
set_option maxHeartbeats 4000000 in
theorem laws_eqIndexEntryS.con {K : Kn} [KOk K] {k : Nat} {v0 : (List S73)} {v1 : (List S73)} {r : Bool} (h : laws_eqIndexEntryS.f k v0 v1 = some r) : Con K Tryz.prog 18 [.p (.lst false (List.map en73 v0)), .p (.lst false (List.map en73 v1))] [] (.p (.bool r)) [] := by
 cases k with
 | zero => exact absurd h (by simp [laws_eqIndexEntryS.f])
 | succ k =>
 rw [laws_eqIndexEntryS.f] at h
 refine con_intro 27 [] Tryz.func18 (by kernel_rfl) rfl rfl (by kernel_rfl) fun ι0 w0 hk0 => ?_
 revert h
 refine bif_e (fun c1 => ?_) (fun c1 => ?_)
 ·refine go 11 ?_
  refine fun h => good_loop (fun n st => n ≤ k ∧ ∃ (v2 : _), st = ⟨[(0, .p (.lst false (List.map en73 v0))), (1, .p (.lst false (List.map en73 v1))), (5, .p (.int .i64 v2))], []⟩ ∧ laws_eqIndexEntryS.l0 n v0 v1 v2 = some r) k ⟨_, ⟨Nat.le_refl _, _, rfl, h⟩, frle_, memle_⟩ ?_
  clear c1
  clear h
  rintro n _ ⟨hkl0, v2, rfl, h⟩ hl0
  cases n with
  | zero => exact absurd h (by simp [laws_eqIndexEntryS.l0])
  | succ kl0 =>
  rw [laws_eqIndexEntryS.l0] at h
  revert h
  refine bif_e (fun c2 => ?_) (fun c2 => ?_)
  ·refine bind_e (fun v3 e3 => ?_)
   replace e3 := nf_ (ix_en en73 e3)
   refine bind_e (fun v4 e4 => ?_)
   replace e4 := nf_ (ix_en en73 e4)
   refine go 8 ?_
   refine grs ?_
   refine gr_run ?_
   refine bind_e (fun v5 e5 => gr_call [] (laws_eqIndexEntry.con e5) ?_)
   clear e5
   refine gr_run ?_
   refine gr_done ?_
   refine bif_e (fun c3 => ?_) (fun c3 => ?_)
   ·refine go 4 ?_
    exact fun h => good_again hl0 (by omega) ⟨_, ⟨by omega, _, rfl, h⟩, frle_, memle_⟩
   ·refine go 3 ?_
    refine ret_e (fun hr_ => ?_)
    subst hr_
    exact ret_ Tryz.func18 []
  ·refine go 7 ?_
   refine ret_e (fun hr_ => ?_)
   subst hr_
   exact ret_ Tryz.func18 []
 ·refine go 8 ?_
  refine ret_e (fun hr_ => ?_)
  subst hr_
  exact ret_ Tryz.func18 []
def laws_FnExactIndexFault.f (k : Nat) (v0 : (List S73)) : Option (Bool) := ((laws_szIndexEntryS.f k v0 1048576).bind fun v1 => (bif decide (v1 < 0) then (some true) else ((laws_toIndexEntryS.f k v0).bind fun v2 => ((spec_IndexFault.f k v2).bind fun v3 => ((laws_toIndexEntryS.f k v0).bind fun v4 => ((impl_IndexFault.f k v4).bind fun v5 => (bif (v5 == v3) then ((laws_toIndexEntryS.f k v0).bind fun v6 => ((laws_eqIndexEntryS.f k v4 v6).bind fun v7 => (bif v7 then (some true) else (some false)))) else (some false))))))))
set_option maxRecDepth 100000 in
set_option maxHeartbeats 4000000 in
theorem laws_FnExactIndexFault.con {K : Kn} [KOk K] {k : Nat} {v0 : (List S73)} {r : Bool} (h : laws_FnExactIndexFault.f k v0 = some r) : Con K Tryz.prog 3 [.p (.lst false (List.map en73 v0))] [] (.p (.bool r)) [] := by
 rw [laws_FnExactIndexFault.f] at h
 refine con_intro 27 [] Tryz.func3 (by kernel_rfl) rfl rfl (by kernel_rfl) fun ι0 w0 hk0 => ?_
 revert h
 refine go 5 ?_
 refine grs ?_
 refine gr_run ?_
 refine bind_e (fun v1 e1 => gr_call [] (laws_szIndexEntryS.con e1) ?_)
 clear e1
 refine gr_run ?_
 refine gr_done ?_
 refine bif_e (fun c1 => ?_) (fun c1 => ?_)
 ·refine go 6 ?_
  refine ret_e (fun hr_ => ?_)
  subst hr_
  exact ret_ Tryz.func3 []
 ·refine go 6 ?_
  refine grs ?_
  refine gr_run ?_
  refine bind_e (fun v2 e2 => gr_call [] (laws_toIndexEntryS.con e2) ?_)
  clear e2
  refine bind_e (fun v3 e3 => gr_call [] (spec_IndexFault.con e3) ?_)
  clear e3
  refine gr_run ?_
  refine gr_done ?_
  refine go 1 ?_
  refine grs ?_
  refine gr_run ?_
  refine bind_e (fun v4 e4 => gr_call [] (laws_toIndexEntryS.con e4) ?_)
  clear e4
  refine gr_run ?_
  refine gr_done ?_
  refine go 1 ?_
  refine grs ?_
  refine gr_run ?_
  refine bind_e (fun v5 e5 => gr_call [] (impl_IndexFault.con e5) ?_)
  clear e5
  refine gr_run ?_
  refine gr_done ?_
  refine bif_e (fun c2 => ?_) (fun c2 => ?_)
  ·refine go 7 ?_
   refine grs ?_
   refine gr_run ?_
   refine bind_e (fun v6 e6 => gr_call [] (laws_toIndexEntryS.con e6) ?_)
   clear e6
   refine bind_e (fun v7 e7 => gr_call [] (laws_eqIndexEntryS.con e7) ?_)
   clear e7
   refine gr_run ?_
   refine gr_done ?_
   refine bif_e (fun c3 => ?_) (fun c3 => ?_)
   ·refine go 4 ?_
    refine ret_e (fun hr_ => ?_)
    subst hr_
    exact ret_ Tryz.func3 []
   ·refine go 3 ?_
    refine ret_e (fun hr_ => ?_)
    subst hr_
    exact ret_ Tryz.func3 []
  ·refine go 6 ?_
   refine ret_e (fun hr_ => ?_)
   subst hr_
   exact ret_ Tryz.func3 []
def laws_FnExactFindFirst.f (k : Nat) (v0 : (List S73)) (v1 : (List ByteArray)) : Option (Bool) := ((laws_szIndexEntryS.f k v0 1048576).bind fun v2 => (bif decide (v2 < 0) then (some true) else ((laws_szStringS.f k v1 v2).bind fun v3 => (bif decide (v3 < 0) then (some true) else ((laws_toIndexEntryS.f k v0).bind fun v4 => ((laws_toStringS.f k v1).bind fun v5 => ((spec_FindFirst.f k v4 v5).bind fun v6 => ((laws_toIndexEntryS.f k v0).bind fun v7 => ((laws_toStringS.f k v1).bind fun v8 => ((impl_FindFirst.f k v7 v8).bind fun v9 => (bif (v9 == v6) then ((laws_toIndexEntryS.f k v0).bind fun v10 => ((laws_eqIndexEntryS.f k v7 v10).bind fun v11 => (bif v11 then ((laws_toStringS.f k v1).bind fun v12 => ((laws_eqStringS.f k v8 v12).bind fun v13 => (bif v13 then (some true) else (some false)))) else (some false)))) else (some false))))))))))))
set_option maxRecDepth 100000 in
set_option maxHeartbeats 4000000 in
theorem laws_FnExactFindFirst.con {K : Kn} [KOk K] {k : Nat} {v0 : (List S73)} {v1 : (List ByteArray)} {r : Bool} (h : laws_FnExactFindFirst.f k v0 v1 = some r) : Con K Tryz.prog 4 [.p (.lst false (List.map en73 v0)), .p (.lst false (List.map srw v1))] [] (.p (.bool r)) [] := by
 rw [laws_FnExactFindFirst.f] at h
 refine con_intro 45 [] Tryz.func4 (by kernel_rfl) rfl rfl (by kernel_rfl) fun ι0 w0 hk0 => ?_
 revert h
 refine go 5 ?_
 refine grs ?_
 refine gr_run ?_
 refine bind_e (fun v2 e2 => gr_call [] (laws_szIndexEntryS.con e2) ?_)
 clear e2
 refine gr_run ?_
 refine gr_done ?_
 refine bif_e (fun c1 => ?_) (fun c1 => ?_)
 ·refine go 6 ?_
  refine ret_e (fun hr_ => ?_)
  subst hr_
  exact ret_ Tryz.func4 []
 ·refine go 6 ?_
  refine grs ?_
  refine gr_run ?_
  refine bind_e (fun v3 e3 => gr_call [] (laws_szStringS.con e3) ?_)
  clear e3
  refine gr_run ?_
  refine gr_done ?_
  refine bif_e (fun c2 => ?_) (fun c2 => ?_)
  ·refine go 6 ?_
   refine ret_e (fun hr_ => ?_)
   subst hr_
   exact ret_ Tryz.func4 []
  ·refine go 6 ?_
   refine grs ?_
   refine gr_run ?_
   refine bind_e (fun v4 e4 => gr_call [] (laws_toIndexEntryS.con e4) ?_)
   clear e4
   refine gr_run ?_
   refine bind_e (fun v5 e5 => gr_call [] (laws_toStringS.con e5) ?_)
   clear e5
   refine bind_e (fun v6 e6 => gr_call [] (spec_FindFirst.con e6) ?_)
   clear e6
   refine gr_run ?_
   refine gr_done ?_
   refine go 1 ?_
   refine grs ?_
   refine gr_run ?_
   refine bind_e (fun v7 e7 => gr_call [] (laws_toIndexEntryS.con e7) ?_)
   clear e7
   refine gr_run ?_
   refine gr_done ?_
   refine go 1 ?_
   refine grs ?_
   refine gr_run ?_
   refine bind_e (fun v8 e8 => gr_call [] (laws_toStringS.con e8) ?_)
   clear e8
   refine gr_run ?_
   refine gr_done ?_
   refine go 1 ?_
   refine grs ?_
   refine gr_run ?_
   refine bind_e (fun v9 e9 => gr_call [] (impl_FindFirst.con e9) ?_)
   clear e9
   refine gr_run ?_
   refine gr_done ?_
   refine bif_e (fun c3 => ?_) (fun c3 => ?_)
   ·refine go 7 ?_
    refine grs ?_
    refine gr_run ?_
    refine bind_e (fun v10 e10 => gr_call [] (laws_toIndexEntryS.con e10) ?_)
    clear e10
    refine bind_e (fun v11 e11 => gr_call [] (laws_eqIndexEntryS.con e11) ?_)
    clear e11
    refine gr_run ?_
    refine gr_done ?_
    refine bif_e (fun c4 => ?_) (fun c4 => ?_)
    ·refine go 4 ?_
     refine grs ?_
     refine gr_run ?_
     refine bind_e (fun v12 e12 => gr_call [] (laws_toStringS.con e12) ?_)
     clear e12
     refine bind_e (fun v13 e13 => gr_call [] (laws_eqStringS.con e13) ?_)
     clear e13
     refine gr_run ?_
     refine gr_done ?_
     refine bif_e (fun c5 => ?_) (fun c5 => ?_)
     ·refine go 4 ?_
      refine ret_e (fun hr_ => ?_)
      subst hr_
      exact ret_ Tryz.func4 []
     ·refine go 3 ?_
      refine ret_e (fun hr_ => ?_)
      subst hr_
      exact ret_ Tryz.func4 []
    ·refine go 3 ?_
     refine ret_e (fun hr_ => ?_)
     subst hr_
     exact ret_ Tryz.func4 []
   ·refine go 6 ?_
    refine ret_e (fun hr_ => ?_)
    subst hr_
    exact ret_ Tryz.func4 []
mutual
def laws_eqInt64S_bb.l0 : Nat → Nat → Nat → Int → (List Int) → (List Int) → Option (Bool)
 | 0, _, _, _, _, _ => none
 | k + 1, v0, v1, v4, v2, v3 => (bif decide (v4 < (v0 : Int)) then ((inr v4 v0).bind fun v5 => ((v2[(Int.toNat v4)]?).bind fun v6 => ((inr v4 v1).bind fun v7 => ((v3[(Int.toNat v4)]?).bind fun v8 => (bif (v6 == v8) then (laws_eqInt64S_bb.l0 k v0 v1 (IntKind.i64.wrap (v4 + 1)) v2 v3) else (some false)))))) else (some true))
def laws_eqInt64S_bb.f : Nat → Nat → Nat → (List Int) → (List Int) → Option (Bool)
 | 0, _, _, _, _ => none
 | k + 1, v0, v1, v2, v3 => (bif ((v0 : Int) == (v1 : Int)) then (laws_eqInt64S_bb.l0 k v0 v1 0 v2 v3) else (some false))
end
set_option maxRecDepth 100000 in
set_option maxHeartbeats 4000000 in
theorem laws_eqInt64S_bb.con {K : Kn} [KOk K] {k : Nat} {v0 : Nat} {v1 : Nat} {v2 : (List Int)} {v3 : (List Int)} {r : Bool} (h : laws_eqInt64S_bb.f k v0 v1 v2 v3 = some r) : Con K Tryz.prog 26 [.buf 1000 0 0 v0, .buf 1001 0 0 v1] [(1000, (0, .buf 1 (List.map (irow .i64) v2))), (1001, (0, .buf 1 (List.map (irow .i64) v3)))] (.p (.bool r)) [(1000, (0, .buf 1 (List.map (irow .i64) v2))), (1001, (0, .buf 1 (List.map (irow .i64) v3)))] := by
 cases k with
 | zero => exact absurd h (by simp [laws_eqInt64S_bb.f])
 | succ k =>
 rw [laws_eqInt64S_bb.f] at h
 refine con_intro 26 [] Tryz.func26 (by kernel_rfl) rfl rfl (by kernel_rfl) fun ι0 w0 hk0 => ?_
 revert h
 refine bif_e (fun c1 => ?_) (fun c1 => ?_)
 ·refine go 11 ?_
  refine fun h => good_loop (fun n st => n ≤ k ∧ ∃ (v4 : _), st = ⟨[(0, .buf 1000 0 0 v0), (1, .buf 1001 0 0 v1), (5, .p (.int .i64 v4))], [(1000, (0, .buf 1 (List.map (irow .i64) v2))), (1001, (0, .buf 1 (List.map (irow .i64) v3)))]⟩ ∧ laws_eqInt64S_bb.l0 n v0 v1 v4 v2 v3 = some r) k ⟨_, ⟨Nat.le_refl _, _, rfl, h⟩, frle_, memle_⟩ ?_
  clear c1
  clear h
  rintro n _ ⟨hkl0, v4, rfl, h⟩ hl0
  cases n with
  | zero => exact absurd h (by simp [laws_eqInt64S_bb.l0])
  | succ kl0 =>
  rw [laws_eqInt64S_bb.l0] at h
  revert h
  refine bif_e (fun c2 => ?_) (fun c2 => ?_)
  ·refine bind_e (fun v5 e5 => ?_)
   refine bind_e (fun v6 e6 => ?_)
   replace e6 := nf_ (gx_en (irow .i64) e6)
   refine bind_e (fun v7 e7 => ?_)
   refine bind_e (fun v8 e8 => ?_)
   replace e8 := nf_ (gx_en (irow .i64) e8)
   refine go 8 ?_
   refine grs ?_
   refine gr_run ?_
   refine gr_done ?_
   refine bif_e (fun c3 => ?_) (fun c3 => ?_)
   ·refine go 4 ?_
    exact fun h => good_again hl0 (by omega) ⟨_, ⟨by omega, _, rfl, h⟩, frle_, memle_⟩
   ·refine go 3 ?_
    refine ret_e (fun hr_ => ?_)
    subst hr_
    exact ret_ Tryz.func26 [(1000, (0, 1000, 0)), (1001, (0, 1001, 0))]
  ·refine go 7 ?_
   refine ret_e (fun hr_ => ?_)
   subst hr_
   exact ret_ Tryz.func26 [(1000, (0, 1000, 0)), (1001, (0, 1001, 0))]
 ·refine go 8 ?_
  refine ret_e (fun hr_ => ?_)
  subst hr_
  exact ret_ Tryz.func26 [(1000, (0, 1000, 0)), (1001, (0, 1001, 0))]
mutual
def laws_markText.l0 : Nat → Int → ByteArray → Option (ByteArray)
 | 0, _, _ => none
 | k + 1, v1, v2 => (bif decide (0 < v1) then ((rem v1 10).bind fun v4 => ((cat (bstr ([(IntKind.u8.wrap (IntKind.i64.wrap (48 + v4)))] : List Int)) v2).bind fun v5 => ((quo .i64 v1 10).bind fun v6 => (laws_markText.l0 k v6 v5)))) else ((cat (⟨#[109]⟩ : ByteArray) v2).bind fun v3 => (some v3)))
def laws_markText.f : Nat → Int → Option (ByteArray)
 | 0, _ => none
 | k + 1, v0 => (bif decide (v0 ≤ 0) then (some (⟨#[109, 48]⟩ : ByteArray)) else (laws_markText.l0 k v0 (⟨#[]⟩ : ByteArray)))
end
set_option maxRecDepth 100000 in
set_option maxHeartbeats 4000000 in
theorem laws_markText.con {K : Kn} [KOk K] {k : Nat} {v0 : Int} {r : ByteArray} (h : laws_markText.f k v0 = some r) : Con K Tryz.prog 69 [.p (.int .i64 v0)] [] (.p (.str r)) [] := by
 cases k with
 | zero => exact absurd h (by simp [laws_markText.f])
 | succ k =>
 rw [laws_markText.f] at h
 refine con_intro 20 [] Tryz.func69 (by kernel_rfl) rfl rfl (by kernel_rfl) fun ι0 w0 hk0 => ?_
 revert h
 refine bif_e (fun c1 => ?_) (fun c1 => ?_)
 ·refine go 8 ?_
  refine ret_e (fun hr_ => ?_)
  subst hr_
  exact ret_ Tryz.func69 []
 ·refine go 11 ?_
  refine fun h => good_loop (fun n st => n ≤ k ∧ ∃ (v1 : _) (v2 : _), st = ⟨[(0, .p (.int .i64 v1)), (3, .p (.str v2))], []⟩ ∧ laws_markText.l0 n v1 v2 = some r) k ⟨_, ⟨Nat.le_refl _, _, _, rfl, h⟩, frle_, memle_⟩ ?_
  clear c1
  clear h
  rintro n _ ⟨hkl0, v1, v2, rfl, h⟩ hl0
  cases n with
  | zero => exact absurd h (by simp [laws_markText.l0])
  | succ kl0 =>
  rw [laws_markText.l0] at h
  revert h
  refine bif_e (fun c2 => ?_) (fun c2 => ?_)
  ·refine bind_e (fun v4 e4 => ?_)
   refine bind_e (fun v5 e5 => ?_)
   refine bind_e (fun v6 e6 => ?_)
   refine go 10 ?_
   exact fun h => good_again hl0 (by omega) ⟨_, ⟨by omega, _, _, rfl, h⟩, frle_, memle_⟩
  ·refine bind_e (fun v3 e3 => ?_)
   refine go 7 ?_
   refine ret_e (fun hr_ => ?_)
   subst hr_
   exact ret_ Tryz.func69 []
mutual
def laws_markStringS_sv.l0 : Nat → (List ByteArray) → Int → Int → Option (Int)
 | 0, _, _, _ => none
 | k + 1, v0, v2, v3 => (bif decide (v3 < (v0.length : Int)) then ((laws_markText.f k v2).bind fun v4 => ((ix v0 v3).bind fun v5 => (laws_markStringS_sv.l0 k v0 (IntKind.i64.wrap (v2 + 1)) (IntKind.i64.wrap (v3 + 1))))) else (some v2))
def laws_markStringS_sv.f : Nat → (List ByteArray) → Int → Option (Int)
 | 0, _, _ => none
 | k + 1, v0, v1 => (laws_markStringS_sv.l0 k v0 v1 0)
end
set_option maxRecDepth 100000 in
set_option maxHeartbeats 4000000 in
theorem laws_markStringS_sv.con {K : Kn} [KOk K] {k : Nat} {v0 : (List ByteArray)} {v1 : Int} {r : Int} (h : laws_markStringS_sv.f k v0 v1 = some r) : Con K Tryz.prog 28 [.sh 1000 0 (List.map srw v0), .p (.int .i64 v1)] [(1000, (0, .pool))] (.p (.int .i64 r)) [(1000, (0, .pool))] := by
 cases k with
 | zero => exact absurd h (by simp [laws_markStringS_sv.f])
 | succ k =>
 rw [laws_markStringS_sv.f] at h
 refine con_intro 20 [] Tryz.func28 (by kernel_rfl) rfl rfl (by kernel_rfl) fun ι0 w0 hk0 => ?_
 revert h
 refine go 6 ?_
 refine fun h => good_loop (fun n st => n ≤ k ∧ ∃ (v2 : _) (v3 : _), st = ⟨[(0, .sh 1000 0 (List.map srw v0)), (1, .p (.int .i64 v2)), (5, .p (.int .i64 v3))], [(1000, (0, .pool))]⟩ ∧ laws_markStringS_sv.l0 n v0 v2 v3 = some r) k ⟨_, ⟨Nat.le_refl _, _, _, rfl, h⟩, frle_, memle_⟩ ?_
 clear h
 rintro n _ ⟨hkl0, v2, v3, rfl, h⟩ hl0
 cases n with
 | zero => exact absurd h (by simp [laws_markStringS_sv.l0])
 | succ kl0 =>
 rw [laws_markStringS_sv.l0] at h
 revert h
 refine bif_e (fun c1 => ?_) (fun c1 => ?_)
 ·refine go 8 ?_
  refine grs ?_
  refine gr_run ?_
  refine bind_e (fun v4 e4 => gr_call [] (laws_markText.con e4) ?_)
  clear e4
  refine bind_e (fun v5 e5 => ?_)
  replace e5 := nf_ (ix_en srw e5)
  refine gr_run ?_
  refine gr_done ?_
  refine go 3 ?_
  exact fun h => good_again hl0 (by omega) ⟨_, ⟨by omega, _, _, rfl, h⟩, frle_, memle_⟩
 ·refine go 7 ?_
  refine ret_e (fun hr_ => ?_)
  subst hr_
  exact ret_ Tryz.func28 [(1000, (0, 1000, 0))]
mutual
def laws_markIndexEntryS_sv.l0 : Nat → (List S73) → Int → Int → Option (Int)
 | 0, _, _, _ => none
 | k + 1, v0, v2, v3 => (bif decide (v3 < (v0.length : Int)) then ((ix v0 v3).bind fun v4 => ((laws_markStringS_sv.f k v4.f0 v2).bind fun v5 => (laws_markIndexEntryS_sv.l0 k v0 (IntKind.i64.wrap (v5 + 1)) (IntKind.i64.wrap (v3 + 1))))) else (some v2))
def laws_markIndexEntryS_sv.f : Nat → (List S73) → Int → Option (Int)
 | 0, _, _ => none
 | k + 1, v0, v1 => (laws_markIndexEntryS_sv.l0 k v0 v1 0)
end
set_option maxRecDepth 100000 in
set_option maxHeartbeats 4000000 in
theorem laws_markIndexEntryS_sv.con {K : Kn} [KOk K] {k : Nat} {v0 : (List S73)} {v1 : Int} {r : Int} (h : laws_markIndexEntryS_sv.f k v0 v1 = some r) : Con K Tryz.prog 27 [.sh 1000 0 (List.map en73 v0), .p (.int .i64 v1)] [(1000, (0, .pool))] (.p (.int .i64 r)) [(1000, (0, .pool))] := by
 cases k with
 | zero => exact absurd h (by simp [laws_markIndexEntryS_sv.f])
 | succ k =>
 rw [laws_markIndexEntryS_sv.f] at h
 refine con_intro 27 [] Tryz.func27 (by kernel_rfl) rfl rfl (by kernel_rfl) fun ι0 w0 hk0 => ?_
 revert h
 refine go 6 ?_
 refine fun h => good_loop (fun n st => n ≤ k ∧ ∃ (v2 : _) (v3 : _), st = ⟨[(0, .sh 1000 0 (List.map en73 v0)), (1, .p (.int .i64 v2)), (5, .p (.int .i64 v3))], [(1000, (0, .pool))]⟩ ∧ laws_markIndexEntryS_sv.l0 n v0 v2 v3 = some r) k ⟨_, ⟨Nat.le_refl _, _, _, rfl, h⟩, frle_, memle_⟩ ?_
 clear h
 rintro n _ ⟨hkl0, v2, v3, rfl, h⟩ hl0
 cases n with
 | zero => exact absurd h (by simp [laws_markIndexEntryS_sv.l0])
 | succ kl0 =>
 rw [laws_markIndexEntryS_sv.l0] at h
 revert h
 refine bif_e (fun c1 => ?_) (fun c1 => ?_)
 ·refine bind_e (fun v4 e4 => ?_)
  replace e4 := nf_ (ix_en en73 e4)
  refine go 8 ?_
  refine grs ?_
  refine gr_run ?_
  refine bind_e (fun v5 e5 => gr_call [(1000, (0, 1000, 0))] (laws_markStringS_sv.con e5) ?_)
  clear e5
  refine gr_run ?_
  refine gr_done ?_
  refine go 5 ?_
  exact fun h => good_again hl0 (by omega) ⟨_, ⟨by omega, _, _, rfl, h⟩, frle_, memle_⟩
 ·refine go 7 ?_
  refine ret_e (fun hr_ => ?_)
  subst hr_
  exact ret_ Tryz.func27 [(1000, (0, 1000, 0))]
mutual
def laws_markInt64S_bv.l0 : Nat → Nat → Int → Int → (List Int) → Option (Int × (List Int))
 | 0, _, _, _, _ => none
 | k + 1, v0, v3, v4, v5 => (bif decide (v4 < (v0 : Int)) then ((inr v4 v0).bind fun v6 => ((v5[(Int.toNat v4)]?).bind fun v7 => (laws_markInt64S_bv.l0 k v0 (IntKind.i64.wrap (v3 + 1)) (IntKind.i64.wrap (v4 + 1)) (setr v5 (Int.toNat v4) v3)))) else (some (v3, v5)))
def laws_markInt64S_bv.f : Nat → Nat → Int → (List Int) → Option (Int × (List Int))
 | 0, _, _, _ => none
 | k + 1, v0, v1, v2 => (laws_markInt64S_bv.l0 k v0 v1 0 v2)
end
set_option maxRecDepth 100000 in
set_option maxHeartbeats 4000000 in
theorem laws_markInt64S_bv.con {K : Kn} [KOk K] {k : Nat} {v0 : Nat} {v1 : Int} {v2 : (List Int)} {r : Int × (List Int)} (h : laws_markInt64S_bv.f k v0 v1 v2 = some r) : Con K Tryz.prog 29 [.buf 1000 0 0 v0, .p (.int .i64 v1)] [(1000, (0, .buf 1 (List.map (irow .i64) v2)))] (.p (.int .i64 r.1)) [(1000, (0, .buf 1 (List.map (irow .i64) r.2)))] := by
 cases k with
 | zero => exact absurd h (by simp [laws_markInt64S_bv.f])
 | succ k =>
 rw [laws_markInt64S_bv.f] at h
 refine con_intro 19 [] Tryz.func29 (by kernel_rfl) rfl rfl (by kernel_rfl) fun ι0 w0 hk0 => ?_
 revert h
 refine go 6 ?_
 refine fun h => good_loop (fun n st => n ≤ k ∧ ∃ (v3 : _) (v4 : _) (v5 : _), st = ⟨[(0, .buf 1000 0 0 v0), (1, .p (.int .i64 v3)), (5, .p (.int .i64 v4))], [(1000, (0, .buf 1 (List.map (irow .i64) v5)))]⟩ ∧ laws_markInt64S_bv.l0 n v0 v3 v4 v5 = some r) k ⟨_, ⟨Nat.le_refl _, _, _, _, rfl, h⟩, frle_, memle_⟩ ?_
 clear h
 rintro n _ ⟨hkl0, v3, v4, v5, rfl, h⟩ hl0
 cases n with
 | zero => exact absurd h (by simp [laws_markInt64S_bv.l0])
 | succ kl0 =>
 rw [laws_markInt64S_bv.l0] at h
 revert h
 refine bif_e (fun c1 => ?_) (fun c1 => ?_)
 ·refine bind_e (fun v6 e6 => ?_)
  refine bind_e (fun v7 e7 => ?_)
  replace e7 := nf_ (gx_en (irow .i64) e7)
  refine go 12 ?_
  exact fun h => good_again hl0 (by omega) ⟨_, ⟨by omega, _, _, _, rfl, h⟩, frle_, memle_⟩
 ·refine go 7 ?_
  refine ret_e (fun hr_ => ?_)
  subst hr_
  exact ret_ Tryz.func29 [(1000, (0, 1000, 0))]
mutual
def laws_heldInt64S_bv.l0 : Nat → Nat → Int → Int → (List Int) → Option (Int)
 | 0, _, _, _, _ => none
 | k + 1, v0, v3, v4, v2 => (bif decide (v4 < (v0 : Int)) then ((inr v4 v0).bind fun v5 => ((v2[(Int.toNat v4)]?).bind fun v6 => (bif (v6 == v3) then (laws_heldInt64S_bv.l0 k v0 (IntKind.i64.wrap (v3 + 1)) (IntKind.i64.wrap (v4 + 1)) v2) else (some (-1))))) else (some v3))
def laws_heldInt64S_bv.f : Nat → Nat → Int → (List Int) → Option (Int)
 | 0, _, _, _ => none
 | k + 1, v0, v1, v2 => (laws_heldInt64S_bv.l0 k v0 v1 0 v2)
end
set_option maxRecDepth 100000 in
set_option maxHeartbeats 4000000 in
theorem laws_heldInt64S_bv.con {K : Kn} [KOk K] {k : Nat} {v0 : Nat} {v1 : Int} {v2 : (List Int)} {r : Int} (h : laws_heldInt64S_bv.f k v0 v1 v2 = some r) : Con K Tryz.prog 30 [.buf 1000 0 0 v0, .p (.int .i64 v1)] [(1000, (0, .buf 1 (List.map (irow .i64) v2)))] (.p (.int .i64 r)) [(1000, (0, .buf 1 (List.map (irow .i64) v2)))] := by
 cases k with
 | zero => exact absurd h (by simp [laws_heldInt64S_bv.f])
 | succ k =>
 rw [laws_heldInt64S_bv.f] at h
 refine con_intro 21 [] Tryz.func30 (by kernel_rfl) rfl rfl (by kernel_rfl) fun ι0 w0 hk0 => ?_
 revert h
 refine go 6 ?_
 refine fun h => good_loop (fun n st => n ≤ k ∧ ∃ (v3 : _) (v4 : _), st = ⟨[(0, .buf 1000 0 0 v0), (1, .p (.int .i64 v3)), (5, .p (.int .i64 v4))], [(1000, (0, .buf 1 (List.map (irow .i64) v2)))]⟩ ∧ laws_heldInt64S_bv.l0 n v0 v3 v4 v2 = some r) k ⟨_, ⟨Nat.le_refl _, _, _, rfl, h⟩, frle_, memle_⟩ ?_
 clear h
 rintro n _ ⟨hkl0, v3, v4, rfl, h⟩ hl0
 cases n with
 | zero => exact absurd h (by simp [laws_heldInt64S_bv.l0])
 | succ kl0 =>
 rw [laws_heldInt64S_bv.l0] at h
 revert h
 refine bif_e (fun c1 => ?_) (fun c1 => ?_)
 ·refine bind_e (fun v5 e5 => ?_)
  refine bind_e (fun v6 e6 => ?_)
  replace e6 := nf_ (gx_en (irow .i64) e6)
  refine bif_e (fun c2 => ?_) (fun c2 => ?_)
  ·refine go 15 ?_
   exact fun h => good_again hl0 (by omega) ⟨_, ⟨by omega, _, _, rfl, h⟩, frle_, memle_⟩
  ·refine go 13 ?_
   refine ret_e (fun hr_ => ?_)
   subst hr_
   exact ret_ Tryz.func30 [(1000, (0, 1000, 0))]
 ·refine go 7 ?_
  refine ret_e (fun hr_ => ?_)
  subst hr_
  exact ret_ Tryz.func30 [(1000, (0, 1000, 0))]
def laws_FnExactFindRange.f (k : Nat) (v0 : (List S73)) (v1 : (List ByteArray)) (v2 : (List ByteArray)) (v3 : Bool) (v4 : Bool) : Option (Bool) := ((laws_szIndexEntryS.f k v0 1048576).bind fun v5 => (bif decide (v5 < 0) then (some true) else ((laws_szStringS.f k v1 v5).bind fun v6 => (bif decide (v6 < 0) then (some true) else ((laws_szStringS.f k v2 v6).bind fun v7 => (bif decide (v7 < 0) then (some true) else ((laws_toIndexEntryS.f k v0).bind fun v8 => ((laws_toStringS.f k v1).bind fun v9 => ((laws_toStringS.f k v2).bind fun v10 => ((spec_FindRange_O.f k v8 v9 v10 v3 v4).bind fun v11 => ((laws_toIndexEntryS.f k v0).bind fun v12 => ((laws_toStringS.f k v1).bind fun v13 => ((laws_toStringS.f k v2).bind fun v14 => ((impl_FindRange_O.f k v12 v13 v14 v3 v4).bind fun v15 => ((laws_eqInt64S_bb.f k v15.length v11.length v15 v11).bind fun v16 => (bif v16 then ((laws_toIndexEntryS.f k v0).bind fun v17 => ((laws_eqIndexEntryS.f k v12 v17).bind fun v18 => (bif v18 then ((laws_toStringS.f k v1).bind fun v19 => ((laws_eqStringS.f k v13 v19).bind fun v20 => (bif v20 then ((laws_toStringS.f k v2).bind fun v21 => ((laws_eqStringS.f k v14 v21).bind fun v22 => (bif v22 then ((laws_markIndexEntryS_sv.f k v12 1).bind fun v23 => ((laws_markStringS_sv.f k v13 v23).bind fun v24 => ((laws_markStringS_sv.f k v14 v24).bind fun v25 => (bif decide (v25 < 0) then (some false) else ((laws_eqInt64S_bb.f k v15.length v11.length v15 v11).bind fun v26 => (bif v26 then ((laws_markInt64S_bv.f k v15.length 1 v15).bind fun v27 => ((laws_heldInt64S_bv.f k v15.length 1 v27.2).bind fun v28 => (bif decide (v28 < 0) then (some false) else (bif (v28 == v27.1) then ((laws_toIndexEntryS.f k v0).bind fun v29 => ((laws_toStringS.f k v1).bind fun v30 => ((laws_toStringS.f k v2).bind fun v31 => ((impl_FindRange_O.f k v29 v30 v31 v3 v4).bind fun v32 => ((laws_eqInt64S_bb.f k v32.length v11.length v32 v11).bind fun v33 => (bif v33 then ((laws_heldInt64S_bv.f k v15.length 1 v27.2).bind fun v34 => (bif decide (v34 < 0) then (some false) else (bif (v34 == v27.1) then (some true) else (some false)))) else (some false))))))) else (some false))))) else (some false))))))) else (some false)))) else (some false)))) else (some false)))) else (some false)))))))))))))))))
set_option maxRecDepth 100000 in
set_option maxHeartbeats 4000000 in
theorem laws_FnExactFindRange.con {K : Kn} [KOk K] {k : Nat} {v0 : (List S73)} {v1 : (List ByteArray)} {v2 : (List ByteArray)} {v3 : Bool} {v4 : Bool} {r : Bool} (h : laws_FnExactFindRange.f k v0 v1 v2 v3 v4 = some r) : ConT K Tryz.prog 5 [.od (.lst false (List.map en73 v0)), .od (.lst false (List.map srw v1)), .od (.lst false (List.map srw v2)), .p (.bool v3), .p (.bool v4)] [] (.p (.bool r)) [] := by
 rw [laws_FnExactFindRange.f] at h
 refine conT_intro 125 [] Tryz.func5 (by kernel_rfl) rfl rfl (by kernel_rfl) fun ι0 w0 hN0 hk0 => ?_
 revert h
 refine go 5 ?_
 refine grs ?_
 refine gr_run ?_
 refine bind_e (fun v5 e5 => gr_call [] (laws_szIndexEntryS.con e5) ?_)
 clear e5
 refine gr_run ?_
 refine gr_done ?_
 refine bif_e (fun c1 => ?_) (fun c1 => ?_)
 ·refine go 6 ?_
  refine ret_e (fun hr_ => ?_)
  subst hr_
  exact ret_ Tryz.func5 []
 ·refine go 6 ?_
  refine grs ?_
  refine gr_run ?_
  refine bind_e (fun v6 e6 => gr_call [] (laws_szStringS.con e6) ?_)
  clear e6
  refine gr_run ?_
  refine gr_done ?_
  refine bif_e (fun c2 => ?_) (fun c2 => ?_)
  ·refine go 6 ?_
   refine ret_e (fun hr_ => ?_)
   subst hr_
   exact ret_ Tryz.func5 []
  ·refine go 6 ?_
   refine grs ?_
   refine gr_run ?_
   refine bind_e (fun v7 e7 => gr_call [] (laws_szStringS.con e7) ?_)
   clear e7
   refine gr_run ?_
   refine gr_done ?_
   refine bif_e (fun c3 => ?_) (fun c3 => ?_)
   ·refine go 6 ?_
    refine ret_e (fun hr_ => ?_)
    subst hr_
    exact ret_ Tryz.func5 []
   ·refine go 6 ?_
    refine grs ?_
    refine gr_run ?_
    refine bind_e (fun v8 e8 => gr_call [] (laws_toIndexEntryS.con e8) ?_)
    clear e8
    refine gr_run ?_
    refine bind_e (fun v9 e9 => gr_call [] (laws_toStringS.con e9) ?_)
    clear e9
    refine gr_run ?_
    refine bind_e (fun v10 e10 => gr_call [] (laws_toStringS.con e10) ?_)
    clear e10
    refine gr_run ?_
    refine bind_e (fun v11 e11 => gr_call [(2000, (1, 44, 1))] (spec_FindRange_O.con e11) ?_)
    clear e11
    refine gr_run ?_
    refine gr_done ?_
    refine go 1 ?_
    refine grs ?_
    refine gr_run ?_
    refine bind_e (fun v12 e12 => gr_call [] (laws_toIndexEntryS.con e12) ?_)
    clear e12
    refine gr_run ?_
    refine gr_done ?_
    refine go 1 ?_
    refine grs ?_
    refine gr_run ?_
    refine bind_e (fun v13 e13 => gr_call [] (laws_toStringS.con e13) ?_)
    clear e13
    refine gr_run ?_
    refine gr_done ?_
    refine go 1 ?_
    refine grs ?_
    refine gr_run ?_
    refine bind_e (fun v14 e14 => gr_call [] (laws_toStringS.con e14) ?_)
    clear e14
    refine gr_run ?_
    refine gr_done ?_
    refine go 1 ?_
    refine grs ?_
    refine gr_run ?_
    refine bind_e (fun v15 e15 => gr_call [(2000, (1, 56, 1))] (impl_FindRange_O.con e15) ?_)
    clear e15
    refine gr_run ?_
    refine gr_done ?_
    refine go 2 ?_
    refine grs ?_
    refine gr_run ?_
    refine bind_e (fun v16 e16 => gr_call [(1000, (0, 56, 1)), (1001, (0, 44, 1))] (laws_eqInt64S_bb.con e16) ?_)
    clear e16
    refine gr_run ?_
    refine gr_done ?_
    refine bif_e (fun c4 => ?_) (fun c4 => ?_)
    ·refine go 4 ?_
     refine grs ?_
     refine gr_run ?_
     refine bind_e (fun v17 e17 => gr_call [] (laws_toIndexEntryS.con e17) ?_)
     clear e17
     refine bind_e (fun v18 e18 => gr_call [] (laws_eqIndexEntryS.con e18) ?_)
     clear e18
     refine gr_run ?_
     refine gr_done ?_
     refine bif_e (fun c5 => ?_) (fun c5 => ?_)
     ·refine go 4 ?_
      refine grs ?_
      refine gr_run ?_
      refine bind_e (fun v19 e19 => gr_call [] (laws_toStringS.con e19) ?_)
      clear e19
      refine bind_e (fun v20 e20 => gr_call [] (laws_eqStringS.con e20) ?_)
      clear e20
      refine gr_run ?_
      refine gr_done ?_
      refine bif_e (fun c6 => ?_) (fun c6 => ?_)
      ·refine go 4 ?_
       refine grs ?_
       refine gr_run ?_
       refine bind_e (fun v21 e21 => gr_call [] (laws_toStringS.con e21) ?_)
       clear e21
       refine bind_e (fun v22 e22 => gr_call [] (laws_eqStringS.con e22) ?_)
       clear e22
       refine gr_run ?_
       refine gr_done ?_
       refine bif_e (fun c7 => ?_) (fun c7 => ?_)
       ·refine go 5 ?_
        refine pool_ 900 (⟨[(0, .od (.lst false (List.map en73 v0))), (1, .od (.lst false (List.map srw v1))), (2, .od (.lst false (List.map srw v2))), (3, .p (.bool v3)), (4, .p (.bool v4)), (12, .buf 44 1 0 v11.length), (13, .nw (.lst false (List.map en73 v12))), (14, .nw (.lst false (List.map srw v13))), (15, .nw (.lst false (List.map srw v14))), (16, .buf 56 1 0 v15.length), (17, .p (.int .i64 1))], [(44, (1, .buf 1 (List.map (irow .i64) v11))), (56, (1, .buf 1 (List.map (irow .i64) v15)))]⟩) (⟨[(0, .od (.lst false (List.map en73 v0))), (1, .od (.lst false (List.map srw v1))), (2, .od (.lst false (List.map srw v2))), (3, .p (.bool v3)), (4, .p (.bool v4)), (12, .buf 44 1 0 v11.length), (13, .sh 900 1 (List.map en73 v12)), (14, .sh 900 1 (List.map srw v13)), (15, .sh 900 1 (List.map srw v14)), (16, .buf 56 1 0 v15.length), (17, .p (.int .i64 1))], [(900, (1, .pool)), (44, (1, .buf 1 (List.map (irow .i64) v11))), (56, (1, .buf 1 (List.map (irow .i64) v15)))]⟩) ?_
        refine grs ?_
        refine gr_run ?_
        refine bind_e (fun v23 e23 => gr_call [(1000, (0, 900, 1))] (laws_markIndexEntryS_sv.con e23) ?_)
        clear e23
        refine gr_run ?_
        refine gr_done ?_
        refine go 1 ?_
        refine grs ?_
        refine gr_run ?_
        refine bind_e (fun v24 e24 => gr_call [(1000, (0, 900, 1))] (laws_markStringS_sv.con e24) ?_)
        clear e24
        refine gr_run ?_
        refine gr_done ?_
        refine go 1 ?_
        refine grs ?_
        refine gr_run ?_
        refine bind_e (fun v25 e25 => gr_call [(1000, (0, 900, 1))] (laws_markStringS_sv.con e25) ?_)
        clear e25
        refine gr_run ?_
        refine gr_done ?_
        refine bif_e (fun c8 => ?_) (fun c8 => ?_)
        ·refine go 6 ?_
         refine ret_e (fun hr_ => ?_)
         subst hr_
         exact ret_ Tryz.func5 []
        ·refine go 2 ?_
         refine grs ?_
         refine gr_run ?_
         refine bind_e (fun v26 e26 => gr_call [(1000, (0, 56, 1)), (1001, (0, 44, 1))] (laws_eqInt64S_bb.con e26) ?_)
         clear e26
         refine gr_run ?_
         refine gr_done ?_
         refine bif_e (fun c9 => ?_) (fun c9 => ?_)
         ·refine go 5 ?_
          refine grs ?_
          refine gr_run ?_
          refine bind_e (fun v27 e27 => gr_call [(1000, (0, 56, 1))] (laws_markInt64S_bv.con e27) ?_)
          clear e27
          refine gr_run ?_
          refine gr_done ?_
          refine go 3 ?_
          refine grs ?_
          refine gr_run ?_
          refine bind_e (fun v28 e28 => gr_call [(1000, (0, 56, 1))] (laws_heldInt64S_bv.con e28) ?_)
          clear e28
          refine gr_run ?_
          refine gr_done ?_
          refine bif_e (fun c10 => ?_) (fun c10 => ?_)
          ·refine go 6 ?_
           refine ret_e (fun hr_ => ?_)
           subst hr_
           exact ret_ Tryz.func5 []
          ·refine bif_e (fun c11 => ?_) (fun c11 => ?_)
           ·refine go 11 ?_
            refine grs ?_
            refine gr_run ?_
            refine bind_e (fun v29 e29 => gr_call [] (laws_toIndexEntryS.con e29) ?_)
            clear e29
            refine gr_run ?_
            refine bind_e (fun v30 e30 => gr_call [] (laws_toStringS.con e30) ?_)
            clear e30
            refine gr_run ?_
            refine bind_e (fun v31 e31 => gr_call [] (laws_toStringS.con e31) ?_)
            clear e31
            refine gr_run ?_
            refine bind_e (fun v32 e32 => gr_call [(2000, (1, 112, 1))] (impl_FindRange_O.con e32) ?_)
            clear e32
            refine gr_run ?_
            refine gr_done ?_
            refine go 2 ?_
            refine grs ?_
            refine gr_run ?_
            refine bind_e (fun v33 e33 => gr_call [(1000, (0, 112, 1)), (1001, (0, 44, 1))] (laws_eqInt64S_bb.con e33) ?_)
            clear e33
            refine gr_run ?_
            refine gr_done ?_
            refine bif_e (fun c12 => ?_) (fun c12 => ?_)
            ·refine go 5 ?_
             refine grs ?_
             refine gr_run ?_
             refine bind_e (fun v34 e34 => gr_call [(1000, (0, 56, 1))] (laws_heldInt64S_bv.con e34) ?_)
             clear e34
             refine gr_run ?_
             refine gr_done ?_
             refine bif_e (fun c13 => ?_) (fun c13 => ?_)
             ·refine go 6 ?_
              refine ret_e (fun hr_ => ?_)
              subst hr_
              exact ret_ Tryz.func5 []
             ·refine bif_e (fun c14 => ?_) (fun c14 => ?_)
              ·refine go 12 ?_
               refine ret_e (fun hr_ => ?_)
               subst hr_
               exact ret_ Tryz.func5 []
              ·refine go 11 ?_
               refine ret_e (fun hr_ => ?_)
               subst hr_
               exact ret_ Tryz.func5 []
            ·refine go 3 ?_
             refine ret_e (fun hr_ => ?_)
             subst hr_
             exact ret_ Tryz.func5 []
           ·refine go 11 ?_
            refine ret_e (fun hr_ => ?_)
            subst hr_
            exact ret_ Tryz.func5 []
         ·refine go 3 ?_
          refine ret_e (fun hr_ => ?_)
          subst hr_
          exact ret_ Tryz.func5 []
       ·refine go 3 ?_
        refine ret_e (fun hr_ => ?_)
        subst hr_
        exact ret_ Tryz.func5 []
      ·refine go 3 ?_
       refine ret_e (fun hr_ => ?_)
       subst hr_
       exact ret_ Tryz.func5 []
     ·refine go 3 ?_
      refine ret_e (fun hr_ => ?_)
      subst hr_
      exact ret_ Tryz.func5 []
    ·refine go 3 ?_
     refine ret_e (fun hr_ => ?_)
     subst hr_
     exact ret_ Tryz.func5 []
end Go.Ab
