/- What the functions compute, and their contracts, part 5. No condition beyond KOk. -/
import Derived.Test.YtphfoghhcemfhaaAbX
import Derived.Test.YtphfoghhcemfhaaAbF4
namespace Go.Ab
open Go.Proofs
set_option linter.unusedVariables false
set_option linter.unusedSimpArgs false
def impl_SchemaFault.f (k : Nat) (v0 : S65) : Option (Int) := ((impl_schemaOk.f k v0).bind fun v1 => (bif v1 then (some 0) else (some 1)))
set_option maxRecDepth 100000 in
set_option maxHeartbeats 4000000 in
theorem impl_SchemaFault.con {K : Kn} [KOk K] {k : Nat} {v0 : S65} {r : Int} (h : impl_SchemaFault.f k v0 = some r) : Con K Try.prog 40 [.agg [.p (.lst false (List.map en160 v0.f0)), .p (.lst false (List.map en163 v0.f1)), .p (.lst false (List.map en166 v0.f2)), .p (.bool v0.f3)]] [] (.p (.int .i64 r)) [] := by
 rw [impl_SchemaFault.f] at h
 refine con_intro 6 [] Try.func40 (by kernel_rfl) rfl rfl (by kernel_rfl) fun ι0 w0 hk0 => ?_
 revert h
 refine go 4 ?_
 refine grs ?_
 refine gr_run ?_
 refine bind_e (fun v1 e1 => gr_call [] (impl_schemaOk.con e1) ?_)
 clear e1
 refine gr_run ?_
 refine gr_done ?_
 refine bif_e (fun c1 => ?_) (fun c1 => ?_)
 ·refine go 4 ?_
  refine ret_e (fun hr_ => ?_)
  subst hr_
  exact ret_ Try.func40 []
 ·refine go 3 ?_
  refine ret_e (fun hr_ => ?_)
  subst hr_
  exact ret_ Try.func40 []
mutual
def impl_isOf.l0 : Nat → ByteArray → (List ByteArray) → Int → S65 → Option (Bool)
 | 0, _, _, _, _ => none
 | k + 1, v2, v1, v3, v0 => (bif decide (v3 < (v1.length : Int)) then ((ix v1 v3).bind fun v4 => ((impl_line.f k v0 v4).bind fun v5 => ((slices_Contains.f k v5 v2).bind fun v6 => (bif v6 then (some true) else (impl_isOf.l0 k v2 v1 (IntKind.i64.wrap (v3 + 1)) v0))))) else (some false))
def impl_isOf.f : Nat → S65 → (List ByteArray) → ByteArray → Option (Bool)
 | 0, _, _, _ => none
 | k + 1, v0, v1, v2 => (impl_isOf.l0 k v2 v1 0 v0)
end
set_option maxRecDepth 100000 in
set_option maxHeartbeats 4000000 in
theorem impl_isOf.con {K : Kn} [KOk K] {k : Nat} {v0 : S65} {v1 : (List ByteArray)} {v2 : ByteArray} {r : Bool} (h : impl_isOf.f k v0 v1 v2 = some r) : Con K Try.prog 134 [.agg [.p (.lst false (List.map en160 v0.f0)), .p (.lst false (List.map en163 v0.f1)), .p (.lst false (List.map en166 v0.f2)), .p (.bool v0.f3)], .p (.lst false (List.map srw v1)), .p (.str v2)] [] (.p (.bool r)) [] := by
 cases k with
 | zero => exact absurd h (by simp [impl_isOf.f])
 | succ k =>
 rw [impl_isOf.f] at h
 refine con_intro 21 [] Try.func134 (by kernel_rfl) rfl rfl (by kernel_rfl) fun ι0 w0 hk0 => ?_
 revert h
 refine go 6 ?_
 refine fun h => good_loop (fun n st => n ≤ k ∧ ∃ (v3 : _), st = ⟨[(2, .p (.str v2)), (3, .ptr 3 1 0), (9, .p (.lst false (List.map srw v1))), (10, .p (.int .i64 (v1.length : Int))), (11, .p (.int .i64 v3))], [(3, (1, .cells [.p (.lst false (List.map en160 v0.f0)), .p (.lst false (List.map en163 v0.f1)), .p (.lst false (List.map en166 v0.f2)), .p (.bool v0.f3)]))]⟩ ∧ impl_isOf.l0 n v2 v1 v3 v0 = some r) k ⟨_, ⟨Nat.le_refl _, _, rfl, h⟩, frle_, memle_⟩ ?_
 clear h
 rintro n _ ⟨hkl0, v3, rfl, h⟩ hl0
 cases n with
 | zero => exact absurd h (by simp [impl_isOf.l0])
 | succ kl0 =>
 rw [impl_isOf.l0] at h
 revert h
 refine bif_e (fun c1 => ?_) (fun c1 => ?_)
 ·refine bind_e (fun v4 e4 => ?_)
  replace e4 := nf_ (ix_en srw e4)
  refine go 10 ?_
  refine grs ?_
  refine gr_run ?_
  refine bind_e (fun v5 e5 => gr_call [] (impl_line.con e5) ?_)
  clear e5
  refine gr_run ?_
  refine bind_e (fun v6 e6 => gr_call [] (slices_Contains.con e6) ?_)
  clear e6
  refine gr_done ?_
  refine bif_e (fun c2 => ?_) (fun c2 => ?_)
  ·refine go 3 ?_
   refine ret_e (fun hr_ => ?_)
   subst hr_
   exact ret_ Try.func134 []
  ·refine go 4 ?_
   exact fun h => good_again hl0 (by omega) ⟨_, ⟨by omega, _, rfl, h⟩, frle_, memle_⟩
 ·refine go 7 ?_
  refine ret_e (fun hr_ => ?_)
  subst hr_
  exact ret_ Try.func134 []
def impl_IsOf.f (k : Nat) (v0 : S65) (v1 : (List ByteArray)) (v2 : ByteArray) : Option (Bool) := (bif decide ((v1.length : Int) ≤ 1000) then (bif decide ((v2.size : Int) ≤ 65536) then ((impl_schemaOk.f k v0).bind fun v3 => (bif v3 then ((impl_isOf.f k v0 v1 v2).bind fun v4 => (some v4)) else (some false))) else (some false)) else (some false))
set_option maxRecDepth 100000 in
set_option maxHeartbeats 4000000 in
theorem impl_IsOf.con {K : Kn} [KOk K] {k : Nat} {v0 : S65} {v1 : (List ByteArray)} {v2 : ByteArray} {r : Bool} (h : impl_IsOf.f k v0 v1 v2 = some r) : Con K Try.prog 50 [.agg [.p (.lst false (List.map en160 v0.f0)), .p (.lst false (List.map en163 v0.f1)), .p (.lst false (List.map en166 v0.f2)), .p (.bool v0.f3)], .p (.lst false (List.map srw v1)), .p (.str v2)] [] (.p (.bool r)) [] := by
 rw [impl_IsOf.f] at h
 refine con_intro 25 [] Try.func50 (by kernel_rfl) rfl rfl (by kernel_rfl) fun ι0 w0 hk0 => ?_
 revert h
 refine bif_e (fun c1 => ?_) (fun c1 => ?_)
 ·refine bif_e (fun c2 => ?_) (fun c2 => ?_)
  ·refine go 3 ?_
   refine grs ?_
   refine gr_run ?_
   refine bind_e (fun v3 e3 => gr_call [] (impl_schemaOk.con e3) ?_)
   clear e3
   refine bif_e (fun c3 => ?_) (fun c3 => ?_)
   ·refine gr_run ?_
    refine bind_e (fun v4 e4 => gr_call [] (impl_isOf.con e4) ?_)
    clear e4
    refine gr_run ?_
    refine gr_done ?_
    refine ret_e (fun hr_ => ?_)
    subst hr_
    exact ret_ Try.func50 []
   ·refine gr_run ?_
    refine gr_done ?_
    refine ret_e (fun hr_ => ?_)
    subst hr_
    exact ret_ Try.func50 []
  ·refine go 4 ?_
   refine ret_e (fun hr_ => ?_)
   subst hr_
   exact ret_ Try.func50 []
 ·refine go 4 ?_
  refine ret_e (fun hr_ => ?_)
  subst hr_
  exact ret_ Try.func50 []
mutual
def slices_Equal.l0 : Nat → (List ByteArray) → (List ByteArray) → Int → Option (Bool)
 | 0, _, _, _ => none
 | k + 1, v0, v1, v2 => (bif decide (v2 < (v0.length : Int)) then ((ix v0 v2).bind fun v3 => ((ix v1 v2).bind fun v4 => (bif decide (v3 = v4) then (slices_Equal.l0 k v0 v1 (IntKind.i64.wrap (v2 + 1))) else (some false)))) else (some true))
def slices_Equal.f : Nat → (List ByteArray) → (List ByteArray) → Option (Bool)
 | 0, _, _ => none
 | k + 1, v0, v1 => (bif ((v0.length : Int) == (v1.length : Int)) then (slices_Equal.l0 k v0 v1 0) else (some false))
end
set_option maxRecDepth 100000 in
set_option maxHeartbeats 4000000 in
theorem slices_Equal.con {K : Kn} [KOk K] {k : Nat} {v0 : (List ByteArray)} {v1 : (List ByteArray)} {r : Bool} (h : slices_Equal.f k v0 v1 = some r) : Con K Try.prog 151 [.p (.lst false (List.map srw v0)), .p (.lst false (List.map srw v1))] [] (.p (.bool r)) [] := by
 cases k with
 | zero => exact absurd h (by simp [slices_Equal.f])
 | succ k =>
 rw [slices_Equal.f] at h
 refine con_intro 26 [] Try.func151 (by kernel_rfl) rfl rfl (by kernel_rfl) fun ι0 w0 hk0 => ?_
 revert h
 refine bif_e (fun c1 => ?_) (fun c1 => ?_)
 ·refine go 11 ?_
  refine fun h => good_loop (fun n st => n ≤ k ∧ ∃ (v2 : _), st = ⟨[(0, .p (.lst false (List.map srw v0))), (1, .p (.lst false (List.map srw v1))), (12, .p (.int .i64 (v0.length : Int))), (13, .p (.int .i64 v2))], []⟩ ∧ slices_Equal.l0 n v0 v1 v2 = some r) k ⟨_, ⟨Nat.le_refl _, _, rfl, h⟩, frle_, memle_⟩ ?_
  clear c1
  clear h
  rintro n _ ⟨hkl0, v2, rfl, h⟩ hl0
  cases n with
  | zero => exact absurd h (by simp [slices_Equal.l0])
  | succ kl0 =>
  rw [slices_Equal.l0] at h
  revert h
  refine bif_e (fun c2 => ?_) (fun c2 => ?_)
  ·refine bind_e (fun v3 e3 => ?_)
   replace e3 := nf_ (ix_en srw e3)
   refine bind_e (fun v4 e4 => ?_)
   replace e4 := nf_ (ix_en srw e4)
   refine go 10 ?_
   refine grs ?_
   refine gr_run ?_
   refine gr_done ?_
   refine bif_e (fun c3 => ?_) (fun c3 => ?_)
   ·refine go 4 ?_
    exact fun h => good_again hl0 (by omega) ⟨_, ⟨by omega, _, rfl, h⟩, frle_, memle_⟩
   ·refine go 3 ?_
    refine ret_e (fun hr_ => ?_)
    subst hr_
    exact ret_ Try.func151 []
  ·refine go 7 ?_
   refine ret_e (fun hr_ => ?_)
   subst hr_
   exact ret_ Try.func151 []
 ·refine go 8 ?_
  refine ret_e (fun hr_ => ?_)
  subst hr_
  exact ret_ Try.func151 []
mutual
def impl_rulesWeaker.l0 : Nat → (List S280) → (List S280) → Int → Option (Bool)
 | 0, _, _, _ => none
 | k + 1, v0, v1, v2 => (bif decide (v2 < (v0.length : Int)) then ((ix v0 v2).bind fun v3 => ((ix v1 v2).bind fun v4 => (bif decide (v3.f0 = v4.f0) then (bif (v4.f1 == 0) then (bif v4.f2 then (bif v3.f2 then (impl_rulesWeaker.l0 k v0 v1 (IntKind.i64.wrap (v2 + 1))) else (some false)) else (impl_rulesWeaker.l0 k v0 v1 (IntKind.i64.wrap (v2 + 1)))) else (bif (v4.f1 == v3.f1) then (bif v4.f2 then (bif v3.f2 then (impl_rulesWeaker.l0 k v0 v1 (IntKind.i64.wrap (v2 + 1))) else (some false)) else (impl_rulesWeaker.l0 k v0 v1 (IntKind.i64.wrap (v2 + 1)))) else (some false))) else (some false)))) else (some true))
def impl_rulesWeaker.f : Nat → (List S280) → (List S280) → Option (Bool)
 | 0, _, _ => none
 | k + 1, v0, v1 => (bif ((v0.length : Int) == (v1.length : Int)) then (impl_rulesWeaker.l0 k v0 v1 0) else (some false))
end
set_option maxRecDepth 100000 in
set_option maxHeartbeats 4000000 in
theorem impl_rulesWeaker.con {K : Kn} [KOk K] {k : Nat} {v0 : (List S280)} {v1 : (List S280)} {r : Bool} (h : impl_rulesWeaker.f k v0 v1 = some r) : Con K Try.prog 152 [.p (.lst false (List.map en280 v0)), .p (.lst false (List.map en280 v1))] [] (.p (.bool r)) [] := by
 cases k with
 | zero => exact absurd h (by simp [impl_rulesWeaker.f])
 | succ k =>
 rw [impl_rulesWeaker.f] at h
 refine con_intro 64 [] Try.func152 (by kernel_rfl) rfl rfl (by kernel_rfl) fun ι0 w0 hk0 => ?_
 revert h
 refine bif_e (fun c1 => ?_) (fun c1 => ?_)
 ·refine go 11 ?_
  refine fun h => good_loop (fun n st => n ≤ k ∧ ∃ (v2 : _), st = ⟨[(0, .p (.lst false (List.map en280 v0))), (1, .p (.lst false (List.map en280 v1))), (12, .p (.int .i64 (v0.length : Int))), (13, .p (.int .i64 v2))], []⟩ ∧ impl_rulesWeaker.l0 n v0 v1 v2 = some r) k ⟨_, ⟨Nat.le_refl _, _, rfl, h⟩, frle_, memle_⟩ ?_
  clear c1
  clear h
  rintro n _ ⟨hkl0, v2, rfl, h⟩ hl0
  cases n with
  | zero => exact absurd h (by simp [impl_rulesWeaker.l0])
  | succ kl0 =>
  rw [impl_rulesWeaker.l0] at h
  revert h
  refine bif_e (fun c2 => ?_) (fun c2 => ?_)
  ·refine bind_e (fun v3 e3 => ?_)
   replace e3 := nf_ (ix_en en280 e3)
   refine bind_e (fun v4 e4 => ?_)
   replace e4 := nf_ (ix_en en280 e4)
   refine bif_e (fun c3 => ?_) (fun c3 => ?_)
   ·refine bif_e (fun c4 => ?_) (fun c4 => ?_)
    ·refine bif_e (fun c5 => ?_) (fun c5 => ?_)
     ·refine go 10 ?_
      refine grs ?_
      refine gr_run ?_
      refine gr_done ?_
      refine bif_e (fun c6 => ?_) (fun c6 => ?_)
      ·refine go 4 ?_
       exact fun h => good_again hl0 (by omega) ⟨_, ⟨by omega, _, rfl, h⟩, frle_, memle_⟩
      ·refine go 3 ?_
       refine ret_e (fun hr_ => ?_)
       subst hr_
       exact ret_ Try.func152 []
     ·refine go 10 ?_
      refine grs ?_
      refine gr_run ?_
      refine gr_done ?_
      refine go 4 ?_
      exact fun h => good_again hl0 (by omega) ⟨_, ⟨by omega, _, rfl, h⟩, frle_, memle_⟩
    ·refine bif_e (fun c7 => ?_) (fun c7 => ?_)
     ·refine bif_e (fun c8 => ?_) (fun c8 => ?_)
      ·refine go 10 ?_
       refine grs ?_
       refine gr_run ?_
       refine gr_done ?_
       refine bif_e (fun c9 => ?_) (fun c9 => ?_)
       ·refine go 4 ?_
        exact fun h => good_again hl0 (by omega) ⟨_, ⟨by omega, _, rfl, h⟩, frle_, memle_⟩
       ·refine go 3 ?_
        refine ret_e (fun hr_ => ?_)
        subst hr_
        exact ret_ Try.func152 []
      ·refine go 10 ?_
       refine grs ?_
       refine gr_run ?_
       refine gr_done ?_
       refine go 4 ?_
       exact fun h => good_again hl0 (by omega) ⟨_, ⟨by omega, _, rfl, h⟩, frle_, memle_⟩
     ·refine go 10 ?_
      refine grs ?_
      refine gr_run ?_
      refine gr_done ?_
      refine go 3 ?_
      refine ret_e (fun hr_ => ?_)
      subst hr_
      exact ret_ Try.func152 []
   ·refine go 10 ?_
    refine grs ?_
    refine gr_run ?_
    refine gr_done ?_
    refine go 3 ?_
    refine ret_e (fun hr_ => ?_)
    subst hr_
    exact ret_ Try.func152 []
  ·refine go 7 ?_
   refine ret_e (fun hr_ => ?_)
   subst hr_
   exact ret_ Try.func152 []
 ·refine go 8 ?_
  refine ret_e (fun hr_ => ?_)
  subst hr_
  exact ret_ Try.func152 []
def impl_mostWeaker.f (k : Nat) (v0 : Int) (v1 : Int) : Option (Bool) := (bif (v1 == 0) then (some true) else (bif (v0 == 0) then (some false) else (some (decide (v0 ≤ v1)))))
set_option maxRecDepth 100000 in
set_option maxHeartbeats 4000000 in
theorem impl_mostWeaker.con {K : Kn} [KOk K] {k : Nat} {v0 : Int} {v1 : Int} {r : Bool} (h : impl_mostWeaker.f k v0 v1 = some r) : Con K Try.prog 153 [.p (.int .i64 v0), .p (.int .i64 v1)] [] (.p (.bool r)) [] := by
 rw [impl_mostWeaker.f] at h
 refine con_intro 16 [] Try.func153 (by kernel_rfl) rfl rfl (by kernel_rfl) fun ι0 w0 hk0 => ?_
 revert h
 refine bif_e (fun c1 => ?_) (fun c1 => ?_)
 ·refine go 4 ?_
  refine ret_e (fun hr_ => ?_)
  subst hr_
  exact ret_ Try.func153 []
 ·refine bif_e (fun c2 => ?_) (fun c2 => ?_)
  ·refine go 4 ?_
   refine ret_e (fun hr_ => ?_)
   subst hr_
   exact ret_ Try.func153 []
  ·refine go 4 ?_
   refine ret_e (fun hr_ => ?_)
   subst hr_
   exact ret_ Try.func153 []
mutual
def impl_Weaker.j1 : Nat → S65 → Int → Bool → S65 → Bool → Option (Bool)
 | 0, _, _, _, _, _ => none
 | k + 1, v0, v6, v4, v1, v5 => (impl_Weaker.l0 k v0 (IntKind.i64.wrap (v6 + 1)) v4 v1 v5)
def impl_Weaker.l3 : Nat → Bool → S65 → Int → S65 → Int → Bool → S166 → Option (Bool)
 | 0, _, _, _, _, _, _, _ => none
 | k + 1, v26, v1, v22, v0, v27, v4, v25 => (bif decide (v27 < (v0.f2.length : Int)) then ((ix v0.f2 v27).bind fun v29 => (bif v26 then (impl_Weaker.l3 k true v1 v22 v0 (IntKind.i64.wrap (v27 + 1)) v4 v25) else (bif decide (v29.f0 = v25.f0) then ((slices_Equal.f k v29.f1 v25.f1).bind fun v30 => (impl_Weaker.l3 k v30 v1 v22 v0 (IntKind.i64.wrap (v27 + 1)) v4 v25)) else (impl_Weaker.l3 k false v1 v22 v0 (IntKind.i64.wrap (v27 + 1)) v4 v25)))) else (bif v26 then (impl_Weaker.l2 k v1 (IntKind.i64.wrap (v22 + 1)) v0 v4) else (some false)))
def impl_Weaker.l2 : Nat → S65 → Int → S65 → Bool → Option (Bool)
 | 0, _, _, _, _ => none
 | k + 1, v1, v22, v0, v4 => (bif decide (v22 < (v1.f2.length : Int)) then ((ix v1.f2 v22).bind fun v25 => (impl_Weaker.l3 k false v1 v22 v0 0 v4 v25)) else (some true))
def impl_Weaker.l1 : Nat → S65 → Int → Bool → S65 → Bool → Option (Bool)
 | 0, _, _, _, _, _ => none
 | k + 1, v0, v14, v4, v1, v5 => (bif decide (v14 < (v0.f1.length : Int)) then ((ix v0.f1 v14).bind fun v17 => ((ix v1.f1 v14).bind fun v18 => (bif decide (v17.f0 = v18.f0) then (bif decide (v17.f1 = v18.f1) then (bif decide (v17.f2 = v18.f2) then ((impl_rulesWeaker.f k v17.f3 v18.f3).bind fun v19 => (bif v19 then ((impl_mostWeaker.f k v17.f4 v18.f4).bind fun v20 => (bif v20 then ((impl_mostWeaker.f k v17.f6 v18.f6).bind fun v21 => (bif v21 then (bif decide (v17.f5 < v18.f5) then (some false) else (impl_Weaker.l1 k v0 (IntKind.i64.wrap (v14 + 1)) v4 v1 v5)) else (some false))) else (some false))) else (some false))) else (some false)) else (some false)) else (some false)))) else (impl_Weaker.l2 k v1 0 v0 v4))
def impl_Weaker.l0 : Nat → S65 → Int → Bool → S65 → Bool → Option (Bool)
 | 0, _, _, _, _, _ => none
 | k + 1, v0, v6, v4, v1, v5 => (bif decide (v6 < (v0.f0.length : Int)) then ((ix v0.f0 v6).bind fun v9 => ((ix v1.f0 v6).bind fun v10 => (bif decide (v9.f0 = v10.f0) then ((slices_Equal.f k v9.f1 v10.f1).bind fun v11 => (bif v11 then (bif v10.f3 then (bif v9.f3 then ((impl_rulesWeaker.f k v9.f2 v10.f2).bind fun v12 => (bif v12 then (impl_Weaker.j1 k v0 v6 v4 v1 v5) else (some false))) else (some false)) else ((impl_rulesWeaker.f k v9.f2 v10.f2).bind fun v13 => (bif v13 then (impl_Weaker.j1 k v0 v6 v4 v1 v5) else (some false)))) else (some false))) else (some false)))) else (impl_Weaker.l1 k v0 0 v4 v1 v5))
def impl_Weaker.j0 : Nat → S65 → Bool → S65 → Bool → Option (Bool)
 | 0, _, _, _, _ => none
 | k + 1, v0, v4, v1, v5 => (impl_Weaker.l0 k v0 0 v4 v1 v5)
def impl_Weaker.f : Nat → S65 → S65 → Option (Bool)
 | 0, _, _ => none
 | k + 1, v0, v1 => ((impl_schemaOk.f k v0).bind fun v2 => (bif v2 then ((impl_schemaOk.f k v1).bind fun v3 => (bif v3 then (bif ((v0.f0.length : Int) == (v1.f0.length : Int)) then (bif ((v0.f1.length : Int) == (v1.f1.length : Int)) then (bif v1.f3 then (bif v0.f3 then (impl_Weaker.j0 k v0 true v1 true) else (some false)) else (impl_Weaker.j0 k v0 v0.f3 v1 false)) else (some false)) else (some false)) else (some false))) else (some false)))
end
set_option maxRecDepth 100000 in
set_option maxHeartbeats 4000000 in
theorem impl_Weaker.con {K : Kn} [KOk K] {k : Nat} {v0 : S65} {v1 : S65} {r : Bool} (h : impl_Weaker.f k v0 v1 = some r) : Con K Try.prog 60 [.agg [.p (.lst false (List.map en160 v0.f0)), .p (.lst false (List.map en163 v0.f1)), .p (.lst false (List.map en166 v0.f2)), .p (.bool v0.f3)], .agg [.p (.lst false (List.map en160 v1.f0)), .p (.lst false (List.map en163 v1.f1)), .p (.lst false (List.map en166 v1.f2)), .p (.bool v1.f3)]] [] (.p (.bool r)) [] := by
 cases k with
 | zero => exact absurd h (by simp [impl_Weaker.f])
 | succ k =>
 rw [impl_Weaker.f] at h
 refine con_intro 192 [] Try.func60 (by kernel_rfl) rfl rfl (by kernel_rfl) fun ι0 w0 hk0 => ?_
 revert h
 refine go 4 ?_
 refine good_cut_f (fun st => ∃ (v4 : _) (v5 : _) (q_ : Nat), q_ ≤ k ∧ st = ⟨[(2, .ptr 2 1 0), (3, .ptr 3 1 0)], [(2, (1, .cells [.p (.lst false (List.map en160 v0.f0)), .p (.lst false (List.map en163 v0.f1)), .p (.lst false (List.map en166 v0.f2)), .p (.bool v4)])), (3, (1, .cells [.p (.lst false (List.map en160 v1.f0)), .p (.lst false (List.map en163 v1.f1)), .p (.lst false (List.map en166 v1.f2)), .p (.bool v5)]))]⟩ ∧ impl_Weaker.j0 q_ v0 v4 v1 v5 = some r) ?_ (fun hj0 => ?_)
 ·skip
  rintro _ ⟨v4, v5, q_, hqj0, rfl, h⟩
  cases q_ with
  | zero => exact absurd h (by simp [impl_Weaker.j0])
  | succ kj0 =>
  rw [impl_Weaker.j0] at h
  revert h
  refine go 5 ?_
  refine fun h => good_loop (fun n st => n ≤ kj0 ∧ ∃ (v6 : _) (g7 : Nat) (g8 : Nat), st = ⟨[(2, .ptr 2 1 0), (3, .ptr 3 1 0), (52, .p (.lst false (List.map en160 v0.f0))), (53, .p (.int .i64 (v0.f0.length : Int))), (54, .p (.int .i64 v6))], [(2, (1, .cells [.p (.lst false (List.map en160 v0.f0)), .p (.lst false (List.map en163 v0.f1)), .p (.lst false (List.map en166 v0.f2)), .p (.bool v4)])), (3, (1, .cells [.p (.lst false (List.map en160 v1.f0)), .p (.lst false (List.map en163 v1.f1)), .p (.lst false (List.map en166 v1.f2)), .p (.bool v5)])), (6, (g7, .gone)), (7, (g8, .gone))]⟩ ∧ impl_Weaker.l0 n v0 v6 v4 v1 v5 = some r) kj0 ⟨_, ⟨Nat.le_refl _, _, 0, 0, rfl, h⟩, frle_, memle_⟩ ?_
  clear h
  rintro n _ ⟨hkl0, v6, g7, g8, rfl, h⟩ hl0
  cases n with
  | zero => exact absurd h (by simp [impl_Weaker.l0])
  | succ kl0 =>
  rw [impl_Weaker.l0] at h
  revert h
  refine bif_e (fun c1 => ?_) (fun c1 => ?_)
  ·refine bind_e (fun v9 e9 => ?_)
   replace e9 := nf_ (ix_en en160 e9)
   refine bind_e (fun v10 e10 => ?_)
   replace e10 := nf_ (ix_en en160 e10)
   refine go 12 ?_
   refine good_cut_f (fun st => ∃ (q_ : Nat), q_ ≤ kl0 ∧ st = ⟨[(2, .ptr 2 1 0), (3, .ptr 3 1 0), (52, .p (.lst false (List.map en160 v0.f0))), (53, .p (.int .i64 (v0.f0.length : Int))), (54, .p (.int .i64 v6))], [(2, (1, .cells [.p (.lst false (List.map en160 v0.f0)), .p (.lst false (List.map en163 v0.f1)), .p (.lst false (List.map en166 v0.f2)), .p (.bool v4)])), (3, (1, .cells [.p (.lst false (List.map en160 v1.f0)), .p (.lst false (List.map en163 v1.f1)), .p (.lst false (List.map en166 v1.f2)), .p (.bool v5)])), (6, (g7 + 1, .gone)), (7, (g8 + 1, .gone))]⟩ ∧ impl_Weaker.j1 q_ v0 v6 v4 v1 v5 = some r) ?_ (fun hj1 => ?_)
   ·clear c1 e9 e10
    rintro _ ⟨q_, hqj1, rfl, h⟩
    cases q_ with
    | zero => exact absurd h (by simp [impl_Weaker.j1])
    | succ kj1 =>
    rw [impl_Weaker.j1] at h
    revert h
    refine go 3 ?_
    exact fun h => good_again hl0 (by omega) ⟨_, ⟨by omega, _, g7 + 1, g8 + 1, rfl, h⟩, frle_, memle_⟩
   ·refine bif_e (fun c2 => ?_) (fun c2 => ?_)
    ·refine grs ?_
     refine gr_run ?_
     refine bind_e (fun v11 e11 => gr_call [] (slices_Equal.con e11) ?_)
     clear e11
     refine bif_e (fun c3 => ?_) (fun c3 => ?_)
     ·refine bif_e (fun c4 => ?_) (fun c4 => ?_)
      ·refine bif_e (fun c5 => ?_) (fun c5 => ?_)
       ·refine gr_run ?_
        refine bind_e (fun v12 e12 => gr_call [] (impl_rulesWeaker.con e12) ?_)
        clear e12
        refine gr_run ?_
        refine gr_done ?_
        refine bif_e (fun c6 => ?_) (fun c6 => ?_)
        ·refine go 1 ?_
         exact fun h => good_jump hj1 ⟨_, ⟨_, by omega, rfl, h⟩, frle_, memle_⟩
        ·refine go 3 ?_
         refine ret_e (fun hr_ => ?_)
         subst hr_
         exact ret_ Try.func60 []
       ·refine gr_run ?_
        refine gr_done ?_
        refine go 3 ?_
        refine ret_e (fun hr_ => ?_)
        subst hr_
        exact ret_ Try.func60 []
      ·refine gr_run ?_
       refine bind_e (fun v13 e13 => gr_call [] (impl_rulesWeaker.con e13) ?_)
       clear e13
       refine gr_run ?_
       refine gr_done ?_
       refine bif_e (fun c7 => ?_) (fun c7 => ?_)
       ·refine go 1 ?_
        exact fun h => good_jump hj1 ⟨_, ⟨_, by omega, rfl, h⟩, frle_, memle_⟩
       ·refine go 3 ?_
        refine ret_e (fun hr_ => ?_)
        subst hr_
        exact ret_ Try.func60 []
     ·refine gr_run ?_
      refine gr_done ?_
      refine go 3 ?_
      refine ret_e (fun hr_ => ?_)
      subst hr_
      exact ret_ Try.func60 []
    ·refine go 4 ?_
     refine ret_e (fun hr_ => ?_)
     subst hr_
     exact ret_ Try.func60 []
  ·refine go 9 ?_
   refine fun h => good_loop (fun n st => n ≤ kl0 ∧ ∃ (v14 : _) (g15 : Nat) (g16 : Nat), st = ⟨[(2, .ptr 2 1 0), (3, .ptr 3 1 0), (96, .p (.lst false (List.map en163 v0.f1))), (97, .p (.int .i64 (v0.f1.length : Int))), (98, .p (.int .i64 v14))], [(2, (1, .cells [.p (.lst false (List.map en160 v0.f0)), .p (.lst false (List.map en163 v0.f1)), .p (.lst false (List.map en166 v0.f2)), .p (.bool v4)])), (3, (1, .cells [.p (.lst false (List.map en160 v1.f0)), .p (.lst false (List.map en163 v1.f1)), .p (.lst false (List.map en166 v1.f2)), .p (.bool v5)])), (6, (g7, .gone)), (7, (g8, .gone)), (9, (g15, .gone)), (10, (g16, .gone))]⟩ ∧ impl_Weaker.l1 n v0 v14 v4 v1 v5 = some r) kl0 ⟨_, ⟨Nat.le_refl _, _, 0, 0, rfl, h⟩, frle_, memle_⟩ ?_
   clear c1
   clear h
   rintro n _ ⟨hkl1, v14, g15, g16, rfl, h⟩ hl1
   cases n with
   | zero => exact absurd h (by simp [impl_Weaker.l1])
   | succ kl1 =>
   rw [impl_Weaker.l1] at h
   revert h
   refine bif_e (fun c8 => ?_) (fun c8 => ?_)
   ·refine bind_e (fun v17 e17 => ?_)
    replace e17 := nf_ (ix_en en163 e17)
    refine bind_e (fun v18 e18 => ?_)
    replace e18 := nf_ (ix_en en163 e18)
    refine bif_e (fun c9 => ?_) (fun c9 => ?_)
    ·refine bif_e (fun c10 => ?_) (fun c10 => ?_)
     ·refine bif_e (fun c11 => ?_) (fun c11 => ?_)
      ·refine go 12 ?_
       refine grs ?_
       refine gr_run ?_
       refine bind_e (fun v19 e19 => gr_call [] (impl_rulesWeaker.con e19) ?_)
       clear e19
       refine bif_e (fun c12 => ?_) (fun c12 => ?_)
       ·refine gr_run ?_
        refine bind_e (fun v20 e20 => gr_call [] (impl_mostWeaker.con e20) ?_)
        clear e20
        refine bif_e (fun c13 => ?_) (fun c13 => ?_)
        ·refine gr_run ?_
         refine bind_e (fun v21 e21 => gr_call [] (impl_mostWeaker.con e21) ?_)
         clear e21
         refine bif_e (fun c14 => ?_) (fun c14 => ?_)
         ·refine gr_run ?_
          refine gr_done ?_
          refine bif_e (fun c15 => ?_) (fun c15 => ?_)
          ·refine go 3 ?_
           refine ret_e (fun hr_ => ?_)
           subst hr_
           exact ret_ Try.func60 []
          ·refine go 4 ?_
           exact fun h => good_again hl1 (by omega) ⟨_, ⟨by omega, _, g15 + 1, g16 + 1, rfl, h⟩, frle_, memle_⟩
         ·refine gr_run ?_
          refine gr_done ?_
          refine go 3 ?_
          refine ret_e (fun hr_ => ?_)
          subst hr_
          exact ret_ Try.func60 []
        ·refine gr_run ?_
         refine gr_done ?_
         refine go 3 ?_
         refine ret_e (fun hr_ => ?_)
         subst hr_
         exact ret_ Try.func60 []
       ·refine gr_run ?_
        refine gr_done ?_
        refine go 3 ?_
        refine ret_e (fun hr_ => ?_)
        subst hr_
        exact ret_ Try.func60 []
      ·refine go 16 ?_
       refine ret_e (fun hr_ => ?_)
       subst hr_
       exact ret_ Try.func60 []
     ·refine go 16 ?_
      refine ret_e (fun hr_ => ?_)
      subst hr_
      exact ret_ Try.func60 []
    ·refine go 16 ?_
     refine ret_e (fun hr_ => ?_)
     subst hr_
     exact ret_ Try.func60 []
   ·refine go 9 ?_
    refine fun h => good_loop (fun n st => n ≤ kl1 ∧ ∃ (v22 : _) (g23 : Nat) (g24 : Nat), st = ⟨[(2, .ptr 2 1 0), (160, .p (.lst false (List.map en166 v1.f2))), (161, .p (.int .i64 (v1.f2.length : Int))), (162, .p (.int .i64 v22))], [(2, (1, .cells [.p (.lst false (List.map en160 v0.f0)), .p (.lst false (List.map en163 v0.f1)), .p (.lst false (List.map en166 v0.f2)), .p (.bool v4)])), (3, (1, .gone)), (6, (g7, .gone)), (7, (g8, .gone)), (9, (g15, .gone)), (10, (g16, .gone)), (12, (g23, .gone)), (15, (g24, .gone))]⟩ ∧ impl_Weaker.l2 n v1 v22 v0 v4 = some r) kl1 ⟨_, ⟨Nat.le_refl _, _, 0, 0, rfl, h⟩, frle_, memle_⟩ ?_
    clear c8
    clear h
    rintro n _ ⟨hkl2, v22, g23, g24, rfl, h⟩ hl2
    cases n with
    | zero => exact absurd h (by simp [impl_Weaker.l2])
    | succ kl2 =>
    rw [impl_Weaker.l2] at h
    revert h
    refine bif_e (fun c16 => ?_) (fun c16 => ?_)
    ·refine bind_e (fun v25 e25 => ?_)
     replace e25 := nf_ (ix_en en166 e25)
     refine go 15 ?_
     refine fun h => good_loop (fun n st => n ≤ kl2 ∧ ∃ (v26 : _) (v27 : _) (g28 : Nat), st = ⟨[(2, .ptr 2 1 0), (12, .ptr 12 (g23 + 1) 0), (13, .p (.bool v26)), (160, .p (.lst false (List.map en166 v1.f2))), (161, .p (.int .i64 (v1.f2.length : Int))), (162, .p (.int .i64 v22)), (167, .p (.lst false (List.map en166 v0.f2))), (168, .p (.int .i64 (v0.f2.length : Int))), (169, .p (.int .i64 v27))], [(2, (1, .cells [.p (.lst false (List.map en160 v0.f0)), .p (.lst false (List.map en163 v0.f1)), .p (.lst false (List.map en166 v0.f2)), .p (.bool v4)])), (3, (1, .gone)), (6, (g7, .gone)), (7, (g8, .gone)), (9, (g15, .gone)), (10, (g16, .gone)), (12, (g23 + 1, .cells [.p (.str v25.f0), .p (.lst false (List.map srw v25.f1))])), (15, (g28, .gone))]⟩ ∧ impl_Weaker.l3 n v26 v1 v22 v0 v27 v4 v25 = some r) kl2 ⟨_, ⟨Nat.le_refl _, _, _, g24, rfl, h⟩, frle_, memle_⟩ ?_
     clear c16 e25
     clear h
     rintro n _ ⟨hkl3, v26, v27, g28, rfl, h⟩ hl3
     cases n with
     | zero => exact absurd h (by simp [impl_Weaker.l3])
     | succ kl3 =>
     rw [impl_Weaker.l3] at h
     revert h
     refine bif_e (fun c17 => ?_) (fun c17 => ?_)
     ·refine bind_e (fun v29 e29 => ?_)
      replace e29 := nf_ (ix_en en166 e29)
      refine bif_e (fun c18 => ?_) (fun c18 => ?_)
      ·refine go 12 ?_
       exact fun h => good_again hl3 (by omega) ⟨_, ⟨by omega, _, _, g28 + 1, rfl, h⟩, frle_, memle_⟩
      ·refine bif_e (fun c19 => ?_) (fun c19 => ?_)
       ·refine go 9 ?_
        refine grs ?_
        refine gr_run ?_
        refine bind_e (fun v30 e30 => gr_call [] (slices_Equal.con e30) ?_)
        clear e30
        refine gr_run ?_
        refine gr_done ?_
        refine go 2 ?_
        exact fun h => good_again hl3 (by omega) ⟨_, ⟨by omega, _, _, g28 + 1, rfl, h⟩, frle_, memle_⟩
       ·refine go 12 ?_
        exact fun h => good_again hl3 (by omega) ⟨_, ⟨by omega, _, _, g28 + 1, rfl, h⟩, frle_, memle_⟩
     ·refine bif_e (fun c20 => ?_) (fun c20 => ?_)
      ·refine go 11 ?_
       exact fun h => good_again hl2 (by omega) ⟨_, ⟨by omega, _, g23 + 1, g28, rfl, h⟩, frle_, memle_⟩
      ·refine go 10 ?_
       refine ret_e (fun hr_ => ?_)
       subst hr_
       exact ret_ Try.func60 []
    ·refine go 7 ?_
     refine ret_e (fun hr_ => ?_)
     subst hr_
     exact ret_ Try.func60 []
 ·refine grs ?_
  refine gr_run ?_
  refine bind_e (fun v2 e2 => gr_call [] (impl_schemaOk.con e2) ?_)
  clear e2
  refine bif_e (fun c21 => ?_) (fun c21 => ?_)
  ·refine gr_run ?_
   refine bind_e (fun v3 e3 => gr_call [] (impl_schemaOk.con e3) ?_)
   clear e3
   refine bif_e (fun c22 => ?_) (fun c22 => ?_)
   ·refine bif_e (fun c23 => ?_) (fun c23 => ?_)
    ·refine bif_e (fun c24 => ?_) (fun c24 => ?_)
     ·refine bif_e (fun c25 => ?_) (fun c25 => ?_)
      ·refine gr_run ?_
       refine gr_done ?_
       refine bif_e (fun c26 => ?_) (fun c26 => ?_)
       ·refine go 1 ?_
        exact fun h => good_jump hj0 ⟨_, ⟨_, _, _, by omega, rfl, h⟩, frle_, memle_⟩
       ·refine go 3 ?_
        refine ret_e (fun hr_ => ?_)
        subst hr_
        exact ret_ Try.func60 []
      ·refine gr_run ?_
       refine gr_done ?_
       refine go 1 ?_
       exact fun h => good_jump hj0 ⟨_, ⟨_, _, _, by omega, rfl, h⟩, frle_, memle_⟩
     ·refine gr_run ?_
      refine gr_done ?_
      refine go 3 ?_
      refine ret_e (fun hr_ => ?_)
      subst hr_
      exact ret_ Try.func60 []
    ·refine gr_run ?_
     refine gr_done ?_
     refine go 3 ?_
     refine ret_e (fun hr_ => ?_)
     subst hr_
     exact ret_ Try.func60 []
   ·refine gr_run ?_
    refine gr_done ?_
    refine go 3 ?_
    refine ret_e (fun hr_ => ?_)
    subst hr_
    exact ret_ Try.func60 []
  ·refine gr_run ?_
   refine gr_done ?_
   refine go 3 ?_
   refine ret_e (fun hr_ => ?_)
   subst hr_
   exact ret_ Try.func60 []
end Go.Ab
