/- The law of the order of drawn values. No condition beyond the codes' shape. -/
import Derived.Test.YtklhcjepgbakmaaGreatDoorAbTW
namespace Go.Ab
open Go.Proofs
set_option linter.unusedVariables false
set_option linter.unusedSimpArgs false
/-- What both make of two texts. -/
theorem two_ (a b : ByteArray) (d : Int) {fs : Nat → S42 → S42 → Option Int} {fi : Nat → S46 → S46 → Option Int} (h : ∀ x y, Wf x → Wf y → ∃ c, Ev (fun k => fs k x y) c ∧ Ev (fun k => fi k (toI x) (toI y)) c) :
    ∃ c, Ev (fun k => ((spec_l01Read.f k a).bind fun v2 => ((spec_l01Read.f k b).bind fun v3 => (bif decide (v2.f0 < 0) then (some d) else (bif decide (v3.f0 < 0) then (some d) else ((fs k v2 v3).bind fun v4 => (some v4))))))) c ∧
      Ev (fun k => ((impl_two.f k a b).bind fun v2 => (bif v2.2.2 then ((fi k v2.1 v2.2.1).bind fun v3 => (some v3)) else (some d)))) c := by
  have neg : ∀ x : S42, Wf x → decide (x.f0 < 0) = false := fun x hx => by have := hx.p.1; simp; omega
  unfold impl_two.f
  rcases read_ a with ⟨x, hx, h1, h2⟩ | ⟨iv, h1, h2⟩
  · rcases read_ b with ⟨y, hy, h3, h4⟩ | ⟨iv2, h3, h4⟩
    · obtain ⟨c, hs, hi⟩ := h x y hx hy
      refine ⟨c, Ev.bind h1 (Ev.bind h3 ?_), Ev.bind (a := (toI x, toI y, true)) (Ev.bind h2 (Ev.bind h4 ?_)) ?_⟩
      · simp only [neg x hx, neg y hy, cond_false]; exact Ev.bind hs (Ev.ret _)
      · simp only [cond_true]; exact Ev.ret _
      · simp only [cond_true]; exact Ev.bind hi (Ev.ret _)
    · refine ⟨d, Ev.bind h1 (Ev.bind h3 ?_), Ev.bind (a := (toI x, iv2, false)) (Ev.bind h2 (Ev.bind h4 ?_)) ?_⟩
      · simp only [neg x hx, show decide ((-1 : Int) < 0) = true from rfl, cond_false, cond_true]; exact Ev.ret _
      · simp only [cond_true]; exact Ev.ret _
      · simp only [cond_false]; exact Ev.ret _
  · rcases read_ b with ⟨y, hy, h3, h4⟩ | ⟨iv2, h3, h4⟩
    · refine ⟨d, Ev.bind h1 (Ev.bind h3 ?_), Ev.bind (a := (iv, toI y, false)) (Ev.bind h2 (Ev.bind h4 ?_)) ?_⟩
      · simp only [show decide ((-1 : Int) < 0) = true from rfl, cond_true]; exact Ev.ret _
      · simp only [cond_false]; exact Ev.ret _
      · simp only [cond_false]; exact Ev.ret _
    · refine ⟨d, Ev.bind h1 (Ev.bind h3 ?_), Ev.bind (a := (iv, iv2, false)) (Ev.bind h2 (Ev.bind h4 ?_)) ?_⟩
      · simp only [show decide ((-1 : Int) < 0) = true from rfl, cond_true]; exact Ev.ret _
      · simp only [cond_false]; exact Ev.ret _
      · simp only [cond_false]; exact Ev.ret _
theorem fault_of (a : ByteArray) : (∃ x, (Wf x ∧ a.size ≤ 2000 ∧ Txt x a.data.toList) ∧ Ev (fun k => impl_read.f k a) (toI x, true) ∧ Ev (fun k => spec_l01Read.f k a) x ∧ Ev (fun k => spec_ValueFault.f k a) 0) ∨ Ev (fun k => spec_ValueFault.f k a) 1 := by
  unfold spec_ValueFault.f
  rcases readT_ a with ⟨x, hx, h1, h2⟩ | ⟨iv, h1, h2⟩
  · refine .inl ⟨x, hx, h2, h1, Ev.bind h1 ?_⟩
    simp only [decide_eq_false (vt_kind (t := a) hx.1), cond_false]; exact Ev.ret _
  · refine .inr (Ev.bind h1 ?_)
    simp only [show decide ((-1 : Int) < 0) = true from rfl, cond_true]; exact Ev.ret _
theorem cmp_ev {a b : ByteArray} {x y : S42} {n : Nat} (h1 : Ev (fun k => impl_read.f k a) (toI x, true)) (h2 : Ev (fun k => impl_read.f k b) (toI y, true)) (ho : OrdIs n x y) : Ev (fun k => impl_CompareValues.f k a b) (ordN n x y) := by
  unfold impl_CompareValues.f impl_two.f
  refine Ev.bind (a := (toI x, toI y, true)) (Ev.bind h1 (Ev.bind h2 ?_)) ?_
  · simp only [cond_true]; exact Ev.ret _
  · simp only [cond_true]; exact Ev.bind ho (Ev.ret _)
theorem cmp_both (a b : ByteArray) : ∃ c, Ev (fun k => impl_CompareValues.f k a b) c ∧ Ev (fun k => spec_CompareValues.f k a b) c := by
  obtain ⟨c, h1, h2⟩ := two_ a b 0 (fs := fun k x y => spec_l01Order.f k x y) (fi := fun k x y => impl_order.f k x y) (fun x y hx hy => by obtain ⟨c, _, _, h1, h2⟩ := order2 hx hy; exact ⟨c, h1, h2⟩)
  exact ⟨c, h2, h1⟩
theorem eq_end {f : Nat → Option Int} {g : Nat → Option Int} {c : Int} (h1 : Ev f c) (h2 : Ev g c) : Ev (fun k => (f k).bind fun u => (g k).bind fun v => some (u == v)) true := by
  refine Ev.bind h1 (Ev.bind h2 ?_)
  simp only [beq_self_eq_true]; exact Ev.ret _
theorem said_FnOrder (c : List Int) (hc : Lst (InK .u8) c) (m : List Int) (hm : Lst (InK .u8) m) : ∃ k, laws_FnOrder.f k c m = some true := by
  refine Ev.at_ (f := fun k => laws_FnOrder.f k c m) ?_
  unfold laws_FnOrder.f
  by_cases lc : 1048576 < (c.length : Int)
  · simp only [decide_eq_true lc, cond_true]; exact Ev.ret _
  by_cases lm : 1048576 < (m.length : Int)
  · simp only [decide_eq_false lc, decide_eq_true lm, cond_true, cond_false]; exact Ev.ret _
  simp only [decide_eq_false lc, decide_eq_false lm, cond_false]
  obtain ⟨a, b, h1⟩ := two_pass (code := c) (by omega)
  obtain ⟨d, _, h2⟩ := two_pass (code := m) (by omega)
  refine Ev.bind (f := fun k => spec_DrawCompareValues.f k c) h1 (Ev.bind (f := fun k => spec_DrawCompareValues.f k m) h2 ?_)
  obtain ⟨q, q1, q2⟩ := cmp_both a b
  rcases fault_of a with ⟨x, ⟨wx, sx, tx⟩, rx, gx, fx⟩ | fa
  case inr =>
    refine Ev.bind fa ?_
    simp only [show ((1 : Int) == 0) = false from rfl, cond_false]
    exact eq_end q1 q2
  refine Ev.bind fx ?_
  simp only [show ((0 : Int) == 0) = true from rfl, cond_true]
  rcases fault_of b with ⟨y, ⟨wy, sy, ty⟩, ry, gy, fy⟩ | fb
  case inr =>
    refine Ev.bind fb ?_
    simp only [show ((1 : Int) == 0) = false from rfl, cond_false]
    exact eq_end q1 q2
  refine Ev.bind fy ?_
  simp only [show ((0 : Int) == 0) = true from rfl, cond_true]
  rcases fault_of d with ⟨z, ⟨wz, sz, tz⟩, rz, _, fz⟩ | fd
  case inr =>
    refine Ev.bind fd ?_
    simp only [show ((1 : Int) == 0) = false from rfl, cond_false]
    exact eq_end q1 q2
  refine Ev.bind fz ?_
  simp only [show ((0 : Int) == 0) = true from rfl, cond_true]
  obtain ⟨n, hn⟩ : ∃ n, SizeOf.sizeOf x + SizeOf.sizeOf y + SizeOf.sizeOf z ≤ n := ⟨_, Nat.le_refl _⟩
  have zx := txt_z tx
  have zy := txt_z ty
  have zz := txt_z tz
  have oab := cmp_ev rx ry (ordI n x y (by omega) wx wy zx zy)
  have oba := cmp_ev ry rx (ordI n y x (by omega) wy wx zy zx)
  have obc := cmp_ev ry rz (ordI n y z (by omega) wy wz zy zz)
  have oac := cmp_ev rx rz (ordI n x z (by omega) wx wz zx zz)
  have eq := oab.uniq q1
  refine Ev.bind oab (Ev.bind obc (Ev.bind q2 ?_))
  simp only [eq, beq_self_eq_true, cond_true]
  refine Ev.bind oba ?_
  have h3 := ordN3 n
  have rg := h3.rng x y
  have an := h3.anti x y
  have e1 : q = IntKind.i64.wrap (0 - ordN n y x) := by rw [w64 (by omega) (by omega)]; omega
  simp only [← e1, beq_self_eq_true, cond_true]
  have e2 : ((q == 0) == decide (a = b)) = true := by
    by_cases hz : q = 0
    · have exy := ord_eq n x y (by omega) wx wy (by omega)
      subst exy
      have := txt_one tx ty (by rw [← size_list]; exact sx) (by rw [← size_list]; exact sy)
      have hab : a = b := by rw [bs_of a, bs_of b, this]
      simp [hz, hab]
    · have hab : a ≠ b := by
        rintro rfl
        have exy : x = y := gx.uniq gy
        subst exy
        exact hz (by rw [← eq]; exact h3.self x)
      simp [hz, hab]
  simp only [e2, cond_true]
  by_cases h0 : 0 < q
  · simp only [decide_eq_true h0, cond_true]; exact Ev.ret _
  simp only [decide_eq_false h0, cond_false]
  by_cases h4 : 0 < ordN n y z
  · simp only [decide_eq_true h4, cond_true]; exact Ev.ret _
  simp only [decide_eq_false h4, cond_false]
  refine Ev.bind oac ?_
  have := h3.trans x y z (by omega) (by omega)
  simp only [decide_eq_true this]
  exact Ev.ret _
end Go.Ab
