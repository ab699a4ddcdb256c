/- Walks of Go functions, written by program out of the print of the translation, with contracts of our own where the print has none. -/
import Derived.Test.YthblbbhnmbfjjaaPFnExactRulesFaultx0
import Derived.Test.YthblbbhnmbfjjaaPFnExactRulesFaultx6
import Derived.Test.YthblbbhnmbfjjaaPFnExactRulesFaultx7
namespace Go.Proofs.Ythblbbhnmbfjjaa.PFnExactRulesFault
open Go.RowKit Go.Proofs.YthblbbhnmbfjjaaW.PrintWords Go.Proofs.YthblbbhnmbfjjaaW.PrintLast Go.Proofs.YthblbbhnmbfjjaaW.PrintMore
attribute [local go_sem] max2_int min2_int max_two min_two max_three min_three max_four min_four   -- for this text's walks alone
set_option linter.unusedVariables false
set_option linter.unusedSimpArgs false

/-! ### impl_rulesRight: function 50 -/
mutual
def impl_rulesRight.l0 : Nat → List (S91) → Int → Int → Option (Bool)
 | 0, _, _, _ => none
 | k + 1, x16, x17, x18 => if x18 < x17 then (if 0 ≤ x18 then (if x18 < (x16.length : Int) then ((impl_RuleAtom_ok.f k ((rd_T91 x16 x18).f0.f0) ((rd_T91 x16 x18).f0.f1) ((rd_T91 x16 x18).f0.f2)).bind fun t259 => (if t259 = true then (if (((rd_T91 x16 x18).f1).length : Int) < 1 then (impl_rulesRight.j1 k x16 x17 x18 true ((rd_T91 x16 x18).f0.f0) ((rd_T91 x16 x18).f0.f1) ((rd_T91 x16 x18).f0.f2) ((rd_T91 x16 x18).f1)) else (impl_rulesRight.j1 k x16 x17 x18 (decide ((((rd_T91 x16 x18).f1).length : Int) > 3)) ((rd_T91 x16 x18).f0.f0) ((rd_T91 x16 x18).f0.f1) ((rd_T91 x16 x18).f0.f2) ((rd_T91 x16 x18).f1))) else (impl_rulesRight.j1 k x16 x17 x18 true ((rd_T91 x16 x18).f0.f0) ((rd_T91 x16 x18).f0.f1) ((rd_T91 x16 x18).f0.f2) ((rd_T91 x16 x18).f1)))) else (none)) else (none)) else (some true)
def impl_rulesRight.j1 : Nat → List (S91) → Int → Int → Bool → ByteArray → ByteArray → ByteArray → List (S88) → Option (Bool)
 | 0, _, _, _, _, _, _, _, _ => none
 | k + 1, x16, x17, x18, x37, x259000, x259001, x259002, x259003 => if x37 = true then (some false) else (impl_rulesRight.l1 k ([] : List ByteArray) x16 x17 x18 x259003 (x259003.length : Int) 0 x259000 x259001 x259002 x259003)
def impl_rulesRight.l1 : Nat → List ByteArray → List (S91) → Int → Int → List (S88) → Int → Int → ByteArray → ByteArray → ByteArray → List (S88) → Option (Bool)
 | 0, _, _, _, _, _, _, _, _, _, _, _ => none
 | k + 1, x5, x16, x17, x18, x39, x40, x41, x259000, x259001, x259002, x259003 => if x41 < x40 then (if 0 ≤ x41 then (if x41 < (x39.length : Int) then ((impl_RuleAtom_ok.f k ((rd_T88 x39 x41).f0) ((rd_T88 x39 x41).f1) ((rd_T88 x39 x41).f2)).bind fun t262 => (if t262 = true then ((impl_RuleAtom_vars.f ((rd_T88 x39 x41).f0) ((rd_T88 x39 x41).f1) ((rd_T88 x39 x41).f2)).bind fun t263 => (impl_rulesRight.l2 k x5 (x41 == 0) x16 x17 x18 x39 x40 x41 t263 (t263.length : Int) 0 x259000 x259001 x259002 x259003 ((rd_T88 x39 x41).f0) ((rd_T88 x39 x41).f1) ((rd_T88 x39 x41).f2))) else (some false))) else (none)) else (none)) else ((impl_RuleAtom_vars.f x259000 x259001 x259002).bind fun t274 => (impl_rulesRight.l3 k x5 x16 x17 x18 t274 (t274.length : Int) 0))
def impl_rulesRight.l2 : Nat → List ByteArray → Bool → List (S91) → Int → Int → List (S88) → Int → Int → List ByteArray → Int → Int → ByteArray → ByteArray → ByteArray → List (S88) → ByteArray → ByteArray → ByteArray → Option (Bool)
 | 0, _, _, _, _, _, _, _, _, _, _, _, _, _, _, _, _, _, _ => none
 | k + 1, x5, x8, x16, x17, x18, x39, x40, x41, x52, x53, x54, x259000, x259001, x259002, x259003, x262000, x262001, x262002 => if x54 < x53 then (if 0 ≤ x54 then (if x54 < (x52.length : Int) then (if x8 = true then (impl_rulesRight.l2 k x5 true x16 x17 x18 x39 x40 x41 x52 x53 (wrap64 (x54 + 1)) x259000 x259001 x259002 x259003 x262000 x262001 x262002) else ((slices_Contains_string_string.f k x5 (rdOf ByteArray.empty x52 x54)).bind fun t267 => (impl_rulesRight.l2 k x5 t267 x16 x17 x18 x39 x40 x41 x52 x53 (wrap64 (x54 + 1)) x259000 x259001 x259002 x259003 x262000 x262001 x262002))) else (none)) else (none)) else (if x8 = true then ((impl_RuleAtom_vars.f x262000 x262001 x262002).bind fun t268 => (if x5.length + t268.length < 8796093022208 then (impl_rulesRight.l1 k (x5 ++ t268) x16 x17 x18 x39 x40 (wrap64 (x41 + 1)) x259000 x259001 x259002 x259003) else (none))) else (some false))
def impl_rulesRight.l3 : Nat → List ByteArray → List (S91) → Int → Int → List ByteArray → Int → Int → Option (Bool)
 | 0, _, _, _, _, _, _, _ => none
 | k + 1, x5, x16, x17, x18, x74, x75, x76 => if x76 < x75 then (if 0 ≤ x76 then (if x76 < (x74.length : Int) then ((slices_Contains_string_string.f k x5 (rdOf ByteArray.empty x74 x76)).bind fun t278 => (if t278 = true then (impl_rulesRight.l3 k x5 x16 x17 x18 x74 x75 (wrap64 (x76 + 1))) else (some false))) else (none)) else (none)) else (impl_rulesRight.l0 k x16 x17 (wrap64 (x18 + 1)))
end
def impl_rulesRight.f (k : Nat) (l0 : List (S91)) : Option (Bool) := if (l0.length : Int) > 10 then (some false) else (impl_rulesRight.l0 k l0 (l0.length : Int) 0)
theorem impl_rulesRight.mono_l : ∀ k, (∀ y0 y1 y2, LeO (impl_rulesRight.l0 k y0 y1 y2) (impl_rulesRight.l0 (k + 1) y0 y1 y2)) ∧ (∀ y0 y1 y2 y3 y4 y5 y6 y7, LeO (impl_rulesRight.j1 k y0 y1 y2 y3 y4 y5 y6 y7) (impl_rulesRight.j1 (k + 1) y0 y1 y2 y3 y4 y5 y6 y7)) ∧ (∀ y0 y1 y2 y3 y4 y5 y6 y7 y8 y9 y10, LeO (impl_rulesRight.l1 k y0 y1 y2 y3 y4 y5 y6 y7 y8 y9 y10) (impl_rulesRight.l1 (k + 1) y0 y1 y2 y3 y4 y5 y6 y7 y8 y9 y10)) ∧ (∀ y0 y1 y2 y3 y4 y5 y6 y7 y8 y9 y10 y11 y12 y13 y14 y15 y16 y17, LeO (impl_rulesRight.l2 k y0 y1 y2 y3 y4 y5 y6 y7 y8 y9 y10 y11 y12 y13 y14 y15 y16 y17) (impl_rulesRight.l2 (k + 1) y0 y1 y2 y3 y4 y5 y6 y7 y8 y9 y10 y11 y12 y13 y14 y15 y16 y17)) ∧ (∀ y0 y1 y2 y3 y4 y5 y6, LeO (impl_rulesRight.l3 k y0 y1 y2 y3 y4 y5 y6) (impl_rulesRight.l3 (k + 1) y0 y1 y2 y3 y4 y5 y6))
 | 0 => ⟨fun _ _ _ r h => by simp [impl_rulesRight.l0] at h, fun _ _ _ _ _ _ _ _ r h => by simp [impl_rulesRight.j1] at h, fun _ _ _ _ _ _ _ _ _ _ _ r h => by simp [impl_rulesRight.l1] at h, fun _ _ _ _ _ _ _ _ _ _ _ _ _ _ _ _ _ _ r h => by simp [impl_rulesRight.l2] at h, fun _ _ _ _ _ _ _ r h => by simp [impl_rulesRight.l3] at h⟩
 | k + 1 => by
  obtain ⟨ih0, ih1, ih2, ih3, ih4⟩ := impl_rulesRight.mono_l k
  refine ⟨?_, ?_, ?_, ?_, ?_⟩
  ·intro y0 y1 y2
   unfold impl_rulesRight.l0
   repeat' first
   | (with_reducible exact ih0 _ _ _)
   | (with_reducible exact ih1 _ _ _ _ _ _ _ _)
   | (with_reducible exact ih2 _ _ _ _ _ _ _ _ _ _ _)
   | (with_reducible exact ih3 _ _ _ _ _ _ _ _ _ _ _ _ _ _ _ _ _ _)
   | (with_reducible exact ih4 _ _ _ _ _ _ _)
   | (with_reducible exact impl_RuleAtom_ok.mono _ _ _ _)
   | (with_reducible exact slices_Contains_string_string.mono _ _ _)
   | (with_reducible exact LeO.refl _)
   | (with_reducible exact LeO.none _)
   | (with_reducible refine LeO.ite ?_ ?_)
   | (with_reducible refine LeO.bind ?_ (fun _ => ?_))
   | exact ih0 _ _ _
   | exact ih1 _ _ _ _ _ _ _ _
   | exact ih2 _ _ _ _ _ _ _ _ _ _ _
   | exact ih3 _ _ _ _ _ _ _ _ _ _ _ _ _ _ _ _ _ _
   | exact ih4 _ _ _ _ _ _ _
   | exact impl_RuleAtom_ok.mono _ _ _ _
   | exact slices_Contains_string_string.mono _ _ _
   | exact LeO.none _
   | refine LeO.ite ?_ ?_
   | refine LeO.bind ?_ (fun _ => ?_)
  ·intro y0 y1 y2 y3 y4 y5 y6 y7
   unfold impl_rulesRight.j1
   repeat' first
   | (with_reducible exact ih0 _ _ _)
   | (with_reducible exact ih1 _ _ _ _ _ _ _ _)
   | (with_reducible exact ih2 _ _ _ _ _ _ _ _ _ _ _)
   | (with_reducible exact ih3 _ _ _ _ _ _ _ _ _ _ _ _ _ _ _ _ _ _)
   | (with_reducible exact ih4 _ _ _ _ _ _ _)
   | (with_reducible exact impl_RuleAtom_ok.mono _ _ _ _)
   | (with_reducible exact slices_Contains_string_string.mono _ _ _)
   | (with_reducible exact LeO.refl _)
   | (with_reducible exact LeO.none _)
   | (with_reducible refine LeO.ite ?_ ?_)
   | (with_reducible refine LeO.bind ?_ (fun _ => ?_))
   | exact ih0 _ _ _
   | exact ih1 _ _ _ _ _ _ _ _
   | exact ih2 _ _ _ _ _ _ _ _ _ _ _
   | exact ih3 _ _ _ _ _ _ _ _ _ _ _ _ _ _ _ _ _ _
   | exact ih4 _ _ _ _ _ _ _
   | exact impl_RuleAtom_ok.mono _ _ _ _
   | exact slices_Contains_string_string.mono _ _ _
   | exact LeO.none _
   | refine LeO.ite ?_ ?_
   | refine LeO.bind ?_ (fun _ => ?_)
  ·intro y0 y1 y2 y3 y4 y5 y6 y7 y8 y9 y10
   unfold impl_rulesRight.l1
   repeat' first
   | (with_reducible exact ih0 _ _ _)
   | (with_reducible exact ih1 _ _ _ _ _ _ _ _)
   | (with_reducible exact ih2 _ _ _ _ _ _ _ _ _ _ _)
   | (with_reducible exact ih3 _ _ _ _ _ _ _ _ _ _ _ _ _ _ _ _ _ _)
   | (with_reducible exact ih4 _ _ _ _ _ _ _)
   | (with_reducible exact impl_RuleAtom_ok.mono _ _ _ _)
   | (with_reducible exact slices_Contains_string_string.mono _ _ _)
   | (with_reducible exact LeO.refl _)
   | (with_reducible exact LeO.none _)
   | (with_reducible refine LeO.ite ?_ ?_)
   | (with_reducible refine LeO.bind ?_ (fun _ => ?_))
   | exact ih0 _ _ _
   | exact ih1 _ _ _ _ _ _ _ _
   | exact ih2 _ _ _ _ _ _ _ _ _ _ _
   | exact ih3 _ _ _ _ _ _ _ _ _ _ _ _ _ _ _ _ _ _
   | exact ih4 _ _ _ _ _ _ _
   | exact impl_RuleAtom_ok.mono _ _ _ _
   | exact slices_Contains_string_string.mono _ _ _
   | exact LeO.none _
   | refine LeO.ite ?_ ?_
   | refine LeO.bind ?_ (fun _ => ?_)
  ·intro y0 y1 y2 y3 y4 y5 y6 y7 y8 y9 y10 y11 y12 y13 y14 y15 y16 y17
   unfold impl_rulesRight.l2
   repeat' first
   | (with_reducible exact ih0 _ _ _)
   | (with_reducible exact ih1 _ _ _ _ _ _ _ _)
   | (with_reducible exact ih2 _ _ _ _ _ _ _ _ _ _ _)
   | (with_reducible exact ih3 _ _ _ _ _ _ _ _ _ _ _ _ _ _ _ _ _ _)
   | (with_reducible exact ih4 _ _ _ _ _ _ _)
   | (with_reducible exact impl_RuleAtom_ok.mono _ _ _ _)
   | (with_reducible exact slices_Contains_string_string.mono _ _ _)
   | (with_reducible exact LeO.refl _)
   | (with_reducible exact LeO.none _)
   | (with_reducible refine LeO.ite ?_ ?_)
   | (with_reducible refine LeO.bind ?_ (fun _ => ?_))
   | exact ih0 _ _ _
   | exact ih1 _ _ _ _ _ _ _ _
   | exact ih2 _ _ _ _ _ _ _ _ _ _ _
   | exact ih3 _ _ _ _ _ _ _ _ _ _ _ _ _ _ _ _ _ _
   | exact ih4 _ _ _ _ _ _ _
   | exact impl_RuleAtom_ok.mono _ _ _ _
   | exact slices_Contains_string_string.mono _ _ _
   | exact LeO.none _
   | refine LeO.ite ?_ ?_
   | refine LeO.bind ?_ (fun _ => ?_)
  ·intro y0 y1 y2 y3 y4 y5 y6
   unfold impl_rulesRight.l3
   repeat' first
   | (with_reducible exact ih0 _ _ _)
   | (with_reducible exact ih1 _ _ _ _ _ _ _ _)
   | (with_reducible exact ih2 _ _ _ _ _ _ _ _ _ _ _)
   | (with_reducible exact ih3 _ _ _ _ _ _ _ _ _ _ _ _ _ _ _ _ _ _)
   | (with_reducible exact ih4 _ _ _ _ _ _ _)
   | (with_reducible exact impl_RuleAtom_ok.mono _ _ _ _)
   | (with_reducible exact slices_Contains_string_string.mono _ _ _)
   | (with_reducible exact LeO.refl _)
   | (with_reducible exact LeO.none _)
   | (with_reducible refine LeO.ite ?_ ?_)
   | (with_reducible refine LeO.bind ?_ (fun _ => ?_))
   | exact ih0 _ _ _
   | exact ih1 _ _ _ _ _ _ _ _
   | exact ih2 _ _ _ _ _ _ _ _ _ _ _
   | exact ih3 _ _ _ _ _ _ _ _ _ _ _ _ _ _ _ _ _ _
   | exact ih4 _ _ _ _ _ _ _
   | exact impl_RuleAtom_ok.mono _ _ _ _
   | exact slices_Contains_string_string.mono _ _ _
   | exact LeO.none _
   | refine LeO.ite ?_ ?_
   | refine LeO.bind ?_ (fun _ => ?_)
theorem impl_rulesRight.mono : ∀ a0 k, LeO (impl_rulesRight.f k a0) (impl_rulesRight.f (k + 1) a0) := by
 intro a0 k
 obtain ⟨ih0, ih1, ih2, ih3, ih4⟩ := impl_rulesRight.mono_l k
 unfold impl_rulesRight.f
 repeat' first
   | (with_reducible exact ih0 _ _ _)
   | (with_reducible exact ih1 _ _ _ _ _ _ _ _)
   | (with_reducible exact ih2 _ _ _ _ _ _ _ _ _ _ _)
   | (with_reducible exact ih3 _ _ _ _ _ _ _ _ _ _ _ _ _ _ _ _ _ _)
   | (with_reducible exact ih4 _ _ _ _ _ _ _)
   | (with_reducible exact impl_RuleAtom_ok.mono _ _ _ _)
   | (with_reducible exact slices_Contains_string_string.mono _ _ _)
   | (with_reducible exact LeO.refl _)
   | (with_reducible exact LeO.none _)
   | (with_reducible refine LeO.ite ?_ ?_)
   | (with_reducible refine LeO.bind ?_ (fun _ => ?_))
   | exact ih0 _ _ _
   | exact ih1 _ _ _ _ _ _ _ _
   | exact ih2 _ _ _ _ _ _ _ _ _ _ _
   | exact ih3 _ _ _ _ _ _ _ _ _ _ _ _ _ _ _ _ _ _
   | exact ih4 _ _ _ _ _ _ _
   | exact impl_RuleAtom_ok.mono _ _ _ _
   | exact slices_Contains_string_string.mono _ _ _
   | exact LeO.none _
   | refine LeO.ite ?_ ?_
   | refine LeO.bind ?_ (fun _ => ?_)
set_option maxHeartbeats 8000000 in
set_option maxRecDepth 100000 in
theorem impl_rulesRight.calls (k : Nat) (A0 : Option Addr) (c0 : Nat) (l0 : List (S91)) (r : Bool) (w : World) (hr0 : Kd.C k91 w A0 l0.length l0) (hc0 : l0.length ≤ c0) (HG : Aside0 (G w)) (h : impl_rulesRight.f k l0 = some r) :
  Calls Try.prog 50 #[.slice A0 l0.length c0] w fun e w' => e = .returned (.bool r) ∧ Below w.heap.size w w' := by
 have hu91 := Try.underlying91
 have hu88 := Try.underlying88
 have HR0 := Aside0.mk hr0
 have HC0 := Aside0.mk hc0
 clear hr0 hc0
 have HB := Aside0.mk (Below.refl w.heap.size w)
 have H : (if (l0.length : Int) > 10 then (some false) else (impl_rulesRight.l0 k l0 (l0.length : Int) 0)) = some r := h
 clear h
 by_cases c2 : (l0.length : Int) > 10
 ·rw [if_pos c2] at H
  have c2b0 : decide (10 < (l0.length : Int)) = true := decide_eq_true c2
  have c2b1 : decide (10 < l0.length) = true := decide_eq_true (by omega)
  clear c2
  obtain rfl := Option.some.inj H
  go_enter Try.func50, Try.ntmps50
  go_wp2
  go_ret
  exact ⟨by first | rfl | (simp [errW_none, errW_some] <;> rfl) | (simp [*, errW_none, errW_some] <;> rfl), by repeat (first | (with_reducible first | exact HB.out | apply below_alloc | apply pw_below_drewN | apply below_drew1) | exact HB.out)⟩
 ·rw [if_neg c2] at H
  have c2b0 : decide (10 < (l0.length : Int)) = false := decide_eq_false c2
  have c2b1 : decide (10 < l0.length) = false := decide_eq_false (by omega)
  clear c2
  have H' := Aside0.mk H
  clear H
  go_enter Try.func50, Try.ntmps50
  go_wp2
  go_loopg [18] k (fun kq v18 w' => ∃ (x18_1 : Int), v18 = .int .i64 x18_1 ∧ Aside0 (impl_rulesRight.l0 kq l0 (l0.length : Int) x18_1 = some r) ∧ Aside0 (kq ≤ k) ∧ Aside0 (Below w.heap.size w w'))
  case atStart => exact ⟨(0), (by first | rfl | (simp; done) | (simp [*]; done)), H', ⟨Nat.le_refl _⟩, ⟨by repeat (first | (with_reducible first | exact HB.out | apply below_alloc | apply pw_below_drewN | apply below_drew1) | exact HB.out)⟩⟩
  case round =>
   clear H'
   try clear c2
   try clear c2b0
   try clear c2b1
   try clear p2
   obtain ⟨x18_1, rfl, HA, HK1, HB⟩ := hrel
   cases gk with
   | zero => exact absurd HA.out (by simp [impl_rulesRight.l0])
   | succ k1 =>
    have H := HA.out
    clear HA
    simp only [impl_rulesRight.l0] at H
    by_cases c3 : x18_1 < (l0.length : Int)
    ·rw [if_pos c3] at H
     have c3b0 : decide (x18_1 < (l0.length : Int)) = true := decide_eq_true c3
     clear c3
     by_cases c4 : 0 ≤ x18_1
     ·rw [if_pos c4] at H
      have c4b0 : decide (0 ≤ x18_1) = true := decide_eq_true c4
      clear c4
      by_cases c5 : x18_1 < (l0.length : Int)
      ·rw [if_pos c5] at H
       have c5b0 : decide (x18_1 < (l0.length : Int)) = true := decide_eq_true c5
       clear c5
       have HC6 := Aside0.mk H
       clear H
       have p257 : 0 ≤ (x18_1 : Int) := of_decide_eq_true (by first | (with_reducible assumption) | assumption)
       have q257 : x18_1 < (l0.length : Int) := of_decide_eq_true (by first | (with_reducible assumption) | assumption)
       obtain ⟨ad257, A257_3, c257_3, e257, hx257_0, hx257_1, hx257_2, hx257_3, hl257_3, hi257_3⟩ := at_T91 HR0.out x18_1 p257 q257
       cases e257
       replace hx257_0 := (HB.out.cell (World.block_lt_of_cell? w _ hx257_0)).trans hx257_0
       replace hx257_1 := (HB.out.cell (World.block_lt_of_cell? w _ hx257_1)).trans hx257_1
       replace hx257_2 := (HB.out.cell (World.block_lt_of_cell? w _ hx257_2)).trans hx257_2
       replace hx257_3 := (HB.out.cell (World.block_lt_of_cell? w _ hx257_3)).trans hx257_3
       have HR257_3 := Aside0.mk hi257_3
       have HC257_3 := Aside0.mk hl257_3
       clear hi257_3 hl257_3
       replace p257 := eq_true p257
       replace q257 := eq_true q257
       go_upto_region 6 with (first | ((with_reducible refine gate_dst (N := 4) rfl ?_); (try (refine gate_guard (by rfl) ?_; dsimp only)); refine box_event ?hg (N := 4) ?hd (cs := #[.string (⟨#[]⟩ : ByteArray), .string (⟨#[]⟩ : ByteArray), .string (⟨#[]⟩ : ByteArray), .slice none 0 0]) (t := 91) ?hr ?_; (case hd => rfl); (case hg => rfl); (case hr => first | (go_simp; done) | (go_simp; rfl)); intro gb258 hg w7 hbox hb; have n0_ := Aside0.mk (below_step (by repeat (first | (with_reducible first | exact HB.out | apply below_alloc | apply pw_below_drewN | apply below_drew1) | exact HB.out)) hb); have n1_ := Aside0.mk (hbox); have n2_ := Aside0.mk ((by rw [hg]; exact (below_size (by repeat (first | (with_reducible first | exact HB.out | apply below_alloc | apply pw_below_drewN | apply below_drew1) | exact HB.out))) : w.heap.size ≤ gb258)); have n3_ := Aside0.mk ((by rw [hg]; exact (below_size (by repeat (first | (with_reducible first | exact HB.out | apply below_alloc | apply pw_below_drewN | apply below_drew1) | exact HB.out))) : w.heap.size ≤ gb258)); clear HB; have HB := n0_; have BK258 := n1_; have GW258 := n2_; have GE258 := n3_; clear n0_ n1_ n2_ n3_; clear hb hbox hg; have hcz8_0 : w7.cell? ⟨gb258, 0, none⟩ = some (.string (⟨#[]⟩ : ByteArray)) := (blk_cell BK258.out 0).trans rfl; have hcz8_1 : w7.cell? ⟨gb258, 1, none⟩ = some (.string (⟨#[]⟩ : ByteArray)) := (blk_cell BK258.out 1).trans rfl; have hcz8_2 : w7.cell? ⟨gb258, 2, none⟩ = some (.string (⟨#[]⟩ : ByteArray)) := (blk_cell BK258.out 2).trans rfl; have hcz8_3 : w7.cell? ⟨gb258, 3, none⟩ = some (.slice none 0 0) := (blk_cell BK258.out 3).trans rfl; have hfz8_0 := blk_frozen BK258.out 0; have hfz8_1 := blk_frozen BK258.out 1; have hfz8_2 := blk_frozen BK258.out 2; have hfz8_3 := blk_frozen BK258.out 3))
       (try simp only [Act.put, List.setIfInBounds_toArray, List.set_cons_zero, List.set_cons_succ])
       go_cut [37] (fun v37 wc => ∃ (kq : Nat) (x37_5 : Bool), v37 = .bool x37_5 ∧ Aside0 (impl_rulesRight.j1 kq l0 (l0.length : Int) x18_1 x37_5 ((rd_T91 l0 x18_1).f0.f0) ((rd_T91 l0 x18_1).f0.f1) ((rd_T91 l0 x18_1).f0.f2) ((rd_T91 l0 x18_1).f1) = some r) ∧ Aside0 (kq ≤ k1) ∧ Aside0 (wc.heap[gb258]? = some (.cells #[.string ((rd_T91 l0 x18_1).f0.f0), .string ((rd_T91 l0 x18_1).f0.f1), .string ((rd_T91 l0 x18_1).f0.f2), (.slice A257_3 ((rd_T91 l0 x18_1).f1).length c257_3)] 91 (0, 0))) ∧ Aside0 (Below w.heap.size w wc))
       case first =>
        have H := HC6.out
        clear HC6
        replace H := Option.bind_eq_some_iff.mp H
        obtain ⟨t259, A90, H⟩ := H
        replace H : (if t259 = true then (if (((rd_T91 l0 x18_1).f1).length : Int) < 1 then (impl_rulesRight.j1 k1 l0 (l0.length : Int) x18_1 true ((rd_T91 l0 x18_1).f0.f0) ((rd_T91 l0 x18_1).f0.f1) ((rd_T91 l0 x18_1).f0.f2) ((rd_T91 l0 x18_1).f1)) else (impl_rulesRight.j1 k1 l0 (l0.length : Int) x18_1 (decide ((((rd_T91 l0 x18_1).f1).length : Int) > 3)) ((rd_T91 l0 x18_1).f0.f0) ((rd_T91 l0 x18_1).f0.f1) ((rd_T91 l0 x18_1).f0.f2) ((rd_T91 l0 x18_1).f1))) else (impl_rulesRight.j1 k1 l0 (l0.length : Int) x18_1 true ((rd_T91 l0 x18_1).f0.f0) ((rd_T91 l0 x18_1).f0.f1) ((rd_T91 l0 x18_1).f0.f2) ((rd_T91 l0 x18_1).f1))) = some r := H
        have A9 := Aside0.mk A90
        clear A90
        by_cases c10 : t259 = true
        ·subst c10
         have H1 : (if (((rd_T91 l0 x18_1).f1).length : Int) < 1 then (impl_rulesRight.j1 k1 l0 (l0.length : Int) x18_1 true ((rd_T91 l0 x18_1).f0.f0) ((rd_T91 l0 x18_1).f0.f1) ((rd_T91 l0 x18_1).f0.f2) ((rd_T91 l0 x18_1).f1)) else (impl_rulesRight.j1 k1 l0 (l0.length : Int) x18_1 (decide ((((rd_T91 l0 x18_1).f1).length : Int) > 3)) ((rd_T91 l0 x18_1).f0.f0) ((rd_T91 l0 x18_1).f0.f1) ((rd_T91 l0 x18_1).f0.f2) ((rd_T91 l0 x18_1).f1))) = some r := by rw [if_pos rfl] at H; exact H
         clear H
         have H := H1
         clear H1
         by_cases c11 : (((rd_T91 l0 x18_1).f1).length : Int) < 1
         ·rw [if_pos c11] at H
          have c11b0 : decide ((((rd_T91 l0 x18_1).f1).length : Int) < 1) = true := decide_eq_true c11
          have c11b1 : decide (((rd_T91 l0 x18_1).f1).length < 1) = true := decide_eq_true (by omega)
          clear c11
          (first | rw [c11b0] | (simp only [i64_w, i32_w]; rw [c11b0]) | skip)
          have H' := Aside0.mk H
          clear H
          have hcz12_0 : w7.cell? ⟨gb258, 0, none⟩ = some (.string (⟨#[]⟩ : ByteArray)) := (blk_cell BK258.out 0).trans rfl
          have hcz12_1 : w7.cell? ⟨gb258, 1, none⟩ = some (.string (⟨#[]⟩ : ByteArray)) := (blk_cell BK258.out 1).trans rfl
          have hcz12_2 : w7.cell? ⟨gb258, 2, none⟩ = some (.string (⟨#[]⟩ : ByteArray)) := (blk_cell BK258.out 2).trans rfl
          have hcz12_3 : w7.cell? ⟨gb258, 3, none⟩ = some (.slice none 0 0) := (blk_cell BK258.out 3).trans rfl
          have hfz12_0 := blk_frozen BK258.out 0
          have hfz12_1 := blk_frozen BK258.out 1
          have hfz12_2 := blk_frozen BK258.out 2
          have hfz12_3 := blk_frozen BK258.out 3
          go_wp2_with (first | ((with_reducible refine gate_callee (f := 70) rfl ?_); refine goesL_ (some 24) rfl rfl Try.func70 (by kernel_rfl) rfl #[.agg #[.string ((rd_T91 l0 x18_1).f0.f0), .string ((rd_T91 l0 x18_1).f0.f1), .string ((rd_T91 l0 x18_1).f0.f2)]] rfl (by (try simp only [List.map_toArray, List.map_cons, List.map_nil]); first | done | rfl | (simp only [List.length_drop, List.length_take]; rfl)) ?_; (with_reducible refine (impl_RuleAtom_ok.calls k1 ((rd_T91 l0 x18_1).f0.f0) ((rd_T91 l0 x18_1).f0.f1) ((rd_T91 l0 x18_1).f0.f2) true _ ?sideG A9.out).mono ?_); (case sideG => first | exact HG | ((refine ⟨G_below HG.out ?_⟩); (repeat (first | (with_reducible first | exact HB.out | apply below_alloc | apply pw_below_drewN | apply below_drew1 | refine below_set ?_ GE258.out | refine below_set ?_ GE261.out) | exact HB.out)); done) | exact ⟨G_below HG.out HB.out⟩ | exact ⟨HG.out⟩); rintro e w13 ⟨rfl, hb⟩; refine ⟨_, rfl, ?_⟩; have n0_ := Aside0.mk (blk_below (g := gb258) (o := .cells #[.string ((rd_T91 l0 x18_1).f0.f0), .string ((rd_T91 l0 x18_1).f0.f1), .string ((rd_T91 l0 x18_1).f0.f2), .slice A257_3 ((rd_T91 l0 x18_1).f1).length c257_3] 91 (0, 0)) (by (with_reducible repeat (first | refine blk_drewN ?_ _ | refine blk_drew ?_ | refine blk_alloc ?_ _)); refine blk_put (cs := #[.string ((rd_T91 l0 x18_1).f0.f0), .string ((rd_T91 l0 x18_1).f0.f1), .string ((rd_T91 l0 x18_1).f0.f2), .slice none 0 0]) ?_ 3 _ rfl; (with_reducible repeat (first | refine blk_drewN ?_ _ | refine blk_drew ?_ | refine blk_alloc ?_ _)); refine blk_put (cs := #[.string ((rd_T91 l0 x18_1).f0.f0), .string ((rd_T91 l0 x18_1).f0.f1), .string (⟨#[]⟩ : ByteArray), .slice none 0 0]) ?_ 2 _ rfl; (with_reducible repeat (first | refine blk_drewN ?_ _ | refine blk_drew ?_ | refine blk_alloc ?_ _)); refine blk_put (cs := #[.string ((rd_T91 l0 x18_1).f0.f0), .string (⟨#[]⟩ : ByteArray), .string (⟨#[]⟩ : ByteArray), .slice none 0 0]) ?_ 1 _ rfl; (with_reducible repeat (first | refine blk_drewN ?_ _ | refine blk_drew ?_ | refine blk_alloc ?_ _)); refine blk_put (cs := #[.string (⟨#[]⟩ : ByteArray), .string (⟨#[]⟩ : ByteArray), .string (⟨#[]⟩ : ByteArray), .slice none 0 0]) ?_ 0 _ rfl; (with_reducible repeat (first | refine blk_drewN ?_ _ | refine blk_drew ?_ | refine blk_alloc ?_ _)); exact BK258.out) hb); have n1_ := Aside0.mk (below_step (by repeat (first | (with_reducible first | exact HB.out | apply below_alloc | apply pw_below_drewN | apply below_drew1 | refine below_set ?_ GE258.out) | exact HB.out)) hb); clear BK258; clear HB; have BK258 := n0_; have HB := n1_; clear n0_ n1_; (try clear hb); (try clear hb2); (try clear hk); (try clear hi); have hcz14_0 : w13.cell? ⟨gb258, 0, none⟩ = some (.string ((rd_T91 l0 x18_1).f0.f0)) := (blk_cell BK258.out 0).trans rfl; have hcz14_1 : w13.cell? ⟨gb258, 1, none⟩ = some (.string ((rd_T91 l0 x18_1).f0.f1)) := (blk_cell BK258.out 1).trans rfl; have hcz14_2 : w13.cell? ⟨gb258, 2, none⟩ = some (.string ((rd_T91 l0 x18_1).f0.f2)) := (blk_cell BK258.out 2).trans rfl; have hcz14_3 : w13.cell? ⟨gb258, 3, none⟩ = some (.slice A257_3 ((rd_T91 l0 x18_1).f1).length c257_3) := (blk_cell BK258.out 3).trans rfl; have hfz14_0 := blk_frozen BK258.out 0; have hfz14_1 := blk_frozen BK258.out 1; have hfz14_2 := blk_frozen BK258.out 2; have hfz14_3 := blk_frozen BK258.out 3))
          go_meet
          case rel => exact ⟨_, (true), (by first | rfl | (simp; done) | (simp [*]; done)), H', ⟨by have := HK1.out; first | omega | exact Nat.le_refl _⟩, ⟨by (with_reducible repeat (first | refine blk_drewN ?_ _ | refine blk_drew ?_ | refine blk_alloc ?_ _)); exact BK258.out⟩, ⟨by repeat (first | (with_reducible first | exact HB.out | apply below_alloc | apply pw_below_drewN | apply below_drew1 | refine below_set ?_ GE258.out) | exact HB.out)⟩⟩
         ·rw [if_neg c11] at H
          have c11b0 : decide ((((rd_T91 l0 x18_1).f1).length : Int) < 1) = false := decide_eq_false c11
          have c11b1 : decide (((rd_T91 l0 x18_1).f1).length < 1) = false := decide_eq_false (by omega)
          clear c11
          (first | rw [c11b0] | (simp only [i64_w, i32_w]; rw [c11b0]) | skip)
          have H' := Aside0.mk H
          clear H
          have hcz15_0 : w7.cell? ⟨gb258, 0, none⟩ = some (.string (⟨#[]⟩ : ByteArray)) := (blk_cell BK258.out 0).trans rfl
          have hcz15_1 : w7.cell? ⟨gb258, 1, none⟩ = some (.string (⟨#[]⟩ : ByteArray)) := (blk_cell BK258.out 1).trans rfl
          have hcz15_2 : w7.cell? ⟨gb258, 2, none⟩ = some (.string (⟨#[]⟩ : ByteArray)) := (blk_cell BK258.out 2).trans rfl
          have hcz15_3 : w7.cell? ⟨gb258, 3, none⟩ = some (.slice none 0 0) := (blk_cell BK258.out 3).trans rfl
          have hfz15_0 := blk_frozen BK258.out 0
          have hfz15_1 := blk_frozen BK258.out 1
          have hfz15_2 := blk_frozen BK258.out 2
          have hfz15_3 := blk_frozen BK258.out 3
          go_wp2_with (first | ((with_reducible refine gate_callee (f := 70) rfl ?_); refine goesL_ (some 24) rfl rfl Try.func70 (by kernel_rfl) rfl #[.agg #[.string ((rd_T91 l0 x18_1).f0.f0), .string ((rd_T91 l0 x18_1).f0.f1), .string ((rd_T91 l0 x18_1).f0.f2)]] rfl (by (try simp only [List.map_toArray, List.map_cons, List.map_nil]); first | done | rfl | (simp only [List.length_drop, List.length_take]; rfl)) ?_; (with_reducible refine (impl_RuleAtom_ok.calls k1 ((rd_T91 l0 x18_1).f0.f0) ((rd_T91 l0 x18_1).f0.f1) ((rd_T91 l0 x18_1).f0.f2) true _ ?sideG A9.out).mono ?_); (case sideG => first | exact HG | ((refine ⟨G_below HG.out ?_⟩); (repeat (first | (with_reducible first | exact HB.out | apply below_alloc | apply pw_below_drewN | apply below_drew1 | refine below_set ?_ GE258.out | refine below_set ?_ GE261.out) | exact HB.out)); done) | exact ⟨G_below HG.out HB.out⟩ | exact ⟨HG.out⟩); rintro e w16 ⟨rfl, hb⟩; refine ⟨_, rfl, ?_⟩; have n0_ := Aside0.mk (blk_below (g := gb258) (o := .cells #[.string ((rd_T91 l0 x18_1).f0.f0), .string ((rd_T91 l0 x18_1).f0.f1), .string ((rd_T91 l0 x18_1).f0.f2), .slice A257_3 ((rd_T91 l0 x18_1).f1).length c257_3] 91 (0, 0)) (by (with_reducible repeat (first | refine blk_drewN ?_ _ | refine blk_drew ?_ | refine blk_alloc ?_ _)); refine blk_put (cs := #[.string ((rd_T91 l0 x18_1).f0.f0), .string ((rd_T91 l0 x18_1).f0.f1), .string ((rd_T91 l0 x18_1).f0.f2), .slice none 0 0]) ?_ 3 _ rfl; (with_reducible repeat (first | refine blk_drewN ?_ _ | refine blk_drew ?_ | refine blk_alloc ?_ _)); refine blk_put (cs := #[.string ((rd_T91 l0 x18_1).f0.f0), .string ((rd_T91 l0 x18_1).f0.f1), .string (⟨#[]⟩ : ByteArray), .slice none 0 0]) ?_ 2 _ rfl; (with_reducible repeat (first | refine blk_drewN ?_ _ | refine blk_drew ?_ | refine blk_alloc ?_ _)); refine blk_put (cs := #[.string ((rd_T91 l0 x18_1).f0.f0), .string (⟨#[]⟩ : ByteArray), .string (⟨#[]⟩ : ByteArray), .slice none 0 0]) ?_ 1 _ rfl; (with_reducible repeat (first | refine blk_drewN ?_ _ | refine blk_drew ?_ | refine blk_alloc ?_ _)); refine blk_put (cs := #[.string (⟨#[]⟩ : ByteArray), .string (⟨#[]⟩ : ByteArray), .string (⟨#[]⟩ : ByteArray), .slice none 0 0]) ?_ 0 _ rfl; (with_reducible repeat (first | refine blk_drewN ?_ _ | refine blk_drew ?_ | refine blk_alloc ?_ _)); exact BK258.out) hb); have n1_ := Aside0.mk (below_step (by repeat (first | (with_reducible first | exact HB.out | apply below_alloc | apply pw_below_drewN | apply below_drew1 | refine below_set ?_ GE258.out) | exact HB.out)) hb); clear BK258; clear HB; have BK258 := n0_; have HB := n1_; clear n0_ n1_; (try clear hb); (try clear hb2); (try clear hk); (try clear hi); have hcz17_0 : w16.cell? ⟨gb258, 0, none⟩ = some (.string ((rd_T91 l0 x18_1).f0.f0)) := (blk_cell BK258.out 0).trans rfl; have hcz17_1 : w16.cell? ⟨gb258, 1, none⟩ = some (.string ((rd_T91 l0 x18_1).f0.f1)) := (blk_cell BK258.out 1).trans rfl; have hcz17_2 : w16.cell? ⟨gb258, 2, none⟩ = some (.string ((rd_T91 l0 x18_1).f0.f2)) := (blk_cell BK258.out 2).trans rfl; have hcz17_3 : w16.cell? ⟨gb258, 3, none⟩ = some (.slice A257_3 ((rd_T91 l0 x18_1).f1).length c257_3) := (blk_cell BK258.out 3).trans rfl; have hfz17_0 := blk_frozen BK258.out 0; have hfz17_1 := blk_frozen BK258.out 1; have hfz17_2 := blk_frozen BK258.out 2; have hfz17_3 := blk_frozen BK258.out 3))
          go_meet
          case rel => exact ⟨_, (decide ((((rd_T91 l0 x18_1).f1).length : Int) > 3)), (by first | rfl | (simp; done) | (simp [*]; done)), H', ⟨by have := HK1.out; first | omega | exact Nat.le_refl _⟩, ⟨by (with_reducible repeat (first | refine blk_drewN ?_ _ | refine blk_drew ?_ | refine blk_alloc ?_ _)); exact BK258.out⟩, ⟨by repeat (first | (with_reducible first | exact HB.out | apply below_alloc | apply pw_below_drewN | apply below_drew1 | refine below_set ?_ GE258.out) | exact HB.out)⟩⟩
        ·replace c10 := Bool.eq_false_iff.mpr c10
         subst c10
         have H1 : (impl_rulesRight.j1 k1 l0 (l0.length : Int) x18_1 true ((rd_T91 l0 x18_1).f0.f0) ((rd_T91 l0 x18_1).f0.f1) ((rd_T91 l0 x18_1).f0.f2) ((rd_T91 l0 x18_1).f1)) = some r := by rw [if_neg (show ¬ (false = true) by decide)] at H; exact H
         clear H
         have H := H1
         clear H1
         have H' := Aside0.mk H
         clear H
         have hcz18_0 : w7.cell? ⟨gb258, 0, none⟩ = some (.string (⟨#[]⟩ : ByteArray)) := (blk_cell BK258.out 0).trans rfl
         have hcz18_1 : w7.cell? ⟨gb258, 1, none⟩ = some (.string (⟨#[]⟩ : ByteArray)) := (blk_cell BK258.out 1).trans rfl
         have hcz18_2 : w7.cell? ⟨gb258, 2, none⟩ = some (.string (⟨#[]⟩ : ByteArray)) := (blk_cell BK258.out 2).trans rfl
         have hcz18_3 : w7.cell? ⟨gb258, 3, none⟩ = some (.slice none 0 0) := (blk_cell BK258.out 3).trans rfl
         have hfz18_0 := blk_frozen BK258.out 0
         have hfz18_1 := blk_frozen BK258.out 1
         have hfz18_2 := blk_frozen BK258.out 2
         have hfz18_3 := blk_frozen BK258.out 3
         go_wp2_with (first | ((with_reducible refine gate_callee (f := 70) rfl ?_); refine goesL_ (some 24) rfl rfl Try.func70 (by kernel_rfl) rfl #[.agg #[.string ((rd_T91 l0 x18_1).f0.f0), .string ((rd_T91 l0 x18_1).f0.f1), .string ((rd_T91 l0 x18_1).f0.f2)]] rfl (by (try simp only [List.map_toArray, List.map_cons, List.map_nil]); first | done | rfl | (simp only [List.length_drop, List.length_take]; rfl)) ?_; (with_reducible refine (impl_RuleAtom_ok.calls k1 ((rd_T91 l0 x18_1).f0.f0) ((rd_T91 l0 x18_1).f0.f1) ((rd_T91 l0 x18_1).f0.f2) false _ ?sideG A9.out).mono ?_); (case sideG => first | exact HG | ((refine ⟨G_below HG.out ?_⟩); (repeat (first | (with_reducible first | exact HB.out | apply below_alloc | apply pw_below_drewN | apply below_drew1 | refine below_set ?_ GE258.out | refine below_set ?_ GE261.out) | exact HB.out)); done) | exact ⟨G_below HG.out HB.out⟩ | exact ⟨HG.out⟩); rintro e w19 ⟨rfl, hb⟩; refine ⟨_, rfl, ?_⟩; have n0_ := Aside0.mk (blk_below (g := gb258) (o := .cells #[.string ((rd_T91 l0 x18_1).f0.f0), .string ((rd_T91 l0 x18_1).f0.f1), .string ((rd_T91 l0 x18_1).f0.f2), .slice A257_3 ((rd_T91 l0 x18_1).f1).length c257_3] 91 (0, 0)) (by (with_reducible repeat (first | refine blk_drewN ?_ _ | refine blk_drew ?_ | refine blk_alloc ?_ _)); refine blk_put (cs := #[.string ((rd_T91 l0 x18_1).f0.f0), .string ((rd_T91 l0 x18_1).f0.f1), .string ((rd_T91 l0 x18_1).f0.f2), .slice none 0 0]) ?_ 3 _ rfl; (with_reducible repeat (first | refine blk_drewN ?_ _ | refine blk_drew ?_ | refine blk_alloc ?_ _)); refine blk_put (cs := #[.string ((rd_T91 l0 x18_1).f0.f0), .string ((rd_T91 l0 x18_1).f0.f1), .string (⟨#[]⟩ : ByteArray), .slice none 0 0]) ?_ 2 _ rfl; (with_reducible repeat (first | refine blk_drewN ?_ _ | refine blk_drew ?_ | refine blk_alloc ?_ _)); refine blk_put (cs := #[.string ((rd_T91 l0 x18_1).f0.f0), .string (⟨#[]⟩ : ByteArray), .string (⟨#[]⟩ : ByteArray), .slice none 0 0]) ?_ 1 _ rfl; (with_reducible repeat (first | refine blk_drewN ?_ _ | refine blk_drew ?_ | refine blk_alloc ?_ _)); refine blk_put (cs := #[.string (⟨#[]⟩ : ByteArray), .string (⟨#[]⟩ : ByteArray), .string (⟨#[]⟩ : ByteArray), .slice none 0 0]) ?_ 0 _ rfl; (with_reducible repeat (first | refine blk_drewN ?_ _ | refine blk_drew ?_ | refine blk_alloc ?_ _)); exact BK258.out) hb); have n1_ := Aside0.mk (below_step (by repeat (first | (with_reducible first | exact HB.out | apply below_alloc | apply pw_below_drewN | apply below_drew1 | refine below_set ?_ GE258.out) | exact HB.out)) hb); clear BK258; clear HB; have BK258 := n0_; have HB := n1_; clear n0_ n1_; (try clear hb); (try clear hb2); (try clear hk); (try clear hi)))
         go_meet
         case rel => exact ⟨_, (true), (by first | rfl | (simp; done) | (simp [*]; done)), H', ⟨by have := HK1.out; first | omega | exact Nat.le_refl _⟩, ⟨by (with_reducible repeat (first | refine blk_drewN ?_ _ | refine blk_drew ?_ | refine blk_alloc ?_ _)); exact BK258.out⟩, ⟨by repeat (first | (with_reducible first | exact HB.out | apply below_alloc | apply pw_below_drewN | apply below_drew1 | refine below_set ?_ GE258.out) | exact HB.out)⟩⟩
       case rest =>
        clear HC6
        try clear c1
        try clear c2
        try clear c2b0
        try clear c2b1
        try clear p2
        try clear q2
        try clear hx2
        try clear c3
        try clear c3b0
        try clear c4
        try clear c4b0
        try clear c5
        try clear c5b0
        try clear c7
        try clear c10
        try clear c11
        try clear c11b0
        try clear c11b1
        try clear hcz12_0
        try clear hcz12_1
        try clear hcz12_2
        try clear hcz12_3
        try clear hcz14_0
        try clear hcz14_1
        try clear hcz14_2
        try clear hcz14_3
        try clear hcz15_0
        try clear hcz15_1
        try clear hcz15_2
        try clear hcz15_3
        try clear hcz17_0
        try clear hcz17_1
        try clear hcz17_2
        try clear hcz17_3
        try clear hcz18_0
        try clear hcz18_1
        try clear hcz18_2
        try clear hcz18_3
        try clear hcz8_0
        try clear hcz8_1
        try clear hcz8_2
        try clear hcz8_3
        try clear hfz12_0
        try clear hfz12_1
        try clear hfz12_2
        try clear hfz12_3
        try clear hfz14_0
        try clear hfz14_1
        try clear hfz14_2
        try clear hfz14_3
        try clear hfz15_0
        try clear hfz15_1
        try clear hfz15_2
        try clear hfz15_3
        try clear hfz17_0
        try clear hfz17_1
        try clear hfz17_2
        try clear hfz17_3
        try clear hfz18_0
        try clear hfz18_1
        try clear hfz18_2
        try clear hfz18_3
        try clear hfz8_0
        try clear hfz8_1
        try clear hfz8_2
        try clear hfz8_3
        try clear hx257_0
        try clear hx257_1
        try clear hx257_2
        try clear hx257_3
        try clear p2
        try clear p257
        try clear q257
        obtain ⟨kq, x37_5, rfl, HA, HJ5, BK258, HB⟩ := hcut
        cases kq with
        | zero => exact absurd HA.out (by simp [impl_rulesRight.j1])
        | succ kj5 =>
         have H := HA.out
         clear HA
         simp only [impl_rulesRight.j1] at H
         by_cases c20 : x37_5 = true
         ·subst c20
          have H1 : (some false) = some r := by rw [if_pos rfl] at H; exact H
          clear H
          have H := H1
          clear H1
          obtain rfl := Option.some.inj H
          go_wp2
          go_ret
          exact ⟨by first | rfl | (simp [errW_none, errW_some] <;> rfl) | (simp [*, errW_none, errW_some] <;> rfl), by repeat (first | (with_reducible first | exact HB.out | apply below_alloc | apply pw_below_drewN | apply below_drew1 | refine below_set ?_ GE258.out) | exact HB.out)⟩
         ·replace c20 := Bool.eq_false_iff.mpr c20
          subst c20
          have H1 : (impl_rulesRight.l1 kj5 ([] : List ByteArray) l0 (l0.length : Int) x18_1 ((rd_T91 l0 x18_1).f1) (((rd_T91 l0 x18_1).f1).length : Int) 0 ((rd_T91 l0 x18_1).f0.f0) ((rd_T91 l0 x18_1).f0.f1) ((rd_T91 l0 x18_1).f0.f2) ((rd_T91 l0 x18_1).f1)) = some r := by rw [if_neg (show ¬ (false = true) by decide)] at H; exact H
          clear H
          have H := H1
          clear H1
          have H' := Aside0.mk H
          clear H
          have hcz21_0 : wc.cell? ⟨gb258, 0, none⟩ = some (.string ((rd_T91 l0 x18_1).f0.f0)) := (blk_cell BK258.out 0).trans rfl
          have hcz21_1 : wc.cell? ⟨gb258, 1, none⟩ = some (.string ((rd_T91 l0 x18_1).f0.f1)) := (blk_cell BK258.out 1).trans rfl
          have hcz21_2 : wc.cell? ⟨gb258, 2, none⟩ = some (.string ((rd_T91 l0 x18_1).f0.f2)) := (blk_cell BK258.out 2).trans rfl
          have hcz21_3 : wc.cell? ⟨gb258, 3, none⟩ = some (.slice A257_3 ((rd_T91 l0 x18_1).f1).length c257_3) := (blk_cell BK258.out 3).trans rfl
          have hfz21_0 := blk_frozen BK258.out 0
          have hfz21_1 := blk_frozen BK258.out 1
          have hfz21_2 := blk_frozen BK258.out 2
          have hfz21_3 := blk_frozen BK258.out 3
          go_wp2
          go_loopg [5, 41] kj5 (fun kq v5 v41 w' => ∃ (x5_3 : List ByteArray) (x41_3 : Int), v41 = .int .i64 x41_3 ∧ Aside0 (impl_rulesRight.l1 kq x5_3 l0 (l0.length : Int) x18_1 ((rd_T91 l0 x18_1).f1) (((rd_T91 l0 x18_1).f1).length : Int) x41_3 ((rd_T91 l0 x18_1).f0.f0) ((rd_T91 l0 x18_1).f0.f1) ((rd_T91 l0 x18_1).f0.f2) ((rd_T91 l0 x18_1).f1) = some r) ∧ Aside0 (kq ≤ kj5) ∧ Aside0 (Kd.R Kd.string 9 w' w.heap.size (fun _ => True) v5 x5_3) ∧ Aside0 (w'.heap[gb258]? = some (.cells #[.string ((rd_T91 l0 x18_1).f0.f0), .string ((rd_T91 l0 x18_1).f0.f1), .string ((rd_T91 l0 x18_1).f0.f2), (.slice A257_3 ((rd_T91 l0 x18_1).f1).length c257_3)] 91 (0, 0))) ∧ Aside0 (Below w.heap.size w w'))
          case atStart => exact ⟨(([] : List ByteArray)), (0), (by first | rfl | (simp; done) | (simp [*]; done)), H', ⟨Nat.le_refl _⟩, ⟨by first | exact Kd.R_nil _ _ _ _ _ | exact Kd.N_nil _ _ _ _ _ | exact Kd.V_nil _ _ _ _ _ | exact Kd.Q_nil _ _ _ _ _ | exact Kd.S_nil _ _ _ _ _⟩, ⟨by (with_reducible repeat (first | refine blk_drewN ?_ _ | refine blk_drew ?_ | refine blk_alloc ?_ _)); exact BK258.out⟩, ⟨by repeat (first | (with_reducible first | exact HB.out | apply below_alloc | apply pw_below_drewN | apply below_drew1 | refine below_set ?_ GE258.out) | exact HB.out)⟩⟩
          case round =>
           clear H'
           try clear c1
           try clear c2
           try clear c2b0
           try clear c2b1
           try clear p2
           try clear q2
           try clear hx2
           try clear c3
           try clear c3b0
           try clear c4
           try clear c4b0
           try clear c5
           try clear c5b0
           try clear c7
           try clear c10
           try clear c11
           try clear c11b0
           try clear c11b1
           try clear c20
           try clear hcz12_0
           try clear hcz12_1
           try clear hcz12_2
           try clear hcz12_3
           try clear hcz14_0
           try clear hcz14_1
           try clear hcz14_2
           try clear hcz14_3
           try clear hcz15_0
           try clear hcz15_1
           try clear hcz15_2
           try clear hcz15_3
           try clear hcz17_0
           try clear hcz17_1
           try clear hcz17_2
           try clear hcz17_3
           try clear hcz18_0
           try clear hcz18_1
           try clear hcz18_2
           try clear hcz18_3
           try clear hcz21_0
           try clear hcz21_1
           try clear hcz21_2
           try clear hcz21_3
           try clear hcz8_0
           try clear hcz8_1
           try clear hcz8_2
           try clear hcz8_3
           try clear hfz12_0
           try clear hfz12_1
           try clear hfz12_2
           try clear hfz12_3
           try clear hfz14_0
           try clear hfz14_1
           try clear hfz14_2
           try clear hfz14_3
           try clear hfz15_0
           try clear hfz15_1
           try clear hfz15_2
           try clear hfz15_3
           try clear hfz17_0
           try clear hfz17_1
           try clear hfz17_2
           try clear hfz17_3
           try clear hfz18_0
           try clear hfz18_1
           try clear hfz18_2
           try clear hfz18_3
           try clear hfz21_0
           try clear hfz21_1
           try clear hfz21_2
           try clear hfz21_3
           try clear hfz8_0
           try clear hfz8_1
           try clear hfz8_2
           try clear hfz8_3
           try clear hx257_0
           try clear hx257_1
           try clear hx257_2
           try clear hx257_3
           try clear p2
           try clear p257
           try clear q2
           try clear q257
           obtain ⟨x5_3, x41_3, rfl, HA, HK3, HO_5, BK258, HB⟩ := hrel
           cases gk with
           | zero => exact absurd HA.out (by simp [impl_rulesRight.l1])
           | succ k3 =>
            have H := HA.out
            clear HA
            simp only [impl_rulesRight.l1] at H
            by_cases c22 : x41_3 < (((rd_T91 l0 x18_1).f1).length : Int)
            ·rw [if_pos c22] at H
             have c22b0 : decide (x41_3 < (((rd_T91 l0 x18_1).f1).length : Int)) = true := decide_eq_true c22
             clear c22
             by_cases c23 : 0 ≤ x41_3
             ·rw [if_pos c23] at H
              have c23b0 : decide (0 ≤ x41_3) = true := decide_eq_true c23
              clear c23
              by_cases c24 : x41_3 < (((rd_T91 l0 x18_1).f1).length : Int)
              ·rw [if_pos c24] at H
               have c24b0 : decide (x41_3 < (((rd_T91 l0 x18_1).f1).length : Int)) = true := decide_eq_true c24
               clear c24
               replace H := Option.bind_eq_some_iff.mp H
               obtain ⟨t262, A250, H⟩ := H
               replace H : (if t262 = true then ((impl_RuleAtom_vars.f ((rd_T88 ((rd_T91 l0 x18_1).f1) x41_3).f0) ((rd_T88 ((rd_T91 l0 x18_1).f1) x41_3).f1) ((rd_T88 ((rd_T91 l0 x18_1).f1) x41_3).f2)).bind fun t263 => (impl_rulesRight.l2 k3 x5_3 (x41_3 == 0) l0 (l0.length : Int) x18_1 ((rd_T91 l0 x18_1).f1) (((rd_T91 l0 x18_1).f1).length : Int) x41_3 t263 (t263.length : Int) 0 ((rd_T91 l0 x18_1).f0.f0) ((rd_T91 l0 x18_1).f0.f1) ((rd_T91 l0 x18_1).f0.f2) ((rd_T91 l0 x18_1).f1) ((rd_T88 ((rd_T91 l0 x18_1).f1) x41_3).f0) ((rd_T88 ((rd_T91 l0 x18_1).f1) x41_3).f1) ((rd_T88 ((rd_T91 l0 x18_1).f1) x41_3).f2))) else (some false)) = some r := H
               have A25 := Aside0.mk A250
               clear A250
               by_cases c26 : t262 = true
               ·subst c26
                have H1 : ((impl_RuleAtom_vars.f ((rd_T88 ((rd_T91 l0 x18_1).f1) x41_3).f0) ((rd_T88 ((rd_T91 l0 x18_1).f1) x41_3).f1) ((rd_T88 ((rd_T91 l0 x18_1).f1) x41_3).f2)).bind fun t263 => (impl_rulesRight.l2 k3 x5_3 (x41_3 == 0) l0 (l0.length : Int) x18_1 ((rd_T91 l0 x18_1).f1) (((rd_T91 l0 x18_1).f1).length : Int) x41_3 t263 (t263.length : Int) 0 ((rd_T91 l0 x18_1).f0.f0) ((rd_T91 l0 x18_1).f0.f1) ((rd_T91 l0 x18_1).f0.f2) ((rd_T91 l0 x18_1).f1) ((rd_T88 ((rd_T91 l0 x18_1).f1) x41_3).f0) ((rd_T88 ((rd_T91 l0 x18_1).f1) x41_3).f1) ((rd_T88 ((rd_T91 l0 x18_1).f1) x41_3).f2))) = some r := by rw [if_pos rfl] at H; exact H
                clear H
                have H := H1
                clear H1
                replace H := Option.bind_eq_some_iff.mp H
                obtain ⟨t263, A270, H⟩ := H
                replace H : (impl_rulesRight.l2 k3 x5_3 (x41_3 == 0) l0 (l0.length : Int) x18_1 ((rd_T91 l0 x18_1).f1) (((rd_T91 l0 x18_1).f1).length : Int) x41_3 t263 (t263.length : Int) 0 ((rd_T91 l0 x18_1).f0.f0) ((rd_T91 l0 x18_1).f0.f1) ((rd_T91 l0 x18_1).f0.f2) ((rd_T91 l0 x18_1).f1) ((rd_T88 ((rd_T91 l0 x18_1).f1) x41_3).f0) ((rd_T88 ((rd_T91 l0 x18_1).f1) x41_3).f1) ((rd_T88 ((rd_T91 l0 x18_1).f1) x41_3).f2)) = some r := H
                have A27 := Aside0.mk A270
                clear A270
                have H' := Aside0.mk H
                clear H
                have p260 : 0 ≤ (x41_3 : Int) := of_decide_eq_true (by first | (with_reducible assumption) | assumption)
                have q260 : x41_3 < (((rd_T91 l0 x18_1).f1).length : Int) := of_decide_eq_true (by first | (with_reducible assumption) | assumption)
                obtain ⟨ad260, e260, hx260_0, hx260_1, hx260_2⟩ := at_T88 HR257_3.out x41_3 p260 q260
                cases e260
                replace hx260_0 := (HB.out.cell (World.block_lt_of_cell? w _ hx260_0)).trans hx260_0
                replace hx260_1 := (HB.out.cell (World.block_lt_of_cell? w _ hx260_1)).trans hx260_1
                replace hx260_2 := (HB.out.cell (World.block_lt_of_cell? w _ hx260_2)).trans hx260_2
                replace p260 := eq_true p260
                replace q260 := eq_true q260
                go_wp2_with (first | ((with_reducible refine gate_dst (N := 7) rfl ?_); (try (refine gate_guard (by rfl) ?_; dsimp only)); refine box_event ?hg (N := 7) ?hd (cs := #[.string (⟨#[]⟩ : ByteArray), .string (⟨#[]⟩ : ByteArray), .string (⟨#[]⟩ : ByteArray)]) (t := 88) ?hr ?_; (case hd => rfl); (case hg => rfl); (case hr => first | (go_simp; done) | (go_simp; rfl)); intro gb261 hg w28 hbox hb; have n0_ := Aside0.mk (Kd.R_below (by (with_reducible repeat (first | apply Kd.R_alloc | apply Kd.R_drewN | apply Kd.R_drew)); exact HO_5.out) hb); have n1_ := Aside0.mk (blk_below (g := gb258) (o := .cells #[.string ((rd_T91 l0 x18_1).f0.f0), .string ((rd_T91 l0 x18_1).f0.f1), .string ((rd_T91 l0 x18_1).f0.f2), .slice (some ad260) ((rd_T91 l0 x18_1).f1).length c257_3] 91 (0, 0)) (by (with_reducible repeat (first | refine blk_drewN ?_ _ | refine blk_drew ?_ | refine blk_alloc ?_ _)); exact BK258.out) hb); have n2_ := Aside0.mk (below_step (by repeat (first | (with_reducible first | exact HB.out | apply below_alloc | apply pw_below_drewN | apply below_drew1 | refine below_set ?_ GE258.out) | exact HB.out)) hb); have n3_ := Aside0.mk (hbox); have n4_ := Aside0.mk ((by rw [hg]; exact (below_size (by repeat (first | (with_reducible first | exact HB.out | apply below_alloc | apply pw_below_drewN | apply below_drew1 | refine below_set ?_ GE258.out) | exact HB.out))) : w.heap.size ≤ gb261)); have n5_ := Aside0.mk ((by rw [hg]; exact (below_size (by repeat (first | (with_reducible first | exact HB.out | apply below_alloc | apply pw_below_drewN | apply below_drew1 | refine below_set ?_ GE258.out) | exact HB.out))) : w.heap.size ≤ gb261)); have n6_ := Aside0.mk ((by rw [hg]; exact Nat.ne_of_lt (blk_lt (g := gb258) (o := .cells #[.string ((rd_T91 l0 x18_1).f0.f0), .string ((rd_T91 l0 x18_1).f0.f1), .string ((rd_T91 l0 x18_1).f0.f2), .slice (some ad260) ((rd_T91 l0 x18_1).f1).length c257_3] 91 (0, 0)) (by (with_reducible repeat (first | refine blk_drewN ?_ _ | refine blk_drew ?_ | refine blk_alloc ?_ _)); exact BK258.out)) : gb258 ≠ gb261)); have n7_ := Aside0.mk ((by rw [hg]; exact Nat.ne_of_gt (blk_lt (g := gb258) (o := .cells #[.string ((rd_T91 l0 x18_1).f0.f0), .string ((rd_T91 l0 x18_1).f0.f1), .string ((rd_T91 l0 x18_1).f0.f2), .slice (some ad260) ((rd_T91 l0 x18_1).f1).length c257_3] 91 (0, 0)) (by (with_reducible repeat (first | refine blk_drewN ?_ _ | refine blk_drew ?_ | refine blk_alloc ?_ _)); exact BK258.out)) : gb261 ≠ gb258)); clear HO_5; clear BK258; clear HB; have HO_5 := n0_; have BK258 := n1_; have HB := n2_; have BK261 := n3_; have GW261 := n4_; have GE261 := n5_; have NB258_261 := n6_; have NB261_258 := n7_; clear n0_ n1_ n2_ n3_ n4_ n5_ n6_ n7_; clear hb hbox hg; have hnb29 := NB261_258.out; have hnc29 := NB258_261.out; have hcz30_0 : w28.cell? ⟨gb261, 0, none⟩ = some (.string (⟨#[]⟩ : ByteArray)) := (blk_cell BK261.out 0).trans rfl; have hcz30_1 : w28.cell? ⟨gb261, 1, none⟩ = some (.string (⟨#[]⟩ : ByteArray)) := (blk_cell BK261.out 1).trans rfl; have hcz30_2 : w28.cell? ⟨gb261, 2, none⟩ = some (.string (⟨#[]⟩ : ByteArray)) := (blk_cell BK261.out 2).trans rfl; have hfz30_0 := blk_frozen BK261.out 0; have hfz30_1 := blk_frozen BK261.out 1; have hfz30_2 := blk_frozen BK261.out 2) | ((with_reducible refine gate_callee (f := 70) rfl ?_); refine goesL_ (some 47) rfl rfl Try.func70 (by kernel_rfl) rfl #[.agg #[.string ((rd_T88 ((rd_T91 l0 x18_1).f1) x41_3).f0), .string ((rd_T88 ((rd_T91 l0 x18_1).f1) x41_3).f1), .string ((rd_T88 ((rd_T91 l0 x18_1).f1) x41_3).f2)]] rfl (by (try simp only [List.map_toArray, List.map_cons, List.map_nil]); first | done | rfl | (simp only [List.length_drop, List.length_take]; rfl)) ?_; (with_reducible refine (impl_RuleAtom_ok.calls k3 ((rd_T88 ((rd_T91 l0 x18_1).f1) x41_3).f0) ((rd_T88 ((rd_T91 l0 x18_1).f1) x41_3).f1) ((rd_T88 ((rd_T91 l0 x18_1).f1) x41_3).f2) true _ ?sideG A25.out).mono ?_); (case sideG => first | exact HG | ((refine ⟨G_below HG.out ?_⟩); (repeat (first | (with_reducible first | exact HB.out | apply below_alloc | apply pw_below_drewN | apply below_drew1 | refine below_set ?_ GE258.out | refine below_set ?_ GE261.out) | exact HB.out)); done) | exact ⟨G_below HG.out HB.out⟩ | exact ⟨HG.out⟩); rintro e w31 ⟨rfl, hb⟩; refine ⟨_, rfl, ?_⟩; have n0_ := Aside0.mk (Kd.R_below (by (with_reducible repeat (first | apply Kd.R_alloc | apply Kd.R_drewN | apply Kd.R_drew)); exact (Kd.R_mono (Kd.R_far (p := ⟨gb261, 2, none⟩) (Kd.R_far (p := ⟨gb261, 1, none⟩) (Kd.R_far (p := ⟨gb261, 0, none⟩) (Kd.R_types HO_5.out BK261.out (by decide)) (fun _ hk => hk.2) (.string ((rd_T88 ((rd_T91 l0 x18_1).f1) x41_3).f0))) (fun _ hk => hk.2) (.string ((rd_T88 ((rd_T91 l0 x18_1).f1) x41_3).f1))) (fun _ hk => hk.2) (.string ((rd_T88 ((rd_T91 l0 x18_1).f1) x41_3).f2))) (fun _ h_ => h_.1))) hb); have n1_ := Aside0.mk (blk_below (g := gb258) (o := .cells #[.string ((rd_T91 l0 x18_1).f0.f0), .string ((rd_T91 l0 x18_1).f0.f1), .string ((rd_T91 l0 x18_1).f0.f2), .slice (some ad260) ((rd_T91 l0 x18_1).f1).length c257_3] 91 (0, 0)) (by (with_reducible repeat (first | refine blk_drewN ?_ _ | refine blk_drew ?_ | refine blk_alloc ?_ _)); refine blk_far ?_ NB258_261.out _; (with_reducible repeat (first | refine blk_drewN ?_ _ | refine blk_drew ?_ | refine blk_alloc ?_ _)); refine blk_far ?_ NB258_261.out _; (with_reducible repeat (first | refine blk_drewN ?_ _ | refine blk_drew ?_ | refine blk_alloc ?_ _)); refine blk_far ?_ NB258_261.out _; (with_reducible repeat (first | refine blk_drewN ?_ _ | refine blk_drew ?_ | refine blk_alloc ?_ _)); exact BK258.out) hb); have n2_ := Aside0.mk (blk_below (g := gb261) (o := .cells #[.string ((rd_T88 ((rd_T91 l0 x18_1).f1) x41_3).f0), .string ((rd_T88 ((rd_T91 l0 x18_1).f1) x41_3).f1), .string ((rd_T88 ((rd_T91 l0 x18_1).f1) x41_3).f2)] 88 (0, 0)) (by (with_reducible repeat (first | refine blk_drewN ?_ _ | refine blk_drew ?_ | refine blk_alloc ?_ _)); refine blk_put (cs := #[.string ((rd_T88 ((rd_T91 l0 x18_1).f1) x41_3).f0), .string ((rd_T88 ((rd_T91 l0 x18_1).f1) x41_3).f1), .string (⟨#[]⟩ : ByteArray)]) ?_ 2 _ rfl; (with_reducible repeat (first | refine blk_drewN ?_ _ | refine blk_drew ?_ | refine blk_alloc ?_ _)); refine blk_put (cs := #[.string ((rd_T88 ((rd_T91 l0 x18_1).f1) x41_3).f0), .string (⟨#[]⟩ : ByteArray), .string (⟨#[]⟩ : ByteArray)]) ?_ 1 _ rfl; (with_reducible repeat (first | refine blk_drewN ?_ _ | refine blk_drew ?_ | refine blk_alloc ?_ _)); refine blk_put (cs := #[.string (⟨#[]⟩ : ByteArray), .string (⟨#[]⟩ : ByteArray), .string (⟨#[]⟩ : ByteArray)]) ?_ 0 _ rfl; (with_reducible repeat (first | refine blk_drewN ?_ _ | refine blk_drew ?_ | refine blk_alloc ?_ _)); exact BK261.out) hb); have n3_ := Aside0.mk (below_step (by repeat (first | (with_reducible first | exact HB.out | apply below_alloc | apply pw_below_drewN | apply below_drew1 | refine below_set ?_ GE258.out | refine below_set ?_ GE261.out) | exact HB.out)) hb); clear HO_5; clear BK258; clear BK261; clear HB; have HO_5 := n0_; have BK258 := n1_; have BK261 := n2_; have HB := n3_; clear n0_ n1_ n2_ n3_; (try clear hb); (try clear hb2); (try clear hk); (try clear hi); have hcz32_0 : w31.cell? ⟨gb261, 0, none⟩ = some (.string ((rd_T88 ((rd_T91 l0 x18_1).f1) x41_3).f0)) := (blk_cell BK261.out 0).trans rfl; have hcz32_1 : w31.cell? ⟨gb261, 1, none⟩ = some (.string ((rd_T88 ((rd_T91 l0 x18_1).f1) x41_3).f1)) := (blk_cell BK261.out 1).trans rfl; have hcz32_2 : w31.cell? ⟨gb261, 2, none⟩ = some (.string ((rd_T88 ((rd_T91 l0 x18_1).f1) x41_3).f2)) := (blk_cell BK261.out 2).trans rfl; have hfz32_0 := blk_frozen BK261.out 0; have hfz32_1 := blk_frozen BK261.out 1; have hfz32_2 := blk_frozen BK261.out 2) | ((with_reducible refine gate_callee (f := 71) rfl ?_); refine goesL_ (some 52) rfl rfl Try.func71 (by kernel_rfl) rfl #[.agg #[.string ((rd_T88 ((rd_T91 l0 x18_1).f1) x41_3).f0), .string ((rd_T88 ((rd_T91 l0 x18_1).f1) x41_3).f1), .string ((rd_T88 ((rd_T91 l0 x18_1).f1) x41_3).f2)]] rfl (by (try simp only [List.map_toArray, List.map_cons, List.map_nil]); first | done | rfl | (simp only [List.length_drop, List.length_take]; rfl)) ?_; (with_reducible refine (impl_RuleAtom_vars.calls ((rd_T88 ((rd_T91 l0 x18_1).f1) x41_3).f0) ((rd_T88 ((rd_T91 l0 x18_1).f1) x41_3).f1) ((rd_T88 ((rd_T91 l0 x18_1).f1) x41_3).f2) t263 _ A27.out).mono ?_); rintro e w33 ⟨v264, rfl, ho0, hb⟩; refine ⟨_, rfl, ?_⟩; have n0_ := Aside0.mk (Kd.R_elder' (by (with_reducible repeat (first | apply Kd.R_alloc | apply Kd.R_drewN | apply Kd.R_drew)); exact HO_5.out) (Kd.R_base ho0) hb); have n1_ := Aside0.mk (Kd.R_lower (Kd.R_new' ho0 (Kd.R_lt (by (with_reducible repeat (first | apply Kd.R_alloc | apply Kd.R_drewN | apply Kd.R_drew)); exact HO_5.out))) (below_size (by repeat (first | (with_reducible first | exact HB.out | apply below_alloc | apply pw_below_drewN | apply below_drew1 | refine below_set ?_ GE258.out | refine below_set ?_ GE261.out) | exact HB.out)))); have n2_ := Aside0.mk (blk_below (g := gb258) (o := .cells #[.string ((rd_T91 l0 x18_1).f0.f0), .string ((rd_T91 l0 x18_1).f0.f1), .string ((rd_T91 l0 x18_1).f0.f2), .slice (some ad260) ((rd_T91 l0 x18_1).f1).length c257_3] 91 (0, 0)) (by (with_reducible repeat (first | refine blk_drewN ?_ _ | refine blk_drew ?_ | refine blk_alloc ?_ _)); exact BK258.out) hb); have n3_ := Aside0.mk (blk_below (g := gb261) (o := .cells #[.string ((rd_T88 ((rd_T91 l0 x18_1).f1) x41_3).f0), .string ((rd_T88 ((rd_T91 l0 x18_1).f1) x41_3).f1), .string ((rd_T88 ((rd_T91 l0 x18_1).f1) x41_3).f2)] 88 (0, 0)) (by (with_reducible repeat (first | refine blk_drewN ?_ _ | refine blk_drew ?_ | refine blk_alloc ?_ _)); exact BK261.out) hb); have n4_ := Aside0.mk (below_step (by repeat (first | (with_reducible first | exact HB.out | apply below_alloc | apply pw_below_drewN | apply below_drew1 | refine below_set ?_ GE258.out | refine below_set ?_ GE261.out) | exact HB.out)) hb); clear HO_5; clear BK258; clear BK261; clear HB; have HO_5 := n0_; have HO265 := n1_; have BK258 := n2_; have BK261 := n3_; have HB := n4_; clear n0_ n1_ n2_ n3_ n4_; (try clear hb); (try clear hb2); (try clear hk); (try clear hi); (try clear ho0); obtain ⟨Ao34, co34, eo34⟩ := Kd.R_slice HO265.out; subst eo34))
                go_loopg [8, 54] k3 (fun kq v8 v54 w' => ∃ (x8_4 : Bool) (x54_4 : Int), v8 = .bool x8_4 ∧ v54 = .int .i64 x54_4 ∧ Aside0 (impl_rulesRight.l2 kq x5_3 x8_4 l0 (l0.length : Int) x18_1 ((rd_T91 l0 x18_1).f1) (((rd_T91 l0 x18_1).f1).length : Int) x41_3 t263 (t263.length : Int) x54_4 ((rd_T91 l0 x18_1).f0.f0) ((rd_T91 l0 x18_1).f0.f1) ((rd_T91 l0 x18_1).f0.f2) ((rd_T91 l0 x18_1).f1) ((rd_T88 ((rd_T91 l0 x18_1).f1) x41_3).f0) ((rd_T88 ((rd_T91 l0 x18_1).f1) x41_3).f1) ((rd_T88 ((rd_T91 l0 x18_1).f1) x41_3).f2) = some r) ∧ Aside0 (kq ≤ k3) ∧ Aside0 (Kd.R Kd.string 9 w' w.heap.size (fun k_ => some k_ ≠ ((.slice Ao34 t263.length co34) : Value).ownBlock) u5 x5_3) ∧ Aside0 (Kd.R Kd.string 9 w' w.heap.size (fun k_ => some k_ ≠ (u5 : Value).ownBlock) (.slice Ao34 t263.length co34) t263) ∧ Aside0 (w'.heap[gb258]? = some (.cells #[.string ((rd_T91 l0 x18_1).f0.f0), .string ((rd_T91 l0 x18_1).f0.f1), .string ((rd_T91 l0 x18_1).f0.f2), (.slice (some ad260) ((rd_T91 l0 x18_1).f1).length c257_3)] 91 (0, 0))) ∧ Aside0 (w'.heap[gb261]? = some (.cells #[.string ((rd_T88 ((rd_T91 l0 x18_1).f1) x41_3).f0), .string ((rd_T88 ((rd_T91 l0 x18_1).f1) x41_3).f1), .string ((rd_T88 ((rd_T91 l0 x18_1).f1) x41_3).f2)] 88 (0, 0))) ∧ Aside0 (Below w.heap.size w w'))
                case atStart => exact ⟨((x41_3 == 0)), (0), (by first | rfl | (simp; done) | (simp [*]; done)), (by first | rfl | (simp; done) | (simp [*]; done)), H', ⟨Nat.le_refl _⟩, ⟨by (with_reducible repeat (first | apply Kd.R_alloc | apply Kd.R_drewN | apply Kd.R_drew)); exact Kd.R_mono HO_5.out (fun _ hk => hk.2)⟩, ⟨by (with_reducible repeat (first | apply Kd.R_alloc | apply Kd.R_drewN | apply Kd.R_drew)); exact Kd.R_mono HO265.out (fun _ hk => hk.2)⟩, ⟨by (with_reducible repeat (first | refine blk_drewN ?_ _ | refine blk_drew ?_ | refine blk_alloc ?_ _)); exact BK258.out⟩, ⟨by (with_reducible repeat (first | refine blk_drewN ?_ _ | refine blk_drew ?_ | refine blk_alloc ?_ _)); exact BK261.out⟩, ⟨by repeat (first | (with_reducible first | exact HB.out | apply below_alloc | apply pw_below_drewN | apply below_drew1 | refine below_set ?_ GE258.out | refine below_set ?_ GE261.out) | exact HB.out)⟩⟩
                case round =>
                 clear H'
                 try clear c1
                 try clear c2
                 try clear c2b0
                 try clear c2b1
                 try clear p2
                 try clear q2
                 try clear hx2
                 try clear c3
                 try clear c3b0
                 try clear c4
                 try clear c4b0
                 try clear c5
                 try clear c5b0
                 try clear c7
                 try clear c10
                 try clear c11
                 try clear c11b0
                 try clear c11b1
                 try clear c20
                 try clear c22
                 try clear c22b0
                 try clear c23
                 try clear c23b0
                 try clear c24
                 try clear c24b0
                 try clear c25
                 try clear p25
                 try clear q25
                 try clear hx25
                 try clear c26
                 try clear p26
                 try clear q26
                 try clear hx26
                 try clear c29
                 try clear hcz12_0
                 try clear hcz12_1
                 try clear hcz12_2
                 try clear hcz12_3
                 try clear hcz14_0
                 try clear hcz14_1
                 try clear hcz14_2
                 try clear hcz14_3
                 try clear hcz15_0
                 try clear hcz15_1
                 try clear hcz15_2
                 try clear hcz15_3
                 try clear hcz17_0
                 try clear hcz17_1
                 try clear hcz17_2
                 try clear hcz17_3
                 try clear hcz18_0
                 try clear hcz18_1
                 try clear hcz18_2
                 try clear hcz18_3
                 try clear hcz21_0
                 try clear hcz21_1
                 try clear hcz21_2
                 try clear hcz21_3
                 try clear hcz30_0
                 try clear hcz30_1
                 try clear hcz30_2
                 try clear hcz32_0
                 try clear hcz32_1
                 try clear hcz32_2
                 try clear hcz8_0
                 try clear hcz8_1
                 try clear hcz8_2
                 try clear hcz8_3
                 try clear hfz12_0
                 try clear hfz12_1
                 try clear hfz12_2
                 try clear hfz12_3
                 try clear hfz14_0
                 try clear hfz14_1
                 try clear hfz14_2
                 try clear hfz14_3
                 try clear hfz15_0
                 try clear hfz15_1
                 try clear hfz15_2
                 try clear hfz15_3
                 try clear hfz17_0
                 try clear hfz17_1
                 try clear hfz17_2
                 try clear hfz17_3
                 try clear hfz18_0
                 try clear hfz18_1
                 try clear hfz18_2
                 try clear hfz18_3
                 try clear hfz21_0
                 try clear hfz21_1
                 try clear hfz21_2
                 try clear hfz21_3
                 try clear hfz30_0
                 try clear hfz30_1
                 try clear hfz30_2
                 try clear hfz32_0
                 try clear hfz32_1
                 try clear hfz32_2
                 try clear hfz8_0
                 try clear hfz8_1
                 try clear hfz8_2
                 try clear hfz8_3
                 try clear hx257_0
                 try clear hx257_1
                 try clear hx257_2
                 try clear hx257_3
                 try clear hx260_0
                 try clear hx260_1
                 try clear hx260_2
                 try clear p2
                 try clear p257
                 try clear p260
                 try clear q2
                 try clear q257
                 try clear q260
                 obtain ⟨x8_4, x54_4, rfl, rfl, HA, HK4, HO_5, HO_52, BK258, BK261, HB⟩ := hrel
                 cases gk with
                 | zero => exact absurd HA.out (by simp [impl_rulesRight.l2])
                 | succ k4 =>
                  have H := HA.out
                  clear HA
                  simp only [impl_rulesRight.l2] at H
                  by_cases c35 : x54_4 < (t263.length : Int)
                  ·rw [if_pos c35] at H
                   have c35b0 : decide (x54_4 < (t263.length : Int)) = true := decide_eq_true c35
                   clear c35
                   by_cases c36 : 0 ≤ x54_4
                   ·rw [if_pos c36] at H
                    have c36b0 : decide (0 ≤ x54_4) = true := decide_eq_true c36
                    clear c36
                    by_cases c37 : x54_4 < (t263.length : Int)
                    ·rw [if_pos c37] at H
                     have c37b0 : decide (x54_4 < (t263.length : Int)) = true := decide_eq_true c37
                     clear c37
                     by_cases c38 : x8_4 = true
                     ·subst c38
                      have H1 : (impl_rulesRight.l2 k4 x5_3 true l0 (l0.length : Int) x18_1 ((rd_T91 l0 x18_1).f1) (((rd_T91 l0 x18_1).f1).length : Int) x41_3 t263 (t263.length : Int) (wrap64 (x54_4 + 1)) ((rd_T91 l0 x18_1).f0.f0) ((rd_T91 l0 x18_1).f0.f1) ((rd_T91 l0 x18_1).f0.f2) ((rd_T91 l0 x18_1).f1) ((rd_T88 ((rd_T91 l0 x18_1).f1) x41_3).f0) ((rd_T88 ((rd_T91 l0 x18_1).f1) x41_3).f1) ((rd_T88 ((rd_T91 l0 x18_1).f1) x41_3).f2)) = some r := by rw [if_pos rfl] at H; exact H
                      clear H
                      have H := H1
                      clear H1
                      have H' := Aside0.mk H
                      clear H
                      have p266 : 0 ≤ (x54_4 : Int) := of_decide_eq_true (by first | (with_reducible assumption) | assumption)
                      have q266 : x54_4 < (t263.length : Int) := of_decide_eq_true (by first | (with_reducible assumption) | assumption)
                      obtain ⟨ad266, e266, hx266_0⟩ := Kd.at_string (Kd.R_reads' HO_52.out).2.2 x54_4 p266 q266
                      cases e266
                      replace p266 := eq_true p266
                      replace q266 := eq_true q266
                      go_wp2
                      go_roundg k4
                      case measure => have := HK1.out; have := HJ5.out; have := HK3.out; have := HK4.out; omega
                      case rel => exact ⟨(true), (wrap64 (x54_4 + 1)), (by first | rfl | (simp; done) | (simp [*]; done)), (by first | rfl | (simp; done) | (simp [*]; done)), H', ⟨by have := HK1.out; have := HJ5.out; have := HK3.out; have := HK4.out; omega⟩, ⟨by (with_reducible repeat (first | apply Kd.R_alloc | apply Kd.R_drewN | apply Kd.R_drew)); exact HO_5.out⟩, ⟨by (with_reducible repeat (first | apply Kd.R_alloc | apply Kd.R_drewN | apply Kd.R_drew)); exact HO_52.out⟩, ⟨by (with_reducible repeat (first | refine blk_drewN ?_ _ | refine blk_drew ?_ | refine blk_alloc ?_ _)); exact BK258.out⟩, ⟨by (with_reducible repeat (first | refine blk_drewN ?_ _ | refine blk_drew ?_ | refine blk_alloc ?_ _)); exact BK261.out⟩, ⟨by repeat (first | (with_reducible first | exact HB.out | apply below_alloc | apply pw_below_drewN | apply below_drew1 | refine below_set ?_ GE258.out | refine below_set ?_ GE261.out) | exact HB.out)⟩⟩
                     ·replace c38 := Bool.eq_false_iff.mpr c38
                      subst c38
                      have H1 : ((slices_Contains_string_string.f k4 x5_3 (rdOf ByteArray.empty t263 x54_4)).bind fun t267 => (impl_rulesRight.l2 k4 x5_3 t267 l0 (l0.length : Int) x18_1 ((rd_T91 l0 x18_1).f1) (((rd_T91 l0 x18_1).f1).length : Int) x41_3 t263 (t263.length : Int) (wrap64 (x54_4 + 1)) ((rd_T91 l0 x18_1).f0.f0) ((rd_T91 l0 x18_1).f0.f1) ((rd_T91 l0 x18_1).f0.f2) ((rd_T91 l0 x18_1).f1) ((rd_T88 ((rd_T91 l0 x18_1).f1) x41_3).f0) ((rd_T88 ((rd_T91 l0 x18_1).f1) x41_3).f1) ((rd_T88 ((rd_T91 l0 x18_1).f1) x41_3).f2))) = some r := by rw [if_neg (show ¬ (false = true) by decide)] at H; exact H
                      clear H
                      have H := H1
                      clear H1
                      replace H := Option.bind_eq_some_iff.mp H
                      obtain ⟨t267, A390, H⟩ := H
                      replace H : (impl_rulesRight.l2 k4 x5_3 t267 l0 (l0.length : Int) x18_1 ((rd_T91 l0 x18_1).f1) (((rd_T91 l0 x18_1).f1).length : Int) x41_3 t263 (t263.length : Int) (wrap64 (x54_4 + 1)) ((rd_T91 l0 x18_1).f0.f0) ((rd_T91 l0 x18_1).f0.f1) ((rd_T91 l0 x18_1).f0.f2) ((rd_T91 l0 x18_1).f1) ((rd_T88 ((rd_T91 l0 x18_1).f1) x41_3).f0) ((rd_T88 ((rd_T91 l0 x18_1).f1) x41_3).f1) ((rd_T88 ((rd_T91 l0 x18_1).f1) x41_3).f2)) = some r := H
                      have A39 := Aside0.mk A390
                      clear A390
                      have H' := Aside0.mk H
                      clear H
                      have p266 : 0 ≤ (x54_4 : Int) := of_decide_eq_true (by first | (with_reducible assumption) | assumption)
                      have q266 : x54_4 < (t263.length : Int) := of_decide_eq_true (by first | (with_reducible assumption) | assumption)
                      obtain ⟨ad266, e266, hx266_0⟩ := Kd.at_string (Kd.R_reads' HO_52.out).2.2 x54_4 p266 q266
                      cases e266
                      replace p266 := eq_true p266
                      replace q266 := eq_true q266
                      obtain ⟨Ao40, co40, eo40⟩ := Kd.R_slice HO_5.out
                      subst eo40
                      go_wp2_with (first | (go_at_call 55; (with_reducible refine (slices_Contains_string_string.calls k4 _ _ x5_3 (rdOf ByteArray.empty t263 x54_4) t267 _ ?side1 ?side2 A39.out).mono ?_); (case side1 => repeat (first | exact (Kd.R_reads' HO_5.out).2.2 | (with_reducible refine Kd.C_alloc ?_ _) | (with_reducible refine Kd.C_drewN ?_ _) | (with_reducible refine Kd.C_drew ?_))); (case side2 => exact (Kd.R_reads' HO_5.out).2.1); rintro e w' ⟨rfl, ⟨nd, rfl⟩⟩))
                      go_roundg k4
                      case measure => have := HK1.out; have := HJ5.out; have := HK3.out; have := HK4.out; omega
                      case rel => exact ⟨(t267), (wrap64 (x54_4 + 1)), (by first | rfl | (simp; done) | (simp [*]; done)), (by first | rfl | (simp; done) | (simp [*]; done)), H', ⟨by have := HK1.out; have := HJ5.out; have := HK3.out; have := HK4.out; omega⟩, ⟨by (with_reducible repeat (first | apply Kd.R_alloc | apply Kd.R_drewN | apply Kd.R_drew)); exact HO_5.out⟩, ⟨by (with_reducible repeat (first | apply Kd.R_alloc | apply Kd.R_drewN | apply Kd.R_drew)); exact HO_52.out⟩, ⟨by (with_reducible repeat (first | refine blk_drewN ?_ _ | refine blk_drew ?_ | refine blk_alloc ?_ _)); exact BK258.out⟩, ⟨by (with_reducible repeat (first | refine blk_drewN ?_ _ | refine blk_drew ?_ | refine blk_alloc ?_ _)); exact BK261.out⟩, ⟨by repeat (first | (with_reducible first | exact HB.out | apply below_alloc | apply pw_below_drewN | apply below_drew1 | refine below_set ?_ GE258.out | refine below_set ?_ GE261.out) | exact HB.out)⟩⟩
                    ·rw [if_neg c37] at H
                     exact absurd H (by simp)
                   ·rw [if_neg c36] at H
                    exact absurd H (by simp)
                  ·rw [if_neg c35] at H
                   have c35b0 : decide (x54_4 < (t263.length : Int)) = false := decide_eq_false c35
                   clear c35
                   by_cases c41 : x8_4 = true
                   ·subst c41
                    have H1 : ((impl_RuleAtom_vars.f ((rd_T88 ((rd_T91 l0 x18_1).f1) x41_3).f0) ((rd_T88 ((rd_T91 l0 x18_1).f1) x41_3).f1) ((rd_T88 ((rd_T91 l0 x18_1).f1) x41_3).f2)).bind fun t268 => (if x5_3.length + t268.length < 8796093022208 then (impl_rulesRight.l1 k4 (x5_3 ++ t268) l0 (l0.length : Int) x18_1 ((rd_T91 l0 x18_1).f1) (((rd_T91 l0 x18_1).f1).length : Int) (wrap64 (x41_3 + 1)) ((rd_T91 l0 x18_1).f0.f0) ((rd_T91 l0 x18_1).f0.f1) ((rd_T91 l0 x18_1).f0.f2) ((rd_T91 l0 x18_1).f1)) else (none))) = some r := by rw [if_pos rfl] at H; exact H
                    clear H
                    have H := H1
                    clear H1
                    replace H := Option.bind_eq_some_iff.mp H
                    obtain ⟨t268, A420, H⟩ := H
                    replace H : (if x5_3.length + t268.length < 8796093022208 then (impl_rulesRight.l1 k4 (x5_3 ++ t268) l0 (l0.length : Int) x18_1 ((rd_T91 l0 x18_1).f1) (((rd_T91 l0 x18_1).f1).length : Int) (wrap64 (x41_3 + 1)) ((rd_T91 l0 x18_1).f0.f0) ((rd_T91 l0 x18_1).f0.f1) ((rd_T91 l0 x18_1).f0.f2) ((rd_T91 l0 x18_1).f1)) else (none)) = some r := H
                    have A42 := Aside0.mk A420
                    clear A420
                    by_cases c43 : x5_3.length + t268.length < 8796093022208
                    ·rw [if_pos c43] at H
                     have LMc43 := Aside0.mk c43
                     clear c43
                     obtain ⟨y271, hy271⟩ : ∃ y_ : List ByteArray, y_ = (x5_3 ++ t268) := ⟨_, rfl⟩
                     replace H : (impl_rulesRight.l1 k4 y271 l0 (l0.length : Int) x18_1 ((rd_T91 l0 x18_1).f1) (((rd_T91 l0 x18_1).f1).length : Int) (wrap64 (x41_3 + 1)) ((rd_T91 l0 x18_1).f0.f0) ((rd_T91 l0 x18_1).f0.f1) ((rd_T91 l0 x18_1).f0.f2) ((rd_T91 l0 x18_1).f1)) = some r := by first | (rw [hy271]; with_reducible exact H) | (have H2_ := (Option.bind_some _ _).symm.trans H; rw [hy271]; with_reducible exact H2_) | (have H2_ := (Option.bind_some _ _).symm.trans H; with_reducible exact H2_) | with_reducible exact H | (rw [hy271]; exact H) | exact H
                     have Ny271 := Aside0.mk hy271
                     clear hy271
                     have H' := Aside0.mk H
                     clear H
                     have hnb44 := NB261_258.out
                     have hnc44 := NB258_261.out
                     have hcz45_0 : wr.cell? ⟨gb261, 0, none⟩ = some (.string ((rd_T88 ((rd_T91 l0 x18_1).f1) x41_3).f0)) := (blk_cell BK261.out 0).trans rfl
                     have hcz45_1 : wr.cell? ⟨gb261, 1, none⟩ = some (.string ((rd_T88 ((rd_T91 l0 x18_1).f1) x41_3).f1)) := (blk_cell BK261.out 1).trans rfl
                     have hcz45_2 : wr.cell? ⟨gb261, 2, none⟩ = some (.string ((rd_T88 ((rd_T91 l0 x18_1).f1) x41_3).f2)) := (blk_cell BK261.out 2).trans rfl
                     have hfz45_0 := blk_frozen BK261.out 0
                     have hfz45_1 := blk_frozen BK261.out 1
                     have hfz45_2 := blk_frozen BK261.out 2
                     go_wp2_with (first | ((with_reducible refine gate_callee (f := 71) rfl ?_); refine goesL_ (some 69) rfl rfl Try.func71 (by kernel_rfl) rfl #[.agg #[.string ((rd_T88 ((rd_T91 l0 x18_1).f1) x41_3).f0), .string ((rd_T88 ((rd_T91 l0 x18_1).f1) x41_3).f1), .string ((rd_T88 ((rd_T91 l0 x18_1).f1) x41_3).f2)]] rfl (by (try simp only [List.map_toArray, List.map_cons, List.map_nil]); first | done | rfl | (simp only [List.length_drop, List.length_take]; rfl)) ?_; (with_reducible refine (impl_RuleAtom_vars.calls ((rd_T88 ((rd_T91 l0 x18_1).f1) x41_3).f0) ((rd_T88 ((rd_T91 l0 x18_1).f1) x41_3).f1) ((rd_T88 ((rd_T91 l0 x18_1).f1) x41_3).f2) t268 _ A42.out).mono ?_); rintro e w46 ⟨v269, rfl, ho0, hb⟩; refine ⟨_, rfl, ?_⟩; have n0_ := Aside0.mk (Kd.R_elder' (by (with_reducible repeat (first | apply Kd.R_alloc | apply Kd.R_drewN | apply Kd.R_drew)); exact HO_5.out) (Kd.R_base ho0) hb); have n1_ := Aside0.mk (Kd.R_elder' (by (with_reducible repeat (first | apply Kd.R_alloc | apply Kd.R_drewN | apply Kd.R_drew)); exact HO_52.out) (Kd.R_base ho0) hb); have n2_ := Aside0.mk (Kd.R_lower (Kd.R_new' (Kd.R_new' ho0 (Kd.R_lt (by (with_reducible repeat (first | apply Kd.R_alloc | apply Kd.R_drewN | apply Kd.R_drew)); exact HO_5.out))) (Kd.R_lt (by (with_reducible repeat (first | apply Kd.R_alloc | apply Kd.R_drewN | apply Kd.R_drew)); exact HO_52.out))) (below_size (by repeat (first | (with_reducible first | exact HB.out | apply below_alloc | apply pw_below_drewN | apply below_drew1 | refine below_set ?_ GE258.out | refine below_set ?_ GE261.out) | exact HB.out)))); have n3_ := Aside0.mk (blk_below (g := gb258) (o := .cells #[.string ((rd_T91 l0 x18_1).f0.f0), .string ((rd_T91 l0 x18_1).f0.f1), .string ((rd_T91 l0 x18_1).f0.f2), .slice (some ad260) ((rd_T91 l0 x18_1).f1).length c257_3] 91 (0, 0)) (by (with_reducible repeat (first | refine blk_drewN ?_ _ | refine blk_drew ?_ | refine blk_alloc ?_ _)); exact BK258.out) hb); have n4_ := Aside0.mk (blk_below (g := gb261) (o := .cells #[.string ((rd_T88 ((rd_T91 l0 x18_1).f1) x41_3).f0), .string ((rd_T88 ((rd_T91 l0 x18_1).f1) x41_3).f1), .string ((rd_T88 ((rd_T91 l0 x18_1).f1) x41_3).f2)] 88 (0, 0)) (by (with_reducible repeat (first | refine blk_drewN ?_ _ | refine blk_drew ?_ | refine blk_alloc ?_ _)); exact BK261.out) hb); have n5_ := Aside0.mk (below_step (by repeat (first | (with_reducible first | exact HB.out | apply below_alloc | apply pw_below_drewN | apply below_drew1 | refine below_set ?_ GE258.out | refine below_set ?_ GE261.out) | exact HB.out)) hb); clear HO_5; clear HO_52; clear BK258; clear BK261; clear HB; have HO_5 := n0_; have HO_52 := n1_; have HO270 := n2_; have BK258 := n3_; have BK261 := n4_; have HB := n5_; clear n0_ n1_ n2_ n3_ n4_ n5_; (try clear hb); (try clear hb2); (try clear hk); (try clear hi); (try clear ho0); obtain ⟨Ao48, co48, eo48⟩ := Kd.R_slice HO270.out; subst eo48) | ((with_reducible refine gate_builtin (b := .append) (xs := #[.tmp 67, .tmp 69]) rfl ?_); (try (refine gate_guard (by rfl) ?_; dsimp only)); at_builtin; refine Kd.R_append_rows Kd.string (w0 := w) w.heap.size rfl (.tmp 67) (.tmp 69) 24 9 (.string ⟨#[]⟩) 16 rfl Try.underlying24 info9 rfl (by decide) (by omega) u5 x5_3 t268 _ _ _ (fun k_ => some k_ ≠ (.slice Ao34 t263.length co34 : Value).ownBlock ∧ some k_ ≠ (.slice Ao48 t268.length co48 : Value).ownBlock) (fun _ => False) rfl rfl ?aO ?aR (fun _ _ h => h) (fun _ h => h.elim) ?aF ?aB ?aS ?aL ?_; (case aR => repeat (first | exact (Kd.R_reads' HO270.out).2.2 | (with_reducible refine Kd.C_alloc ?_ _) | (with_reducible refine Kd.C_drewN ?_ _) | (with_reducible refine Kd.C_drew ?_))); (case aB => exact (by repeat (first | (with_reducible first | exact HB.out | apply below_alloc | apply pw_below_drewN | apply below_drew1 | refine below_set ?_ GE258.out | refine below_set ?_ GE261.out) | exact HB.out))); (case aF => exact (fun k_ hk => ⟨Kd.fresh' (Kd.R_lt (by (with_reducible repeat (first | apply Kd.R_alloc | apply Kd.R_drewN | apply Kd.R_drew)); exact HO_52.out)) k_ hk, Kd.fresh' (Kd.R_lt (by (with_reducible repeat (first | apply Kd.R_alloc | apply Kd.R_drewN | apply Kd.R_drew)); exact HO270.out)) k_ hk⟩)); (case aO => exact (by (with_reducible repeat (first | apply Kd.R_alloc | apply Kd.R_drewN | apply Kd.R_drew)); exact HO_5.out)); (case aS => exact (below_size (by repeat (first | (with_reducible first | exact HB.out | apply below_alloc | apply pw_below_drewN | apply below_drew1 | refine below_set ?_ GE258.out | refine below_set ?_ GE261.out) | exact HB.out)))); (case aL => have := LMc43.out; omega); intro v272 w47 ho hb hg hat; rw [← Ny271.out] at ho; have n0_ := Aside0.mk (Kd.R_after (ok := (fun k_ => some k_ ≠ (.slice Ao48 t268.length co48 : Value).ownBlock)) (by (with_reducible repeat (first | apply Kd.R_alloc | apply Kd.R_drewN | apply Kd.R_drew)); exact Kd.R_mono HO_52.out (fun _ hk => ⟨hk.2, hk.1⟩)) hg hat); have n1_ := Aside0.mk (blk_grown (g := gb258) (o := .cells #[.string ((rd_T91 l0 x18_1).f0.f0), .string ((rd_T91 l0 x18_1).f0.f1), .string ((rd_T91 l0 x18_1).f0.f2), .slice (some ad260) ((rd_T91 l0 x18_1).f1).length c257_3] 91 (0, 0)) (by (with_reducible repeat (first | refine blk_drewN ?_ _ | refine blk_drew ?_ | refine blk_alloc ?_ _)); exact BK258.out) hg (Kd.R_ne HO_5.out BK258.out (by decide))); have n2_ := Aside0.mk (blk_grown (g := gb261) (o := .cells #[.string ((rd_T88 ((rd_T91 l0 x18_1).f1) x41_3).f0), .string ((rd_T88 ((rd_T91 l0 x18_1).f1) x41_3).f1), .string ((rd_T88 ((rd_T91 l0 x18_1).f1) x41_3).f2)] 88 (0, 0)) (by (with_reducible repeat (first | refine blk_drewN ?_ _ | refine blk_drew ?_ | refine blk_alloc ?_ _)); exact BK261.out) hg (Kd.R_ne HO_5.out BK261.out (by decide))); have n3_ := Aside0.mk (Kd.R_after (ok := (fun k_ => some k_ ≠ (.slice Ao34 t263.length co34 : Value).ownBlock)) (by (with_reducible repeat (first | apply Kd.R_alloc | apply Kd.R_drewN | apply Kd.R_drew)); exact Kd.R_mono HO270.out (fun _ hk => ⟨hk.2, hk.1.2⟩)) hg hat); have n4_ := Aside0.mk (hb); have n5_ := Aside0.mk (ho); clear HO_52; clear BK258; clear BK261; clear HO270; clear HB; clear HO_5; have HO_52 := n0_; have BK258 := n1_; have BK261 := n2_; have HO270 := n3_; have HB := n4_; have HO273 := n5_; clear n0_ n1_ n2_ n3_ n4_ n5_; clear ho hb hg hat))
                     go_roundg k4
                     case measure => have := HK1.out; have := HJ5.out; have := HK3.out; have := HK4.out; omega
                     case rel => exact ⟨(y271), (wrap64 (x41_3 + 1)), (by first | rfl | (simp; done) | (simp [*]; done)), H', ⟨by have := HK1.out; have := HJ5.out; have := HK3.out; have := HK4.out; omega⟩, ⟨by (with_reducible repeat (first | apply Kd.R_alloc | apply Kd.R_drewN | apply Kd.R_drew)); exact Kd.R_mono HO273.out (fun _ hk => trivial)⟩, ⟨by (with_reducible repeat (first | refine blk_drewN ?_ _ | refine blk_drew ?_ | refine blk_alloc ?_ _)); exact BK258.out⟩, ⟨by repeat (first | (with_reducible first | exact HB.out | apply below_alloc | apply pw_below_drewN | apply below_drew1 | refine below_set ?_ GE258.out | refine below_set ?_ GE261.out) | exact HB.out)⟩⟩
                    ·rw [if_neg c43] at H
                     exact absurd H (by simp)
                   ·replace c41 := Bool.eq_false_iff.mpr c41
                    subst c41
                    have H1 : (some false) = some r := by rw [if_neg (show ¬ (false = true) by decide)] at H; exact H
                    clear H
                    have H := H1
                    clear H1
                    obtain rfl := Option.some.inj H
                    go_wp2
                    go_ret
                    exact ⟨by first | rfl | (simp [errW_none, errW_some] <;> rfl) | (simp [*, errW_none, errW_some] <;> rfl), by repeat (first | (with_reducible first | exact HB.out | apply below_alloc | apply pw_below_drewN | apply below_drew1 | refine below_set ?_ GE258.out | refine below_set ?_ GE261.out) | exact HB.out)⟩
               ·replace c26 := Bool.eq_false_iff.mpr c26
                subst c26
                have H1 : (some false) = some r := by rw [if_neg (show ¬ (false = true) by decide)] at H; exact H
                clear H
                have H := H1
                clear H1
                obtain rfl := Option.some.inj H
                have p260 : 0 ≤ (x41_3 : Int) := of_decide_eq_true (by first | (with_reducible assumption) | assumption)
                have q260 : x41_3 < (((rd_T91 l0 x18_1).f1).length : Int) := of_decide_eq_true (by first | (with_reducible assumption) | assumption)
                obtain ⟨ad260, e260, hx260_0, hx260_1, hx260_2⟩ := at_T88 HR257_3.out x41_3 p260 q260
                cases e260
                replace hx260_0 := (HB.out.cell (World.block_lt_of_cell? w _ hx260_0)).trans hx260_0
                replace hx260_1 := (HB.out.cell (World.block_lt_of_cell? w _ hx260_1)).trans hx260_1
                replace hx260_2 := (HB.out.cell (World.block_lt_of_cell? w _ hx260_2)).trans hx260_2
                replace p260 := eq_true p260
                replace q260 := eq_true q260
                go_wp2_with (first | ((with_reducible refine gate_dst (N := 7) rfl ?_); (try (refine gate_guard (by rfl) ?_; dsimp only)); refine box_event ?hg (N := 7) ?hd (cs := #[.string (⟨#[]⟩ : ByteArray), .string (⟨#[]⟩ : ByteArray), .string (⟨#[]⟩ : ByteArray)]) (t := 88) ?hr ?_; (case hd => rfl); (case hg => rfl); (case hr => first | (go_simp; done) | (go_simp; rfl)); intro gb261 hg w49 hbox hb; have n0_ := Aside0.mk (Kd.R_below (by (with_reducible repeat (first | apply Kd.R_alloc | apply Kd.R_drewN | apply Kd.R_drew)); exact HO_5.out) hb); have n1_ := Aside0.mk (blk_below (g := gb258) (o := .cells #[.string ((rd_T91 l0 x18_1).f0.f0), .string ((rd_T91 l0 x18_1).f0.f1), .string ((rd_T91 l0 x18_1).f0.f2), .slice (some ad260) ((rd_T91 l0 x18_1).f1).length c257_3] 91 (0, 0)) (by (with_reducible repeat (first | refine blk_drewN ?_ _ | refine blk_drew ?_ | refine blk_alloc ?_ _)); exact BK258.out) hb); have n2_ := Aside0.mk (below_step (by repeat (first | (with_reducible first | exact HB.out | apply below_alloc | apply pw_below_drewN | apply below_drew1 | refine below_set ?_ GE258.out) | exact HB.out)) hb); have n3_ := Aside0.mk (hbox); have n4_ := Aside0.mk ((by rw [hg]; exact (below_size (by repeat (first | (with_reducible first | exact HB.out | apply below_alloc | apply pw_below_drewN | apply below_drew1 | refine below_set ?_ GE258.out) | exact HB.out))) : w.heap.size ≤ gb261)); have n5_ := Aside0.mk ((by rw [hg]; exact (below_size (by repeat (first | (with_reducible first | exact HB.out | apply below_alloc | apply pw_below_drewN | apply below_drew1 | refine below_set ?_ GE258.out) | exact HB.out))) : w.heap.size ≤ gb261)); have n6_ := Aside0.mk ((by rw [hg]; exact Nat.ne_of_lt (blk_lt (g := gb258) (o := .cells #[.string ((rd_T91 l0 x18_1).f0.f0), .string ((rd_T91 l0 x18_1).f0.f1), .string ((rd_T91 l0 x18_1).f0.f2), .slice (some ad260) ((rd_T91 l0 x18_1).f1).length c257_3] 91 (0, 0)) (by (with_reducible repeat (first | refine blk_drewN ?_ _ | refine blk_drew ?_ | refine blk_alloc ?_ _)); exact BK258.out)) : gb258 ≠ gb261)); have n7_ := Aside0.mk ((by rw [hg]; exact Nat.ne_of_gt (blk_lt (g := gb258) (o := .cells #[.string ((rd_T91 l0 x18_1).f0.f0), .string ((rd_T91 l0 x18_1).f0.f1), .string ((rd_T91 l0 x18_1).f0.f2), .slice (some ad260) ((rd_T91 l0 x18_1).f1).length c257_3] 91 (0, 0)) (by (with_reducible repeat (first | refine blk_drewN ?_ _ | refine blk_drew ?_ | refine blk_alloc ?_ _)); exact BK258.out)) : gb261 ≠ gb258)); clear HO_5; clear BK258; clear HB; have HO_5 := n0_; have BK258 := n1_; have HB := n2_; have BK261 := n3_; have GW261 := n4_; have GE261 := n5_; have NB258_261 := n6_; have NB261_258 := n7_; clear n0_ n1_ n2_ n3_ n4_ n5_ n6_ n7_; clear hb hbox hg; have hnb50 := NB261_258.out; have hnc50 := NB258_261.out; have hcz51_0 : w49.cell? ⟨gb261, 0, none⟩ = some (.string (⟨#[]⟩ : ByteArray)) := (blk_cell BK261.out 0).trans rfl; have hcz51_1 : w49.cell? ⟨gb261, 1, none⟩ = some (.string (⟨#[]⟩ : ByteArray)) := (blk_cell BK261.out 1).trans rfl; have hcz51_2 : w49.cell? ⟨gb261, 2, none⟩ = some (.string (⟨#[]⟩ : ByteArray)) := (blk_cell BK261.out 2).trans rfl; have hfz51_0 := blk_frozen BK261.out 0; have hfz51_1 := blk_frozen BK261.out 1; have hfz51_2 := blk_frozen BK261.out 2) | ((with_reducible refine gate_callee (f := 70) rfl ?_); refine goesL_ (some 47) rfl rfl Try.func70 (by kernel_rfl) rfl #[.agg #[.string ((rd_T88 ((rd_T91 l0 x18_1).f1) x41_3).f0), .string ((rd_T88 ((rd_T91 l0 x18_1).f1) x41_3).f1), .string ((rd_T88 ((rd_T91 l0 x18_1).f1) x41_3).f2)]] rfl (by (try simp only [List.map_toArray, List.map_cons, List.map_nil]); first | done | rfl | (simp only [List.length_drop, List.length_take]; rfl)) ?_; (with_reducible refine (impl_RuleAtom_ok.calls k3 ((rd_T88 ((rd_T91 l0 x18_1).f1) x41_3).f0) ((rd_T88 ((rd_T91 l0 x18_1).f1) x41_3).f1) ((rd_T88 ((rd_T91 l0 x18_1).f1) x41_3).f2) false _ ?sideG A25.out).mono ?_); (case sideG => first | exact HG | ((refine ⟨G_below HG.out ?_⟩); (repeat (first | (with_reducible first | exact HB.out | apply below_alloc | apply pw_below_drewN | apply below_drew1 | refine below_set ?_ GE258.out | refine below_set ?_ GE261.out) | exact HB.out)); done) | exact ⟨G_below HG.out HB.out⟩ | exact ⟨HG.out⟩); rintro e w52 ⟨rfl, hb⟩; refine ⟨_, rfl, ?_⟩; have n0_ := Aside0.mk (Kd.R_below (by (with_reducible repeat (first | apply Kd.R_alloc | apply Kd.R_drewN | apply Kd.R_drew)); exact (Kd.R_mono (Kd.R_far (p := ⟨gb261, 2, none⟩) (Kd.R_far (p := ⟨gb261, 1, none⟩) (Kd.R_far (p := ⟨gb261, 0, none⟩) (Kd.R_types HO_5.out BK261.out (by decide)) (fun _ hk => hk.2) (.string ((rd_T88 ((rd_T91 l0 x18_1).f1) x41_3).f0))) (fun _ hk => hk.2) (.string ((rd_T88 ((rd_T91 l0 x18_1).f1) x41_3).f1))) (fun _ hk => hk.2) (.string ((rd_T88 ((rd_T91 l0 x18_1).f1) x41_3).f2))) (fun _ h_ => h_.1))) hb); have n1_ := Aside0.mk (blk_below (g := gb258) (o := .cells #[.string ((rd_T91 l0 x18_1).f0.f0), .string ((rd_T91 l0 x18_1).f0.f1), .string ((rd_T91 l0 x18_1).f0.f2), .slice (some ad260) ((rd_T91 l0 x18_1).f1).length c257_3] 91 (0, 0)) (by (with_reducible repeat (first | refine blk_drewN ?_ _ | refine blk_drew ?_ | refine blk_alloc ?_ _)); refine blk_far ?_ NB258_261.out _; (with_reducible repeat (first | refine blk_drewN ?_ _ | refine blk_drew ?_ | refine blk_alloc ?_ _)); refine blk_far ?_ NB258_261.out _; (with_reducible repeat (first | refine blk_drewN ?_ _ | refine blk_drew ?_ | refine blk_alloc ?_ _)); refine blk_far ?_ NB258_261.out _; (with_reducible repeat (first | refine blk_drewN ?_ _ | refine blk_drew ?_ | refine blk_alloc ?_ _)); exact BK258.out) hb); have n2_ := Aside0.mk (blk_below (g := gb261) (o := .cells #[.string ((rd_T88 ((rd_T91 l0 x18_1).f1) x41_3).f0), .string ((rd_T88 ((rd_T91 l0 x18_1).f1) x41_3).f1), .string ((rd_T88 ((rd_T91 l0 x18_1).f1) x41_3).f2)] 88 (0, 0)) (by (with_reducible repeat (first | refine blk_drewN ?_ _ | refine blk_drew ?_ | refine blk_alloc ?_ _)); refine blk_put (cs := #[.string ((rd_T88 ((rd_T91 l0 x18_1).f1) x41_3).f0), .string ((rd_T88 ((rd_T91 l0 x18_1).f1) x41_3).f1), .string (⟨#[]⟩ : ByteArray)]) ?_ 2 _ rfl; (with_reducible repeat (first | refine blk_drewN ?_ _ | refine blk_drew ?_ | refine blk_alloc ?_ _)); refine blk_put (cs := #[.string ((rd_T88 ((rd_T91 l0 x18_1).f1) x41_3).f0), .string (⟨#[]⟩ : ByteArray), .string (⟨#[]⟩ : ByteArray)]) ?_ 1 _ rfl; (with_reducible repeat (first | refine blk_drewN ?_ _ | refine blk_drew ?_ | refine blk_alloc ?_ _)); refine blk_put (cs := #[.string (⟨#[]⟩ : ByteArray), .string (⟨#[]⟩ : ByteArray), .string (⟨#[]⟩ : ByteArray)]) ?_ 0 _ rfl; (with_reducible repeat (first | refine blk_drewN ?_ _ | refine blk_drew ?_ | refine blk_alloc ?_ _)); exact BK261.out) hb); have n3_ := Aside0.mk (below_step (by repeat (first | (with_reducible first | exact HB.out | apply below_alloc | apply pw_below_drewN | apply below_drew1 | refine below_set ?_ GE258.out | refine below_set ?_ GE261.out) | exact HB.out)) hb); clear HO_5; clear BK258; clear BK261; clear HB; have HO_5 := n0_; have BK258 := n1_; have BK261 := n2_; have HB := n3_; clear n0_ n1_ n2_ n3_; (try clear hb); (try clear hb2); (try clear hk); (try clear hi)))
                go_ret
                exact ⟨by first | rfl | (simp [errW_none, errW_some] <;> rfl) | (simp [*, errW_none, errW_some] <;> rfl), by repeat (first | (with_reducible first | exact HB.out | apply below_alloc | apply pw_below_drewN | apply below_drew1 | refine below_set ?_ GE258.out | refine below_set ?_ GE261.out) | exact HB.out)⟩
              ·rw [if_neg c24] at H
               exact absurd H (by simp)
             ·rw [if_neg c23] at H
              exact absurd H (by simp)
            ·rw [if_neg c22] at H
             have c22b0 : decide (x41_3 < (((rd_T91 l0 x18_1).f1).length : Int)) = false := decide_eq_false c22
             clear c22
             replace H := Option.bind_eq_some_iff.mp H
             obtain ⟨t274, A530, H⟩ := H
             replace H : (impl_rulesRight.l3 k3 x5_3 l0 (l0.length : Int) x18_1 t274 (t274.length : Int) 0) = some r := H
             have A53 := Aside0.mk A530
             clear A530
             have H' := Aside0.mk H
             clear H
             have hcz54_0 : wr.cell? ⟨gb258, 0, none⟩ = some (.string ((rd_T91 l0 x18_1).f0.f0)) := (blk_cell BK258.out 0).trans rfl
             have hcz54_1 : wr.cell? ⟨gb258, 1, none⟩ = some (.string ((rd_T91 l0 x18_1).f0.f1)) := (blk_cell BK258.out 1).trans rfl
             have hcz54_2 : wr.cell? ⟨gb258, 2, none⟩ = some (.string ((rd_T91 l0 x18_1).f0.f2)) := (blk_cell BK258.out 2).trans rfl
             have hcz54_3 : wr.cell? ⟨gb258, 3, none⟩ = some (.slice A257_3 ((rd_T91 l0 x18_1).f1).length c257_3) := (blk_cell BK258.out 3).trans rfl
             have hfz54_0 := blk_frozen BK258.out 0
             have hfz54_1 := blk_frozen BK258.out 1
             have hfz54_2 := blk_frozen BK258.out 2
             have hfz54_3 := blk_frozen BK258.out 3
             go_wp2_with (first | ((with_reducible refine gate_callee (f := 71) rfl ?_); refine goesL_ (some 74) rfl rfl Try.func71 (by kernel_rfl) rfl #[.agg #[.string ((rd_T91 l0 x18_1).f0.f0), .string ((rd_T91 l0 x18_1).f0.f1), .string ((rd_T91 l0 x18_1).f0.f2)]] rfl (by (try simp only [List.map_toArray, List.map_cons, List.map_nil]); first | done | rfl | (simp only [List.length_drop, List.length_take]; rfl)) ?_; (with_reducible refine (impl_RuleAtom_vars.calls ((rd_T91 l0 x18_1).f0.f0) ((rd_T91 l0 x18_1).f0.f1) ((rd_T91 l0 x18_1).f0.f2) t274 _ A53.out).mono ?_); rintro e w55 ⟨v275, rfl, ho0, hb⟩; refine ⟨_, rfl, ?_⟩; have n0_ := Aside0.mk (Kd.R_elder' (by (with_reducible repeat (first | apply Kd.R_alloc | apply Kd.R_drewN | apply Kd.R_drew)); exact HO_5.out) (Kd.R_base ho0) hb); have n1_ := Aside0.mk (Kd.R_lower (Kd.R_new' ho0 (Kd.R_lt (by (with_reducible repeat (first | apply Kd.R_alloc | apply Kd.R_drewN | apply Kd.R_drew)); exact HO_5.out))) (below_size (by repeat (first | (with_reducible first | exact HB.out | apply below_alloc | apply pw_below_drewN | apply below_drew1 | refine below_set ?_ GE258.out) | exact HB.out)))); have n2_ := Aside0.mk (blk_below (g := gb258) (o := .cells #[.string ((rd_T91 l0 x18_1).f0.f0), .string ((rd_T91 l0 x18_1).f0.f1), .string ((rd_T91 l0 x18_1).f0.f2), .slice A257_3 ((rd_T91 l0 x18_1).f1).length c257_3] 91 (0, 0)) (by (with_reducible repeat (first | refine blk_drewN ?_ _ | refine blk_drew ?_ | refine blk_alloc ?_ _)); exact BK258.out) hb); have n3_ := Aside0.mk (below_step (by repeat (first | (with_reducible first | exact HB.out | apply below_alloc | apply pw_below_drewN | apply below_drew1 | refine below_set ?_ GE258.out) | exact HB.out)) hb); clear HO_5; clear BK258; clear HB; have HO_5 := n0_; have HO276 := n1_; have BK258 := n2_; have HB := n3_; clear n0_ n1_ n2_ n3_; (try clear hb); (try clear hb2); (try clear hk); (try clear hi); (try clear ho0); obtain ⟨Ao56, co56, eo56⟩ := Kd.R_slice HO276.out; subst eo56))
             go_loopg [76] k3 (fun kq v76 w' => ∃ (x76_4 : Int), v76 = .int .i64 x76_4 ∧ Aside0 (impl_rulesRight.l3 kq x5_3 l0 (l0.length : Int) x18_1 t274 (t274.length : Int) x76_4 = some r) ∧ Aside0 (kq ≤ k3) ∧ Aside0 (Kd.R Kd.string 9 w' w.heap.size (fun k_ => some k_ ≠ ((.slice Ao56 t274.length co56) : Value).ownBlock) u5 x5_3) ∧ Aside0 (Kd.R Kd.string 9 w' w.heap.size (fun k_ => some k_ ≠ (u5 : Value).ownBlock) (.slice Ao56 t274.length co56) t274) ∧ Aside0 (w'.heap[gb258]? = some (.cells #[.string ((rd_T91 l0 x18_1).f0.f0), .string ((rd_T91 l0 x18_1).f0.f1), .string ((rd_T91 l0 x18_1).f0.f2), (.slice A257_3 ((rd_T91 l0 x18_1).f1).length c257_3)] 91 (0, 0))) ∧ Aside0 (Below w.heap.size w w'))
             case atStart => exact ⟨(0), (by first | rfl | (simp; done) | (simp [*]; done)), H', ⟨Nat.le_refl _⟩, ⟨by (with_reducible repeat (first | apply Kd.R_alloc | apply Kd.R_drewN | apply Kd.R_drew)); exact Kd.R_mono HO_5.out (fun _ hk => hk.2)⟩, ⟨by (with_reducible repeat (first | apply Kd.R_alloc | apply Kd.R_drewN | apply Kd.R_drew)); exact Kd.R_mono HO276.out (fun _ hk => hk.2)⟩, ⟨by (with_reducible repeat (first | refine blk_drewN ?_ _ | refine blk_drew ?_ | refine blk_alloc ?_ _)); exact BK258.out⟩, ⟨by repeat (first | (with_reducible first | exact HB.out | apply below_alloc | apply pw_below_drewN | apply below_drew1 | refine below_set ?_ GE258.out) | exact HB.out)⟩⟩
             case round =>
              clear H'
              try clear c1
              try clear c2
              try clear c2b0
              try clear c2b1
              try clear p2
              try clear q2
              try clear hx2
              try clear c3
              try clear c3b0
              try clear c4
              try clear c4b0
              try clear c5
              try clear c5b0
              try clear p6
              try clear c7
              try clear c10
              try clear c11
              try clear c11b0
              try clear c11b1
              try clear c20
              try clear c22
              try clear c22b0
              try clear c23
              try clear c23b0
              try clear c24
              try clear c24b0
              try clear c25
              try clear p25
              try clear q25
              try clear hx25
              try clear c26
              try clear p26
              try clear q26
              try clear hx26
              try clear c29
              try clear c35
              try clear c35b0
              try clear c36
              try clear c36b0
              try clear c37
              try clear c37b0
              try clear c38
              try clear c41
              try clear c43
              try clear c44
              try clear c50
              try clear hcz12_0
              try clear hcz12_1
              try clear hcz12_2
              try clear hcz12_3
              try clear hcz14_0
              try clear hcz14_1
              try clear hcz14_2
              try clear hcz14_3
              try clear hcz15_0
              try clear hcz15_1
              try clear hcz15_2
              try clear hcz15_3
              try clear hcz17_0
              try clear hcz17_1
              try clear hcz17_2
              try clear hcz17_3
              try clear hcz18_0
              try clear hcz18_1
              try clear hcz18_2
              try clear hcz18_3
              try clear hcz21_0
              try clear hcz21_1
              try clear hcz21_2
              try clear hcz21_3
              try clear hcz30_0
              try clear hcz30_1
              try clear hcz30_2
              try clear hcz32_0
              try clear hcz32_1
              try clear hcz32_2
              try clear hcz45_0
              try clear hcz45_1
              try clear hcz45_2
              try clear hcz51_0
              try clear hcz51_1
              try clear hcz51_2
              try clear hcz54_0
              try clear hcz54_1
              try clear hcz54_2
              try clear hcz54_3
              try clear hcz8_0
              try clear hcz8_1
              try clear hcz8_2
              try clear hcz8_3
              try clear hfz12_0
              try clear hfz12_1
              try clear hfz12_2
              try clear hfz12_3
              try clear hfz14_0
              try clear hfz14_1
              try clear hfz14_2
              try clear hfz14_3
              try clear hfz15_0
              try clear hfz15_1
              try clear hfz15_2
              try clear hfz15_3
              try clear hfz17_0
              try clear hfz17_1
              try clear hfz17_2
              try clear hfz17_3
              try clear hfz18_0
              try clear hfz18_1
              try clear hfz18_2
              try clear hfz18_3
              try clear hfz21_0
              try clear hfz21_1
              try clear hfz21_2
              try clear hfz21_3
              try clear hfz30_0
              try clear hfz30_1
              try clear hfz30_2
              try clear hfz32_0
              try clear hfz32_1
              try clear hfz32_2
              try clear hfz45_0
              try clear hfz45_1
              try clear hfz45_2
              try clear hfz51_0
              try clear hfz51_1
              try clear hfz51_2
              try clear hfz54_0
              try clear hfz54_1
              try clear hfz54_2
              try clear hfz54_3
              try clear hfz8_0
              try clear hfz8_1
              try clear hfz8_2
              try clear hfz8_3
              try clear hx257_0
              try clear hx257_1
              try clear hx257_2
              try clear hx257_3
              try clear hx260_0
              try clear hx260_1
              try clear hx260_2
              try clear hx266_0
              try clear p2
              try clear p25
              try clear p257
              try clear p26
              try clear p260
              try clear p266
              try clear q2
              try clear q25
              try clear q257
              try clear q26
              try clear q260
              try clear q266
              obtain ⟨x76_4, rfl, HA, HK4, HO_5, HO_74, BK258, HB⟩ := hrel
              cases gk with
              | zero => exact absurd HA.out (by simp [impl_rulesRight.l3])
              | succ k4 =>
               have H := HA.out
               clear HA
               simp only [impl_rulesRight.l3] at H
               by_cases c57 : x76_4 < (t274.length : Int)
               ·rw [if_pos c57] at H
                have c57b0 : decide (x76_4 < (t274.length : Int)) = true := decide_eq_true c57
                clear c57
                by_cases c58 : 0 ≤ x76_4
                ·rw [if_pos c58] at H
                 have c58b0 : decide (0 ≤ x76_4) = true := decide_eq_true c58
                 clear c58
                 by_cases c59 : x76_4 < (t274.length : Int)
                 ·rw [if_pos c59] at H
                  have c59b0 : decide (x76_4 < (t274.length : Int)) = true := decide_eq_true c59
                  clear c59
                  replace H := Option.bind_eq_some_iff.mp H
                  obtain ⟨t278, A600, H⟩ := H
                  replace H : (if t278 = true then (impl_rulesRight.l3 k4 x5_3 l0 (l0.length : Int) x18_1 t274 (t274.length : Int) (wrap64 (x76_4 + 1))) else (some false)) = some r := H
                  have A60 := Aside0.mk A600
                  clear A600
                  by_cases c61 : t278 = true
                  ·subst c61
                   have H1 : (impl_rulesRight.l3 k4 x5_3 l0 (l0.length : Int) x18_1 t274 (t274.length : Int) (wrap64 (x76_4 + 1))) = some r := by rw [if_pos rfl] at H; exact H
                   clear H
                   have H := H1
                   clear H1
                   have H' := Aside0.mk H
                   clear H
                   have p277 : 0 ≤ (x76_4 : Int) := of_decide_eq_true (by first | (with_reducible assumption) | assumption)
                   have q277 : x76_4 < (t274.length : Int) := of_decide_eq_true (by first | (with_reducible assumption) | assumption)
                   obtain ⟨ad277, e277, hx277_0⟩ := Kd.at_string (Kd.R_reads' HO_74.out).2.2 x76_4 p277 q277
                   cases e277
                   replace p277 := eq_true p277
                   replace q277 := eq_true q277
                   obtain ⟨Ao62, co62, eo62⟩ := Kd.R_slice HO_5.out
                   subst eo62
                   go_wp2_with (first | ((with_reducible refine gate_callee (f := 55) rfl ?_); refine goesL_ (some 82) rfl rfl Try.func55 (by kernel_rfl) rfl #[.slice Ao62 x5_3.length co62, .string (rdOf ByteArray.empty t274 x76_4)] rfl (by (try simp only [List.map_toArray, List.map_cons, List.map_nil]); first | done | rfl | (simp only [List.length_drop, List.length_take]; rfl)) ?_; (with_reducible refine (slices_Contains_string_string.calls k4 _ _ x5_3 (rdOf ByteArray.empty t274 x76_4) true _ ?side1 ?side2 A60.out).mono ?_); (case side1 => repeat (first | exact (Kd.R_reads' HO_5.out).2.2 | (with_reducible refine Kd.C_alloc ?_ _) | (with_reducible refine Kd.C_drewN ?_ _) | (with_reducible refine Kd.C_drew ?_))); (case side2 => exact (Kd.R_reads' HO_5.out).2.1); rintro e w' ⟨rfl, ⟨nd, rfl⟩⟩; refine ⟨_, rfl, ?_⟩))
                   go_roundg k4
                   case measure => have := HK1.out; have := HJ5.out; have := HK3.out; have := HK4.out; omega
                   case rel => exact ⟨(wrap64 (x76_4 + 1)), (by first | rfl | (simp; done) | (simp [*]; done)), H', ⟨by have := HK1.out; have := HJ5.out; have := HK3.out; have := HK4.out; omega⟩, ⟨by (with_reducible repeat (first | apply Kd.R_alloc | apply Kd.R_drewN | apply Kd.R_drew)); exact HO_5.out⟩, ⟨by (with_reducible repeat (first | apply Kd.R_alloc | apply Kd.R_drewN | apply Kd.R_drew)); exact HO_74.out⟩, ⟨by (with_reducible repeat (first | refine blk_drewN ?_ _ | refine blk_drew ?_ | refine blk_alloc ?_ _)); exact BK258.out⟩, ⟨by repeat (first | (with_reducible first | exact HB.out | apply below_alloc | apply pw_below_drewN | apply below_drew1 | refine below_set ?_ GE258.out) | exact HB.out)⟩⟩
                  ·replace c61 := Bool.eq_false_iff.mpr c61
                   subst c61
                   have H1 : (some false) = some r := by rw [if_neg (show ¬ (false = true) by decide)] at H; exact H
                   clear H
                   have H := H1
                   clear H1
                   obtain rfl := Option.some.inj H
                   have p277 : 0 ≤ (x76_4 : Int) := of_decide_eq_true (by first | (with_reducible assumption) | assumption)
                   have q277 : x76_4 < (t274.length : Int) := of_decide_eq_true (by first | (with_reducible assumption) | assumption)
                   obtain ⟨ad277, e277, hx277_0⟩ := Kd.at_string (Kd.R_reads' HO_74.out).2.2 x76_4 p277 q277
                   cases e277
                   replace p277 := eq_true p277
                   replace q277 := eq_true q277
                   obtain ⟨Ao63, co63, eo63⟩ := Kd.R_slice HO_5.out
                   subst eo63
                   go_wp2_with (first | ((with_reducible refine gate_callee (f := 55) rfl ?_); refine goesL_ (some 82) rfl rfl Try.func55 (by kernel_rfl) rfl #[.slice Ao63 x5_3.length co63, .string (rdOf ByteArray.empty t274 x76_4)] rfl (by (try simp only [List.map_toArray, List.map_cons, List.map_nil]); first | done | rfl | (simp only [List.length_drop, List.length_take]; rfl)) ?_; (with_reducible refine (slices_Contains_string_string.calls k4 _ _ x5_3 (rdOf ByteArray.empty t274 x76_4) false _ ?side1 ?side2 A60.out).mono ?_); (case side1 => repeat (first | exact (Kd.R_reads' HO_5.out).2.2 | (with_reducible refine Kd.C_alloc ?_ _) | (with_reducible refine Kd.C_drewN ?_ _) | (with_reducible refine Kd.C_drew ?_))); (case side2 => exact (Kd.R_reads' HO_5.out).2.1); rintro e w' ⟨rfl, ⟨nd, rfl⟩⟩; refine ⟨_, rfl, ?_⟩))
                   go_ret
                   exact ⟨by first | rfl | (simp [errW_none, errW_some] <;> rfl) | (simp [*, errW_none, errW_some] <;> rfl), by repeat (first | (with_reducible first | exact HB.out | apply below_alloc | apply pw_below_drewN | apply below_drew1 | refine below_set ?_ GE258.out) | exact HB.out)⟩
                 ·rw [if_neg c59] at H
                  exact absurd H (by simp)
                ·rw [if_neg c58] at H
                 exact absurd H (by simp)
               ·rw [if_neg c57] at H
                have c57b0 : decide (x76_4 < (t274.length : Int)) = false := decide_eq_false c57
                clear c57
                have H' := Aside0.mk H
                clear H
                go_wp2
                go_roundg k4
                case measure => have := HK1.out; have := HJ5.out; have := HK3.out; have := HK4.out; omega
                case rel => exact ⟨(wrap64 (x18_1 + 1)), (by first | rfl | (simp; done) | (simp [*]; done)), H', ⟨by have := HK1.out; have := HJ5.out; have := HK3.out; have := HK4.out; omega⟩, ⟨by repeat (first | (with_reducible first | exact HB.out | apply below_alloc | apply pw_below_drewN | apply below_drew1 | refine below_set ?_ GE258.out) | exact HB.out)⟩⟩
      ·rw [if_neg c5] at H
       exact absurd H (by simp)
     ·rw [if_neg c4] at H
      exact absurd H (by simp)
    ·rw [if_neg c3] at H
     have c3b0 : decide (x18_1 < (l0.length : Int)) = false := decide_eq_false c3
     clear c3
     obtain rfl := Option.some.inj H
     go_wp2
     go_ret
     exact ⟨by first | rfl | (simp [errW_none, errW_some] <;> rfl) | (simp [*, errW_none, errW_some] <;> rfl), by repeat (first | (with_reducible first | exact HB.out | apply below_alloc | apply pw_below_drewN | apply below_drew1) | exact HB.out)⟩

end Go.Proofs.Ythblbbhnmbfjjaa.PFnExactRulesFault
