/- spec.l16Linked told as a whole (both = false), out of its walk. -/
import Derived.Test.YtfeieigajdekhaaGreatDoorAbF4
import Derived.Test.YtfeieigajdekhaaGreatDoorAbLNK
namespace Go.Ab
open Go.Proofs Go.RowKit Go.Deep
set_option linter.unusedVariables false
set_option linter.unusedSimpArgs false
/-- The places of the edges' ends. -/
def lnkF (k : Nat) (g : S31) : List S68 → Option (List (Nat × Nat))
 | [] => some []
 | e :: r => (spec_l02Node.f k g e.f2).bind fun x => (spec_l02Node.f k g e.f3).bind fun y => bif decide (0 ≤ x ∧ x < (g.f0.length : Int) ∧ 0 ≤ y ∧ y < (g.f0.length : Int)) then (lnkF k g r).bind fun l => some ((x.toNat, y.toNat) :: l) else none
def gridOf (n : Nat) (l : List (Nat × Nat)) : List (List Bool) := (List.range n).map fun x => (List.range n).map fun y => l.any fun p => p.1 == x && p.2 == y
def spec_l16Linked.f (k : Nat) (g : S31) (both : Bool) : Option S43 := bif both || decide (1048576 < g.f0.length) || decide (1048576 < g.f1.length) then none else (lnkF k g g.f1).bind fun l => some ⟨gridOf g.f0.length l⟩
theorem lnkF_spec (k : Nat) (g : S31) : ∀ (es : List S68) (l : List (Nat × Nat)), lnkF k g es = some l → l.length = es.length ∧ ∀ (j : Nat) (e : S68), es[j]? = some e → ∃ p, l[j]? = some p ∧ spec_l02Node.f k g e.f2 = some (p.1 : Int) ∧ spec_l02Node.f k g e.f3 = some (p.2 : Int) ∧ p.1 < g.f0.length ∧ p.2 < g.f0.length
  | [], l, h => by
    cases h
    exact ⟨rfl, fun j e he => by simp at he⟩
  | e :: r, l, h => by
    simp only [lnkF] at h
    obtain ⟨x, hx, h⟩ := Option.bind_eq_some_iff.mp h
    obtain ⟨y, hy, h⟩ := Option.bind_eq_some_iff.mp h
    by_cases hc : 0 ≤ x ∧ x < (g.f0.length : Int) ∧ 0 ≤ y ∧ y < (g.f0.length : Int)
    case neg => rw [decide_eq_false hc] at h; cases h
    rw [decide_eq_true hc, cond_true] at h
    obtain ⟨l', hl, h⟩ := Option.bind_eq_some_iff.mp h
    cases h
    obtain ⟨h1, h2⟩ := lnkF_spec k g r l' hl
    refine ⟨by simp [h1], fun j e' he => ?_⟩
    cases j with
    | zero =>
      simp at he; subst he
      refine ⟨(x.toNat, y.toNat), rfl, ?_, ?_, ?_, ?_⟩
      · rw [hx, Int.toNat_of_nonneg hc.1]
      · rw [hy, Int.toNat_of_nonneg hc.2.2.1]
      · show x.toNat < _; omega
      · show y.toNat < _; omega
    | succ j => exact h2 j e' (by simpa using he)
theorem ra_bools {ι : Pl} {W : World} {b n : Nat} {l : List Bool} (hl : l.length = n) (hX : ∀ o, ¬ ι.fr.X b o) (hc : ∀ (j : Nat) (x : Bool), l[j]? = some x → W.cell? ⟨b, j, none⟩ = some (.bool x)) :
    Rp (Own ι []) W (.slice (some ⟨b, 0, none⟩) n n) (.lst false (List.map brw l)) := by
  have hh : ∀ (i : Nat) (row : List PV) (j : Nat) (c : PV), (List.map brw l)[i]? = some row → row[j]? = some c → ∃ x, l[i]? = some x ∧ j = 0 ∧ c = .bool x := by
    intro i row j c h1 h2
    rw [List.getElem?_map] at h1
    cases hx : l[i]? with
    | none => rw [hx] at h1; cases h1
    | some x =>
      rw [hx] at h1; cases h1
      cases j with
      | zero => cases h2; exact ⟨x, rfl, rfl, rfl⟩
      | succ j => cases h2
  have e : n = (List.map brw l).length := by simp [hl]
  have := Rp.lst (Ow := Own ι []) (w := W) (some ⟨b, 0, none⟩) n 1 false (List.map brw l) (fun i _ => match l[i]? with | some x => .bool x | none => undef) (by omega) (fun h => by cases h) ?_ ?_ ?_
  · rwa [← e] at this
  · intro i row h1
    rw [List.getElem?_map] at h1
    cases hx : l[i]? with
    | none => rw [hx] at h1; cases h1
    | some x => rw [hx] at h1; cases h1; rfl
  · intro i row j c h1 h2
    obtain ⟨x, hx, rfl, rfl⟩ := hh i row j c h1 h2
    refine ⟨_, rfl, ?_, ?_⟩
    · simp only [hx]
      have e : (⟨b, 0, none⟩ : Addr).add (i * 1 + 0) = ⟨b, i, none⟩ := by
        simp only [Addr.add, Nat.zero_add, Nat.mul_one, Nat.add_zero]
        split
        · rename_i h0; subst h0; rfl
        · rfl
      rw [e]; exact hc i x hx
    · rintro (h | ⟨k, g, ob, h, _⟩)
      · exact hX _ h
      · cases h
  · intro i row j c h1 h2
    obtain ⟨x, hx, rfl, rfl⟩ := hh i row j c h1 h2
    simp only [hx]
    exact .bool x
theorem spotless {w : World} {ad : Addr} {v : Value} (h : w.cell? (ad.add 0) = some v) : ∃ b o, ad = ⟨b, o, none⟩ := by
  obtain ⟨b, o, s⟩ := ad
  cases s with
  | none => exact ⟨b, o, rfl⟩
  | some z =>
    exfalso
    simp only [Addr.add, if_pos, World.cell?] at h
    cases hb : w.heap[b]? with
    | none => rw [hb] at h; cases h
    | some q => rw [hb] at h; cases q <;> simp at h
theorem spec_l16Linked.con {K : Kn} [KOk K] {k : Nat} {v0 : S31} {v1 : Bool} {r : S43} (h : spec_l16Linked.f k v0 v1 = some r) : Con K Tryz.prog 16 [.agg [.p (.lst false (List.map en49 v0.f0)), .p (.lst false (List.map en68 v0.f1))], .p (.bool v1)] [] (.agg [.p (.lst false (List.map (lrw brw) r.f0))]) [] := by
  unfold spec_l16Linked.f at h
  cases v1 with
  | true => simp at h
  | false =>
  by_cases hb : (false || decide (1048576 < v0.f0.length) || decide (1048576 < v0.f1.length)) = true
  · rw [hb] at h; cases h
  have hb' : (false || decide (1048576 < v0.f0.length) || decide (1048576 < v0.f1.length)) = false := by simpa using hb
  rw [hb', cond_false] at h
  simp only [Bool.false_or, Bool.or_eq_false_iff, decide_eq_false_iff_not] at hb'
  obtain ⟨l, hl, h⟩ := Option.bind_eq_some_iff.mp h
  cases h
  obtain ⟨hll, hle⟩ := lnkF_spec k v0 v0.f1 l hl
  refine ⟨⟨_, Tryz.func16, by kernel_rfl, by kernel_rfl⟩, fun ι w vs hK hM hA => ?_⟩
  obtain ⟨gv, bv, rfl, a0, a1⟩ : ∃ x y, vs = #[x, y] ∧ Ra ι [] w x (.agg [.p (.lst false (List.map en49 v0.f0)), .p (.lst false (List.map en68 v0.f1))]) ∧ Ra ι [] w y (.p (.bool false)) := by
    obtain ⟨q⟩ := vs
    obtain ⟨hq, h⟩ := hA
    match q, hq, h with
    | [x, y], _, h => exact ⟨x, y, rfl, h 0 x _ rfl rfl, h 1 y _ rfl rfl⟩
  obtain rfl := a1.bool
  have a0' := a0
  cases a0 with
  | agg vs2 cs hl2 hone hra =>
  obtain ⟨nv, ev, rfl⟩ : ∃ x y, vs2 = #[x, y] := by
    obtain ⟨q⟩ := vs2
    match q, hl2 with
    | [x, y], _ => exact ⟨x, y, rfl⟩
  have rn := hra 0 nv _ rfl rfl
  have re := hra 1 ev _ rfl rfl
  cases rn with
  | p _ _ hpn =>
  cases re with
  | p _ _ hpe =>
  obtain ⟨NA, nc, nz, nu, rfl, _, _, _, _⟩ := hpn.inv
  obtain ⟨EA, ec, ez, eu, rfl, _, hez, hec, her⟩ := hpe.inv
  have en : (List.map en49 v0.f0).length = v0.f0.length := by simp
  have ee : (List.map en68 v0.f1).length = v0.f1.length := by simp
  rw [en, ee] at a0' ⊢
  have hrow : ∀ (j : Nat) (x : S68), v0.f1[j]? = some x → (List.map en68 v0.f1)[j]? = some (en68 x) := fun j x hx => by rw [List.getElem?_map, hx]; rfl
  have hz : 0 < v0.f1.length → ez = 5 := fun h0 => by
    have := hez 0 _ (hrow 0 _ (List.getElem?_eq_getElem h0))
    rw [← this]; rfl
  obtain ⟨eb, eo, hEA⟩ : ∃ eb eo, 0 < v0.f1.length → EA = some ⟨eb, eo, none⟩ := by
    by_cases h0 : 0 < v0.f1.length
    · obtain ⟨ad, e1, e2, _⟩ := hec 0 _ 0 _ (hrow 0 _ (List.getElem?_eq_getElem h0)) rfl
      rw [Nat.zero_mul] at e2
      obtain ⟨b, o, rfl⟩ := spotless e2
      exact ⟨b, o, fun _ => e1⟩
    · exact ⟨0, 0, fun h => absurd h h0⟩
  have hcell : ∀ (j : Nat) (x : S68), v0.f1[j]? = some x → w.cell? ⟨eb, eo + j * 5 + 2, none⟩ = some (.int .i64 x.f2) ∧ w.cell? ⟨eb, eo + j * 5 + 3, none⟩ = some (.int .i64 x.f3) := fun j x hx => by
    have hj : j < v0.f1.length := (List.getElem?_eq_some_iff.1 hx).1
    have e5 := hz (by omega)
    subst e5
    have hEA' := hEA (by omega)
    have one : ∀ (c : Nat) (n : Int), 0 < c → (en68 x)[c]? = some (.int .i64 n) → w.cell? ⟨eb, eo + j * 5 + c, none⟩ = some (.int .i64 n) := fun c n h0 hcn => by
      obtain ⟨ad, e1, e2, _⟩ := hec j _ c _ (hrow j x hx) hcn
      rw [hEA'] at e1; cases e1
      have e3 := her j _ c _ (hrow j x hx) hcn
      have e4 : eu j c = .int .i64 n := (fun v (h : Rp _ w v (.int .i64 n)) => (by cases h; rfl : v = .int .i64 n)) _ e3
      rw [e4] at e2
      have e6 : (⟨eb, eo, none⟩ : Addr).add (j * 5 + c) = ⟨eb, eo + j * 5 + c, none⟩ := by
        simp only [Addr.add]
        rw [if_neg (by omega)]
        congr 1
        omega
      rwa [e6] at e2
    exact ⟨one 2 _ (by omega) rfl, one 3 _ (by omega) rfl⟩
  let dflt : S68 := v0.f1.headD default
  have hcall : ∀ (id : Int) (rr : Nat), spec_l02Node.f k v0 id = some (rr : Int) → ∀ W, Below w.heap.size w W → Calls Tryz.prog 29 #[.agg #[.slice NA v0.f0.length nc, .slice EA v0.f1.length ec], .int .i64 id] W fun e W' => e = .returned (.int .i64 rr) ∧ Below W.heap.size W W' := fun id rr hid W hB => by
    obtain ⟨q1, q2⟩ := quiet hM hB.os hB.tape hB.output hB.size hB.block
    refine ((spec_l02Node.con (K := K) hid).2 ι W _ hK q1 ⟨rfl, fun i v a hv ha => ?_⟩).mono ?_
    · match i, hv, ha with
      | 0, hv, ha => simp at hv ha; subst hv; subst ha; exact a0'.mono q2
      | 1, hv, ha => simp at hv ha; subst hv; subst ha; exact .p _ _ (.int _ _)
      | n + 2, hv, _ => simp at hv
    · rintro e W' ⟨ι', cv, rfl, p1, p2, p3, _⟩
      refine ⟨by rw [p2.int], p3.os, p3.tape, p3.output, p3.size, fun b hb => p3.blk b hb fun o ho => ?_⟩
      obtain ⟨j, g, ob, hj, _⟩ := ho
      cases hj
  have hat : ∀ j, j < v0.f1.length → ∃ x p, v0.f1[j]? = some x ∧ l[j]? = some p ∧ spec_l02Node.f k v0 x.f2 = some (p.1 : Int) ∧ spec_l02Node.f k v0 x.f3 = some (p.2 : Int) ∧ p.1 < v0.f0.length ∧ p.2 < v0.f0.length := fun j hj => by
    obtain ⟨p, h1, h2⟩ := hle j _ (List.getElem?_eq_getElem hj)
    exact ⟨_, p, List.getElem?_eq_getElem hj, h1, h2⟩
  have hw := linked_walk NA EA v0.f0.length nc v0.f1.length ec eb eo w (by omega) (by omega) (fun j => ((v0.f1[j]?).getD dflt).f2) (fun j => ((v0.f1[j]?).getD dflt).f3) (fun j => ((l[j]?).getD (0, 0)).1) (fun j => ((l[j]?).getD (0, 0)).2)
    (fun j hj => by obtain ⟨x, p, h1, _⟩ := hat j hj; simp only [h1, Option.getD_some]; exact hcell j x h1) hEA
    (fun j hj => by obtain ⟨x, p, h1, h2, _, _, h5, h6⟩ := hat j hj; simp only [h2, Option.getD_some]; exact ⟨h5, h6⟩)
    (fun W j hj hB => by obtain ⟨x, p, h1, h2, h3, h4, _⟩ := hat j hj; simp only [h1, h2, Option.getD_some]; exact hcall _ _ h3 W hB)
    (fun W j hj hB => by obtain ⟨x, p, h1, h2, h3, h4, _⟩ := hat j hj; simp only [h1, h2, Option.getD_some]; exact hcall _ _ h4 W hB)
  refine hw.mono ?_
  rintro e w' ⟨v, f, rfl, hG⟩
  obtain ⟨q1, q2⟩ := quiet hM hG.since.os hG.since.tape hG.since.output hG.since.size hG.since.block
  refine ⟨ι, _, rfl, q1, ?_, q2.evo, q2.keys, rfl⟩
  have hX : ∀ b o, w.heap.size ≤ b → ¬ ι.fr.X b o := fun b o hb hx => by have := hM.xlt b o hx; omega
  have hgl : (gridOf v0.f0.length l).length = v0.f0.length := by unfold gridOf; simp
  have hrp : ∀ i, i < v0.f0.length → ∃ bl, (gridOf v0.f0.length l)[i]? = some bl ∧ Rp (Own ι []) w' (.slice (some ⟨f i, 0, none⟩) v0.f0.length v0.f0.length) (.lst false (List.map brw bl)) := fun i hi => by
    refine ⟨(List.range v0.f0.length).map fun y => l.any fun p => p.1 == i && p.2 == y, by unfold gridOf; simp [hi], ?_⟩
    obtain ⟨g1, g2⟩ := hG.inr i hi
    refine ra_bools (by simp) (fun o => hX _ o (by omega)) fun j x hx => ?_
    have hj : j < v0.f0.length := by have := (List.getElem?_eq_some_iff.1 hx).1; simpa using this
    rw [g2.cell hj]
    rw [List.getElem?_map, List.getElem?_range hj] at hx
    cases hx
    congr 2
    unfold lnkB
    rw [← hll]
    have e : l = (List.range l.length).map fun t => (l[t]?).getD (0, 0) := by
      apply List.ext_getElem
      · simp
      · intro t h1 h2; simp [h1]
    conv => rhs; rw [e]
    show _ = (List.map (fun t => l[t]?.getD (0, 0)) (List.range l.length)).any fun p => p.1 == i && p.2 == j
    rw [List.any_map]
    rfl
  have hv : Rp (Own ι []) w' v (.lst false (List.map (lrw brw) (gridOf v0.f0.length l))) := by
    obtain ⟨_, ⟨h1, h2⟩ | ⟨gb, cap, cur, h1, h2, h3, h4, _⟩⟩ := hG.own
    · have e : gridOf v0.f0.length l = [] := List.eq_nil_of_length_eq_zero (by rw [hgl, h2])
      rw [e, h1]
      exact Rp.lst none 0 1 false [] (fun _ _ => undef) (by simp) (fun h => by cases h) (fun i row h => by simp at h) (fun i row j c h => by simp at h) (fun i row j c h => by simp at h)
    · have hcl : ∀ i, i < v0.f0.length → w'.cell? ⟨gb, i, none⟩ = some (.slice (some ⟨f i, 0, none⟩) v0.f0.length v0.f0.length) := fun i hi => by
        have q := hG.own.cells (g := gb) (by rw [h1]; rfl) i (.slice (some ⟨f i, 0, none⟩) v0.f0.length v0.f0.length) (by simp [hi])
        have e : (⟨gb, 0, none⟩ : Addr).add i = ⟨gb, i, none⟩ := by
          simp only [Addr.add, Nat.zero_add]
          split
          · rename_i h0; subst h0; rfl
          · rfl
        rwa [e] at q
      have hh : ∀ (i : Nat) (row : List PV) (j : Nat) (c : PV), (List.map (lrw brw) (gridOf v0.f0.length l))[i]? = some row → row[j]? = some c → i < v0.f0.length ∧ j = 0 ∧ Rp (Own ι []) w' (.slice (some ⟨f i, 0, none⟩) v0.f0.length v0.f0.length) c := by
        intro i row j c e1 e2
        have hi : i < v0.f0.length := by have := (List.getElem?_eq_some_iff.1 e1).1; rw [List.length_map, hgl] at this; exact this
        obtain ⟨bl, e3, e4⟩ := hrp i hi
        rw [List.getElem?_map, e3] at e1
        cases e1
        cases j with
        | zero => cases e2; exact ⟨hi, rfl, e4⟩
        | succ j => cases e2
      have q := Rp.lst (Ow := Own ι []) (w := w') (some ⟨gb, 0, none⟩) cap 1 false (List.map (lrw brw) (gridOf v0.f0.length l)) (fun i _ => .slice (some ⟨f i, 0, none⟩) v0.f0.length v0.f0.length) (by rw [List.length_map, hgl]; exact h4) (fun h => by cases h) ?_ ?_ ?_
      · rw [List.length_map, hgl] at q; rw [h1]; exact q
      · intro i row e1
        rw [List.getElem?_map] at e1
        cases hx : (gridOf v0.f0.length l)[i]? with
        | none => rw [hx] at e1; cases e1
        | some x => rw [hx] at e1; cases e1; rfl
      · intro i row j c e1 e2
        obtain ⟨hi, rfl, _⟩ := hh i row j c e1 e2
        refine ⟨_, rfl, ?_, ?_⟩
        · have e : (⟨gb, 0, none⟩ : Addr).add (i * 1 + 0) = ⟨gb, i, none⟩ := by
            simp only [Addr.add, Nat.zero_add, Nat.mul_one, Nat.add_zero]
            split
            · rename_i h0; subst h0; rfl
            · rfl
          rw [e]; exact hcl i hi
        · rintro (h | ⟨k, g, ob, h, _⟩)
          · exact hX _ _ (by show w.heap.size ≤ gb; omega) h
          · cases h
      · intro i row j c e1 e2
        obtain ⟨hi, rfl, e4⟩ := hh i row j c e1 e2
        exact e4
  refine .agg #[v] _ rfl (fun x hx => ?_) fun i x c hx hc => ?_
  · simp at hx; subst hx
    obtain ⟨_, ⟨h1, _⟩ | ⟨gb, cap, cur, h1, _⟩⟩ := hG.own <;> rw [h1] <;> rfl
  · match i, hx, hc with
    | 0, hx, hc => simp at hx hc; subst hx; subst hc; exact .p _ _ hv
    | n + 1, hx, _ => simp at hx
end Go.Ab
