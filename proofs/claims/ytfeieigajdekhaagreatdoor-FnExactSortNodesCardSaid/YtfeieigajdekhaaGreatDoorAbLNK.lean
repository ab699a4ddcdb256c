/- spec.l16Linked, walked (both = false). -/
import Derived.Test.YtfeieigajdekhaaGreatDoorProg
import Derived.WalkKit
import Derived.WalkSpells
import Derived.Deep.LoopGhost
import Derived.Deep.OwnRows
import Derived.Deep.RegionHeld3
import Derived.Laws.MakeOwn
import Derived.Laws.AppendOwn
import Derived.Deep.RegionLaw
import Derived.Laws.Rows
namespace Go.Proofs
open Go.RowKit Go.Deep
set_option linter.unusedVariables false
set_option linter.unusedSimpArgs false
theorem step_append_mine {P : Program} {ops : Array Oper} {o : Oper} {a : Act} {w : World} {K : Act → World → Prop} {Q : Exit → Act → World → Prop} {E : Prop}
    (hg : o.guard = none) (s x : Operand) (t : TypeId) (hop : o.op = Op.call { callee := Callee.builtin Builtin.append, args := #[s, x], argTypes := #[t, t] })
    (base : Nat) (e : TypeId) (z : Value) (size bytes : Nat) (h1 : P.underlying t = some (.slice e)) (h2 : (P.info? e).map (fun i => (i.zero, i.size, i.bytes)) = some (some z, size, bytes)) (h6 : z.cells.size = size) (h7 : 0 < size)
    (v : Value) (n : Nat) (xs : List Value) (hs : a.eval s = v) (hown : w.ownsRow base e size v n xs)
    (ad : Addr) (m c : Nat) (news : List Value) (hx : a.eval x = .slice (some ad) m c) (hn : news.length = m * size) (hc : ∀ j u, news[j]? = some u → w.cell? (ad.add j) = some u) (h1c : ∀ u ∈ news, u.oneCell' = true)
    (b1 : n + m ≤ maxLen) (b2 : (n + m) * bytes ≤ 140737488355328) (hbase : base ≤ w.heap.size)
    (hK : ∀ v' w', w'.ownsRow base e size v' (n + m) (xs ++ news) → w.grownBy w' v.ownBlock → K (a.put o.dst v') w') :
    if Region.wanted o (yielded ops a.tmps) = true then Oper.wp P o a w K Q else E := by
  have hw : Region.wanted o (yielded ops a.tmps) = true := by simp [Region.wanted, hg]
  rw [if_pos hw]
  obtain ⟨i, hi, hzz⟩ := Option.map_eq_some_iff.1 h2
  simp only [Prod.mk.injEq] at hzz
  obtain ⟨hz, hsz, hb⟩ := hzz
  exact wp_append_own w s x t hop base e i z size bytes h1 hi hz hsz hb h6 h7 v n xs hs hown ad m c news hx hn hc h1c b1 b2 hbase fun v' w' q1 q2 _ => hK v' w' q1 q2
/-- Behind i rounds of the first loop: the argument's box, the result's cell, the variable's cell that holds v; v an own row of i slices, each a block of its own of n bools. -/
structure GI (w wr : World) (ns es : Value) (n i : Nat) (v : Value) (f : Nat → Nat) (rw : Nat → Nat → Bool) : Prop where
  since : Below w.heap.size w wr
  box : wr.rowIs w.heap.size 32 2 (fun k => if k = 0 then ns else es)
  res : wr.rowIs (w.heap.size + 1) 44 1 (fun _ => .slice none 0 0)
  out : wr.rowIs (w.heap.size + 2) 44 1 (fun _ => v)
  own : wr.ownsRow (w.heap.size + 3) 46 1 v i ((List.range i).map fun j => .slice (some ⟨f j, 0, none⟩) n n)
  inr : ∀ j, j < i → w.heap.size + 3 ≤ f j ∧ some (f j) ≠ v.ownBlock ∧ wr.rowIs (f j) 4 n (fun r => .bool (rw j r))
  inj : ∀ j k, j < i → k < i → f j = f k → j = k
theorem GI.size {w wr : World} {ns es v : Value} {n i : Nat} {f : Nat → Nat} {rw : Nat → Nat → Bool} (h : GI w wr ns es n i v f rw) : w.heap.size + 3 ≤ wr.heap.size := h.out.lt
theorem own_form {w : World} {base e size n : Nat} {v : Value} {xs : List Value} (h : w.ownsRow base e size v n xs) (hn : 0 < n) : ∃ g cap, v = .slice (some ⟨g, 0, none⟩) n cap ∧ base ≤ g ∧ n ≤ cap ∧ g < w.heap.size := by
  obtain ⟨_, h | ⟨g, cap, cur, rfl, hB, hg, hc, _⟩⟩ := h
  · omega
  · refine ⟨g, cap, rfl, hB, hc, ?_⟩
    rcases Nat.lt_or_ge g w.heap.size with h | h
    · exact h
    · rw [Array.getElem?_eq_none h] at hg; cases hg
theorem GI.start (w : World) (ns es : Value) (n : Nat) : GI w (((w.alloc (.cells #[ns, es] 32)).alloc (.cells #[.slice none 0 0] 44)).alloc (.cells #[.slice none 0 0] 44)) ns es n 0 (.slice none 0 0) (fun _ => 0) (fun _ _ => false) := by
  have s1 : (w.alloc (.cells #[ns, es] 32)).heap.size = w.heap.size + 1 := by simp
  have s2 : ((w.alloc (.cells #[ns, es] 32)).alloc (.cells #[.slice none 0 0] 44)).heap.size = w.heap.size + 2 := by simp
  refine ⟨(((Below.refl _ w).alloc (Nat.le_refl _) _).alloc (by rw [s1]; omega) _).alloc (by rw [s2]; omega) _, ?_, ?_, ?_, World.ownsRow_nil _ _ _ _, fun j hj => absurd hj (Nat.not_lt_zero _), fun j k hj => absurd hj (Nat.not_lt_zero _)⟩
  · exact ((World.rowIs_alloc w #[ns, es] 32 _ (fun i hi => by
      have : i = 0 ∨ i = 1 := by simp at hi; omega
      rcases this with rfl | rfl <;> rfl)).alloc _).alloc _
  · have h := World.rowIs_alloc (w.alloc (.cells #[ns, es] 32)) #[.slice none 0 0] 44 (fun _ => .slice none 0 0) (fun i hi => by
      have : i = 0 := by simp at hi; omega
      subst this; rfl)
    rw [s1] at h
    exact h.alloc _
  · have h := World.rowIs_alloc ((w.alloc (.cells #[ns, es] 32)).alloc (.cells #[.slice none 0 0] 44)) #[.slice none 0 0] 44 (fun _ => .slice none 0 0) (fun i hi => by
      have : i = 0 := by simp at hi; omega
      subst this; rfl)
    rw [s2] at h
    exact h
theorem GI.step {w wr w' : World} {ns es v v' : Value} {n i : Nat} {f : Nat → Nat} {rw0 : Nat → Nat → Bool} {o2 : Obj} (h : GI w wr ns es n i v f rw0)
    (ho : w'.ownsRow (w.heap.size + 3) 46 1 v' (i + 1) (((List.range i).map fun j => .slice (some ⟨f j, 0, none⟩) n n) ++ [.slice (some ⟨wr.heap.size, 0, none⟩) n n]))
    (hg : ((wr.drew.alloc (.cells (madeCells #[.bool false] n) 4)).alloc o2).grownBy w' v.ownBlock) :
    GI w (w'.setCell ⟨w.heap.size + 1 + 1, 0, none⟩ v') ns es n (i + 1) v' (fun j => if j = i then wr.heap.size else f j) (fun j r => if j = i then false else rw0 j r) := by
  have hs := h.size
  have hlt : ∀ k, v.ownBlock = some k → w.heap.size + 3 ≤ k ∧ k < wr.heap.size := h.own.lt
  have sz : (wr.drew.alloc (.cells (madeCells #[.bool false] n) 4)).heap.size = wr.heap.size + 1 := by simp
  have sz2 : ((wr.drew.alloc (.cells (madeCells #[.bool false] n) 4)).alloc o2).heap.size = wr.heap.size + 2 := by simp
  have old : ∀ k, k < wr.heap.size → some k ≠ v.ownBlock → w'.heap[k]? = wr.heap[k]? := fun k hk hn => by
    rw [hg.block k (by rw [sz2]; omega) hn, Below.heap_alloc _ _ _ (by rw [sz]; omega), Below.heap_alloc _ _ _ (by exact hk)]; rfl
  have oldS : ∀ k, k < wr.heap.size → some k ≠ v.ownBlock → k ≠ w.heap.size + 2 → (w'.setCell ⟨w.heap.size + 1 + 1, 0, none⟩ v').heap[k]? = wr.heap[k]? := fun k hk hn h2 => by
    rw [Below.heap_setCell _ _ _ _ (by show k ≠ w.heap.size + 1 + 1; omega), old k hk hn]
  have lowN : ∀ k, k < w.heap.size + 3 → some k ≠ v.ownBlock := fun k hk e => by have := hlt k e.symm; omega
  have newN : some wr.heap.size ≠ v.ownBlock := fun e => by have := hlt _ e.symm; omega
  have nv : ∀ b g, w'.rowIs b 4 n g → some b ≠ v'.ownBlock := fun b g hr e => by
    obtain ⟨_, h1 | ⟨gb, cap, cur, e1, _, h2, _⟩⟩ := ho
    · omega
    · rw [e1] at e
      simp only [Value.ownBlock, Option.some.injEq] at e
      obtain ⟨c, h3, _⟩ := hr
      rw [e, h2] at h3
      cases h3
  refine ⟨?_, h.box.of_block (oldS _ (by omega) (lowN _ (by omega)) (by omega)), h.res.of_block (oldS _ (by omega) (lowN _ (by omega)) (by omega)), ?_, ?_, fun j hj => ?_, fun j k hj hk e => ?_⟩
  · refine (((((h.since.drew).alloc (by show w.heap.size ≤ wr.heap.size; omega) _).alloc (by rw [sz]; omega) o2).grown hg (by rw [sz2]; omega) fun k hk => ?_)).setCell (by show w.heap.size ≤ w.heap.size + 1 + 1; omega) _
    have := hlt k hk; omega
  · have h1 : w'.rowIs (w.heap.size + 2) 44 1 (fun _ => v) := h.out.of_block (old _ (by omega) (lowN _ (by omega)))
    exact (h1.set 0 v').congr fun k hk => by rw [if_pos (by omega)]
  · have h1 := ownsRow_setCell_below ho (a := ⟨w.heap.size + 1 + 1, 0, none⟩) (by show w.heap.size + 1 + 1 < w.heap.size + 3; omega) v'
    have e : ((List.range (i + 1)).map fun j => Value.slice (some ⟨if j = i then wr.heap.size else f j, 0, none⟩) n n) = ((List.range i).map fun j => Value.slice (some ⟨f j, 0, none⟩) n n) ++ [Value.slice (some ⟨wr.heap.size, 0, none⟩) n n] := by
      rw [List.range_succ, List.map_append]
      congr 1
      · refine List.map_congr_left fun j hj => ?_
        rw [if_neg (by have := List.mem_range.1 hj; omega)]
      · simp
    rw [e]; exact h1
  · by_cases e : j = i
    · subst e
      simp only [if_true]
      have h1 := (World.rowIs_made wr.drew (.bool false) n 4).alloc o2
      have h2 : w'.rowIs wr.heap.size 4 n (fun _ => .bool false) := h1.of_block (hg.block wr.heap.size (by rw [sz2]; omega) newN)
      refine ⟨by omega, nv _ _ h2, ?_⟩
      exact h2.setOther (by show wr.heap.size ≠ w.heap.size + 1 + 1; omega) _
    · simp only [if_neg e]
      obtain ⟨q1, q2, q3⟩ := h.inr j (by omega)
      exact ⟨q1, nv _ _ (q3.of_block (old _ q3.lt q2)), q3.of_block (oldS _ q3.lt q2 (by omega))⟩
  · skip
    by_cases e1 : j = i
    · by_cases e2 : k = i
      · omega
      · rw [if_pos e1, if_neg e2] at e
        have := (h.inr k (by omega)).2.2.lt
        omega
    · by_cases e2 : k = i
      · rw [if_neg e1, if_pos e2] at e
        have := (h.inr j (by omega)).2.2.lt
        omega
      · rw [if_neg e1, if_neg e2] at e
        exact h.inj j k (by omega) (by omega) e
/-- One place is set. -/
theorem GI.put {w wr : World} {ns es v : Value} {n i : Nat} {f : Nat → Nat} {rw0 : Nat → Nat → Bool} (h : GI w wr ns es n i v f rw0) {a b : Nat} (ha : a < i) :
    GI w (wr.setCell ⟨f a, b, none⟩ (.bool true)) ns es n i v f (fun j r => if j = a ∧ r = b then true else rw0 j r) := by
  obtain ⟨q1, q2, q3⟩ := h.inr a ha
  refine ⟨h.since.setCell (by show w.heap.size ≤ f a; omega) _, h.box.setOther (by show w.heap.size ≠ f a; omega) _, h.res.setOther (by show w.heap.size + 1 ≠ f a; omega) _, h.out.setOther (by show w.heap.size + 2 ≠ f a; omega) _, ?_, fun j hj => ?_, h.inj⟩
  · obtain ⟨hl, h1 | ⟨g, cap, cur, e1, hB, hg, hc⟩⟩ := h.own
    · exact ⟨hl, .inl h1⟩
    · refine ⟨hl, .inr ⟨g, cap, cur, e1, hB, ?_, hc⟩⟩
      rw [Below.heap_setCell _ _ _ _ (by
        show g ≠ f a
        intro e; apply q2; rw [e1]; simp [Value.ownBlock, e])]
      exact hg
  · obtain ⟨p1, p2, p3⟩ := h.inr j hj
    refine ⟨p1, p2, ?_⟩
    by_cases e : j = a
    · subst e
      refine (p3.set b (.bool true)).congr fun r hr => ?_
      by_cases e2 : r = b
      · simp [e2]
      · simp [e2]
    · refine (p3.setOther (by show f j ≠ f a; exact fun e2 => e (h.inj j a hj ha e2)) _).congr fun r hr => ?_
      simp [e]
theorem GI.later {w wr w' : World} {ns es v : Value} {n i : Nat} {f : Nat → Nat} {rw0 : Nat → Nat → Bool} (h : GI w wr ns es n i v f rw0) (hB : Below wr.heap.size wr w') : GI w w' ns es n i v f rw0 := by
  have hs := h.size
  refine ⟨h.since.trans (hB.mono (by omega)), h.box.of_block (hB.block _ h.box.lt), h.res.of_block (hB.block _ h.res.lt), h.out.of_block (hB.block _ h.out.lt), ?_, fun j hj => ?_, h.inj⟩
  · obtain ⟨hl, h1 | ⟨g, cap, cur, e1, hb, hg, hc⟩⟩ := h.own
    · exact ⟨hl, .inl h1⟩
    · refine ⟨hl, .inr ⟨g, cap, cur, e1, hb, ?_, hc⟩⟩
      rw [hB.block _ (by
        rcases Nat.lt_or_ge g wr.heap.size with h | h
        · exact h
        · rw [Array.getElem?_eq_none h] at hg; cases hg)]
      exact hg
  · obtain ⟨q1, q2, q3⟩ := h.inr j hj
    exact ⟨q1, q2, q3.of_block (hB.block _ q3.lt)⟩
/-- What stands behind the call. -/
structure GO (w wr : World) (n : Nat) (v : Value) (f : Nat → Nat) (rw : Nat → Nat → Bool) : Prop where
  since : Below w.heap.size w wr
  own : wr.ownsRow (w.heap.size + 3) 46 1 v n ((List.range n).map fun j => .slice (some ⟨f j, 0, none⟩) n n)
  inr : ∀ j, j < n → w.heap.size + 3 ≤ f j ∧ wr.rowIs (f j) 4 n (fun r => .bool (rw j r))
theorem GI.done {w wr : World} {ns es v : Value} {n : Nat} {f : Nat → Nat} {rw0 : Nat → Nat → Bool} (h : GI w wr ns es n n v f rw0) (u : Value) : GO w (wr.setCell ⟨w.heap.size + 1, 0, none⟩ u) n v f rw0 :=
  ⟨h.since.setCell (by show w.heap.size ≤ w.heap.size + 1; omega) _, ownsRow_setCell_below h.own (by show w.heap.size + 1 < w.heap.size + 3; omega) _, fun j hj => by
    obtain ⟨q1, _, q3⟩ := h.inr j hj
    exact ⟨q1, q3.setOther (by show f j ≠ w.heap.size + 1; omega) _⟩⟩
theorem GI.elem {w wr : World} {ns es : Value} {n i gb cap : Nat} {f : Nat → Nat} {rw0 : Nat → Nat → Bool} (h : GI w wr ns es n i (.slice (some ⟨gb, 0, none⟩) i cap) f rw0) {a : Nat} (ha : a < i) : wr.cell? ⟨gb, a, none⟩ = some (.slice (some ⟨f a, 0, none⟩) n n) := by
  have h1 := h.own.cells (g := gb) rfl a (.slice (some ⟨f a, 0, none⟩) n n) (by simp [ha])
  have e : (⟨gb, 0, none⟩ : Addr).add a = ⟨gb, a, none⟩ := by
    simp only [Addr.add, Nat.zero_add]
    split
    · rename_i h0; subst h0; rfl
    · rfl
  rwa [e] at h1
theorem GI.drew {w wr : World} {ns es v : Value} {n i : Nat} {f : Nat → Nat} {rw0 : Nat → Nat → Bool} (h : GI w wr ns es n i v f rw0) : GI w wr.drew ns es n i v f rw0 :=
  ⟨h.since.drew, h.box, h.res, h.out, h.own, h.inr, h.inj⟩
end Go.Proofs
namespace Go.Proofs
open Go.RowKit Go.Deep
set_option linter.unusedVariables false
set_option linter.unusedSimpArgs false
/-- Is there an edge from x to y among the first j? -/
def lnkB (a b : Nat → Nat) (j x y : Nat) : Bool := (List.range j).any fun t => a t == x && b t == y
theorem lnk_succ (a b : Nat → Nat) (j : Nat) : (fun x y => if x = a j ∧ y = b j then true else lnkB a b j x y) = lnkB a b (j + 1) := by
  funext x y
  unfold lnkB
  rw [List.range_succ, List.any_append]
  simp only [List.any_cons, List.any_nil, Bool.or_false]
  by_cases h : x = a j ∧ y = b j
  · rw [if_pos h, h.1, h.2]; simp
  · rw [if_neg h]
    have : (a j == x && b j == y) = false := by
      simp only [Bool.and_eq_false_iff, beq_eq_false_iff_ne]
      by_cases e : x = a j
      · right; intro e2; exact h ⟨e, e2.symm⟩
      · left; intro e2; exact e e2.symm
    rw [this, Bool.or_false]
theorem row_one {w : World} {b t : Nat} {f : Nat → Value} (h : w.rowIs b t 1 f) : w.heap[b]? = some (.cells #[f 0] t (0, 0)) := by
  obtain ⟨c, h1, h2, h3⟩ := h
  have e : c = #[f 0] := by
    apply Array.ext
    · simp [h2]
    · intro i hi1 hi2
      have : i = 0 := by omega
      subst this
      have := h3 0 (by omega)
      rw [Array.getElem?_eq_getElem hi1] at this
      simpa using this
  rw [h1, e]
set_option maxHeartbeats 2000000 in
set_option maxRecDepth 1000000 in
theorem linked_walk (NA EA : Option Addr) (n nc m ec eb eo : Nat) (w : World) (hn : n ≤ 1048576) (hm : m ≤ 1048576) (fr to : Nat → Int) (a b : Nat → Nat)
    (hE : ∀ j, j < m → w.cell? ⟨eb, eo + j * 5 + 2, none⟩ = some (.int .i64 (fr j)) ∧ w.cell? ⟨eb, eo + j * 5 + 3, none⟩ = some (.int .i64 (to j)))
    (hEA : 0 < m → EA = some ⟨eb, eo, none⟩)
    (hab : ∀ j, j < m → a j < n ∧ b j < n)
    (ha : ∀ W j, j < m → Below w.heap.size w W → Calls Tryz.prog 29 #[.agg #[.slice NA n nc, .slice EA m ec], .int .i64 (fr j)] W fun e W' => e = .returned (.int .i64 (a j)) ∧ Below W.heap.size W W')
    (hb : ∀ W j, j < m → Below w.heap.size w W → Calls Tryz.prog 29 #[.agg #[.slice NA n nc, .slice EA m ec], .int .i64 (to j)] W fun e W' => e = .returned (.int .i64 (b j)) ∧ Below W.heap.size W W') :
    Calls Tryz.prog 16 #[.agg #[.slice NA n nc, .slice EA m ec], .bool false] w fun e w' => ∃ v f, e = .returned (.agg #[v]) ∧ GO w w' n v f (lnkB a b m) := by
  have HA : Aside (_ ∧ _) := ⟨ha, hb⟩
  have HE : Aside (_ ∧ _) := ⟨hE, hab⟩
  have HEA : Aside (0 < m → EA = some ⟨eb, eo, none⟩) := hEA
  clear ha hb hE hab hEA
  go_enter Tryz.func16, Tryz.ntmps16
  go_wp2
  go_loopg [6] n (fun g s6 wr => ∃ (i : Nat) (v : Value) (f : Nat → Nat), s6 = .int .i64 i ∧ i ≤ n ∧ n - i ≤ g ∧ GI w wr (.slice NA n nc) (.slice EA m ec) n i v f (fun _ _ => false))
  case atStart => exact ⟨0, _, _, rfl, by omega, by omega, GI.start w _ _ n⟩
  case round =>
    obtain ⟨i, v, f, rfl, hi, hg, hG⟩ := hrel
    have c0 : wr.cell? ⟨w.heap.size, 0, none⟩ = some (.slice NA n nc) := hG.box.cell (by omega)
    have c2 : wr.cell? ⟨w.heap.size + 1 + 1, 0, none⟩ = some v := hG.out.cell (i := 0) (by omega)
    have A : Aside (GI w wr (.slice NA n nc) (.slice EA m ec) n i v f (fun _ _ => false)) := hG
    by_cases hlt : i < n
    · have i4 : (Tryz.prog.info? 4).map (fun i => (i.zero, i.size, i.bytes)) = some (some (.bool false), 1, 1) := by kernel_rfl
      have i46 : Aside ((Tryz.prog.info? 46).map (fun i => (i.zero, i.size, i.bytes)) = some (some (.slice none 0 0), 1, 24)) := (by kernel_rfl : (Tryz.prog.info? 46).map (fun i => (i.zero, i.size, i.bytes)) = some (some (.slice none 0 0), 1, 24))
      have hmk := run_make_row' (P := Tryz.prog) 46 4 (.bool false) 1 Tryz.underlying46 i4 rfl .i64 .i64 n (by omega) (by omega)
      have HO : Aside (∀ o1 o2, ((wr.alloc o1).alloc o2).drew.ownsRow (w.heap.size + 3) 46 1 v i ((List.range i).map fun j => .slice (some ⟨f j, 0, none⟩) n n)) := fun o1 o2 => World.ownsRow.alloc (World.ownsRow.alloc hG.own o1) o2
      have HB : Aside (i + 1 ≤ maxLen ∧ (i + 1) * 24 ≤ 140737488355328) := ⟨by unfold maxLen; omega, by omega⟩
      have HS : Aside (∀ o1 o2, w.heap.size + 3 ≤ ((wr.alloc o1).alloc o2).drew.heap.size) := fun o1 o2 => by have := hG.size; simp; omega
      have HC : Aside (∀ (o1 : Obj) (w' : World) (o2 : Obj), ((wr.alloc o1).alloc o2).drew.grownBy w' v.ownBlock → w'.cell? ⟨w.heap.size + 1 + 1, 0, none⟩ = some v ∧ w'.frozen? ⟨w.heap.size + 1 + 1, 0, none⟩ = false) := fun o1 w' o2 hg => by
        have hlt : ∀ k, v.ownBlock = some k → w.heap.size + 3 ≤ k ∧ k < wr.heap.size := hG.own.lt
        have h1 : ((wr.alloc o1).alloc o2).drew.rowIs (w.heap.size + 2) 44 1 (fun _ => v) := World.rowIs.drew ((hG.out.alloc o1).alloc o2)
        have h2 : w'.rowIs (w.heap.size + 2) 44 1 (fun _ => v) := h1.of_block (hg.block _ h1.lt (fun e => by have := hlt _ e.symm; omega))
        exact ⟨h2.cell (i := 0) (by omega), h2.frozen 0⟩
      have NW : Aside (∀ (c1 : Array Value) (u : Value), ∀ j x, [u][j]? = some x → ((wr.alloc (.cells c1 4)).alloc (.cells #[u] 46)).drew.cell? ((⟨wr.heap.size + 1, 0, none⟩ : Addr).add j) = some x) := fun c1 u j x hj => by
        match j, hj with
        | 0, hj =>
          simp at hj; subst hj
          have h1 := World.rowIs_alloc (wr.alloc (.cells c1 4)) #[u] 46 (fun _ => u) (fun i hi => by
            have : i = 0 := by simp at hi; omega
            subst this; rfl)
          have e : (wr.alloc (.cells c1 4)).heap.size = wr.heap.size + 1 := by simp
          rw [e] at h1
          have h2 := h1.cell (i := 0) (by simp)
          simp [Addr.add]
        | j + 1, hj => simp at hj
      have c2a : ∀ o, (wr.alloc o).cell? ⟨w.heap.size + 1 + 1, 0, none⟩ = some v := fun o => (hG.out.alloc o).cell (i := 0) (by omega)
      have c2b : ∀ o o', ((wr.alloc o).alloc o').cell? ⟨w.heap.size + 1 + 1, 0, none⟩ = some v := fun o o' => ((hG.out.alloc o).alloc o').cell (i := 0) (by omega)
      clear hG i4
      go_wp2_with fail
      go_region_law (refine step_append_mine rfl (.tmp 19) (.tmp 24) 42 rfl (w.heap.size + 3) 46 (.slice none 0 0) 1 24 Tryz.underlying42 i46.out rfl (by decide) v i _ (by simp [Act.eval]) (HO.out _ _) ⟨wr.heap.size + 1, 0, none⟩ 1 1 [.slice (some ⟨wr.heap.size, 0, none⟩) n n] (by simp [Act.eval]) rfl (NW.out _ _) (by intro u hu; simp at hu; subst hu; rfl) HB.out.1 HB.out.2 (HS.out _ _) ?_; intro v' w' ho hg2; obtain ⟨gb, cp, rfl, hgb, hcp, hgl⟩ := own_form ho (by omega); have c3 := (HC.out _ _ _ hg2).1; have z3 := (HC.out _ _ _ hg2).2)
      all_goals go_wp2
      all_goals go_roundg (n - (i + 1))
      all_goals first
        | omega
        | (have hS := GI.step A.out ho hg2
           simp only [ite_self] at hS
           exact ⟨i + 1, _, _, rfl, by omega, Nat.le_refl _, hS⟩)
    · have : i = n := by omega
      subst this
      clear c0 c2
      have A0 : Aside (GI w wr (.slice NA i nc) (.slice EA m ec) i i v f (lnkB a b 0)) := A.out
      have c0 : wr.cell? ⟨w.heap.size, 0, none⟩ = some (.slice NA i nc) := A.out.box.cell (i := 0) (by omega)
      obtain ⟨VA, vc, rfl, hvi⟩ : ∃ A c, v = .slice A i c ∧ (0 < i → ∃ gb, A = some ⟨gb, 0, none⟩) := by
        obtain ⟨_, ⟨h1, h2⟩ | ⟨g, cap, cur, h1, _⟩⟩ := A.out.own
        · exact ⟨none, 0, by rw [h1, h2], fun h => by omega⟩
        · exact ⟨_, _, h1, fun _ => ⟨g, rfl⟩⟩
      have HV : Aside (0 < i → ∃ gb, VA = some ⟨gb, 0, none⟩) := hvi
      clear hvi
      go_wp2
      clear c0
      go_loopg [7] m (fun g s7 wq => ∃ j : Nat, s7 = .int .i64 j ∧ j ≤ m ∧ m - j ≤ g ∧ GI w wq (.slice NA i nc) (.slice EA m ec) i i (.slice VA i vc) f (lnkB a b j))
      case atStart => exact ⟨0, rfl, by omega, by omega, A0.out⟩
      case round =>
        obtain ⟨j, rfl, hj, hgj, hJ⟩ := hrel
        have c1 : wr.cell? ⟨w.heap.size, 1, none⟩ = some (.slice EA m ec) := hJ.box.cell (i := 1) (by omega)
        have c0 : wr.cell? ⟨w.heap.size, 0, none⟩ = some (.slice NA i nc) := hJ.box.cell (i := 0) (by omega)
        have J : Aside (GI w wr (.slice NA i nc) (.slice EA m ec) i i (.slice VA i vc) f (lnkB a b j)) := hJ
        by_cases hlt2 : j < m
        · obtain rfl := HEA.out (by omega)
          have hEj := HE.out.1 j hlt2
          have hebl : eb < w.heap.size := World.block_lt_of_cell? _ _ hEj.1
          have e1 : wr.cell? ⟨eb, eo + j * 5 + 2, none⟩ = some (.int .i64 (fr j)) := by rw [hJ.since.cell (p := ⟨eb, _, none⟩) hebl]; exact hEj.1
          have e2 : wr.cell? ⟨eb, eo + j * 5 + 3, none⟩ = some (.int .i64 (to j)) := by rw [hJ.since.cell (p := ⟨eb, _, none⟩) hebl]; exact hEj.2
          have CX : Aside (∀ (id : Int) (r : Nat), (∀ W, Below w.heap.size w W → Calls Tryz.prog 29 #[.agg #[.slice NA i nc, .slice (some ⟨eb, eo, none⟩) m ec], .int .i64 id] W fun e W' => e = .returned (.int .i64 r) ∧ Below W.heap.size W W') → ∀ W, GI w W (.slice NA i nc) (.slice (some ⟨eb, eo, none⟩) m ec) i i (.slice VA i vc) f (lnkB a b j) → Calls Tryz.prog 29 #[.agg #[.slice NA i nc, .slice (some ⟨eb, eo, none⟩) m ec], .int .i64 id] W fun e W' => e = .returned (.int .i64 r) ∧
              (W'.cell? ⟨w.heap.size, 0, none⟩ = some (.slice NA i nc) ∧ W'.cell? ⟨w.heap.size, 1, none⟩ = some (.slice (some ⟨eb, eo, none⟩) m ec) ∧ W'.cell? ⟨eb, eo + j * 5 + 2, none⟩ = some (.int .i64 (fr j)) ∧ W'.cell? ⟨eb, eo + j * 5 + 3, none⟩ = some (.int .i64 (to j)) ∧ Aside (GI w W' (.slice NA i nc) (.slice (some ⟨eb, eo, none⟩) m ec) i i (.slice VA i vc) f (lnkB a b j)))) := fun id r hc W hW => (hc W hW.since).mono fun e W' ⟨h1, hB⟩ => by
            have h2 := hW.later hB
            refine ⟨h1, h2.box.cell (i := 0) (by omega), h2.box.cell (i := 1) (by omega), ?_, ?_, h2⟩
            · rw [h2.since.cell (p := ⟨eb, _, none⟩) hebl]; exact hEj.1
            · rw [h2.since.cell (p := ⟨eb, _, none⟩) hebl]; exact hEj.2
          have CA : Aside (_) := CX.out (fr j) (a j) (fun W hW => HA.out.1 W j hlt2 hW)
          have CB : Aside (_) := CX.out (to j) (b j) (fun W hW => HA.out.2 W j hlt2 hW)
          have JD : Aside (GI w wr.drew (.slice NA i nc) (.slice (some ⟨eb, eo, none⟩) m ec) i i (.slice VA i vc) f (lnkB a b j)) := J.out.drew
          clear hJ hEj
          go_wp2_with fail
          go_region_held3 (fun w' => w'.cell? ⟨w.heap.size, 0, none⟩ = some (.slice NA i nc) ∧ w'.cell? ⟨w.heap.size, 1, none⟩ = some (.slice (some ⟨eb, eo, none⟩) m ec) ∧ w'.cell? ⟨eb, eo + j * 5 + 2, none⟩ = some (.int .i64 (fr j)) ∧ w'.cell? ⟨eb, eo + j * 5 + 3, none⟩ = some (.int .i64 (to j)) ∧ Aside (GI w w' (.slice NA i nc) (.slice (some ⟨eb, eo, none⟩) m ec) i i (.slice VA i vc) f (lnkB a b j))) (first | assumption | (refine ⟨?_, ?_, ?_, ?_, ?_⟩ <;> assumption) | exact ⟨c0, c1, e1, e2, JD⟩)
            (first | (go_at_call 29; refine (CA.out _ (Aside.out ‹Aside (GI w _ _ _ _ _ _ _ _)›)).mono ?_; rintro e w' ⟨rfl, hw'⟩))
          obtain ⟨d0, d1, d2, d3, dJ⟩ := hw'
          clear c0 c1 e1 e2 JD J
          have JD : Aside (GI w w'.drew (.slice NA i nc) (.slice (some ⟨eb, eo, none⟩) m ec) i i (.slice VA i vc) f (lnkB a b j)) := dJ.out.drew
          go_wp2_with fail
          go_region_held3 (fun w' => w'.cell? ⟨w.heap.size, 0, none⟩ = some (.slice NA i nc) ∧ w'.cell? ⟨w.heap.size, 1, none⟩ = some (.slice (some ⟨eb, eo, none⟩) m ec) ∧ w'.cell? ⟨eb, eo + j * 5 + 2, none⟩ = some (.int .i64 (fr j)) ∧ w'.cell? ⟨eb, eo + j * 5 + 3, none⟩ = some (.int .i64 (to j)) ∧ Aside (GI w w' (.slice NA i nc) (.slice (some ⟨eb, eo, none⟩) m ec) i i (.slice VA i vc) f (lnkB a b j))) (first | assumption | (refine ⟨?_, ?_, ?_, ?_, ?_⟩ <;> assumption) | exact ⟨d0, d1, d2, d3, JD⟩)
            (first | (go_at_call 29; refine (CB.out _ (Aside.out ‹Aside (GI w _ _ _ _ _ _ _ _)›)).mono ?_; rintro e w'' ⟨rfl, hw''⟩))
          obtain ⟨g0, g1, g2, g3, gJ⟩ := hw''
          obtain ⟨gb, rfl⟩ := HV.out (by have := (HE.out.2 j hlt2).1; omega)
          have la := (HE.out.2 j hlt2).1
          have lb := (HE.out.2 j hlt2).2
          have la' : (a j : Int) < (i : Int) := by omega
          have lb' : (b j : Int) < (i : Int) := by omega
          have k5 : w''.cell? ⟨w.heap.size + 1 + 1, 0, none⟩ = some (.slice (some ⟨gb, 0, none⟩) i vc) := gJ.out.out.cell (i := 0) (by omega)
          have ke : w''.cell? ⟨gb, a j, none⟩ = some (.slice (some ⟨f (a j), 0, none⟩) i i) := gJ.out.elem la
          have kr := (gJ.out.inr (a j) la).2.2
          have kc : w''.cell? ⟨f (a j), b j, none⟩ = some (.bool (lnkB a b j (a j) (b j))) := kr.cell lb
          have kz : w''.frozen? ⟨f (a j), b j, none⟩ = false := kr.frozen _
          have GP : Aside _ := gJ.out.put (b := b j) la
          generalize lnkB a b j (a j) (b j) = old at kc
          clear kr gJ dJ JD d0 d1 d2 d3 g0 g1 g2 g3
          go_wp2_with fail
          go_roundg (m - (j + 1))
          case measure => omega
          case rel =>
            have hGP := GP.out
            rw [lnk_succ] at hGP
            exact ⟨j + 1, rfl, by omega, Nat.le_refl _, hGP⟩
        · have : j = m := by omega
          subst this
          have c5 : wr.cell? ⟨w.heap.size + 1 + 1, 0, none⟩ = some (.slice VA i vc) := hJ.out.cell (i := 0) (by omega)
          have c4 : wr.cell? ⟨w.heap.size + 1, 0, none⟩ = some (.slice none 0 0) := hJ.res.cell (i := 0) (by omega)
          have z4 : wr.frozen? ⟨w.heap.size + 1, 0, none⟩ = false := hJ.res.frozen 0
          have JO : Aside _ := hJ.done (.slice VA i vc)
          clear hJ c0
          have JR : Aside ((wr.setCell ⟨w.heap.size + 1, 0, none⟩ (.slice VA i vc)).heap[w.heap.size + 1]? = some (.cells #[.slice VA i vc] 44 (0, 0))) := row_one (f := fun _ => .slice VA i vc) ((J.out.res.set 0 _).congr fun k hk => by rw [if_pos (by omega)])
          go_wp2
          refine bodyPost_ret (results_cell_row rfl _ _ (w.heap.size + 1) 44 #[.slice VA i vc] (0, 0) _ rfl JR.out Tryz.underlying44 rfl (by kernel_rfl)) rfl ?_
          exact ⟨_, f, rfl, JO.out⟩
end Go.Proofs
