/- What stands of the abstract values while the run goes on. -/
import Derived.Test.YtphfoghhcemfhaaAbD
import Derived.Below
namespace Go.Ab
set_option linter.unusedVariables false
set_option linter.unusedSimpArgs false
theorem lk_cons {α : Type} (k : Nat) (v : α) (r : List (Nat × α)) (t : Nat) : lk ((k, v) :: r) t = if k = t then some v else lk r t := by
  simp only [lk]
  by_cases h : k = t
  · simp [h]
  · rw [if_neg h, beq_eq_false_iff_ne.mpr h]; rfl
theorem add_block (a : Addr) (n : Nat) : (a.add n).block = a.block := by unfold Addr.add; split <;> rfl
theorem add_off (a : Addr) (n : Nat) : (a.add n).off = a.off + n := by unfold Addr.add; split <;> simp_all
theorem add_zero' (a : Addr) : a.add 0 = a := rfl
theorem add_add (a : Addr) (n m : Nat) : (a.add n).add m = a.add (n + m) := by
  unfold Addr.add; by_cases hn : n = 0 <;> by_cases hm : m = 0 <;> simp_all [Nat.add_assoc]
theorem add_spot (a : Addr) (n : Nat) (h : a.spot = none) : (a.add n).spot = none := by unfold Addr.add; split <;> simp_all
theorem add_mk (b o n : Nat) : (⟨b, o, none⟩ : Addr).add n = ⟨b, o + n, none⟩ := by unfold Addr.add; split <;> simp_all
theorem cell_lt {w : World} {a : Addr} {v : Value} (h : w.cell? a = some v) : a.block < w.heap.size := World.block_lt_of_cell? w _ h
theorem Rp.mono {Ow Ow' : Nat → Nat → Prop} {w w' : World} (he : Evo Ow w Ow' w') {v : Value} {pv : PV} (h : Rp Ow w v pv) : Rp Ow' w' v pv := by
  induction h with
  | lst A cap sz full rows u hcap hfull hsz hc hr ih =>
    refine .lst A cap sz full rows u hcap hfull hsz (fun i row j c h1 h2 => ?_) ih
    obtain ⟨ad, e, hcell, hno⟩ := hc i row j c h1 h2
    have hlt := cell_lt hcell
    rw [add_block] at hlt
    refine ⟨ad, e, ?_, fun h => ?_⟩
    · rw [he.cell _ (by rw [add_block]; exact hlt) (by rw [add_block, add_off]; exact hno)]; exact hcell
    · rcases he.own _ _ h with h | h
      · exact hno h
      · omega
  | ifc v b h h' => exact .ifc v b h h'
  | _ => constructor
structure Ext (ι : Pl) (m : Mem) (w : World) (ι' : Pl) (m' : Mem) (w' : World) : Prop where
  evo : Evo (OwnM ι m) w (OwnM ι' m') w'
  keys : Keys ι m ι' m'
  x : ι'.fr = ι.fr
theorem Ext.evoX {ι ι' : Pl} {m m' : Mem} {w w' : World} (h : Ext ι m w ι' m' w') : Evo (Own ι m) w (Own ι' m') w' :=
  ⟨h.evo.os, h.evo.tape, h.evo.output, h.evo.size, fun b hb hn => h.evo.blk b hb fun o ho => hn o (.inr ho), fun a ha hn => h.evo.cell a ha fun ho => hn (.inr ho), fun b o ho => ho.elim (fun q => .inl (.inl (h.x ▸ q))) fun q => (h.evo.own b o q).imp .inr id⟩
theorem ent_of_lk {m : Mem} {k g : Nat} {ob : Ob} (h : lk m k = some (g, ob)) : ent m k = (g, ob) := by simp [ent, h]
theorem Keys.back {ι ι' : Pl} {m m' : Mem} (h : Keys ι m ι' m') {k g : Nat} {ob' : Ob} (hk : lk m' k = some (g, ob')) (hg : g ≤ (ent m k).1) (hn : ob' ≠ .gone) : ∃ ob, lk m k = some (g, ob) ∧ Compat ι ob ι' ob' k := by
  rcases h.2 k g ob' hk with h | h | h
  · exact h
  · omega
  · exact absurd h hn
theorem Ra.mono {ι ι' : Pl} {m m' : Mem} {w w' : World} (he : Ext ι m w ι' m' w') {v : Value} {a : AV} (h : Ra ι m w v a) : Ra ι' m' w' v a := by
  induction h with
  | u v => exact .u v
  | und => exact .und
  | p v pv h => exact .p v pv (h.mono he.evoX)
  | agg vs cs hl hone h ih => exact .agg vs cs hl hone ih
  | tup vs cs hl h ih => exact .tup vs cs hl ih
  | ptr v k g off h1_ hg h =>
    refine .ptr v k g off h1_ (Nat.le_trans hg (he.keys.1 k)) fun cs hk => ?_
    obtain ⟨ob, h1, ⟨cs1, rfl⟩, h2⟩ := he.keys.back hk hg (by simp)
    rw [h cs1 h1, h2]
  | cptr ad cells u hs h hr =>
    refine .cptr ad cells u hs (fun j c hj => ?_) (fun j c hj => (hr j c hj).mono he.evoX)
    obtain ⟨h1, h2⟩ := h j c hj
    have hlt := cell_lt h1
    rw [add_block] at hlt
    refine ⟨?_, fun h => ?_⟩
    · rw [he.evoX.cell _ (by rw [add_block]; exact hlt) (by rw [add_block, add_off]; exact h2)]; exact h1
    · rcases he.evoX.own _ _ h with h | h
      · exact h2 h
      · omega
  | tip v k g rows hg hp h =>
    refine .tip v k g rows (Nat.le_trans hg (he.keys.1 k)) (hp.mono he.evoX) fun s n hk => ?_
    obtain ⟨ob, h1, n0, rfl, h2, h3⟩ := he.keys.back hk hg (by simp)
    obtain ⟨h4, h5⟩ := h s n0 h1
    refine ⟨Nat.le_trans h4 h2, fun e => ?_⟩
    have : n0 = n := by omega
    rw [h3 this, ← this]; exact h5 (by omega)
  | buf v k g lo n h1_ hg h =>
    refine .buf v k g lo n h1_ (Nat.le_trans hg (he.keys.1 k)) fun s rows hk => ?_
    obtain ⟨ob, h1, ⟨rows1, rfl, h2⟩, h3⟩ := he.keys.back hk hg (by simp)
    rw [h3, ← h2]; exact h s rows1 h1
  | eptr v k g i off h1_ hg h =>
    refine .eptr v k g i off h1_ (Nat.le_trans hg (he.keys.1 k)) fun s rows hk => ?_
    obtain ⟨ob, h1, ⟨rows1, rfl, h2⟩, h3⟩ := he.keys.back hk hg (by simp)
    rw [h3]; exact h s rows1 h1
  | mp v k g h1_ hg h =>
    refine .mp v k g h1_ (Nat.le_trans hg (he.keys.1 k)) fun mk ag es hk => ?_
    obtain ⟨ob, h1, ⟨es1, rfl⟩, h2⟩ := he.keys.back hk hg (by simp)
    rw [h mk ag es1 h1, h2]
  | clo f first caps fs cs hl1 hl2 h1 h2 ih1 ih2 => exact .clo f first caps fs cs hl1 hl2 ih1 ih2
theorem Evo.refl (Ow : Nat → Nat → Prop) (w : World) : Evo Ow w Ow w := ⟨rfl, rfl, rfl, Nat.le_refl _, fun _ _ _ => rfl, fun _ _ _ => rfl, fun _ _ h => .inl h⟩
theorem Evo.trans {A B D : Nat → Nat → Prop} {a b c : World} (h : Evo A a B b) (k : Evo B b D c) : Evo A a D c where
  os := k.os.trans h.os
  tape := k.tape.trans h.tape
  output := k.output.trans h.output
  size := Nat.le_trans h.size k.size
  blk i hi hn := (k.blk i (Nat.lt_of_lt_of_le hi h.size) fun o ho => (h.own i o ho).elim (hn o) (fun h => by omega)).trans (h.blk i hi hn)
  cell p hp hn := (k.cell p (Nat.lt_of_lt_of_le hp h.size) fun ho => (h.own _ _ ho).elim hn (fun h => by omega)).trans (h.cell p hp hn)
  own i o ho := by
    rcases k.own i o ho with q | q
    · exact h.own i o q
    · exact .inr (Nat.le_trans h.size q)
theorem Compat.refl (ι : Pl) (ob : Ob) (k : Nat) : Compat ι ob ι ob k := by cases ob <;> simp [Compat]
theorem Keys.refl (ι : Pl) (m : Mem) : Keys ι m ι m := ⟨fun _ => Nat.le_refl _, fun k g ob h => .inl ⟨ob, h, Compat.refl ι ob k⟩⟩
theorem Compat.trans {ι ι' ι'' : Pl} {a b c : Ob} {k : Nat} (h : Compat ι a ι' b k) (h' : Compat ι' b ι'' c k) : Compat ι a ι'' c k := by
  cases c with
  | cells cs => obtain ⟨⟨c1, rfl⟩, h2⟩ := h'; obtain ⟨h3, h4⟩ := h; exact ⟨h3, h2.trans h4⟩
  | tip s n => obtain ⟨n1, rfl, h2, h3⟩ := h'; obtain ⟨n0, rfl, h5, h6⟩ := h; exact ⟨n0, rfl, by omega, fun e => (h3 (by omega)).trans (h6 (by omega))⟩
  | map mk ag es => obtain ⟨⟨c1, rfl⟩, h2⟩ := h'; obtain ⟨h3, h4⟩ := h; exact ⟨h3, h2.trans h4⟩
  | buf s r => obtain ⟨⟨r1, rfl, h2⟩, h3⟩ := h'; obtain ⟨⟨r0, rfl, h5⟩, h6⟩ := h; exact ⟨⟨r0, rfl, h5.trans h2⟩, h3.trans h6⟩
  | gone => trivial
theorem Keys.trans {ι ι' ι'' : Pl} {a b c : Mem} (h : Keys ι a ι' b) (h' : Keys ι' b ι'' c) : Keys ι a ι'' c := by
  refine ⟨fun k => Nat.le_trans (h.1 k) (h'.1 k), fun k g ob hk => ?_⟩
  rcases h'.2 k g ob hk with ⟨ob1, h1, h2⟩ | h1 | h1
  · rcases h.2 k g ob1 h1 with ⟨ob0, h3, h4⟩ | h3 | rfl
    · exact .inl ⟨ob0, h3, h4.trans h2⟩
    · exact .inr (.inl h3)
    · exact .inr (.inr (by cases ob <;> simp [Compat] at h2 <;> rfl))
  · exact .inr (.inl (Nat.lt_of_le_of_lt (h.1 k) h1))
  · exact .inr (.inr h1)
theorem Ext.refl (ι : Pl) (m : Mem) (w : World) : Ext ι m w ι m w := ⟨.refl _ _, .refl _ _, rfl⟩
theorem Ext.trans {ι ι' ι'' : Pl} {a b c : Mem} {w w' w'' : World} (h : Ext ι a w ι' b w') (h' : Ext ι' b w' ι'' c w'') : Ext ι a w ι'' c w'' := ⟨h.evo.trans h'.evo, h.keys.trans h'.keys, h'.x.trans h.x⟩

theorem GK.mono {ι ι' : Pl} {m m' : Mem} {w w' : World} (he : Ext ι m w ι' m' w') (h : GK ι m w) : GK ι' m' w' := fun p hp => by
  rw [he.x] at hp
  obtain ⟨h1, h2⟩ := h p hp
  have hlt : p.1 < w.heap.size := (Array.getElem?_eq_some_iff.1 h1).1
  refine ⟨by rw [he.evoX.blk _ hlt h2]; exact h1, fun o ho => ?_⟩
  rcases he.evoX.own _ _ ho with h | h
  · exact h2 o h
  · omega
theorem own_lt {ι : Pl} {m : Mem} {w : World} {c : CA} {ob : Ob} (h : ObOk ι m w c ob) {b o : Nat} (ho : OwnK c ob b o) : b < w.heap.size := by
  have key : ∀ {b : Nat} {x : Obj}, w.heap[b]? = some x → b < w.heap.size := fun h => (Array.getElem?_eq_some_iff.1 h).1
  cases ob with
  | cells cs => obtain ⟨vs, t, h1, _⟩ := h; exact (ho : c.blk = b) ▸ key h1
  | map mk ag es => obtain ⟨ents, h1, _⟩ := h; exact (ho : c.blk = b) ▸ key h1
  | tip s n =>
    obtain ⟨_, h1, h2⟩ := h
    obtain ⟨ad, e, hb, h3, h4⟩ := ho
    obtain ⟨ad', vs, t, e', _, h5, _⟩ := h2 (by omega)
    rw [e] at e'; cases e'; exact hb ▸ key h5
  | buf s rows =>
    obtain ⟨_, _, _, _, h⟩ := h
    obtain ⟨ad, e, hb⟩ := ho
    obtain ⟨_, _, vs, t, h5, _⟩ := h ad e
    exact hb ▸ key h5
  | gone => exact ho.elim
/-- The block of an own object, unless it owns no cell. -/
theorem MvOk.mono {Ow Ow' : Nat → Nat → Prop} {w w' : World} (he : Evo Ow w Ow' w') {ag : Bool} {v : Value} {row : List PV} (h : MvOk Ow w ag v row) : MvOk Ow' w' ag v row := by
  refine ⟨fun ha => ?_, fun ha => ?_⟩
  · obtain ⟨p, e, h⟩ := h.1 ha; exact ⟨p, e, h.mono he⟩
  · obtain ⟨vs, e, hl, h⟩ := h.2 ha; exact ⟨vs, e, hl, fun j u p h1 h2 => (h j u p h1 h2).mono he⟩
theorem ObOk.mono {ι ι' : Pl} {m m' : Mem} {w w' : World} (he : Ext ι m w ι' m' w') {c : CA} {ob : Ob} (h : ObOk ι m w c ob) (hb : ∀ b o, OwnK c ob b o → w'.heap[b]? = w.heap[b]?) : ObOk ι' m' w' c ob := by
  cases ob with
  | cells cs =>
    obtain ⟨vs, t, h1, h2, h3⟩ := h
    exact ⟨vs, t, (hb c.blk 0 rfl).trans h1, h2, fun i v a hv ha => ⟨(h3 i v a hv ha).1.mono he, (h3 i v a hv ha).2⟩⟩
  | map mk ag es =>
    obtain ⟨ents, h1, h2, h3⟩ := h
    refine ⟨ents, (hb c.blk 0 rfl).trans h1, h2, fun i en q h4 h5 => ?_⟩
    obtain ⟨a, b, d, e⟩ := h3 i en q h4 h5
    exact ⟨a, b, d, e.mono he.evoX⟩
  | tip s n =>
    obtain ⟨h_, h1, h2⟩ := h
    refine ⟨h_, h1, fun hn => ?_⟩
    obtain ⟨ad, vs, t, e, hs, h3, h4⟩ := h2 hn
    exact ⟨ad, vs, t, e, hs, (hb ad.block (ad.off + n * c.sz) ⟨ad, e, rfl, Nat.le_refl _, by omega⟩).trans h3, h4⟩
  | buf s rows =>
    obtain ⟨h_, h0, h1, h2, h3⟩ := h
    refine ⟨h_, h0, h1, h2, fun ad e => ?_⟩
    obtain ⟨h4, h5, vs, t, h6, h7, h8⟩ := h3 ad e
    refine ⟨h4, h5, vs, t, (hb ad.block 0 ⟨ad, e, rfl⟩).trans h6, h7, fun i j row pv hr hp => ?_⟩
    obtain ⟨v, h9, h10, h11⟩ := h8 i j row pv hr hp
    exact ⟨v, h9, h10.mono he.evoX, h11⟩
  | gone => trivial
theorem lk_mset (m : Mem) (k : Nat) (e : Nat × Ob) (t : Nat) : lk (mset m k e) t = if k = t then some e else lk m t := lk_cons k e m t
theorem upd {ι ι' : Pl} {m : Mem} {w w' : World} {k : Nat} {e : Nat × Ob} (hM : MemOk ι m w) (hι : ∀ j, j ≠ k → ι' j = ι j) (hX : ι'.fr = ι.fr) (hgen : (ent m k).1 ≤ e.1)
  (hcomp : e.1 = (ent m k).1 → e.2 = .gone ∨ ∃ ob, lk m k = some (e.1, ob) ∧ Compat ι ob ι' e.2 k)
  (hown : ∀ b o, OwnK (ι' k) e.2 b o → OwnK (ι k) (ent m k).2 b o ∨ w.heap.size ≤ b)
  (hos : w'.os = w.os) (htape : w'.tape = w.tape) (hout : w'.output = w.output) (hsize : w.heap.size ≤ w'.heap.size)
  (hblk : ∀ b, b < w.heap.size → (∀ o, ¬ OwnK (ι k) (ent m k).2 b o) → w'.heap[b]? = w.heap[b]?)
  (hcell : ∀ a : Addr, a.block < w.heap.size → ¬ OwnK (ι k) (ent m k).2 a.block a.off → w'.cell? a = w.cell? a)
  (hnew : Ext ι m w ι' (mset m k e) w' → ObOk ι' (mset m k e) w' (ι' k) e.2) : MemOk ι' (mset m k e) w' ∧ Ext ι m w ι' (mset m k e) w' := by
  have hk : ∀ b o, OwnK (ι k) (ent m k).2 b o → OwnM ι m b o := fun b o h => by
    unfold ent at h
    cases hl : lk m k with
    | none => rw [hl] at h; exact h.elim
    | some x => rw [hl] at h; exact ⟨k, x.1, x.2, hl, h⟩
  have hext : Ext ι m w ι' (mset m k e) w' := by
    refine ⟨⟨hos, htape, hout, hsize, fun b hb hn => hblk b hb fun o ho => hn o (hk b o ho), fun a ha hn => hcell a ha fun ho => hn (hk _ _ ho), fun b o ho => ?_⟩, ⟨fun j => ?_, fun j g ob hj => ?_⟩, hX⟩
    · obtain ⟨j, g, ob, hj, ho⟩ := ho
      rw [lk_mset] at hj
      split at hj
      · rename_i e'; subst e'; cases hj
        exact (hown b o ho).imp (hk b o) id
      · rename_i hne; rw [hι j (Ne.symm hne)] at ho; exact .inl ⟨j, g, ob, hj, ho⟩
    · unfold ent; rw [lk_mset]; split
      · rename_i e'; subst e'; simpa [ent] using hgen
      · exact Nat.le_refl _
    · rw [lk_mset] at hj
      split at hj
      · rename_i e'; subst e'; cases hj
        rcases Nat.lt_or_ge (ent m k).1 g with h | h
        · exact .inr (.inl h)
        · rcases hcomp (Nat.le_antisymm h hgen) with h | h
          · exact .inr (.inr h)
          · exact .inl h
      · rename_i hne
        refine .inl ⟨ob, hj, ?_⟩
        have := hι j (Ne.symm hne)
        cases ob <;> simp [Compat, this]
  refine ⟨⟨fun j g ob hj => ?_, fun j j' g g' ob ob' b o o' hj hj' ho ho' => ?_, fun b o hx => Nat.lt_of_lt_of_le (hM.xlt b o (hX ▸ hx)) hsize, fun j g ob b o o' hj ho hx => ?_, hM.gk.mono hext⟩, hext⟩
  · rw [lk_mset] at hj
    split at hj
    · rename_i e'; subst e'; cases hj; exact hnew hext
    · rename_i hne
      rw [hι j (Ne.symm hne)]
      refine (hM.ok j g ob hj).mono hext fun b o ho => hblk b (own_lt (hM.ok j g ob hj) ho) fun o' ho' => ?_
      unfold ent at ho'
      cases hl : lk m k with
      | none => rw [hl] at ho'; exact ho'.elim
      | some x => rw [hl] at ho'; exact hne (hM.apart k j x.1 g x.2 ob b o' o hl hj ho' ho)
  · have side : ∀ {j : Nat} {g : Nat} {ob : Ob} {o o' : Nat}, k ≠ j → lk m j = some (g, ob) → OwnK (ι j) ob b o → OwnK (ι' k) e.2 b o' → False := fun {j g ob o o'} hne hj h1 h2 => by
      rcases hown b o' h2 with h | h
      · unfold ent at h
        cases hl : lk m k with
        | none => rw [hl] at h; exact h.elim
        | some x => rw [hl] at h; exact hne (hM.apart k j x.1 g x.2 ob b o' o hl hj h h1)
      · have := own_lt (hM.ok j g ob hj) h1; omega
    rw [lk_mset] at hj hj'
    split at hj
    · rename_i e1; subst e1; cases hj
      split at hj'
      · rename_i e2; exact e2
      · rename_i hne; rw [hι j' (Ne.symm hne)] at ho'; exact (side hne hj' ho' ho).elim
    · rename_i hne; rw [hι j (Ne.symm hne)] at ho
      split at hj'
      · rename_i e1; subst e1; cases hj'; exact (side hne hj ho ho').elim
      · rename_i hne'; rw [hι j' (Ne.symm hne')] at ho'; exact hM.apart j j' g g' ob ob' b o o' hj hj' ho ho'
  · rw [hX] at hx
    rw [lk_mset] at hj
    split at hj
    · rename_i e1; subst e1; cases hj
      rcases hown b o ho with h | h
      · unfold ent at h
        cases hl : lk m k with
        | none => rw [hl] at h; exact h.elim
        | some x => rw [hl] at h; exact hM.xapart k x.1 x.2 b o o' hl h hx
      · have := hM.xlt b o' hx; omega
    · rename_i hne; rw [hι j (Ne.symm hne)] at ho; exact hM.xapart j g ob b o o' hj ho hx
/-- New blocks, draws: nothing own is touched. -/
theorem quiet {ι : Pl} {m : Mem} {w w' : World} (hM : MemOk ι m w) (hos : w'.os = w.os) (htape : w'.tape = w.tape) (hout : w'.output = w.output) (hsize : w.heap.size ≤ w'.heap.size)
  (hblk : ∀ b, b < w.heap.size → w'.heap[b]? = w.heap[b]?) : MemOk ι m w' ∧ Ext ι m w ι m w' := by
  have hext : Ext ι m w ι m w' := ⟨⟨hos, htape, hout, hsize, fun b hb _ => hblk b hb, fun a ha _ => World.cell?_of_block (w := w) (hblk a.block ha), fun b o h => .inl h⟩, .refl _ _, rfl⟩
  exact ⟨⟨fun k g ob h => (hM.ok k g ob h).mono hext fun b o ho => hblk b (own_lt (hM.ok k g ob h) ho), hM.apart, fun b o h => Nat.lt_of_lt_of_le (hM.xlt b o h) hsize, hM.xapart, hM.gk.mono hext⟩, hext⟩
end Go.Ab
