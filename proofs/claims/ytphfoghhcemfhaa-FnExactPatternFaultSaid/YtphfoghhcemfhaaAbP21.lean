/- Rows that begin to be own; own rows that stand from here on. -/
import Derived.Test.YtphfoghhcemfhaaAbP20
namespace Go.Ab
set_option linter.unusedVariables false
set_option linter.unusedSimpArgs false
def plSet (ι : Pl) (k : Nat) (c : CA) : Pl where
  loc j := if j = k then c else ι j
  fr := ι.fr
theorem Ra.nilv {ι : Pl} {m : Mem} {w : World} {v : Value} (h : Ra ι m w v (.p .nilS)) : v = .slice none 0 0 := by cases h with | p _ _ h => cases h; rfl
theorem Ra.fullv {ι : Pl} {m : Mem} {w : World} {v : Value} {rows : Rows} (h : Ra ι m w v (.p (.lst true rows))) : ∃ A, v = .slice A rows.length rows.length ∧ Rp (Own ι m) w v (.lst false rows) := by
  cases h with
  | p _ _ h =>
    have h' := h.unfull
    cases h with
    | lst A cap sz _ _ u hcap hfull => rw [hfull rfl] at h' ⊢; exact ⟨A, rfl, h'⟩
/-- The memory with rows whose room is used up at the name k. -/
theorem adopt_mem {ι : Pl} {m : Mem} {w : World} (hM : MemOk ι m w) (k z : Nat) {A : Option Addr} {rows : Rows} (hz : rowsOk z rows = true) (hv : Rp (Own ι m) w (.slice A rows.length rows.length) (.lst false rows)) :
    ∃ ι', MemOk ι' (mset m k ((ent m k).1 + 1, .tip z rows.length)) w ∧ Ext ι m w ι' (mset m k ((ent m k).1 + 1, .tip z rows.length)) w ∧ Ra ι' (mset m k ((ent m k).1 + 1, .tip z rows.length)) w (.slice A rows.length rows.length) (.tip k ((ent m k).1 + 1) rows) := by
  have hc : (plSet ι k ⟨0, A, rows.length, z⟩) k = ⟨0, A, rows.length, z⟩ := by simp [plSet]
  obtain ⟨h1, h2⟩ := upd (w' := w) (ι' := plSet ι k ⟨0, A, rows.length, z⟩) (k := k) (e := ((ent m k).1 + 1, .tip z rows.length)) hM (fun j hj => by simp [plSet, hj]) rfl (Nat.le_succ _) (fun h => by simp at h)
    (fun b o h => by rw [hc] at h; obtain ⟨ad, _, _, h1, h2⟩ := h; simp only at h1 h2; omega) rfl rfl rfl (Nat.le_refl _) (fun _ _ _ => rfl) (fun _ _ _ => rfl)
    (fun _ => by rw [hc]; exact ⟨rfl, Nat.le_refl _, fun h => by simp at h⟩)
  have hent : (ent (mset m k ((ent m k).1 + 1, .tip z rows.length)) k).1 = (ent m k).1 + 1 := by rw [ent_of_lk (g := (ent m k).1 + 1) (ob := .tip z rows.length) (by rw [lk_mset, if_pos rfl])]
  refine ⟨_, h1, h2, .tip _ _ _ _ (Nat.le_of_eq hent.symm) (hv.mono h2.evoX) fun s n hk => ?_⟩
  rw [lk_mset, if_pos rfl] at hk
  simp only [Option.some.injEq, Prod.mk.injEq, Ob.tip.injEq] at hk
  obtain ⟨_, rfl, rfl⟩ := hk
  exact ⟨Nat.le_refl _, fun _ => ⟨by rw [hc], fun row hr => by rw [hc]; exact rowsOk_spec hz row hr⟩⟩
theorem Rel.fset {C : Ctx} {st : St} {a : Act} {w : World} {ι ι' : Pl} {m' : Mem} {s : Nat} {x : AV} (hR : Rel C st a w ι) (hM : MemOk ι' m' w) (he : Ext ι st.mem w ι' m' w) (hx : Ra ι' m' w (a.tmps.getD s undef) x) : Rel C { fr := (s, x) :: st.fr, mem := m' } a w ι' := by
  refine ⟨hR.size, hR.defers, hM, fun t => ?_, hR.evo.trans he.evo, hR.keys.trans he.keys, he.x.trans hR.x⟩
  simp only [fget, lk_cons]
  by_cases e : s = t
  · subst e; rw [if_pos rfl]; exact hx
  · rw [if_neg e]; exact (hR.fr t).mono he
/-- A slot that holds the nil slice begins to own rows. -/
theorem good_adopt {C : Ctx} {it : List Item} {st : St} (s k z : Nat) (hs : fget st.fr s = .p .nilS) (g : Good C it { fr := (s, .tip k ((ent st.mem k).1 + 1) []) :: st.fr, mem := mset st.mem k ((ent st.mem k).1 + 1, .tip z 0) }) : Good C it st := by
  intro a w ι hR
  have hv := hR.fr s
  rw [hs] at hv
  have e := hv.nilv
  obtain ⟨ι', h1, h2, h3⟩ := adopt_mem hR.mem k z (A := none) (rows := []) rfl (Rp.nil _ none 0)
  exact g a w ι' (hR.fset h1 h2 (by rw [e]; exact h3))
theorem good_adoptF {C : Ctx} {it : List Item} {st : St} {rows : Rows} (s k z : Nat) (hz : rowsOk z rows = true) (hs : fget st.fr s = .p (.lst true rows)) (g : Good C it { fr := (s, .tip k ((ent st.mem k).1 + 1) rows) :: st.fr, mem := mset st.mem k ((ent st.mem k).1 + 1, .tip z rows.length) }) : Good C it st := by
  intro a w ι hR
  have hv := hR.fr s
  rw [hs] at hv
  obtain ⟨A, e, hp⟩ := hv.fullv
  rw [e] at hp
  obtain ⟨ι', h1, h2, h3⟩ := adopt_mem hR.mem k z hz hp
  exact g a w ι' (hR.fset h1 h2 (by rw [e]; exact h3))
theorem good_adoptc {C : Ctx} {it : List Item} {st : St} (k0 o k z g0 : Nat) (cs : List AV) (hs : lk st.mem k0 = some (g0, .cells cs)) (hc : cs[o]? = some (.p .nilS)) (hk : k ≠ k0)
  (g : Good C it { st with mem := mset (mset st.mem k ((ent st.mem k).1 + 1, .tip z 0)) k0 (g0, .cells (cs.set o (.tip k ((ent st.mem k).1 + 1) []))) }) : Good C it st := by
  intro a w ι hR
  obtain ⟨ι', h1, h2, h3⟩ := adopt_mem hR.mem k z (A := none) (rows := []) rfl (Rp.nil _ none 0)
  simp only [List.length_nil] at h1 h2 h3
  have hlk : lk (mset st.mem k ((ent st.mem k).1 + 1, .tip z 0)) k0 = some (g0, .cells cs) := by rw [lk_mset, if_neg hk]; exact hs
  have hent := ent_of_lk hlk
  obtain ⟨h4, h5⟩ := upd (w' := w) (ι' := ι') (k := k0) (e := (g0, .cells (cs.set o (.tip k ((ent st.mem k).1 + 1) [])))) h1 (fun _ _ => rfl) rfl (by rw [hent]; exact Nat.le_refl _) (fun _ => .inr ⟨_, hlk, ⟨_, rfl⟩, rfl⟩)
    (fun b o h => .inl (by rw [hent]; exact h)) rfl rfl rfl (Nat.le_refl _) (fun _ _ _ => rfl) (fun _ _ _ => rfl)
    (fun he => by
      obtain ⟨vs, t, q1, q2, q3⟩ := h1.ok _ _ _ hlk
      refine ⟨vs, t, q1, by simpa using q2, fun i v c hv hcc => ?_⟩
      rw [List.getElem?_set] at hcc
      split at hcc
      · rename_i e; subst e
        split at hcc
        · cases hcc
          obtain ⟨r1, r2⟩ := q3 o v _ hv hc
          have e := r1.nilv
          exact ⟨by rw [e]; exact h3.mono he, r2⟩
        · cases hcc
      · exact ⟨(q3 i v c hv hcc).1.mono he, (q3 i v c hv hcc).2⟩)
  have hE := h2.trans h5
  exact g a w ι' ⟨hR.size, hR.defers, h4, fun t => (hR.fr t).mono hE, hR.evo.trans hE.evo, hR.keys.trans hE.keys, hE.x.trans hR.x⟩
theorem good_adoptcF {C : Ctx} {it : List Item} {st : St} {rows : Rows} (k0 o k z g0 : Nat) (cs : List AV) (hs : lk st.mem k0 = some (g0, .cells cs)) (hz : rowsOk z rows = true) (hc : cs[o]? = some (.p (.lst true rows))) (hk : k ≠ k0)
  (g : Good C it { st with mem := mset (mset st.mem k ((ent st.mem k).1 + 1, .tip z rows.length)) k0 (g0, .cells (cs.set o (.tip k ((ent st.mem k).1 + 1) rows))) }) : Good C it st := by
  intro a w ι hR
  obtain ⟨v0, hv0, hr0⟩ : ∃ v0, Ra ι st.mem w v0 (.p (.lst true rows)) ∧ ∀ vs t, w.heap[(ι k0).blk]? = some (.cells vs t (0, 0)) → vs.size = cs.length → vs[o]? = some v0 := by
    obtain ⟨vs, t, q1, q2, q3⟩ := hR.mem.ok _ _ _ hs
    have ho : o < vs.size := by rw [q2]; exact (List.getElem?_eq_some_iff.1 hc).1
    exact ⟨vs[o], (q3 o _ _ (Array.getElem?_eq_getElem ho) hc).1, fun vs' t' e1 _ => by rw [q1] at e1; cases e1; exact Array.getElem?_eq_getElem ho⟩
  obtain ⟨A, e0, hp⟩ := hv0.fullv
  rw [e0] at hp
  obtain ⟨ι', h1, h2, h3⟩ := adopt_mem hR.mem k z hz hp
  have hlk : lk (mset st.mem k ((ent st.mem k).1 + 1, .tip z rows.length)) k0 = some (g0, .cells cs) := by rw [lk_mset, if_neg hk]; exact hs
  have hent := ent_of_lk hlk
  obtain ⟨h4, h5⟩ := upd (w' := w) (ι' := ι') (k := k0) (e := (g0, .cells (cs.set o (.tip k ((ent st.mem k).1 + 1) rows)))) h1 (fun _ _ => rfl) rfl (by rw [hent]; exact Nat.le_refl _) (fun _ => .inr ⟨_, hlk, ⟨_, rfl⟩, rfl⟩)
    (fun b o h => .inl (by rw [hent]; exact h)) rfl rfl rfl (Nat.le_refl _) (fun _ _ _ => rfl) (fun _ _ _ => rfl)
    (fun he => by
      obtain ⟨vs, t, q1, q2, q3⟩ := h1.ok _ _ _ hlk
      refine ⟨vs, t, q1, by simpa using q2, fun i v c hv hcc => ?_⟩
      rw [List.getElem?_set] at hcc
      split at hcc
      · rename_i e; subst e
        split at hcc
        · cases hcc
          obtain ⟨r1, r2⟩ := q3 o v _ hv hc
          have hbl : (ι' k0).blk = (ι k0).blk := by
            rcases h2.keys.2 k0 g0 _ hlk with ⟨ob, f1, f2⟩ | f1 | f1
            · exact f2.2
            · rw [ent_of_lk hs] at f1; omega
            · cases f1
          have hv' := hr0 vs t (by rw [← hbl]; exact q1) q2
          have e : v = .slice A rows.length rows.length := by rw [hv'] at hv; cases hv; exact e0
          exact ⟨by rw [e]; exact h3.mono he, r2⟩
        · cases hcc
      · exact ⟨(q3 i v c hv hcc).1.mono he, (q3 i v c hv hcc).2⟩)
  have hE := h2.trans h5
  exact g a w ι' ⟨hR.size, hR.defers, h4, fun t => (hR.fr t).mono hE, hR.evo.trans hE.evo, hR.keys.trans hE.keys, hE.x.trans hR.x⟩
/-- Own rows become rows that stand. -/
theorem good_freeze {C : Ctx} {it : List Item} {st : St} (s : Nat) {k g lo n z : Nat} {rows : Rows} (hs : fget st.fr s = .buf k g lo n) (hk : lk st.mem k = some (g, .buf z rows))
  (h : Good C it { fr := (s, .p (.lst false ((rows.drop lo).take n))) :: st.fr, mem := mset st.mem k (g, .gone) }) : Good C it st := by
  intro a w ι hR
  have hv := hR.fr s
  rw [hs] at hv
  obtain ⟨hle, A, e, hA⟩ := hv.bufv hk
  have hO := hR.mem.ok _ _ _ hk
  obtain ⟨h4, h5, h6, h7, h8⟩ := hO
  have hent := ent_of_lk hk
  obtain ⟨hM, hE⟩ := upd (w' := w) (ι' := ι) (k := k) (e := (g, .gone)) hR.mem (fun _ _ => rfl) rfl (by rw [hent]; exact Nat.le_refl _) (fun _ => .inl rfl) (fun b o h => h.elim) rfl rfl rfl (Nat.le_refl _) (fun _ _ _ => rfl) (fun _ _ _ => rfl) (fun _ => trivial)
  refine h a w ι (hR.fset hM hE ?_)
  rw [e]
  have hlen : ((rows.drop lo).take n).length = n := by rw [List.length_take, List.length_drop]; omega
  have hrow : ∀ (i : Nat) (row : List PV), ((rows.drop lo).take n)[i]? = some row → i < n ∧ rows[lo + i]? = some row := fun i row hi => by
    have hlt : i < n := by
      have := (List.getElem?_eq_some_iff.1 hi).1
      omega
    rw [List.getElem?_take_of_lt hlt, List.getElem?_drop] at hi
    exact ⟨hlt, hi⟩
  have hsz : ∀ (i : Nat) (row : List PV), ((rows.drop lo).take n)[i]? = some row → row.length = (ι k).sz := fun i row hi => h7 row (List.mem_of_getElem? (hrow i row hi).2)
  have hat : ∀ (i : Nat) (row : List PV) (j : Nat) (c : PV), ((rows.drop lo).take n)[i]? = some row → row[j]? = some c → ∃ ad vs t v, A = some (ad.add (lo * (ι k).sz)) ∧ (ι k).base = some ad ∧ ad.off = 0 ∧ ad.spot = none ∧ w.heap[ad.block]? = some (.cells vs t (0, 0)) ∧ vs[(lo + i) * (ι k).sz + j]? = some v ∧ Rp (Own ι st.mem) w v c ∧ v.oneCell' = true := fun i row j c hi hj => by
    obtain ⟨hlt, hi'⟩ := hrow i row hi
    have hlo : lo + i < rows.length := (List.getElem?_eq_some_iff.1 hi').1
    have hcap : 0 < (ι k).cap := by omega
    cases hb : (ι k).base with
    | none => have := h6 hb; omega
    | some ad =>
      obtain ⟨g1, g2, vs, t, g3, g4, g5⟩ := h8 ad hb
      obtain ⟨v, g6, g7, g8⟩ := g5 (lo + i) j row c hi' hj
      exact ⟨ad, vs, t, v, by rw [hA (by omega), hb]; rfl, rfl, g1, g2, g3, g6, g7, g8⟩
  have hn : ∀ b o, (∃ ad, (ι k).base = some ad ∧ ad.block = b) → ¬ Own ι (mset st.mem k (g, .gone)) b o := fun b o hb ho => by
    rcases ho with ho | ⟨j, gj, obj, hj, ho⟩
    · exact hR.mem.xapart k g _ b o o hk hb ho
    · rw [lk_mset] at hj
      split at hj
      · cases hj; exact ho
      · rename_i hne
        exact hne (hR.mem.apart k j g gj _ obj b o o hk hj hb ho)
  refine .p _ _ ?_
  have := Rp.lst (Ow := Own ι (mset st.mem k (g, .gone))) (w := w) A ((ι k).cap - lo) (ι k).sz false ((rows.drop lo).take n)
    (fun i j => match (ι k).base with | some ad => (w.cell? (ad.add ((lo + i) * (ι k).sz + j))).getD undef | none => undef) (by rw [hlen]; omega) (by simp) hsz
    (fun i row j c hi hj => by
      obtain ⟨ad, vs, t, v, q1, q2, q3, q4, q5, q6, q7, q8⟩ := hat i row j c hi hj
      have hoff : lo * (ι k).sz + (i * (ι k).sz + j) = (lo + i) * (ι k).sz + j := by rw [Nat.add_mul]; omega
      refine ⟨_, q1, ?_, ?_⟩
      · rw [add_add, hoff, q2]
        simp only
        have : w.cell? (ad.add ((lo + i) * (ι k).sz + j)) = some v := by
          simp only [World.cell?, add_block, add_off, q5, add_spot _ _ q4, q3, Nat.zero_add]
          simpa using q6
        rw [this]; rfl
      · rw [add_block]
        exact hn _ _ ⟨ad, q2, rfl⟩)
    (fun i row j c hi hj => by
      obtain ⟨ad, vs, t, v, q1, q2, q3, q4, q5, q6, q7, q8⟩ := hat i row j c hi hj
      rw [q2]
      simp only
      have : w.cell? (ad.add ((lo + i) * (ι k).sz + j)) = some v := by
        simp only [World.cell?, add_block, add_off, q5, add_spot _ _ q4, q3, Nat.zero_add]
        simpa using q6
      rw [this]
      exact q7.mono hE.evoX)
  rwa [hlen] at this
end Go.Ab
