/- Maps: what is made and turned. -/
import Derived.Test.YtphfoghhcemfhaaAbP12
namespace Go.Ab
open Go.MapKept
set_option linter.unusedVariables false
set_option linter.unusedSimpArgs false
section
variable {ι : Pl} {m : Mem} {w : World} {P : Program}
theorem EntsR.mono {ι' : Pl} {m' : Mem} {w' : World} (he : Ext ι m w ι' m' w') {mk : MK} {ag : Bool} {o : Nat} {l : List MapEntry} {es : Ents} (h : EntsR ι m w mk ag o l es) : EntsR ι' m' w' mk ag o l es :=
  ⟨h.1, fun i en q h1 h2 => by obtain ⟨a, b, c, d⟩ := h.2 i en q h1 h2; exact ⟨a, b, c, d.mono he.evoX⟩⟩
theorem EntsR.push {mk : MK} {ag : Bool} {l : List MapEntry} {es : Ents} (h : EntsR ι m w mk ag 0 l es) {key : PV} {v : Value} {row : List PV} (hk : kOf mk key = true) (hv : MvOk (Own ι m) w ag v row) : EntsR ι m w mk ag 0 (l ++ [{ key := kval key, val := v, born := es.length }]) (es ++ [(key, row)]) := by
  refine ⟨by simp [h.1], fun i en q h1 h2 => ?_⟩
  rw [List.getElem?_append] at h1 h2
  rw [h.1] at h1
  split at h1
  · rename_i hi; rw [if_pos hi] at h2; exact h.2 i en q h1 h2
  · rename_i hi
    rw [if_neg hi] at h2
    have e : i - es.length = 0 := by
      have := (List.getElem?_eq_some_iff.1 h1).1; simp at this; omega
    rw [e] at h1 h2
    simp at h1 h2
    subst h1; subst h2
    exact ⟨by show es.length = 0 + i; omega, hk, rfl, hv⟩
theorem EntsR.set {mk : MK} {ag : Bool} {l : List MapEntry} {es : Ents} (h : EntsR ι m w mk ag 0 l es) (j : Nat) {v : Value} {row : List PV} (f : MapEntry → MapEntry) (hf : ∀ e, l[j]? = some e → (f e).key = e.key ∧ (f e).val = v ∧ (f e).born = e.born) (hv : MvOk (Own ι m) w ag v row) : EntsR ι m w mk ag 0 (l.modify j f) (mset1 j row es) := by
  unfold mset1
  refine ⟨by simp [h.1], fun i en q h1 h2 => ?_⟩
  rw [List.getElem?_modify] at h1 h2
  obtain ⟨en0, h3, rfl⟩ := Option.map_eq_some_iff.mp h1
  obtain ⟨q0, h4, rfl⟩ := Option.map_eq_some_iff.mp h2
  obtain ⟨a, b, c, d⟩ := h.2 i en0 q0 h3 h4
  by_cases hij : j = i
  · subst hij
    obtain ⟨f1, f2, f3⟩ := hf en0 h3
    simp only [if_true]
    exact ⟨f3.trans a, b, f1.trans c, f2 ▸ hv⟩
  · simp only [if_neg hij, id]
    exact ⟨a, b, c, d⟩
theorem EntsR.same {mk : MK} {ag : Bool} {l : List MapEntry} {es : Ents} (h : EntsR ι m w mk ag 0 l es) (j : Nat) (f : MapEntry → MapEntry) (hf : ∀ e, l[j]? = some e → f e = e) : EntsR ι m w mk ag 0 (l.modify j f) es := by
  have : l.modify j f = l := by
    apply List.ext_getElem?
    intro i
    rw [List.getElem?_modify]
    cases hi : l[i]? with
    | none => rfl
    | some e =>
      by_cases hij : j = i
      · subst hij; simp [hf e hi]
      · simp [hij]
  rw [this]; exact h
theorem map_set (hM : MemOk ι m w) {k g : Nat} {mk : MK} {ag : Bool} {es : Ents} (hk : lk m k = some (g, .map mk ag es)) {ents : Array MapEntry} {c : Nat} (hb : w.heap[(ι k).blk]? = some (.map ents c)) (ents' : Array MapEntry) (es' : Ents) (c' : Nat) (hc : c' = es'.length) (hR : EntsR ι m w mk ag 0 ents'.toList es') :
    MemOk ι (mset m k (g, .map mk ag es')) { w with heap := w.heap.setIfInBounds (ι k).blk (.map ents' c') } ∧ Ext ι m w ι (mset m k (g, .map mk ag es')) { w with heap := w.heap.setIfInBounds (ι k).blk (.map ents' c') } := by
  subst hc
  have hent := ent_of_lk hk
  obtain ⟨s1, s2⟩ := heap_set (o' := .map ents' es'.length) hb
  have hblk : ∀ b, b < w.heap.size → (∀ o, ¬ OwnK (ι k) (ent m k).2 b o) → (w.heap.setIfInBounds (ι k).blk (.map ents' es'.length))[b]? = w.heap[b]? := fun b _ hn => s2 b fun e => hn 0 (by rw [hent]; exact e.symm)
  refine upd hM (fun _ _ => rfl) rfl (by rw [hent]; exact Nat.le_refl _) (fun _ => .inr ⟨_, hk, ⟨_, rfl⟩, rfl⟩) (fun b o h => .inl (by rw [hent]; exact h)) rfl rfl rfl (by simp) hblk (fun a ha hn => World.cell?_of_block (w := w) (s2 a.block fun e => hn (by rw [hent]; exact e.symm))) fun he => ?_
  have hR' := hR.mono he
  exact ⟨ents', s1, by simpa using hR.1, fun i en q h1 h2 => by simpa using hR'.2 i en q (by simpa using h1) h2⟩
theorem make_map (hM : MemOk ι m w) (k : Nat) (mk : MK) (ag : Bool) :
    let c : CA := { blk := w.heap.size, base := none, cap := 0, sz := 0 }
    MemOk (setι ι k c) (mset m k ((ent m k).1 + 1, .map mk ag [])) (w.alloc (.map #[] 0)) ∧ Ext ι m w (setι ι k c) (mset m k ((ent m k).1 + 1, .map mk ag [])) (w.alloc (.map #[] 0)) ∧
    Ra (setι ι k c) (mset m k ((ent m k).1 + 1, .map mk ag [])) (w.alloc (.map #[] 0)) (.map (some w.heap.size)) (.mp k ((ent m k).1 + 1)) := by
  intro c
  obtain ⟨h1, h2⟩ := upd_fresh (w' := w.alloc (.map #[] 0)) hM k c (.map mk ag []) rfl rfl rfl (by simp) (fun b hb => by rw [World.alloc]; exact Array.getElem?_push_lt hb |>.trans (Array.getElem?_eq_getElem hb).symm) (fun b o h => Nat.le_of_eq h) (fun he =>
    ⟨#[], heap_alloc_new _ _, rfl, fun i en q h1 _ => by simp at h1⟩)
  exact ⟨h1, h2, .mp _ _ _ rfl (by rw [ent_mset]; exact Nat.le_refl _) fun _ _ _ _ => by rw [setι_same]⟩
theorem makeMap_run (hM : MemOk ι m w) {ρ : Operand → Value} {g : Operand → AV} (hg : ∀ x, Ra ι m w (ρ x) (g x)) {t : TypeId} {r : Option Operand} {n : Int} (k : Nat) {mk : MK} {ag : Bool} {z : List PV} (ht : mapTy P t = some (mk, ag, z)) (hr : oint g r 0 = some n) :
    (Instr.makeMap t (r.map ρ)).run P w = .ok (.map (some w.heap.size)) (w.alloc (.map #[] 0)) := by
  obtain ⟨kt, el, d, zc, hu, _⟩ := mapTy_spec ht
  cases r with
  | none => simp [Instr.makeMap, run_newObj, World.alloc_eq, Result.andThen]
  | some x =>
    simp only [oint] at hr
    split at hr
    · rename_i kk nn e
      have := hg x
      rw [e] at this
      rw [Option.map_some, this.int]
      simp [Instr.makeMap, run_underlying hu, asInt, asIntOf, run_newObj, World.alloc_eq, Result.andThen]
    · cases hr
theorem modify_toList (a : Array MapEntry) (i : Nat) (f : MapEntry → MapEntry) : (a.modify i f).toList = a.toList.modify i f := by simp
theorem mapUpdate_run (hM : MemOk ι m w) {t : TypeId} {v x y : Value} {k g : Nat} {mk : MK} {ag : Bool} {z : List PV} {es : Ents} {key : PV} {a : AV} {row : List PV} (ht : mapTy P t = some (mk, ag, z)) (hv : Ra ι m w v (.mp k g)) (hk : lk m k = some (g, .map mk ag es)) (hx : Ra ι m w x a) (hkey : mkeyOf mk a = some key) (hy : MvOk (Own ι m) w ag y row) :
    ∃ w', (Instr.mapUpdate t v x y).run P w = .ok () w' ∧ MemOk ι (mset m k (g, .map mk ag (mput key row es))) w' ∧ Ext ι m w ι (mset m k (g, .map mk ag (mput key row es))) w' := by
  obtain ⟨kt, el, d, zc, hu, hd, hkd, _⟩ := mapTy_spec ht
  obtain ⟨ents, hb, hR⟩ := entsR_of hM hk
  obtain ⟨rfl, hko⟩ := mkeyOf_spec hkey
  obtain rfl := key_val hx hko
  rw [hv.mpv hk]
  have hik := hkd _ hko
  rcases find_run hko hkd ents.toList es 0 0 hR with ⟨h1, h2⟩ | ⟨j, en, q, h1, h2, h3, h4, h5⟩
  · have e1 : mput key row es = es ++ [(key, row)] := by unfold mput; rw [h1]
    rw [e1]
    refine ⟨_, by simp [Instr.mapUpdate, run_underlying hu, Go.MapKept.run_getObj_map hb, run_checkKey hd hik, run_findKey hd h2, Go.MapKept.run_setObj_map _ hb, Result.andThen]; rfl, ?_⟩
    exact map_set hM hk hb _ _ _ (by simp) (by simpa using hR.push hko hy)
  · rw [Nat.zero_add] at h1 h2
    have e1 : mput key row es = mset1 j row es := by unfold mput; rw [h1]
    rw [e1]
    have e2 : ents[j]? = some en := by simpa using h3
    refine ⟨_, by simp [Instr.mapUpdate, run_underlying hu, Go.MapKept.run_getObj_map hb, run_checkKey hd hik, run_findKey hd h2, e2, h5, run_keyThatStays hik, Go.MapKept.run_setObj_map _ hb, Result.andThen]; rfl, ?_⟩
    refine map_set hM hk hb _ _ _ (by simp [mset1]) ?_
    rw [modify_toList]
    exact hR.set j _ (fun e he => by rw [h3] at he; cases he; exact ⟨h5.symm, rfl, rfl⟩) hy
theorem mapEntry_run (hM : MemOk ι m w) {t : TypeId} {v x : Value} {k g : Nat} {mk : MK} {ag : Bool} {z : List PV} {es : Ents} {key : PV} {a : AV} (ht : mapTy P t = some (mk, ag, z)) (hv : Ra ι m w v (.mp k g)) (hk : lk m k = some (g, .map mk ag es)) (hx : Ra ι m w x a) (hkey : mkeyOf mk a = some key) :
    ∃ cv w', (Instr.mapEntry t v x).run P w = .ok cv w' ∧ MemOk ι (mset m k (g, .map mk ag (ment key es z))) w' ∧ Ext ι m w ι (mset m k (g, .map mk ag (ment key es z))) w' ∧ Ra ι (mset m k (g, .map mk ag (ment key es z))) w' cv (.tup [mval ag (mrow key es z), .p (.int .i64 (midx key es))]) := by
  obtain ⟨kt, el, d, zc, hu, hd, hkd, ha, hz, hzp, _⟩ := mapTy_spec ht
  obtain ⟨ents, hb, hR⟩ := entsR_of hM hk
  obtain ⟨rfl, hko⟩ := mkeyOf_spec hkey
  obtain rfl := key_val hx hko
  rw [hv.mpv hk]
  have hik := hkd _ hko
  have fin : ∀ {w' : World} {m' : Mem} (u : Value) (row : List PV) (n : Nat), MvOk (Own ι m) w ag u row → Ext ι m w ι m' w' → Ra ι m' w' (.tuple #[u, .int .i64 n]) (.tup [mval ag row, .p (.int .i64 n)]) := fun {w' m'} u row n h he => by
    refine .tup _ _ rfl fun i y c hy hc => ?_
    match i, hy, hc with
    | 0, hy, hc => simp at hy hc; subst hy; subst hc; exact (h.mono he.evoX).ra
    | 1, hy, hc => simp at hy hc; subst hy; subst hc; exact .int' _ _
    | n + 2, hy, _ => simp at hy
  rcases find_run hko hkd ents.toList es 0 0 hR with ⟨h1, h2⟩ | ⟨j, en, q, h1, h2, h3, h4, h5⟩
  · have e1 : ment key es z = es ++ [(key, z)] := by unfold ment mhas; rw [h1]; rfl
    have e2 : mrow key es z = z := by unfold mrow; rw [h1]
    have e3 : midx key es = es.length := by unfold midx; rw [h1]
    rw [e1, e2, e3]
    obtain ⟨zv, h6, h7⟩ := zero_mv (ι := ι) (m := m) (w := w) ha hz hzp
    have hset := map_set hM hk hb (ents.push { key := kval key, val := zv, born := es.length }) (es ++ [(key, z)]) (es.length + 1) (by simp) (by simpa using hR.push hko h7)
    refine ⟨.tuple #[zv, .int .i64 es.length], _, ?_, hset.1, hset.2, fin zv z es.length h7 hset.2⟩
    simp [Instr.mapEntry, run_underlying hu, Go.MapKept.run_getObj_map hb, run_checkKey hd hik, run_findKey hd h2, h6, Go.MapKept.run_setObj_map _ hb, Result.andThen, goInt]
  · rw [Nat.zero_add] at h1 h2
    have e1 : ment key es z = es := by unfold ment mhas; rw [h1]; rfl
    have e2 : mrow key es z = q.2 := by unfold mrow; rw [h1]
    have e3 : midx key es = j := by unfold midx; rw [h1]
    rw [e1, e2, e3]
    have e4 : ents[j]? = some en := by simpa using h3
    obtain ⟨hborn, _, _, hval⟩ := hR.2 j en q h3 h4
    have hset := map_set hM hk hb (ents.modify j fun e => { e with key := kval key }) es es.length rfl (by
      rw [modify_toList]
      exact hR.same j _ (fun e he => by rw [h3] at he; cases he; rw [← h5]))
    refine ⟨.tuple #[en.val, .int .i64 j], _, ?_, hset.1, hset.2, fin en.val q.2 j hval hset.2⟩
    simp [Instr.mapEntry, run_underlying hu, Go.MapKept.run_getObj_map hb, run_checkKey hd hik, run_findKey hd h2, e4, h5, run_keyThatStays hik, Go.MapKept.run_setObj_map _ hb, Result.andThen, goInt, hborn]
theorem tst_spec {es : Ents} {n : Int} {u : Unit} (h : tst es n = some u) : 0 ≤ n ∧ n.toNat < es.length := by
  unfold tst at h
  split at h
  · omega
  · cases h
theorem entryStore_run (hM : MemOk ι m w) {t : TypeId} {v x y : Value} {k g : Nat} {mk : MK} {ag : Bool} {es : Ents} {n : Int} {u : Unit} {row : List PV} (hv : Ra ι m w v (.mp k g)) (hk : lk m k = some (g, .map mk ag es)) (hx : Ra ι m w x (.p (.int .i64 n))) (hn : tst es n = some u) (hy : MvOk (Own ι m) w ag y row) :
    ∃ w', (Instr.entryStore t v x y).run P w = .ok () w' ∧ MemOk ι (mset m k (g, .map mk ag (mset1 n.toNat row es))) w' ∧ Ext ι m w ι (mset m k (g, .map mk ag (mset1 n.toNat row es))) w' := by
  obtain ⟨ents, hb, hR⟩ := entsR_of hM hk
  obtain ⟨h0, h1⟩ := tst_spec hn
  rw [hv.mpv hk, hx.int]
  have hsz : ents.size = es.length := by simpa using hR.1
  have hborn : ∀ (i : Nat) (hi : i < ents.size), ents[i].born = i := fun i hi => by
    have := hR.2 i ents[i] es[i] (by simp) (List.getElem?_eq_getElem (by omega))
    simpa using this.1
  have hidx : ents.findIdx? (fun e => (e.born : Int) == n) = some n.toNat := by
    rw [Array.findIdx?_eq_some_iff_getElem]
    refine ⟨by omega, by rw [hborn _ (by omega)]; simp; omega, fun j hj => ?_⟩
    rw [hborn j (by omega)]; simp; omega
  refine ⟨_, by simp [Instr.entryStore, Go.MapKept.run_getObj_map hb, asInt, asIntOf, hidx, Go.MapKept.run_setObj_map _ hb, Result.andThen]; rfl, ?_⟩
  refine map_set hM hk hb _ _ _ (by simp [mset1]) ?_
  rw [modify_toList]
  exact hR.set n.toNat _ (fun e he => ⟨rfl, rfl, rfl⟩) hy
theorem mrowOf_mv {ag : Bool} {v : Value} {a : AV} {row : List PV} (h : Ra ι m w v a) (hr : mrowOf ag a = some row) : MvOk (Own ι m) w ag v row := by
  unfold mrowOf at hr
  split at hr
  · rename_i cs
    cases ag with
    | false => cases hr
    | true =>
      cases h with
      | agg vs _ hl hone hc =>
        exact mv_cells (cs := cs) ⟨hl, hc⟩ hr (fun _ => ⟨vs, rfl⟩) (fun e => by cases e)
  · cases ag with
    | true => cases hr
    | false =>
      obtain ⟨p, hp, rfl⟩ := Option.map_eq_some_iff.mp hr
      exact ⟨fun _ => ⟨p, rfl, h.pvr hp⟩, fun e => by cases e⟩
end
end Go.Ab
