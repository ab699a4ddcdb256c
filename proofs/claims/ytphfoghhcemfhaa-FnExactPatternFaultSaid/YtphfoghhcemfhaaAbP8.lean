/- Operations that make or turn own memory: variables, stores. -/
import Derived.Test.YtphfoghhcemfhaaAbP7
import Derived.Laws.CopyRow
import Derived.Laws.Append
import Derived.Laws.AppendOwn
namespace Go.Ab
set_option linter.unusedVariables false
set_option linter.unusedSimpArgs false
def setι (ι : Pl) (k : Nat) (c : CA) : Pl := ⟨fun j => if j = k then c else ι j, ι.fr⟩
theorem setι_same (ι : Pl) (k : Nat) (c : CA) : setι ι k c k = c := by simp [setι]
theorem setι_other (ι : Pl) (k : Nat) (c : CA) (j : Nat) (h : j ≠ k) : setι ι k c j = ι j := by simp [setι, h]
theorem ent_mset (m : Mem) (k : Nat) (e : Nat × Ob) : ent (mset m k e) k = e := by simp [ent, lk_mset]
section
variable {ι : Pl} {m : Mem} {w w' : World} {P : Program}
/-- A fresh object under a key, in a new generation. -/
theorem upd_fresh (hM : MemOk ι m w) (k : Nat) (c : CA) (ob : Ob) (hos : w'.os = w.os) (htape : w'.tape = w.tape) (hout : w'.output = w.output) (hsize : w.heap.size ≤ w'.heap.size) (hblk : ∀ b, b < w.heap.size → w'.heap[b]? = w.heap[b]?)
  (hown : ∀ b o, OwnK c ob b o → w.heap.size ≤ b)
  (hnew : Ext ι m w (setι ι k c) (mset m k ((ent m k).1 + 1, ob)) w' → ObOk (setι ι k c) (mset m k ((ent m k).1 + 1, ob)) w' c ob) :
    MemOk (setι ι k c) (mset m k ((ent m k).1 + 1, ob)) w' ∧ Ext ι m w (setι ι k c) (mset m k ((ent m k).1 + 1, ob)) w' :=
  upd hM (setι_other ι k c) rfl (Nat.le_succ _) (fun h => absurd h (by simp)) (by rw [setι_same]; exact fun b o h => .inr (hown b o h)) hos htape hout hsize (fun b hb _ => hblk b hb) (fun a ha _ => World.cell?_of_block (w := w) (hblk a.block ha)) (by rw [setι_same]; exact hnew)
theorem alloc_cells (hM : MemOk ι m w) (k : Nat) {vs : Array Value} {cs : List AV} (hR : CellsR ι m w vs cs) (t : TypeId) :
    let c : CA := { blk := w.heap.size, base := none, cap := 0, sz := 0 }
    MemOk (setι ι k c) (mset m k ((ent m k).1 + 1, .cells cs)) (w.alloc (.cells vs t)) ∧ Ext ι m w (setι ι k c) (mset m k ((ent m k).1 + 1, .cells cs)) (w.alloc (.cells vs t)) ∧
    Ra (setι ι k c) (mset m k ((ent m k).1 + 1, .cells cs)) (w.alloc (.cells vs t)) (.pointer (some ⟨w.heap.size, 0, none⟩)) (.ptr k ((ent m k).1 + 1) 0) := by
  intro c
  obtain ⟨h1, h2⟩ := upd_fresh (w' := w.alloc (.cells vs t)) hM k c (.cells cs) rfl rfl rfl (by simp) (fun b hb => by rw [World.alloc]; exact Array.getElem?_push_lt hb |>.trans (Array.getElem?_eq_getElem hb).symm) (fun b o h => Nat.le_of_eq h) (fun he =>
    ⟨vs, t, heap_alloc_new _ _, hR.len, fun i v a hv ha => ⟨(hR.rel i v a hv ha).mono he, hR.one v (by rw [← Array.mem_def]; exact Array.mem_of_getElem? hv)⟩⟩)
  exact ⟨h1, h2, .ptr _ _ _ _ rfl (by rw [ent_mset]; exact Nat.le_refl _) fun _ _ => by rw [setι_same]⟩
theorem seg_get (l : List Value) (o : Nat) (vs : List Value) (h : o + vs.length ≤ l.length) (j : Nat) : (l.take o ++ vs ++ l.drop (o + vs.length))[j]? = if o ≤ j ∧ j < o + vs.length then vs[j - o]? else l[j]? := by
  have h0 : (l.take o).length = o := by simp; omega
  by_cases h1 : j < o
  · rw [if_neg (by omega), List.append_assoc, List.getElem?_append_left (by omega), List.getElem?_take_of_lt h1]
  · by_cases h2 : j < o + vs.length
    · rw [if_pos ⟨by omega, h2⟩, List.getElem?_append_left (by simp; omega), List.getElem?_append_right (by omega), h0]
    · rw [if_neg (by omega), List.getElem?_append_right (by simp; omega), List.getElem?_drop]
      congr 1; simp; omega
theorem storeVar_run {t : TypeId} {s b o : Nat} {cur : Array Value} {ty : TypeId} {v : Value} (hs : tsize P t = some s) (hv : v.cells.size = s) (hg : w.heap[b]? = some (.cells cur ty (0, 0))) (hl : o + s ≤ cur.size) (h1 : ∀ x ∈ v.cells.toList, x.oneCell' = true) :
    (storeVar t ⟨b, o, none⟩ v).run P w = .ok () (w.setRow b (cur.toList.take o ++ v.cells.toList ++ cur.toList.drop (o + v.cells.toList.length)).toArray) := by
  have := run_storeCells_at P b o ty v.cells.toList 0 cur w hg (by simpa [hv] using hl) h1
  simp only [Nat.add_zero] at this
  simp only [storeVar, Sem.run_bind, run_sizeOf hs, Result.andThen_ok]
  rw [if_neg (by simp [hv])]
  exact this
theorem store_cells (hM : MemOk ι m w) {k g off s : Nat} {cs vc : List AV} {t : TypeId} {v : Value} (hk : lk m k = some (g, .cells cs)) (hs : tsize P t = some s) (hvl : vc.length = s) (hl : off + s ≤ cs.length)
  (hc : v.cells.size = vc.length ∧ (∀ x ∈ v.cells.toList, x.oneCell' = true) ∧ ∀ (i : Nat) (x : Value) (c : AV), v.cells[i]? = some x → vc[i]? = some c → Ra ι m w x c) :
    ∃ w', (storeVar t ⟨(ι k).blk, off, none⟩ v).run P w = .ok () w' ∧ MemOk ι (mset m k (g, .cells (splice cs off vc))) w' ∧ Ext ι m w ι (mset m k (g, .cells (splice cs off vc))) w' := by
  obtain ⟨hc1, hc2, hc3⟩ := hc
  obtain ⟨vs, ty, h1, h2, h3⟩ := hM.ok k g _ hk
  have hlv : v.cells.toList.length = vc.length := by simpa using hc1
  refine ⟨_, storeVar_run hs (by omega) h1 (by omega) hc2, ?_⟩
  have hent := ent_of_lk hk
  refine upd hM (fun _ _ => rfl) rfl (by rw [hent]; exact Nat.le_refl _) (fun _ => .inr ⟨_, hk, ⟨_, rfl⟩, rfl⟩) (fun b o h => .inl (by rw [hent]; exact h)) rfl rfl rfl (by simp) (fun b hb hn => setRow_other w _ _ _ fun e => hn 0 (by rw [hent]; exact e.symm)) (fun a ha hn => cell_setRow_other w _ _ a fun e => hn (by rw [hent]; exact e.symm)) fun he => ?_
  refine ⟨_, ty, setRow_heap w _ vs _ ty _ h1, ?_, fun i x a hx ha => ?_⟩
  · rw [splice_length]; simp; omega
  · rw [List.getElem?_toArray, seg_get _ _ _ (by simp; omega)] at hx
    rw [splice_get vc cs off i (by omega)] at ha
    rw [hlv] at hx
    split at hx
    · rename_i hin
      rw [if_pos hin] at ha
      have hx' : v.cells[i - off]? = some x := by simpa using hx
      exact ⟨(hc3 _ x a hx' ha).mono he, hc2 x (List.mem_of_getElem? hx)⟩
    · rename_i hin
      rw [if_neg hin] at ha
      obtain ⟨h4, h5⟩ := h3 i x a (by simpa using hx) ha
      exact ⟨h4.mono he, h5⟩
theorem row_lt {i j s n : Nat} (hi : i < n) (hj : j < s) : i * s + j < n * s := by
  have : (i + 1) * s ≤ n * s := Nat.mul_le_mul_right s hi
  rw [Nat.add_mul] at this; omega
theorem row_ne {i i' j o s l : Nat} (hne : i ≠ i') (hj : j < s) (ho : o + l ≤ s) : ¬ (i * s + o ≤ i' * s + j ∧ i' * s + j < i * s + o + l) := by
  rcases Nat.lt_or_gt_of_ne hne with h | h
  · have : (i + 1) * s ≤ i' * s := Nat.mul_le_mul_right s h
    rw [Nat.add_mul] at this; omega
  · have : (i' + 1) * s ≤ i * s := Nat.mul_le_mul_right s h
    rw [Nat.add_mul] at this; omega
theorem store_elem (hM : MemOk ι m w) {k g i off s z : Nat} {rows : Rows} {row r2 : List PV} {vc : List AV} {t : TypeId} {v : Value} {ad : Addr} (hk : lk m k = some (g, .buf z rows)) (hbase : (ι k).base = some ad) (hs : tsize P t = some s) (hvl : vc.length = s) (hrow : rows[i]? = some row) (hl : off + s ≤ row.length)
  (hr2 : pvs (splice (row.map .p) off vc) = some r2)
  (hc : v.cells.size = vc.length ∧ (∀ x ∈ v.cells.toList, x.oneCell' = true) ∧ ∀ (i : Nat) (x : Value) (c : AV), v.cells[i]? = some x → vc[i]? = some c → Ra ι m w x c) :
    ∃ w', (storeVar t (ad.add (i * (ι k).sz + off)) v).run P w = .ok () w' ∧ MemOk ι (mset m k (g, .buf z (setr rows i r2))) w' ∧ Ext ι m w ι (mset m k (g, .buf z (setr rows i r2))) w' := by
  obtain ⟨hc1, hc2, hc3⟩ := hc
  obtain ⟨hz, hcap, hnone, hrl, hb⟩ := hM.ok k g _ hk
  obtain ⟨ho, hsp, vs, ty, h1, h2, h3⟩ := hb ad hbase
  have hlv : v.cells.toList.length = vc.length := by simpa using hc1
  have hrs : row.length = (ι k).sz := hrl row (List.mem_of_getElem? hrow)
  have hil : i < rows.length := (List.getElem?_eq_some_iff.1 hrow).1
  have hfit : i * (ι k).sz + off + s ≤ vs.size := by
    rw [h2]
    have : (i + 1) * (ι k).sz ≤ (ι k).cap * (ι k).sz := Nat.mul_le_mul_right _ (by omega)
    rw [Nat.add_mul] at this; omega
  have hade : ad.add (i * (ι k).sz + off) = ⟨ad.block, i * (ι k).sz + off, none⟩ := by
    obtain ⟨bl, of, sp⟩ := ad
    simp only at ho hsp
    subst ho; subst hsp; rw [add_mk, Nat.zero_add]
  obtain ⟨hp1, hp2⟩ := pvs_get hr2
  rw [splice_length, List.length_map] at hp1
  rw [hade]
  refine ⟨_, storeVar_run hs (by omega) h1 hfit hc2, ?_⟩
  have hent := ent_of_lk hk
  have hlen : (setr rows i r2).length = rows.length := by simp [setr]
  refine upd hM (fun _ _ => rfl) rfl (by rw [hent]; exact Nat.le_refl _) (fun _ => .inr ⟨_, hk, ⟨_, rfl, hlen.symm⟩, rfl⟩) (fun b o h => .inl (by rw [hent]; exact h)) rfl rfl rfl (by simp) (fun b hb' hn => setRow_other w _ _ _ fun e => hn 0 (by rw [hent]; exact ⟨ad, hbase, e.symm⟩)) (fun a ha hn => cell_setRow_other w _ _ a fun e => hn (by rw [hent]; exact ⟨ad, hbase, e.symm⟩)) fun he => ?_
  refine ⟨hz, by rw [hlen]; exact hcap, hnone, fun x hx => ?_, fun ad' had' => ?_⟩
  · rcases List.mem_or_eq_of_mem_set hx with h | h
    · exact hrl x h
    · rw [h, ← hp1]; exact hrs
  · rw [hbase] at had'; cases had'
    refine ⟨ho, hsp, _, ty, setRow_heap w _ vs _ ty _ h1, by simp; omega, fun i' j row' pv hr hj => ?_⟩
    have hget : ∀ q, ((vs.toList.take (i * (ι k).sz + off) ++ v.cells.toList ++ vs.toList.drop (i * (ι k).sz + off + v.cells.toList.length)).toArray)[q]? = if i * (ι k).sz + off ≤ q ∧ q < i * (ι k).sz + off + vc.length then v.cells.toList[q - (i * (ι k).sz + off)]? else vs[q]? := fun q => by
      rw [List.getElem?_toArray, seg_get _ _ _ (by simp; omega), hlv]; simp
    rw [hget]
    by_cases e : i' = i
    · subst e
      have hr' : r2 = row' := by
        simp only [setr, List.getElem?_set_self hil, Option.some.injEq] at hr; exact hr
      subst hr'
      obtain ⟨a, ha, hap⟩ := hp2 j pv hj
      rw [splice_get vc _ off j (by simp; omega)] at ha
      by_cases hin : off ≤ j ∧ j < off + vc.length
      · rw [if_pos hin] at ha
        rw [if_pos (by omega), show i' * (ι k).sz + j - (i' * (ι k).sz + off) = j - off by omega]
        have hjl : j - off < v.cells.toList.length := by omega
        have e1 : v.cells.toList[j - off]? = some v.cells.toList[j - off] := List.getElem?_eq_getElem hjl
        have e2 : v.cells[j - off]? = some v.cells.toList[j - off] := by rw [← Array.getElem?_toList]; exact e1
        exact ⟨_, e1, (hc3 _ _ a e2 ha).pvr hap |>.mono he.evoX, hc2 _ (List.mem_of_getElem? e1)⟩
      · rw [if_neg hin, List.getElem?_map] at ha
        obtain ⟨pv', hpv', rfl⟩ := Option.map_eq_some_iff.mp ha
        cases hap
        rw [if_neg (by omega)]
        obtain ⟨x, hx, hx2, hx3⟩ := h3 i' j row pv' hrow hpv'
        exact ⟨x, hx, (hx2.mono he.evoX).stdv, hx3⟩
    · have hr' : rows[i']? = some row' := by simpa [setr, List.getElem?_set_ne (Ne.symm e)] using hr
      have hj' : j < (ι k).sz := by rw [← hrl row' (List.mem_of_getElem? hr')]; exact (List.getElem?_eq_some_iff.1 hj).1
      rw [if_neg (row_ne (Ne.symm e) hj' (by omega))]
      obtain ⟨x, hx, hx2, hx3⟩ := h3 i' j row' pv hr' hj
      exact ⟨x, hx, hx2.mono he.evoX, hx3⟩
end
end Go.Ab
