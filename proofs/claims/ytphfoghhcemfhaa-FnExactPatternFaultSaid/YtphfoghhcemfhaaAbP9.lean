/- Slices that an operation makes or grows. -/
import Derived.Test.YtphfoghhcemfhaaAbP8
namespace Go.Ab
set_option linter.unusedVariables false
set_option linter.unusedSimpArgs false
section
variable {ι : Pl} {m : Mem} {w w' : World} {P : Program}
theorem rep_get {α : Type} (z : List α) : ∀ (n k : Nat), (List.replicate n z).flatten[k]? = if k < n * z.length then z[k % z.length]? else none
  | 0, k => by simp
  | n + 1, k => by
    rw [List.replicate_succ, List.flatten_cons]
    by_cases h : k < z.length
    · rw [List.getElem?_append_left h, if_pos (by rw [Nat.add_mul]; omega), Nat.mod_eq_of_lt h]
    · rw [List.getElem?_append_right (by omega), rep_get z n]
      by_cases h0 : z.length = 0
      · simp [h0]
      · have : (k - z.length) % z.length = k % z.length := (Nat.mod_eq_sub_mod (by omega)).symm
        rw [this]
        by_cases h1 : k - z.length < n * z.length
        · rw [if_pos h1, if_pos (by rw [Nat.add_mul]; omega)]
        · rw [if_neg h1, if_neg (by rw [Nat.add_mul]; omega)]
theorem zeros_R {zv : Value} {z : List AV} (hR : CellsR ι m w zv.cells z) (n s : Nat) (hs : z.length = s) :
    CellsR ι m w ((Array.range (n * s)).map fun i => zv.cells[i % zv.cells.size]!) (List.replicate n z).flatten := by
  have hsz : zv.cells.size = s := by rw [hR.len, hs]
  have hlen : ((List.replicate n z).flatten).length = n * s := by simp [hs]
  refine ⟨by simp [hs], fun v hv => ?_, fun i v c hv hc => ?_⟩
  · simp at hv
    obtain ⟨k, hk, rfl⟩ := hv
    have h0 : 0 < s := Nat.pos_of_ne_zero fun h => by subst h; simp at hk
    have hlt : k % zv.cells.size < zv.cells.size := by rw [hsz]; exact Nat.mod_lt _ h0
    rw [getElem!_pos zv.cells _ hlt]
    exact hR.one _ (by simp)
  · rw [rep_get] at hc
    split at hc
    · rename_i hk
      rw [hs] at hk
      have h0 : 0 < s := Nat.pos_of_ne_zero fun h => by subst h; simp at hk
      have hlt : i % zv.cells.size < zv.cells.size := by rw [hsz]; exact Nat.mod_lt _ h0
      simp only [Array.getElem?_map, Array.getElem?_range, hk, if_true, Option.map_some, Option.some.injEq] at hv
      rw [getElem!_pos zv.cells _ hlt] at hv
      refine hR.rel (i % s) v c ?_ (by rw [← hs]; exact hc)
      have e1 : i % s = i % zv.cells.size := by rw [hsz]
      rw [← hv, e1]; exact Array.getElem?_eq_getElem hlt
    · cases hc
theorem elemZero_spec {t : TypeId} {z : List AV} (h : core.elemZero P t = some z) : ∃ e s, P.underlying t = some (.slice e) ∧ zeroCells P e = some z ∧ tsize P e = some s ∧ z.length = s := by
  unfold core.elemZero at h
  split at h
  · rename_i e hu
    obtain ⟨z', hz, h⟩ := Option.bind_eq_some_iff.mp h
    split at h
    · rename_i hl; cases h; exact ⟨e, _, hu, hz, hl.symm, rfl⟩
    · cases h
  · cases h
theorem rowsN_get (s : Nat) : ∀ (n : Nat) (l : List PV) (i : Nat), (rowsN s n l)[i]? = if i < n then some ((l.drop (i * s)).take s) else none
  | 0, l, i => by simp [rowsN]
  | n + 1, l, i => by
    cases i with
    | zero => simp [rowsN]
    | succ i =>
      simp only [rowsN, List.getElem?_cons_succ]
      rw [rowsN_get s n]
      by_cases h : i < n
      · rw [if_pos h, if_pos (by omega), List.drop_drop]; congr 3; rw [Nat.add_mul]; omega
      · rw [if_neg h, if_neg (by omega)]
theorem rowsN_len (s n : Nat) (l : List PV) : (rowsN s n l).length = n := by
  induction n generalizing l with
  | zero => rfl
  | succ n ih => simp [rowsN, ih]
theorem own_old (hM : MemOk ι m w) {b o : Nat} (h : Own ι m b o) : b < w.heap.size := by
  rcases h with h | ⟨k, g, ob, hk, ho⟩
  · exact hM.xlt b o h
  · exact own_lt (hM.ok k g ob hk) ho
/-- Rows of a block that has just been made. -/
theorem fresh_rows {vs : Array Value} {t : TypeId} {n s cap : Nat} {rows : Rows} {full : Bool} {fr : Nat × Nat} (he : Ext ι m w ι m w') (hM : MemOk ι m w) (hg : w'.heap[w.heap.size]? = some (.cells vs t fr)) (hn : rows.length = n) (hc : n ≤ cap) (hf : full = true → cap = n)
  (hsz : ∀ (i : Nat) (row : List PV), rows[i]? = some row → row.length = s) (hr : ∀ (i j : Nat) (row : List PV) (pv : PV), rows[i]? = some row → row[j]? = some pv → ∃ v, vs[i * s + j]? = some v ∧ Rp (Own ι m) w v pv) :
    Rp (Own ι m) w' (.slice (some ⟨w.heap.size, 0, none⟩) n cap) (.lst full rows) := by
  subst hn
  refine .lst _ cap s full rows (fun i j => vs.getD (i * s + j) undef) hc hf hsz (fun i row j c hi hj => ?_) (fun i row j c hi hj => ?_)
  · obtain ⟨v, hv, _⟩ := hr i j row c hi hj
    refine ⟨_, rfl, ?_, fun h => ?_⟩
    · rw [add_mk, Nat.zero_add]
      simp only [World.cell?, hg]
      rw [Array.getD_eq_getD_getElem?, hv]; simp [hv]
    · have := own_old hM h; simp at this
  · obtain ⟨v, hv, h⟩ := hr i j row c hi hj
    rw [Array.getD_eq_getD_getElem?, hv]; exact h.mono he.evoX
variable {ρ : Operand → Value} {g : Operand → AV} (hg : ∀ x, Ra ι m w (ρ x) (g x)) (hM : MemOk ι m w)
include hg hM
theorem buildSlice_run {t : TypeId} {n s : Nat} {parts : Array (Nat × Operand)} {z cs : List AV} {l : List PV} (hs : sliceOf P t = some s) (hn : ¬ 16777216 < n * s) (hz : core.elemZero P t = some z)
  (hf : fillP (fun i => some (i * s, s)) (List.replicate n z).flatten (parts.toList.map fun q => (q.1, g q.2)) = some cs) (hl : pvs cs = some l) :
    ∃ cv w', (Instr.buildSlice t n (parts.map fun (i, x) => (i, ρ x))).run P w = .ok cv w' ∧ MemOk ι m w' ∧ Ext ι m w ι m w' ∧ Ra ι m w' cv (.p (.lst true (rowsN s n l))) := by
  obtain ⟨e, s', hu, hze, hse, hzl⟩ := elemZero_spec hz
  obtain ⟨e', hu', hse'⟩ := sliceOf_spec hs
  rw [hu] at hu'; cases hu'
  rw [hse] at hse'; cases hse'
  obtain ⟨zv, hzv, hR⟩ := zero_run (ι := ι) (m := m) (w := w) hze
  have hpl : (parts.map fun (i, x) => (i, ρ x)).toList = parts.toList.map fun q => (q.1, ρ q.2) := by simp
  obtain ⟨vs, hv, hR'⟩ := fill_run hg (fun i => some (i * s, s)) parts.toList _ _ cs (zeros_R hR n s hzl) hf
  have hlen0 : ∀ (parts : List (Nat × AV)) (a b : List AV), fillP (fun i => some (i * s, s)) a parts = some b → b.length = a.length := by
    intro parts
    induction parts with
    | nil => intro a b h; cases h; rfl
    | cons q r ih =>
      intro a b h
      obtain ⟨i, x⟩ := q
      simp only [fillP, Option.bind_some] at h
      obtain ⟨vc, _, h⟩ := Option.bind_eq_some_iff.mp h
      split at h
      · rw [ih _ _ h, splice_length]
      · cases h
  have hcl : cs.length = n * s := by rw [hlen0 _ _ _ hf]; simp [hzl]
  obtain ⟨hp1, hp2⟩ := pvs_get hl
  obtain ⟨hM', he⟩ := quiet (w' := w.alloc (.cells vs e)) hM rfl rfl rfl (by simp) (fun b hb => by rw [World.alloc]; exact (Array.getElem?_push_lt hb).trans (Array.getElem?_eq_getElem hb).symm)
  refine ⟨.slice (some ⟨w.heap.size, 0, none⟩) n n, w.alloc (.cells vs e), ?_, hM', he, .p _ _ (fresh_rows (s := s) he hM (_root_.Go.heap_alloc_new _ _) (rowsN_len s n l) (Nat.le_refl _) (fun _ => rfl) (fun i row hi => ?_) (fun i j row pv hi hj => ?_))⟩
  · have hn' : ¬ n * s > 2 ^ 24 := by have : (2 : Nat) ^ 24 = 16777216 := rfl; omega
    by_cases h0 : n * s = 0
    · have hz0 : ∀ zz : Array Value, ((Array.range (n * s)).map fun i => zz[i % zz.size]!) = #[] := fun zz => by rw [h0]; simp
      rw [hz0] at hv
      simp only [Instr.buildSlice, Sem.run_bind, run_underlying hu, Result.andThen_ok, run_sizeOf hse, if_neg hn', if_pos h0, Sem.run_pure, hz0, hpl]
      rw [hv]; rfl
    · simp only [Instr.buildSlice, Sem.run_bind, run_underlying hu, Result.andThen_ok, run_sizeOf hse, if_neg hn', if_neg h0, Sem.run_pure, hzv, hpl]
      rw [hv]; rfl
  · rw [rowsN_get] at hi
    split at hi
    · rename_i hin
      cases hi
      have h2 : (i + 1) * s ≤ n * s := Nat.mul_le_mul_right _ hin
      rw [Nat.add_mul] at h2
      simp; omega
    · cases hi
  · rw [rowsN_get] at hi
    split at hi
    · rename_i hin
      cases hi
      have hjs : j < s := by have := (List.getElem?_eq_some_iff.1 hj).1; simp at this; omega
      rw [List.getElem?_take_of_lt hjs, List.getElem?_drop] at hj
      obtain ⟨a, ha, hap⟩ := hp2 _ pv hj
      have hlt : i * s + j < vs.size := by rw [hR'.len]; exact (List.getElem?_eq_some_iff.1 ha).1
      exact ⟨_, Array.getElem?_eq_getElem hlt, (hR'.rel _ _ a (Array.getElem?_eq_getElem hlt) ha).pvr hap⟩
    · cases hi
omit hg hM
theorem wrap_small {n : Int} (h0 : 0 ≤ n) (h1 : n ≤ 68719476736) : IntKind.i64.wrap n = n := by
  have e : n % 18446744073709551616 = n := Int.emod_eq_of_lt h0 (by omega)
  have : IntKind.i64.wrap n = if (true && decide (n % 18446744073709551616 ≥ 9223372036854775808)) = true then n % 18446744073709551616 - 18446744073709551616 else n % 18446744073709551616 := rfl
  rw [this, e]
  have h2 : ¬ (n ≥ 9223372036854775808) := by omega
  simp [h2]
include hM
theorem makeSlice_run {t : TypeId} {s : Nat} {z : List AV} {zr : List PV} {n c : Int} {kn kc : IntKind} {rows : Rows} (k : Nat) (hs : sliceOf P t = some s) (hz : core.elemZero P t = some z) (hp : pvs z = some zr) (hzl : zr.length = s) (hm : mks zr n c = some rows) :
    ∃ cv w' ca, (Instr.makeSlice t (.int kn n) (.int kc c)).run P w = .ok cv w' ∧ MemOk (setι ι k ca) (mset m k ((ent m k).1 + 1, .buf s rows)) w' ∧ Ext ι m w (setι ι k ca) (mset m k ((ent m k).1 + 1, .buf s rows)) w' ∧
      Ra (setι ι k ca) (mset m k ((ent m k).1 + 1, .buf s rows)) w' cv (.buf k ((ent m k).1 + 1) 0 rows.length) := by
  obtain ⟨e, i, zv0, hu, hi, hsize, hbytes, hzero, _⟩ := sliceOf_more hs
  obtain ⟨e', s', hu', hze, hse, hzl'⟩ := elemZero_spec hz
  rw [hu] at hu'; cases hu'
  have hse' : tsize P e = some s := by rw [tsize, hi]; exact congrArg some hsize
  rw [hse] at hse'; cases hse'
  obtain ⟨zv, hzv, hR⟩ := zero_run (ι := ι) (m := m) (w := w) hze
  unfold mks at hm
  split at hm
  · rename_i hb
    cases hm
    obtain ⟨h0, h1, h2⟩ := hb
    have hw1 := wrap_small h0 (by omega)
    have hw2 := wrap_small (by omega) h2
    have hRz := zeros_R hR c.toNat s hzl'
    let vs := (Array.range (c.toNat * s)).map fun i => zv.cells[i % zv.cells.size]!
    let ca : CA := { blk := w.heap.size, base := some ⟨w.heap.size, 0, none⟩, cap := c.toNat, sz := s }
    obtain ⟨hp1, hp2⟩ := pvs_get hp
    have hvs : vs.size = c.toNat * s := by simp [vs]
    have hent : ∀ (he : Ext ι m w (setι ι k ca) (mset m k ((ent m k).1 + 1, .buf s (List.replicate n.toNat zr))) (w.alloc (.cells vs e))), ObOk (setι ι k ca) (mset m k ((ent m k).1 + 1, .buf s (List.replicate n.toNat zr))) (w.alloc (.cells vs e)) ca (.buf s (List.replicate n.toNat zr)) := fun he => by
      refine ⟨rfl, by simp [ca]; omega, by simp [ca], fun row hrow => ?_, fun ad had => ?_⟩
      · rw [List.eq_of_mem_replicate hrow]; exact hzl
      · cases had
        refine ⟨rfl, rfl, vs, e, _root_.Go.heap_alloc_new _ _, hvs, fun i' j row pv hr hj => ?_⟩
        have hin : i' < n.toNat := by have := (List.getElem?_eq_some_iff.1 hr).1; simpa using this
        have hrow : row = zr := by
          rw [List.getElem?_replicate, if_pos hin] at hr; exact (Option.some.inj hr).symm
        subst hrow
        have hj' : j < s := by rw [← hzl]; exact (List.getElem?_eq_some_iff.1 hj).1
        obtain ⟨a, ha, hap⟩ := hp2 j pv hj
        have hlt : i' * s + j < vs.size := by rw [hvs]; exact row_lt (by omega) hj'
        have ha' : ((List.replicate c.toNat z).flatten)[i' * s + j]? = some a := by
          rw [rep_get, hzl', if_pos (row_lt (by omega) hj'), Nat.mul_comm, Nat.mul_add_mod, Nat.mod_eq_of_lt hj']; exact ha
        refine ⟨_, Array.getElem?_eq_getElem hlt, ((hRz.rel _ _ a (Array.getElem?_eq_getElem hlt) ha').pvr hap).mono he.evoX, hRz.one _ (by rw [← Array.mem_def]; exact Array.getElem_mem _)⟩
    obtain ⟨hM', he⟩ := upd_fresh (w' := w.alloc (.cells vs e)) hM k ca (.buf s (List.replicate n.toNat zr)) rfl rfl rfl (by simp) (fun b hb => by rw [World.alloc]; exact (Array.getElem?_push_lt hb).trans (Array.getElem?_eq_getElem hb).symm) (fun b o ho => by
      obtain ⟨ad, h3, h4⟩ := ho; cases h3; exact Nat.le_of_eq h4) hent
    refine ⟨.slice (some ⟨w.heap.size, 0, none⟩) n.toNat c.toNat, w.alloc (.cells vs e), ca, ?_, hM', he, .buf _ k _ 0 _ rfl (by rw [ent_mset]; exact Nat.le_refl _) fun s' rows' hk => ?_⟩
    · have hbig : ¬ ((i.bytes : Int) * c > 2 ^ 48) := by
        have h5 : (i.bytes : Int) * c ≤ 2048 * 68719476736 := Int.mul_le_mul (by omega) h2 (by omega) (by omega)
        have h6 : (2 : Int) ^ 48 = 281474976710656 := rfl
        omega
      have hcond : ¬ ((decide (c < 0) || decide ((i.bytes : Int) * c > 2 ^ 48)) || decide (n < 0) || decide (n > c)) = true := by
        rw [decide_eq_false hbig, decide_eq_false (show ¬ c < 0 by omega), decide_eq_false (show ¬ n < 0 by omega), decide_eq_false (show ¬ n > c by omega)]; exact Bool.false_ne_true
      have hti : (typeInfo e).run P w = .ok i w := by simp [typeInfo, hi]
      unfold Instr.makeSlice
      simp only [Sem.run_bind, run_underlying hu, Result.andThen_ok, asInt, asInt_run, Sem.run_pure, hti, hw1, hw2]
      rw [if_neg hcond]
      simp only [Sem.run_bind, run_askRoom, Result.andThen_ok, run_sizeOf hse]
      by_cases hc0 : c.toNat * s = 0
      · rw [if_pos hc0]
        have hvs0 : ((Array.range (c.toNat * s)).map fun i => (#[] : Array Value)[i % (#[] : Array Value).size]!) = vs := by simp only [vs, hc0]; simp
        simp only [Sem.run_bind, Sem.run_pure, Result.andThen_ok, hvs0, newRow, run_newObj]; rfl
      · rw [if_neg hc0]
        simp only [Sem.run_bind, hzv, Sem.run_pure, Result.andThen_ok, newRow, run_newObj]; rfl
    · rw [lk_mset, if_pos rfl] at hk
      cases hk
      refine ⟨by simp, _, by rw [setι_same]; simp [ca]; rfl, fun _ => by rw [setι_same]; simp [ca]; rfl⟩
  · cases hm
end
end Go.Ab
