/- The rest of the operations that leave the memory alone. -/
import Derived.Test.YtphfoghhcemfhaaAbP3
namespace Go.Ab
set_option linter.unusedVariables false
set_option linter.unusedSimpArgs false
section
variable {ι : Pl} {m : Mem} {w : World} {P : Program} {v : Value}
theorem splice_length : ∀ (vc cs : List AV) (o : Nat), (splice cs o vc).length = cs.length
  | [], cs, o => by simp [splice]
  | v :: r, cs, o => by rw [splice, splice_length r]; simp
theorem splice_get : ∀ (vc cs : List AV) (o j : Nat), o + vc.length ≤ cs.length → (splice cs o vc)[j]? = if o ≤ j ∧ j < o + vc.length then vc[j - o]? else cs[j]?
  | [], cs, o, j, h => by rw [splice, if_neg (by simp)]
  | v :: r, cs, o, j, h => by
    have h' : o + (r.length + 1) ≤ cs.length := by simpa using h
    rw [splice, splice_get r _ _ _ (by simp; omega)]
    by_cases h1 : j = o
    · subst h1
      rw [if_neg (by omega), if_pos (by simp), List.getElem?_set_self (by omega)]; simp
    · by_cases h2 : o + 1 ≤ j ∧ j < o + 1 + r.length
      · rw [if_pos h2, if_pos (by simp; omega), show j - o = (j - (o + 1)) + 1 by omega]; simp
      · rw [if_neg h2, if_neg (by simp; omega), List.getElem?_set_ne (by omega)]
/-- The cells of a built value, concrete and told. -/
structure CellsR (ι : Pl) (m : Mem) (w : World) (vs : Array Value) (cs : List AV) : Prop where
  len : vs.size = cs.length
  one : ∀ v ∈ vs.toList, v.oneCell' = true
  rel : ∀ (i : Nat) (v : Value) (c : AV), vs[i]? = some v → cs[i]? = some c → Ra ι m w v c
theorem fold_set (vs : Array Value) (o : Nat) : ∀ (l : List Value) (k : Nat), o + k + l.length ≤ vs.size → (∀ j, ((l.zipIdx k).foldl (fun (cs : Array Value) (x : Value × Nat) => cs.setIfInBounds (o + x.2) x.1) vs)[j]? = if o + k ≤ j ∧ j < o + k + l.length then l[j - (o + k)]? else vs[j]?) ∧ ((l.zipIdx k).foldl (fun (cs : Array Value) (x : Value × Nat) => cs.setIfInBounds (o + x.2) x.1) vs).size = vs.size := by
  intro l
  induction l generalizing vs with
  | nil => intro k h; simp; intro j h1 h2; omega
  | cons x r ih =>
    intro k h
    simp only [List.length_cons] at h
    obtain ⟨h1, h2⟩ := ih (vs.setIfInBounds (o + k) x) (k + 1) (by simp; omega)
    simp only [List.zipIdx_cons, List.foldl_cons]
    refine ⟨fun j => ?_, by rw [h2]; simp⟩
    rw [h1]
    by_cases e : j = o + k
    · subst e
      rw [if_neg (by omega), if_pos (by simp), Array.getElem?_setIfInBounds_self_of_lt (by omega)]; simp
    · by_cases h3 : o + (k + 1) ≤ j ∧ j < o + (k + 1) + r.length
      · rw [if_pos h3, if_pos (by simp; omega), show j - (o + k) = (j - (o + (k + 1))) + 1 by omega]; simp
      · rw [if_neg h3, if_neg (by simp; omega), Array.getElem?_setIfInBounds_ne (by omega)]
theorem fold_zipIdx (vs : Array Value) (o : Nat) (c : Array Value) : c.zipIdx.foldl (fun cs (x : Value × Nat) => cs.setIfInBounds (o + x.2) x.1) vs = (c.toList.zipIdx 0).foldl (fun cs (x : Value × Nat) => cs.setIfInBounds (o + x.2) x.1) vs := by
  rw [← Array.foldl_toList]; simp
variable {ρ : Operand → Value} {g : Operand → AV} (hg : ∀ x, Ra ι m w (ρ x) (g x))
include hg
theorem fill_run (place : Nat → Option (Nat × Nat)) : ∀ (parts : List (Nat × Operand)) (vs : Array Value) (cs cs' : List AV), CellsR ι m w vs cs → fillP place cs (parts.map fun q => (q.1, g q.2)) = some cs' →
    ∃ vs', Instr.fill place vs (parts.map fun q => (q.1, ρ q.2)) = some vs' ∧ CellsR ι m w vs' cs'
  | [], vs, cs, cs', h, hf => by cases hf; exact ⟨vs, rfl, h⟩
  | (i, x) :: r, vs, cs, cs', h, hf => by
    simp only [List.map_cons, fillP] at hf
    obtain ⟨⟨o, s⟩, hp, hf⟩ := Option.bind_eq_some_iff.mp hf
    obtain ⟨vc, hv, hf⟩ := Option.bind_eq_some_iff.mp hf
    split at hf
    · rename_i hs
      obtain ⟨hs1, hs2⟩ := hs
      obtain ⟨h1, h2, h3⟩ := (hg x).cells hv
      have hb : o + 0 + (ρ x).cells.toList.length ≤ vs.size := by simp [h.len, h1, hs1]; omega
      obtain ⟨hget, hsz⟩ := fold_set vs o (ρ x).cells.toList 0 hb
      have hlen : (ρ x).cells.toList.length = vc.length := by simpa using h1
      have hR : CellsR ι m w ((ρ x).cells.zipIdx.foldl (fun cs (c : Value × Nat) => cs.setIfInBounds (o + c.2) c.1) vs) (splice cs o vc) := by
        rw [fold_zipIdx]
        refine ⟨by rw [hsz, splice_length, h.len], fun y hy => ?_, fun j y c hy hc => ?_⟩
        · obtain ⟨j, hj⟩ := List.getElem?_of_mem hy
          rw [Array.getElem?_toList, hget] at hj
          split at hj
          · exact h2 y (List.mem_of_getElem? hj)
          · exact h.one y (by rw [← Array.mem_def]; exact Array.mem_of_getElem? hj)
        · rw [hget] at hy
          rw [splice_get vc cs o j (by omega)] at hc
          simp only [Nat.add_zero, hlen] at hy
          split at hy
          · rename_i hin
            rw [if_pos hin] at hc
            exact h3 _ y c (by rw [← Array.getElem?_toList]; exact hy) hc
          · rename_i hin
            rw [if_neg hin] at hc
            exact h.rel j y c hy hc
      obtain ⟨vs', hv', hR'⟩ := fill_run place r _ _ cs' hR hf
      refine ⟨vs', ?_, hR'⟩
      simp only [List.map_cons, Instr.fill, hp]
      have hc1 : ¬ ((ρ x).cells.size ≠ s || decide (o + (ρ x).cells.size > vs.size)) = true := by
        simp [h1, hs1, h.len]; omega
      rw [if_neg (by simpa using hc1)]
      exact hv'
    · cases hf
omit hg
theorem cell1_ra (v : Value) (h : v.oneCell' = true) : Ra ι m w v (cell1 v) := by
  unfold cell1
  split <;> first | exact .u _ | (exact .p _ _ (by constructor)) | skip
  rename_i f a b
  cases hb : (a.isEmpty && b.isEmpty)
  · exact .u _
  · simp at hb
    obtain ⟨rfl, rfl⟩ := hb
    exact .p _ _ (.fn f)
theorem cellsC_spec : ∀ (l : List Value) (cs : List AV), cellsC l = some cs → l.length = cs.length ∧ (∀ v ∈ l, v.oneCell' = true) ∧ ∀ (i : Nat) (v : Value) (c : AV), l[i]? = some v → cs[i]? = some c → Ra ι m w v c
  | [], cs, h => by cases h; simp
  | v :: r, cs, h => by
    have key : ∀ (h1 : v.oneCell' = true), (cellsC r).map (cell1 v :: ·) = some cs → (v :: r).length = cs.length ∧ (∀ x ∈ v :: r, x.oneCell' = true) ∧ ∀ (i : Nat) (x : Value) (c : AV), (v :: r)[i]? = some x → cs[i]? = some c → Ra ι m w x c := fun h1 h => by
      obtain ⟨cr, hr, rfl⟩ := Option.map_eq_some_iff.mp h
      obtain ⟨h2, h3, h4⟩ := cellsC_spec r cr hr
      refine ⟨by simp [h2], by simp; exact ⟨h1, h3⟩, fun i x c hx hc => ?_⟩
      cases i with
      | zero => simp at hx hc; subst hx; subst hc; exact cell1_ra _ h1
      | succ i => exact h4 i x c (by simpa using hx) (by simpa using hc)
    cases v <;> first | (cases h; done) | exact key rfl h
theorem ofConst_ra (v : Value) : Ra ι m w v (ofConst v) := by
  cases v with
  | agg cs =>
    simp only [ofConst]
    cases h : cellsC cs.toList with
    | none => exact .u _
    | some l =>
      obtain ⟨h1, h2, h3⟩ := cellsC_spec (ι := ι) (m := m) (w := w) cs.toList l h
      exact .agg _ _ (by simpa using h1) h2 fun i v c hv hc => h3 i v c (by simpa using hv) hc
  | tuple cs => simp only [ofConst, cell1]; exact .u _
  | _ => exact cell1_ra _ rfl
theorem zero_run {t : TypeId} {z : List AV} (h : zeroCells P t = some z) : ∃ zv, (zeroValue t).run P w = .ok zv w ∧ CellsR ι m w zv.cells z := by
  unfold zeroCells at h
  obtain ⟨zv, hz, hc⟩ := Option.bind_eq_some_iff.mp h
  obtain ⟨i, hi, hz⟩ := Option.bind_eq_some_iff.mp hz
  obtain ⟨h1, h2, h3⟩ := (ofConst_ra (ι := ι) (m := m) (w := w) zv).cells hc
  exact ⟨zv, by simp [zeroValue, typeInfo, hi, hz], h1, h2, h3⟩
theorem mapM_sizes (P : Program) (w : World) : ∀ (fs : List Field), (∀ f ∈ fs, ∃ s, tsize P f.type = some s) → ∃ ps : List (Nat × Nat), (fs.mapM (m := Sem) fun f => do pure (f.offset, ← Go.sizeOf f.type)).run P w = .ok ps w ∧ ∀ i : Nat, ps[i]? = (fs[i]?).bind fun f => (tsize P f.type).map fun s => (f.offset, s)
  | [], _ => ⟨[], by simp, by simp⟩
  | f :: r, h => by
    obtain ⟨s, hs⟩ := h f (by simp)
    obtain ⟨ps, h1, h2⟩ := mapM_sizes P w r fun f hf => h f (by simp [hf])
    refine ⟨(f.offset, s) :: ps, ?_, fun i => ?_⟩
    · simp only [List.mapM_cons, Sem.run_bind, run_sizeOf hs, Result.andThen_ok, Sem.run_pure, h1]
    · cases i with
      | zero => simp [hs]
      | succ i => simpa using h2 i
theorem array_mapM {α β : Type} (f : α → Sem β) (a : Array α) : (a.mapM f) = List.toArray <$> (a.toList.mapM f) := Array.mapM_eq_mapM_toList
include hg
theorem build_run {t : TypeId} {parts : Array (Nat × Operand)} {z cs : List AV} (hs : sizedB P t = true) (hz : zeroCells P t = some z) (hf : fillP (aplace P t) z (parts.toList.map fun q => (q.1, g q.2)) = some cs) :
    ∃ vs, (Instr.build t (parts.map fun (i, x) => (i, ρ x))).run P w = .ok (.agg vs) w ∧ CellsR ι m w vs cs := by
  obtain ⟨zv, hzv, hR⟩ := zero_run (ι := ι) (m := m) (w := w) hz
  have hpl : (parts.map fun (i, x) => (i, ρ x)).toList = parts.toList.map fun q => (q.1, ρ q.2) := by simp
  unfold sizedB at hs
  split at hs
  · rename_i fs hu
    have hall : ∀ f ∈ fs.toList, ∃ s, tsize P f.type = some s := fun f hf => Option.isSome_iff_exists.mp (by simpa using (Array.all_eq_true_iff_forall_mem.mp hs) f (by simpa using hf))
    obtain ⟨ps, h1, h2⟩ := mapM_sizes P w fs.toList hall
    have hplace : (fun i => ps.toArray[i]?) = aplace P t := by
      funext i
      have : arrOf P t = none := by unfold arrOf; rw [hu]
      simp only [aplace, this, placeOf, fieldOf, hu, List.getElem?_toArray, h2, Array.getElem?_toList]
      cases fs[i]? <;> rfl
    obtain ⟨vs, hv, hR'⟩ := fill_run hg (aplace P t) parts.toList zv.cells z cs hR hf
    refine ⟨vs, ?_, hR'⟩
    simp only [Instr.build, Sem.run_bind, hzv, Result.andThen_ok, run_underlying hu, array_mapM, Sem.run_map, h1, hpl]
    rw [show (fun x => ps.toArray[x]?) = aplace P t from hplace, hv]; rfl
  · rename_i n e hu
    obtain ⟨s, hs'⟩ := Option.isSome_iff_exists.mp hs
    have hplace : (fun i => some (i * s, s)) = aplace P t := by
      funext i
      have : arrOf P t = some (n, s) := by unfold arrOf; rw [hu]; simp [hs']
      simp only [aplace, this]
    obtain ⟨vs, hv, hR'⟩ := fill_run hg (aplace P t) parts.toList zv.cells z cs hR hf
    refine ⟨vs, ?_, hR'⟩
    simp only [Instr.build, Sem.run_bind, hzv, Result.andThen_ok, run_underlying hu, run_sizeOf hs', hpl]
    rw [hplace, hv]; rfl
  · cases hs
omit hg
theorem asInt_run {k : IntKind} {n : Int} : (asIntOf (.int k n)).run P w = .ok (k, n) w := rfl
theorem u8_get (s : ByteArray) (n : Nat) : s[n]? = s.data[n]? := by
  by_cases h : n < s.size
  · rw [getElem?_pos s n h, getElem?_pos s.data n h]; rfl
  · rw [getElem?_neg s n h, getElem?_neg s.data n h]
include hg
theorem index_run {t : TypeId} {x i : Operand} {b : ByteArray} {k : IntKind} {n c : Int} (hx : g x = .p (.str b)) (hi : g i = .p (.int k n)) (hu : P.underlying t = some .string) (h : bix b n = some c) :
    ∃ cv, (Instr.index t (ρ x) (ρ i)).run P w = .ok cv w ∧ Ra ι m w cv (.p (.int .u8 c)) := by
  have h1 := hg x; have h2 := hg i
  rw [hx] at h1; rw [hi] at h2
  rw [h1.str, h2.int]
  unfold bix at h
  split at h
  · rename_i h0
    obtain ⟨u, hu', rfl⟩ := Option.map_eq_some_iff.mp h
    refine ⟨.int .u8 u.toNat, ?_, .int' _ _⟩
    simp only [Instr.index, Sem.run_bind, asInt_run, Result.andThen_ok, run_underlying hu]
    rw [if_pos h0, u8_get, hu']; rfl
  · cases h
end
end Go.Ab
