/- More operations that leave the memory alone: loads, fields, indices, parts of slices, what is built. -/
import Derived.Test.YtphfoghhcemfhaaAbP2
import Derived.Laws.Cells
namespace Go.Ab
set_option linter.unusedVariables false
set_option linter.unusedSimpArgs false
section
variable {ι : Pl} {m : Mem} {w : World} {P : Program} {v : Value}
theorem Rp.one {Ow : Nat → Nat → Prop} {pv : PV} (h : Rp Ow w v pv) : v.oneCell' = true := by
  cases h with
  | ifc _ b h h' =>
    cases b
    · obtain ⟨t, x, rfl⟩ := h' rfl; rfl
    · rw [h rfl]; rfl
  | _ => rfl
theorem Ra.one {a : AV} (h : Ra ι m w v a) (hu : a ≠ .u) (hn : a ≠ .und) (ha : ∀ cs, a ≠ .agg cs) (ht : ∀ cs, a ≠ .tup cs) : v.oneCell' = true := by
  cases h with
  | u => exact absurd rfl hu
  | und => exact absurd rfl hn
  | p v pv h => exact h.one
  | agg vs cs hl hone h => exact absurd rfl (ha cs)
  | tup vs cs hl h => exact absurd rfl (ht cs)
  | ptr _ _ _ _ h => exact h
  | cptr => rfl
  | tip v k g rows hg hp h => exact hp.one
  | buf _ _ _ _ _ h => exact h
  | eptr _ _ _ _ _ h => exact h
  | mp _ _ _ h => exact h
  | clo => rfl
theorem cells_one {v : Value} (h : v.oneCell' = true) : v.cells = #[v] := by cases v <;> first | rfl | cases h
theorem Ra.cells {a : AV} {vc : List AV} (h : Ra ι m w v a) (hc : a.cells = some vc) : v.cells.size = vc.length ∧ (∀ x ∈ v.cells.toList, x.oneCell' = true) ∧ ∀ (i : Nat) (x : Value) (c : AV), v.cells[i]? = some x → vc[i]? = some c → Ra ι m w x c := by
  have single : ∀ (h1 : v.oneCell' = true), Ra ι m w v a → v.cells.size = [a].length ∧ (∀ x ∈ v.cells.toList, x.oneCell' = true) ∧ ∀ (i : Nat) (x : Value) (c : AV), v.cells[i]? = some x → [a][i]? = some c → Ra ι m w x c := fun h1 h => by
    rw [cells_one h1]
    refine ⟨rfl, by simpa using h1, fun i x c hx hc => ?_⟩
    cases i with
    | zero => simp at hx hc; subst hx; subst hc; exact h
    | succ i => simp at hx
  cases h with
  | agg vs cs hl hone h => cases hc; exact ⟨hl, hone, h⟩
  | u => cases hc
  | und => cases hc
  | tup => cases hc
  | p v pv h => cases hc; exact single h.one (.p v pv h)
  | ptr v k g off h1 hg h => cases hc; exact single h1 (.ptr v k g off h1 hg h)
  | cptr ad cells u hs h hr => cases hc; exact single rfl (.cptr ad cells u hs h hr)
  | tip v k g rows hg hp h => cases hc; exact single hp.one (.tip v k g rows hg hp h)
  | buf v k g lo n h1 hg h => cases hc; exact single h1 (.buf v k g lo n h1 hg h)
  | eptr v k g i off h1 hg h => cases hc; exact single h1 (.eptr v k g i off h1 hg h)
  | mp v k g h1 hg h => cases hc; exact single h1 (.mp v k g h1 hg h)
  | clo f first caps fs cs hl1 hl2 h1 h2 => cases hc; exact single rfl (.clo f first caps fs cs hl1 hl2 h1 h2)
theorem ld_run {t : TypeId} {cs : List AV} {av : AV} (h : ld P t cs = some av) (ad : Addr) (u : Nat → Value) (hc : ∀ (j : Nat) (c : AV), cs[j]? = some c → w.cell? (ad.add j) = some (u j) ∧ Ra ι m w (u j) c ∧ (u j).oneCell' = true) :
    ∃ cv, (loadVar t ad).run P w = .ok cv w ∧ Ra ι m w cv av := by
  unfold ld at h
  split at h
  · rename_i hb
    obtain ⟨s, hs, h⟩ := Option.bind_eq_some_iff.mp h
    split at h
    · rename_i hle
      cases h
      refine ⟨.agg ((List.range s).map u).toArray, ?_, ?_⟩
      · simp only [loadVar, Sem.run_bind, run_isAgg hb, Result.andThen_ok, if_true, run_sizeOf hs]
        rw [run_loadCells w ad s u (fun j hj => (hc j _ (List.getElem?_eq_getElem (by omega))).1)]
        rfl
      · refine .agg _ _ (by simp; omega) (fun x hx => ?_) (fun i x c hx hc' => ?_)
        · simp at hx; obtain ⟨j, hj, rfl⟩ := hx; exact (hc j _ (List.getElem?_eq_getElem (by omega))).2.2
        · have hi : i < s := by
            rcases Nat.lt_or_ge i s with h | h
            · exact h
            · simp [h] at hx
          simp [hi] at hx; subst hx
          rw [List.getElem?_take_of_lt hi] at hc'
          exact (hc i c hc').2.1
    · cases h
  · rename_i hb
    cases cs with
    | nil => cases h
    | cons c r =>
      have e := Option.some.inj h; subst e
      obtain ⟨h1, h2, _⟩ := hc 0 c rfl
      refine ⟨u 0, ?_, h2⟩
      rw [add_zero'] at h1
      simp [loadVar, run_isAgg hb, h1]
  · cases h
theorem fieldOf_spec {s : TypeId} {i o : Nat} {ft : TypeId} (h : fieldOf P s i = some (o, ft)) : ∃ fs f, P.underlying s = some (.struct fs) ∧ fs[i]? = some f ∧ f.offset = o ∧ f.type = ft := by
  unfold fieldOf at h
  split at h
  · rename_i fs hu
    obtain ⟨f, hf, e⟩ := Option.map_eq_some_iff.mp h
    cases e; exact ⟨fs, f, hu, hf, rfl, rfl⟩
  · cases h
theorem arrOf_spec {t : TypeId} {n s : Nat} (h : arrOf P t = some (n, s)) : ∃ e, P.underlying t = some (.array n e) ∧ tsize P e = some s := by
  unfold arrOf at h
  split at h
  · rename_i n' e hu
    obtain ⟨s', hs, e'⟩ := Option.map_eq_some_iff.mp h
    cases e'; exact ⟨e, hu, hs⟩
  · cases h
theorem part_run {ft : TypeId} {o : Nat} {vs : Array Value} {cs : List AV} {av : AV} (h : ld P ft (cs.drop o) = some av) (hl : vs.size = cs.length) (hone : ∀ v ∈ vs.toList, v.oneCell' = true) (hr : ∀ (i : Nat) (v : Value) (c : AV), vs[i]? = some v → cs[i]? = some c → Ra ι m w v c) :
    ∃ cv, (part ft vs o).run P w = .ok cv w ∧ Ra ι m w cv av := by
  unfold ld at h
  split at h
  · rename_i hb
    obtain ⟨s, hs, h⟩ := Option.bind_eq_some_iff.mp h
    split at h
    · rename_i hle
      cases h
      simp at hle
      refine ⟨.agg (vs.extract o (o + s)), by simp [part, run_isAgg hb, run_sizeOf hs], ?_⟩
      refine .agg _ _ (by simp; omega) (fun x hx => hone x (by
        simp at hx; exact List.mem_of_mem_drop (List.mem_of_mem_take hx))) (fun i x c hx hc' => ?_)
      have hi : i < s := by
        rcases Nat.lt_or_ge i s with h | h
        · exact h
        · rw [Array.getElem?_eq_none (by simp; omega)] at hx; cases hx
      rw [List.getElem?_take_of_lt hi, List.getElem?_drop] at hc'
      rw [Array.getElem?_extract] at hx
      split at hx
      · exact hr (o + i) x c hx hc'
      · cases hx
    · cases h
  · rename_i hb
    cases hd : cs.drop o with
    | nil => rw [hd] at h; cases h
    | cons c r =>
      rw [hd] at h; have e := Option.some.inj h; subst e
      have h1 : cs[o]? = some c := by rw [← List.head?_drop, hd]; rfl
      have ho : o < cs.length := (List.getElem?_eq_some_iff.1 h1).1
      refine ⟨vs[o]'(by omega), by simp [part, run_isAgg hb, Array.getElem?_eq_getElem (show o < vs.size by omega)], hr o _ c (Array.getElem?_eq_getElem _) h1⟩
  · cases h
end
end Go.Ab
