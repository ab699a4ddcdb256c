/- Behind a call: what the callee left, among the caller's own. -/
import Derived.Test.YtphfoghhcemfhaaAbP14
namespace Go.Ab
set_option linter.unusedVariables false
set_option linter.unusedSimpArgs false
theorem mem_lk {α : Type} : ∀ {l : List (Nat × α)}, (l.map (·.1)).Nodup → ∀ {k : Nat} {x : α}, (k, x) ∈ l → lk l k = some x
  | [], _, k, x, h => by cases h
  | (k', v) :: r, hn, k, x, h => by
    rw [List.map_cons, List.nodup_cons] at hn
    rw [lk_cons]
    rcases List.mem_cons.mp h with e | h
    · cases e; rw [if_pos rfl]
    · rw [if_neg (fun e => hn.1 (by subst e; exact List.mem_map_of_mem (f := (·.1)) h))]
      exact mem_lk hn.2 h
theorem ownK_ren {c : CA} {σ : Sg} {ob : Ob} {b o : Nat} : OwnK c (renO σ ob) b o ↔ OwnK c ob b o := by cases ob <;> exact Iff.rfl
/-- Where the own objects lie behind the call. -/
def ιu (σ : Sg) (ι ιo : Pl) : Pl where
  loc j := match σ.find? (fun q => q.2.2.1 == j) with | some q => ιo q.1 | none => ι j
  fr := ι.fr
section
variable {σ : Sg} {mc mc' m : Mem} {ι ιo : Pl} {w w' : World}
theorem img (hf : Fits σ mc m) (ho : FitsOut σ mc mc' m) (j : Nat) :
    (∃ k g0 g' ob, lk σ k = some (g0, j, g') ∧ lk mc' k = some (g0, ob) ∧ lk (back σ m mc') j = some (g', renO σ ob) ∧ (ιu σ ι ιo) j = ιo k ∧ ((lk mc k).isSome = true ∨ (ent m j).1 < g')) ∨
    ((∀ k g0 g', lk σ k ≠ some (g0, j, g')) ∧ lk (back σ m mc') j = lk m j ∧ (ιu σ ι ιo) j = ι j) := by
  cases h : σ.find? (fun q => q.2.2.1 == j) with
  | none =>
    have hn := List.find?_eq_none.mp h
    refine .inr ⟨fun k g0 g' e => hn _ (lk_mem e) (by simp), back_out fun q hq g0 g' e => hn _ (lk_mem e) (by simp), by simp only [ιu, h]⟩
  | some q =>
    obtain ⟨k, g0, j', g'⟩ := q
    have h1 := List.find?_some h
    have h2 := List.mem_of_find?_eq_some h
    obtain rfl : j' = j := by simpa using h1
    have h3 := mem_lk hf.2.2.2 h2
    obtain ⟨⟨g1, ob⟩, h4⟩ := Option.isSome_iff_exists.mp (ho.2.2 _ h2)
    obtain ⟨k', g2, h5, h6⟩ := ho.1 _ (lk_mem h4)
    have e := h5.symm.trans h3
    simp only [Option.some.injEq, Prod.mk.injEq] at e
    obtain ⟨rfl, rfl, rfl⟩ := e
    exact .inl ⟨k, g1, g2, ob, h3, h4, back_in hf.2.1 h3 h4, by simp only [ιu, h], h6⟩
theorem at2 (hf : Fits σ mc m) (ho : FitsOut σ mc mc' m) {k g k' g' : Nat} (h : rk σ k g = some (k', g')) :
    ∃ ob, lk mc' k = some (g, ob) ∧ lk (back σ m mc') k' = some (g', renO σ ob) ∧ (ιu σ ι ιo) k' = ιo k := by
  have h1 := rk_some h
  rcases img (ι := ι) (ιo := ιo) hf ho k' with ⟨k2, g0, g2, ob, e1, e2, e3, e4, _⟩ | ⟨hn, _⟩
  · obtain rfl := sg_inj hf.2.1 e1 h1
    rw [h1] at e1; cases e1
    exact ⟨ob, e2, e3, e4⟩
  · exact absurd h1 (hn _ _ _)
theorem up_own (hf : Fits σ mc m) (ho : FitsOut σ mc mc' m) (hx : ιo.fr = (ιc σ mc m ι).fr) {b o : Nat} (h : Own (ιu σ ι ιo) (back σ m mc') b o) : Own ιo mc' b o := by
  rcases h with h | ⟨j, g, ob, hj, h⟩
  · exact .inl (by rw [hx]; exact .inl h)
  · rcases img (ι := ι) (ιo := ιo) hf ho j with ⟨k, g0, g', ob1, e1, e2, e3, e4, _⟩ | ⟨hn, e1, e2⟩
    · rw [e3] at hj; cases hj
      rw [e4] at h
      exact .inr ⟨k, g0, ob1, e2, ownK_ren.mp h⟩
    · rw [e1] at hj; rw [e2] at h
      exact .inl (by rw [hx]; exact .inr ⟨j, g, ob, hj, fun k g0 g' _ => hn k g0 g', h⟩)
theorem up1 (hf : Fits σ mc m) (ho : FitsOut σ mc mc' m) (hx : ιo.fr = (ιc σ mc m ι).fr) {v : Value} {b : AV} (h : Ra ιo mc' w' v b) : Ra (ιu σ ι ιo) (back σ m mc') w' v (ren1 σ b) := by
  have hs : ∀ b' o', Own (ιu σ ι ιo) (back σ m mc') b' o' → Own ιo mc' b' o' := fun _ _ => up_own hf ho hx
  cases h with
  | p v pv h => exact .p v pv (h.anti hs)
  | cptr ad _ u hsp h1 h2 => exact .cptr ad _ u hsp (fun j c hj => ⟨(h1 j c hj).1, fun h => (h1 j c hj).2 (hs _ _ h)⟩) fun j c hj => (h2 j c hj).anti hs
  | ptr _ k g off h1 hg hc =>
    simp only [ren1]
    split
    · rename_i k' g' hr
      obtain ⟨ob, e1, e2, e3⟩ := at2 (ι := ι) (ιo := ιo) hf ho hr
      refine .ptr v k' g' off h1 (by rw [ent_of_lk e2]; exact Nat.le_refl _) fun cs hk => ?_
      rw [e2] at hk
      cases ob <;> simp only [renO] at hk <;> cases hk
      rw [e3]; exact hc _ e1
    · exact .u v
  | tip _ k g rows hg hp hc =>
    simp only [ren1]
    split
    · rename_i k' g' hr
      obtain ⟨ob, e1, e2, e3⟩ := at2 (ι := ι) (ιo := ιo) hf ho hr
      refine .tip v k' g' rows (by rw [ent_of_lk e2]; exact Nat.le_refl _) (hp.anti hs) fun s n hk => ?_
      rw [e2] at hk
      cases ob <;> simp only [renO] at hk <;> cases hk
      rw [e3]; exact hc _ _ e1
    · exact .p v _ (hp.anti hs)
  | buf _ k g lo n h1 hg hc =>
    simp only [ren1]
    split
    · rename_i k' g' hr
      obtain ⟨ob, e1, e2, e3⟩ := at2 (ι := ι) (ιo := ιo) hf ho hr
      refine .buf v k' g' lo n h1 (by rw [ent_of_lk e2]; exact Nat.le_refl _) fun s rows hk => ?_
      rw [e2] at hk
      cases ob <;> simp only [renO] at hk <;> cases hk
      rw [e3]; exact hc _ _ e1
    · exact .u v
  | eptr _ k g i off h1 hg hc =>
    simp only [ren1]
    split
    · rename_i k' g' hr
      obtain ⟨ob, e1, e2, e3⟩ := at2 (ι := ι) (ιo := ιo) hf ho hr
      refine .eptr v k' g' i off h1 (by rw [ent_of_lk e2]; exact Nat.le_refl _) fun s rows hk => ?_
      rw [e2] at hk
      cases ob <;> simp only [renO] at hk <;> cases hk
      rw [e3]; exact hc _ _ e1
    · exact .u v
  | mp _ k g h1 hg hc =>
    simp only [ren1]
    split
    · rename_i k' g' hr
      obtain ⟨ob, e1, e2, e3⟩ := at2 (ι := ι) (ιo := ιo) hf ho hr
      refine .mp v k' g' h1 (by rw [ent_of_lk e2]; exact Nat.le_refl _) fun mk ag es hk => ?_
      rw [e2] at hk
      cases ob <;> simp only [renO] at hk <;> cases hk
      rw [e3]; exact hc _ _ _ e1
    · exact .u v
  | _ => exact .u _
theorem up1s (hf : Fits σ mc m) (ho : FitsOut σ mc mc' m) (hx : ιo.fr = (ιc σ mc m ι).fr) {vs : Array Value} {bs : List AV} (h : ∀ (i : Nat) (v : Value) (c : AV), vs[i]? = some v → bs[i]? = some c → Ra ιo mc' w' v c) :
    ∀ (i : Nat) (v : Value) (c : AV), vs[i]? = some v → (bs.map (ren1 σ))[i]? = some c → Ra (ιu σ ι ιo) (back σ m mc') w' v c := fun i v c hv hc => by
  rw [List.getElem?_map] at hc
  obtain ⟨b, hb, rfl⟩ := Option.map_eq_some_iff.mp hc
  exact up1 hf ho hx (h i v b hv hb)
theorem upB (hf : Fits σ mc m) (ho : FitsOut σ mc mc' m) (hx : ιo.fr = (ιc σ mc m ι).fr) {v : Value} {b : AV} (h : Ra ιo mc' w' v b) : Ra (ιu σ ι ιo) (back σ m mc') w' v (renB σ b) := by
  cases b with
  | agg cs =>
    cases h with
    | agg vs _ hl hone h => exact .agg vs _ (by rw [hl, List.length_map]) hone (up1s hf ho hx h)
  | _ => exact up1 hf ho hx h
theorem upA (hf : Fits σ mc m) (ho : FitsOut σ mc mc' m) (hx : ιo.fr = (ιc σ mc m ι).fr) {v : Value} {b : AV} (h : Ra ιo mc' w' v b) : Ra (ιu σ ι ιo) (back σ m mc') w' v (renA σ b) := by
  cases b with
  | tup cs =>
    cases h with
    | tup vs _ hl h =>
      refine .tup vs _ (by rw [hl, List.length_map]) fun i v c hv hc => ?_
      rw [List.getElem?_map] at hc
      obtain ⟨b, hb, rfl⟩ := Option.map_eq_some_iff.mp hc
      exact upB hf ho hx (h i v b hv hb)
  | clo f fs cs =>
    cases h with
    | clo _ first caps _ _ hl1 hl2 h1 h2 => exact .clo f first caps _ _ (by rw [hl1, List.length_map]) (by rw [hl2, List.length_map]) (up1s hf ho hx h1) (up1s hf ho hx h2)
  | _ => exact upB hf ho hx h
theorem upO (hM : MemOk ι m w) (hf : Fits σ mc m) (ho : FitsOut σ mc mc' m) (hx : ιo.fr = (ιc σ mc m ι).fr) (hM' : MemOk ιo mc' w') (he : Evo (OwnM (ιc σ mc m ι) mc) w (OwnM ιo mc') w') (hk : Keys (ιc σ mc m ι) mc ιo mc') :
    MemOk (ιu σ ι ιo) (back σ m mc') w' ∧ Ext ι m w (ιu σ ι ιo) (back σ m mc') w' := by
  -- names that the call does not know
  have far : ∀ {j g : Nat} {ob : Ob} {b o o' : Nat}, (∀ k g0 g', lk σ k ≠ some (g0, j, g')) → lk m j = some (g, ob) → OwnK (ι j) ob b o → ¬ OwnM (ιc σ mc m ι) mc b o' := fun {j g ob b o o'} hn hj h1 h2 => by
    obtain ⟨k, g1, ob1, e1, e2⟩ := h2
    obtain ⟨_, k', g', ob2, f1, f2, f3⟩ := fits_at hf e1
    simp only [ιc, f1] at e2
    have := hM.apart j k' g g' ob ob2 b o o' hj f2 h1 (f3.own e2)
    subst this
    exact hn _ _ _ f1
  have hext : Ext ι m w (ιu σ ι ιo) (back σ m mc') w' := by
    refine ⟨⟨he.os, he.tape, he.output, he.size, fun b hb hn => he.blk b hb fun o h => hn o (ownM_sub hf h), fun a ha hn => he.cell a ha fun h => hn (ownM_sub hf h), fun b o h => ?_⟩, ⟨fun j => ?_, fun j g ob' hj => ?_⟩, rfl⟩
    · obtain ⟨j, g, ob, hj, h⟩ := h
      rcases img (ι := ι) (ιo := ιo) hf ho j with ⟨k, g0, g', ob1, e1, e2, e3, e4, _⟩ | ⟨hn, e1, e2⟩
      · rw [e3] at hj; cases hj
        rw [e4] at h
        exact (he.own b o ⟨k, g0, ob1, e2, ownK_ren.mp h⟩).imp (ownM_sub hf) id
      · rw [e1] at hj; rw [e2] at h
        exact .inl ⟨j, g, ob, hj, h⟩
    · rcases img (ι := ι) (ιo := ιo) hf ho j with ⟨k, g0, g', ob1, e1, e2, e3, e4, e5⟩ | ⟨hn, e1, e2⟩
      · rw [ent_of_lk e3]
        rcases e5 with h | h
        · obtain ⟨⟨g1, ob⟩, h1⟩ := Option.isSome_iff_exists.mp h
          obtain ⟨_, k', g2, ob2, f1, f2, f3⟩ := fits_at hf h1
          rw [e1] at f1; cases f1
          rw [ent_of_lk f2]; exact Nat.le_refl _
        · exact Nat.le_of_lt h
      · unfold ent; rw [e1]; exact Nat.le_refl _
    · rcases img (ι := ι) (ιo := ιo) hf ho j with ⟨k, g0, g', ob1, e1, e2, e3, e4, e5⟩ | ⟨hn, e1, e2⟩
      · rw [e3] at hj; cases hj
        rcases e5 with h | h
        · obtain ⟨⟨g1, ob⟩, h1⟩ := Option.isSome_iff_exists.mp h
          obtain ⟨_, k', g2, ob2, f1, f2, f3⟩ := fits_at hf h1
          rw [e1] at f1; cases f1
          have eι : (ιc σ mc m ι) k = ι j := by simp only [ιc, e1]
          rcases hk.2 k g0 ob1 e2 with ⟨ob3, h2, h3⟩ | h2 | h2
          · rw [h1] at h2; cases h2
            cases ob1 with
            | cells cs =>
              obtain ⟨⟨cs1, rfl⟩, h5⟩ := h3
              cases ob2 <;> simp only [renO, LeO] at f3
              exact .inl ⟨_, f2, ⟨_, rfl⟩, by rw [e4, h5, eι]⟩
            | tip s n' =>
              obtain ⟨n, rfl, h4, h5⟩ := h3
              cases ob2 <;> simp only [renO, LeO] at f3
              obtain ⟨rfl, rfl⟩ := f3
              exact .inl ⟨_, f2, _, rfl, h4, fun e => by rw [e4, h5 e, eι]⟩
            | buf s rows' =>
              obtain ⟨⟨rows, rfl, h4⟩, h5⟩ := h3
              cases ob2 <;> simp only [renO, LeO] at f3
              obtain ⟨rfl, rfl⟩ := f3
              exact .inl ⟨_, f2, ⟨_, rfl, h4⟩, by rw [e4, h5, eι]⟩
            | map mk ag es' =>
              obtain ⟨⟨es, rfl⟩, h5⟩ := h3
              cases ob2 <;> simp only [renO, LeO] at f3
              cases f3
              exact .inl ⟨_, f2, ⟨_, rfl⟩, by rw [e4, h5, eι]⟩
            | gone => exact .inr (.inr rfl)
          · rw [ent_of_lk h1] at h2; omega
          · subst h2; exact .inr (.inr rfl)
        · exact .inr (.inl h)
      · rw [e1] at hj
        refine .inl ⟨ob', hj, ?_⟩
        cases ob' <;> simp [Compat, e2]
  refine ⟨⟨fun j g ob hj => ?_, fun j1 j2 g1 g2 ob1 ob2 b o1 o2 h1 h2 ho1 ho2 => ?_, fun b o h => Nat.lt_of_lt_of_le (hM.xlt b o h) he.size, fun j g ob b o o' hj h hX => ?_, hM.gk.mono hext⟩, hext⟩
  · rcases img (ι := ι) (ιo := ιo) hf ho j with ⟨k, g0, g', ob1, e1, e2, e3, e4, _⟩ | ⟨hn, e1, e2⟩
    · rw [e3] at hj; cases hj
      rw [e4]
      have hO := hM'.ok _ _ _ e2
      have hs : ∀ b' o', Own (ιu σ ι ιo) (back σ m mc') b' o' → Own ιo mc' b' o' := fun _ _ => up_own hf ho hx
      cases ob1 with
      | cells cs =>
        obtain ⟨vs, t, h4, h5, h6⟩ := hO
        refine ⟨vs, t, h4, by rw [h5, List.length_map], fun i v c hv hc => ?_⟩
        rw [List.getElem?_map] at hc
        obtain ⟨b, hb, rfl⟩ := Option.map_eq_some_iff.mp hc
        exact ⟨up1 hf ho hx (h6 i v b hv hb).1, (h6 i v b hv hb).2⟩
      | tip s n => exact hO
      | buf s rows =>
        obtain ⟨h4, h5, h6, h7, h8⟩ := hO
        refine ⟨h4, h5, h6, h7, fun ad e => ?_⟩
        obtain ⟨h9, h10, vs, t, h11, h12, h13⟩ := h8 ad e
        refine ⟨h9, h10, vs, t, h11, h12, fun i j row pv hr hp => ?_⟩
        obtain ⟨v, h14, h15, h16⟩ := h13 i j row pv hr hp
        exact ⟨v, h14, h15.anti hs, h16⟩
      | map mk ag es =>
        obtain ⟨ents, h4, h5, h6⟩ := hO
        refine ⟨ents, h4, h5, fun i en q a b => ?_⟩
        obtain ⟨p1, p2, p3, p4⟩ := h6 i en q a b
        exact ⟨p1, p2, p3, p4.anti hs⟩
      | gone => trivial
    · rw [e1] at hj; rw [e2]
      exact (hM.ok j g ob hj).mono hext fun b o h => he.blk b (own_lt (hM.ok j g ob hj) h) fun o' => far hn hj h
  · have mix : ∀ {j g : Nat} {ob : Ob} {k g0 : Nat} {obk : Ob} {b o o' : Nat}, (∀ k g0 g', lk σ k ≠ some (g0, j, g')) → lk m j = some (g, ob) → OwnK (ι j) ob b o → lk mc' k = some (g0, obk) → OwnK (ιo k) obk b o' → False := fun {j g ob k g0 obk b o o'} hn hj h1 hk1 h2 => by
      rcases he.own b o' ⟨k, g0, obk, hk1, h2⟩ with h | h
      · exact far hn hj h1 h
      · have := own_lt (hM.ok j g ob hj) h1; omega
    rcases img (ι := ι) (ιo := ιo) hf ho j1 with ⟨k1, g01, g1', ob1', e1, e2, e3, e4, _⟩ | ⟨hn1, e1, e2⟩ <;> rcases img (ι := ι) (ιo := ιo) hf ho j2 with ⟨k2, g02, g2', ob2', f1, f2, f3, f4, _⟩ | ⟨hn2, f1, f2⟩
    · rw [e3] at h1; cases h1; rw [f3] at h2; cases h2
      rw [e4] at ho1; rw [f4] at ho2
      have := hM'.apart k1 k2 _ _ _ _ b o1 o2 e2 f2 (ownK_ren.mp ho1) (ownK_ren.mp ho2)
      subst this
      rw [e1] at f1; cases f1; rfl
    · rw [e3] at h1; cases h1; rw [f1] at h2
      rw [e4] at ho1; rw [f2] at ho2
      exact (mix hn2 h2 ho2 e2 (ownK_ren.mp ho1)).elim
    · rw [e1] at h1; rw [f3] at h2; cases h2
      rw [e2] at ho1; rw [f4] at ho2
      exact (mix hn1 h1 ho1 f2 (ownK_ren.mp ho2)).elim
    · rw [e1] at h1; rw [f1] at h2; rw [e2] at ho1; rw [f2] at ho2
      exact hM.apart j1 j2 g1 g2 ob1 ob2 b o1 o2 h1 h2 ho1 ho2
  · rcases img (ι := ι) (ιo := ιo) hf ho j with ⟨k, g0, g', ob1, e1, e2, e3, e4, _⟩ | ⟨hn, e1, e2⟩
    · rw [e3] at hj; cases hj
      rw [e4] at h
      exact hM'.xapart k g0 ob1 b o o' e2 (ownK_ren.mp h) (by rw [hx]; exact .inl hX)
    · rw [e1] at hj; rw [e2] at h
      exact hM.xapart j g ob b o o' hj h hX
/-- A call as a step of the caller. -/
theorem call_run {P : Program} {f : FuncId} {args cargs : List AV} {v : AV} {vs : Array Value} (hM : MemOk ι m w) {K : Kn} (hcon : Con K P f cargs mc v mc') (hK : ∀ p ∈ K, p ∈ ι.fr.G) (hf : Fits σ mc m) (ho : FitsOut σ mc mc' m) (ha : RaL ι m w vs args) (hargs : F2 LeA args (cargs.map (renA σ))) (hok : cargs.all (okA (inn σ mc)) = true) :
    FnOk P f ∧ Calls P f vs w fun e w' => ∃ ι' cv, e = .returned cv ∧ MemOk ι' (back σ m mc') w' ∧ Ext ι m w ι' (back σ m mc') w' ∧ Ra ι' (back σ m mc') w' cv (renA σ v) := by
  refine ⟨hcon.1, (hcon.2 (ιc σ mc m ι) w vs hK (downO hM hf) ⟨by rw [ha.1, hargs.len, List.length_map], fun i x c hx hc => ?_⟩).mono fun e w' h => ?_⟩
  · obtain ⟨a, h1, h2⟩ := hargs.get (i := i) (b := renA σ c) (by rw [List.getElem?_map, hc]; rfl)
    exact downA hf (ha.2 i x a hx h1) h2 (List.all_eq_true.mp hok c (List.mem_of_getElem? hc))
  · obtain ⟨ιo, cv, e1, h1, h2, h3, h4, h5⟩ := h
    obtain ⟨h6, h7⟩ := upO hM hf ho h5 h1 h3 h4
    exact ⟨ιu σ ι ιo, cv, e1, h6, h7, upA hf ho h5 h2⟩
end
end Go.Ab
