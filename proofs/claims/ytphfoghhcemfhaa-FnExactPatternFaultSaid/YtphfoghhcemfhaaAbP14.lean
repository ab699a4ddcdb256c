/- A call: the callee's own objects among the caller's, and back. -/
import Derived.Test.YtphfoghhcemfhaaAbP13
namespace Go.Ab
set_option linter.unusedVariables false
set_option linter.unusedSimpArgs false
theorem lk_mem {α : Type} : ∀ {l : List (Nat × α)} {k : Nat} {x : α}, lk l k = some x → (k, x) ∈ l
  | [], k, x, h => by cases h
  | (k', v) :: r, k, x, h => by
    rw [lk_cons] at h
    split at h
    · rename_i e; subst e; cases h; exact List.mem_cons_self
    · exact List.mem_cons_of_mem _ (lk_mem h)
theorem nodup_inj {α β : Type} {f : α → β} : ∀ {l : List α}, (l.map f).Nodup → ∀ {x y : α}, x ∈ l → y ∈ l → f x = f y → x = y
  | [], _, x, y, hx, _, _ => by cases hx
  | a :: l, h, x, y, hx, hy, e => by
    rw [List.map_cons, List.nodup_cons] at h
    rcases List.mem_cons.mp hx with h1 | h1 <;> rcases List.mem_cons.mp hy with h2 | h2
    · rw [h1, h2]
    · exact absurd (h1 ▸ e ▸ List.mem_map_of_mem h2) h.1
    · exact absurd (h2 ▸ e ▸ List.mem_map_of_mem (f := f) h1) h.1
    · exact nodup_inj h.2 h1 h2 e
theorem sg_inj {σ : Sg} (h : (σ.map (·.2.2.1)).Nodup) {k1 k2 k' a1 a2 b1 b2 : Nat} (h1 : lk σ k1 = some (a1, k', b1)) (h2 : lk σ k2 = some (a2, k', b2)) : k1 = k2 := by
  have := nodup_inj h (lk_mem h1) (lk_mem h2) rfl
  exact (Prod.mk.inj this).1
theorem back_out {σ : Sg} {m : Mem} {j : Nat} : ∀ {mc' : Mem}, (∀ q ∈ mc', ∀ g0 g', lk σ q.1 ≠ some (g0, j, g')) → lk (back σ m mc') j = lk m j
  | [], _ => rfl
  | (k, (g, ob)) :: r, h => by
    simp only [back]
    split
    · rename_i g0 k' g' e
      rw [lk_cons, if_neg (fun e' => h (k, (g, ob)) List.mem_cons_self g0 g' (by rw [e, e']))]
      exact back_out fun q hq => h q (List.mem_cons_of_mem _ hq)
    · exact back_out fun q hq => h q (List.mem_cons_of_mem _ hq)
theorem back_in {σ : Sg} (hi : (σ.map (·.2.2.1)).Nodup) {m : Mem} {k g0 k' g' g : Nat} {ob : Ob} (hs : lk σ k = some (g0, k', g')) : ∀ {mc' : Mem}, lk mc' k = some (g, ob) → lk (back σ m mc') k' = some (g', renO σ ob)
  | [], h => by cases h
  | (k1, (g1, ob1)) :: r, h => by
    rw [lk_cons] at h
    simp only [back]
    by_cases e : k1 = k
    · rw [if_pos e] at h; cases h; subst e
      rw [hs]; simp only; rw [lk_cons, if_pos rfl]
    · rw [if_neg e] at h
      split
      · rename_i g2 k2 g3 e2
        rw [lk_cons, if_neg (fun e3 => e (sg_inj hi (by rw [e2, e3]) hs))]
        exact back_in hi hs h
      · exact back_in hi hs h
theorem Rp.anti {Ow Ow' : Nat → Nat → Prop} {w : World} (he : ∀ b o, Ow' b o → Ow b o) {v : Value} {pv : PV} (h : Rp Ow w v pv) : Rp Ow' w v pv := by
  induction h with
  | lst A cap sz full rows u hcap hfull hsz hc hr ih =>
    exact .lst A cap sz full rows u hcap hfull hsz (fun i row j c h1 h2 => let ⟨ad, e, h3, h4⟩ := hc i row j c h1 h2; ⟨ad, e, h3, fun h => h4 (he _ _ h)⟩) ih
  | ifc v b h h' => exact .ifc v b h h'
  | _ => constructor
theorem Rp.le {w : World} {v : Value} {a : AV} {ι : Pl} {m : Mem} {pv : PV} (h : Ra ι m w v a) (hl : Le a (.p pv)) : Rp (Own ι m) w v pv := by
  cases hl with
  | refl => cases h with | p _ _ h => exact h
  | nil b => cases h with | p _ _ h => cases h; exact .lst none 0 0 b [] (fun _ _ => undef) (Nat.le_refl _) (fun _ => rfl) (by simp) (by simp) (by simp)
  | full rows => cases h with | p _ _ h => exact h.unfull
  | tip k g rows => cases h with | tip _ _ _ _ _ h _ => exact h
/-- What the callee is told of the caller's places. -/
def ιc (σ : Sg) (mc m : Mem) (ι : Pl) : Pl where
  loc k := match lk σ k with | some (_, k', _) => ι k' | none => ι k
  fr := ⟨fun b o => ι.fr.X b o ∨ ∃ j g ob, lk m j = some (g, ob) ∧ (∀ k g0 g', (lk mc k).isSome = true → lk σ k ≠ some (g0, j, g')) ∧ OwnK (ι j) ob b o, ι.fr.G⟩
section
variable {σ : Sg} {mc m : Mem} {ι : Pl} {w : World}
theorem LeO.own {c : CA} {ob1 ob : Ob} (h : LeO ob1 (renO σ ob)) {b o : Nat} (ho : OwnK c ob b o) : OwnK c ob1 b o := by
  cases ob <;> cases ob1 <;> simp only [renO, LeO] at h <;> first | exact ho | exact h.elim | (obtain ⟨rfl, rfl⟩ := h; exact ho) | exact ho.elim
theorem fits_at (hf : Fits σ mc m) {k g : Nat} {ob : Ob} (h : lk mc k = some (g, ob)) : okO (inn σ mc) ob = true ∧ ∃ k' g' ob1, lk σ k = some (g, k', g') ∧ lk m k' = some (g', ob1) ∧ LeO ob1 (renO σ ob) := hf.1 _ (lk_mem h)
theorem own_sub (hf : Fits σ mc m) {b o : Nat} (h : Own (ιc σ mc m ι) mc b o) : Own ι m b o := by
  rcases h with (h | ⟨j, g, ob, hj, _, ho⟩) | ⟨k, g, ob, hk, ho⟩
  · exact .inl h
  · exact .inr ⟨j, g, ob, hj, ho⟩
  · obtain ⟨_, k', g', ob1, h1, h2, h3⟩ := fits_at hf hk
    simp only [ιc, h1] at ho
    exact .inr ⟨k', g', ob1, h2, h3.own ho⟩
theorem ownM_sub (hf : Fits σ mc m) {b o : Nat} (h : OwnM (ιc σ mc m ι) mc b o) : OwnM ι m b o := by
  obtain ⟨k, g, ob, hk, ho⟩ := h
  obtain ⟨_, k', g', ob1, h1, h2, h3⟩ := fits_at hf hk
  simp only [ιc, h1] at ho
  exact ⟨k', g', ob1, h2, h3.own ho⟩
theorem rk_some {k g k' g' : Nat} (h : rk σ k g = some (k', g')) : lk σ k = some (g, k', g') := by
  unfold rk at h
  split at h
  · rename_i g0 k1 g1 e
    obtain ⟨h1, h2⟩ := bif_none h
    cases h2
    have : g = g0 := by simpa using h1
    rw [e, this]
  · cases h
theorem lk_filter {α : Type} (p : Nat → Bool) : ∀ (l : List (Nat × α)) (k : Nat), lk (l.filter fun q => p q.1) k = if p k = true then lk l k else none
  | [], k => by simp [lk]
  | (k', v) :: r, k => by
    rw [List.filter_cons, lk_cons]
    by_cases hp : p k' = true
    · rw [if_pos hp, lk_cons, lk_filter p r k]
      by_cases e : k' = k
      · subst e; simp [hp]
      · rw [if_neg e, if_neg e]
    · rw [if_neg hp, lk_filter p r k]
      by_cases e : k' = k
      · subst e; rw [if_neg hp, if_neg hp]
      · rw [if_neg e]
theorem rk_inn {k g : Nat} (h : (rk (inn σ mc) k g).isSome = true) : ∃ k' g', lk σ k = some (g, k', g') ∧ rk σ k g = some (k', g') ∧ (lk mc k).isSome = true := by
  obtain ⟨⟨k', g'⟩, hr⟩ := Option.isSome_iff_exists.mp h
  have h1 := rk_some hr
  unfold inn at h1
  rw [lk_filter (fun k => (lk mc k).isSome)] at h1
  split at h1
  · rename_i hp
    exact ⟨k', g', h1, by simp [rk, h1], hp⟩
  · cases h1
/-- Down: a value that the callee is handed. -/
theorem down (hf : Fits σ mc m) {v : Value} {a b : AV} (h : Ra ι m w v a) (hl : Le a (ren1 σ b)) (hok : ok1 (inn σ mc) b = true) : Ra (ιc σ mc m ι) mc w v b := by
  have hs : ∀ b' o', Own (ιc σ mc m ι) mc b' o' → Own ι m b' o' := fun _ _ => own_sub hf
  have gen : ∀ {k g k' g'}, lk σ k = some (g, k', g') → (lk mc k).isSome = true → g ≤ (ent mc k).1 := fun {k g k' g'} h1 h2 => by
    obtain ⟨⟨g1, ob⟩, h3⟩ := Option.isSome_iff_exists.mp h2
    obtain ⟨_, k1, g2, ob1, h4, _⟩ := fits_at hf h3
    rw [h1] at h4; cases h4
    rw [ent_of_lk h3]; exact Nat.le_refl _
  have at_ : ∀ {k g k' g' : Nat} {ob : Ob}, lk σ k = some (g, k', g') → lk mc k = some (g, ob) → ∃ ob1, lk m k' = some (g', ob1) ∧ LeO ob1 (renO σ ob) ∧ (ιc σ mc m ι) k = ι k' := fun {k g k' g' ob} h1 h2 => by
    obtain ⟨_, k1, g1, ob1, h3, h4, h5⟩ := fits_at hf h2
    rw [h3] at h1; cases h1
    exact ⟨ob1, h4, h5, by simp only [ιc, h3]⟩
  cases b with
  | u => exact .u v
  | p pv => exact .p v pv ((Rp.le h hl).anti hs)
  | cptr cells =>
    cases hl with
    | refl =>
      cases h with
      | cptr ad _ u hsp h1 h2 => exact .cptr ad _ u hsp (fun j c hj => ⟨(h1 j c hj).1, fun h => (h1 j c hj).2 (hs _ _ h)⟩) fun j c hj => (h2 j c hj).anti hs
  | ptr k g off =>
    obtain ⟨k', g', hr, hr', hin⟩ := rk_inn (by simpa only [ok1] using hok)
    simp only [ren1, hr'] at hl
    cases hl with
    | refl =>
      cases h with
      | ptr _ _ _ _ h1 hg hc =>
        refine .ptr v k g off h1 (gen hr hin) fun cs hk => ?_
        obtain ⟨ob1, h2, h3, h4⟩ := at_ hr hk
        cases ob1 <;> simp only [renO, LeO] at h3
        rw [h4]; exact hc _ h2
  | tip k g rows =>
    obtain ⟨k', g', hr, hr', hin⟩ := rk_inn (by simpa only [ok1] using hok)
    simp only [ren1, hr'] at hl
    cases hl with
    | refl =>
      cases h with
      | tip _ _ _ _ hg hp hc =>
        refine .tip v k g rows (gen hr hin) (hp.anti hs) fun s n hk => ?_
        obtain ⟨ob1, h2, h3, h4⟩ := at_ hr hk
        cases ob1 <;> simp only [renO, LeO] at h3
        obtain ⟨rfl, rfl⟩ := h3
        rw [h4]; exact hc _ _ h2
  | buf k g lo n =>
    obtain ⟨k', g', hr, hr', hin⟩ := rk_inn (by simpa only [ok1] using hok)
    simp only [ren1, hr'] at hl
    cases hl with
    | refl =>
      cases h with
      | buf _ _ _ _ _ h1 hg hc =>
        refine .buf v k g lo n h1 (gen hr hin) fun s rows hk => ?_
        obtain ⟨ob1, h2, h3, h4⟩ := at_ hr hk
        cases ob1 <;> simp only [renO, LeO] at h3
        obtain ⟨rfl, rfl⟩ := h3
        rw [h4]; exact hc _ _ h2
  | eptr k g i off =>
    obtain ⟨k', g', hr, hr', hin⟩ := rk_inn (by simpa only [ok1] using hok)
    simp only [ren1, hr'] at hl
    cases hl with
    | refl =>
      cases h with
      | eptr _ _ _ _ _ h1 hg hc =>
        refine .eptr v k g i off h1 (gen hr hin) fun s rows hk => ?_
        obtain ⟨ob1, h2, h3, h4⟩ := at_ hr hk
        cases ob1 <;> simp only [renO, LeO] at h3
        obtain ⟨rfl, rfl⟩ := h3
        rw [h4]; exact hc _ _ h2
  | mp k g =>
    obtain ⟨k', g', hr, hr', hin⟩ := rk_inn (by simpa only [ok1] using hok)
    simp only [ren1, hr'] at hl
    cases hl with
    | refl =>
      cases h with
      | mp _ _ _ h1 hg hc =>
        refine .mp v k g h1 (gen hr hin) fun mk ag es hk => ?_
        obtain ⟨ob1, h2, h3, h4⟩ := at_ hr hk
        cases ob1 <;> simp only [renO, LeO] at h3
        cases h3
        rw [h4]; exact hc _ _ _ h2
  | _ => simp [ok1] at hok
theorem MvOk.anti {Ow Ow' : Nat → Nat → Prop} {w : World} (he : ∀ b o, Ow' b o → Ow b o) {ag : Bool} {v : Value} {row : List PV} (h : MvOk Ow w ag v row) : MvOk Ow' w ag v row := by
  refine ⟨fun ha => ?_, fun ha => ?_⟩
  · obtain ⟨p, e, h⟩ := h.1 ha; exact ⟨p, e, h.anti he⟩
  · obtain ⟨vs, e, hl, h⟩ := h.2 ha; exact ⟨vs, e, hl, fun j u p h1 h2 => (h j u p h1 h2).anti he⟩
theorem F2.len {α : Type} {R : α → α → Prop} {as bs : List α} (h : F2 R as bs) : as.length = bs.length := by induction h <;> simp_all
theorem F2.get {α : Type} {R : α → α → Prop} {as bs : List α} (h : F2 R as bs) : ∀ {i : Nat} {b : α}, bs[i]? = some b → ∃ a, as[i]? = some a ∧ R a b := by
  induction h with
  | nil => intro i b h; cases i <;> cases h
  | cons h t ih =>
    intro i b hb
    cases i with
    | zero => cases hb; exact ⟨_, rfl, h⟩
    | succ i => exact ih hb
theorem downs (hf : Fits σ mc m) {vs : Array Value} {as bs : List AV} (hl : vs.size = as.length) (h : ∀ (i : Nat) (v : Value) (c : AV), vs[i]? = some v → as[i]? = some c → Ra ι m w v c) (hle : F2 Le as (bs.map (ren1 σ))) (hok : bs.all (ok1 (inn σ mc)) = true) :
    vs.size = bs.length ∧ ∀ (i : Nat) (v : Value) (c : AV), vs[i]? = some v → bs[i]? = some c → Ra (ιc σ mc m ι) mc w v c := by
  refine ⟨by rw [hl, hle.len, List.length_map], fun i v c hv hc => ?_⟩
  obtain ⟨a, ha, hle⟩ := hle.get (i := i) (b := ren1 σ c) (by rw [List.getElem?_map, hc]; rfl)
  exact down hf (h i v a hv ha) hle (List.all_eq_true.mp hok c (List.mem_of_getElem? hc))
def flat : AV → Bool
 | .agg _ => false
 | .clo _ _ _ => false
 | .tup _ => false
 | _ => true
theorem ren1_flat (σ : Sg) (b : AV) : flat (ren1 σ b) = true := by
  cases b <;> simp only [ren1] <;> first | rfl | (split <;> rfl)
theorem LeA.flat {a b : AV} (h : LeA a b) (hf : flat b = true) : Le a b := by
  cases h with
  | of _ _ h => exact h
  | _ => cases hf
theorem downA (hf : Fits σ mc m) {v : Value} {a b : AV} (h : Ra ι m w v a) (hl : LeA a (renA σ b)) (hok : okA (inn σ mc) b = true) : Ra (ιc σ mc m ι) mc w v b := by
  have key : ∀ b', renA σ b' = ren1 σ b' → okA (inn σ mc) b' = ok1 (inn σ mc) b' → LeA a (renA σ b') → okA (inn σ mc) b' = true → Ra (ιc σ mc m ι) mc w v b' := fun b' e1 e2 h1 h2 => down hf h ((e1 ▸ h1 : LeA a (ren1 σ b')).flat (ren1_flat σ b')) (e2 ▸ h2)
  cases b with
  | agg cs =>
    simp only [renA, renB] at hl
    cases hl with
    | of _ _ hl =>
      cases hl with
      | refl =>
        cases h with
        | agg vs _ h0 hone h =>
          have hF : F2 Le (cs.map (ren1 σ)) (cs.map (ren1 σ)) := by
            generalize cs.map (ren1 σ) = l
            induction l with
            | nil => exact .nil
            | cons a r ih => exact .cons (.refl a) ih
          obtain ⟨h1, h2⟩ := downs hf h0 h hF hok
          exact .agg vs cs h1 hone h2
    | agg as _ hF =>
      cases h with
      | agg vs _ h0 hone h =>
        obtain ⟨h1, h2⟩ := downs hf h0 h hF hok
        exact .agg vs cs h1 hone h2
  | clo f fs cs =>
    simp only [okA, Bool.and_eq_true] at hok
    simp only [renA] at hl
    have refl : ∀ l : List AV, F2 Le l l := fun l => by
      induction l with
      | nil => exact .nil
      | cons a r ih => exact .cons (.refl a) ih
    have fin : ∀ {as bs : List AV}, Ra ι m w v (.clo f as bs) → F2 Le as (fs.map (ren1 σ)) → F2 Le bs (cs.map (ren1 σ)) → Ra (ιc σ mc m ι) mc w v (.clo f fs cs) := fun {as bs} h h1 h2 => by
      cases h with
      | clo _ first caps _ _ hl1 hl2 h3 h4 =>
        obtain ⟨h5, h6⟩ := downs hf hl1 h3 h1 hok.1
        obtain ⟨h7, h8⟩ := downs hf hl2 h4 h2 hok.2
        exact .clo f first caps fs cs h5 h7 h6 h8
    cases hl with
    | of _ _ hl =>
      cases hl with
      | refl => exact fin h (refl _) (refl _)
    | clo _ as bs _ _ h1 h2 => exact fin h h1 h2
  | und => simp [okA, okB, ok1] at hok
  | tup vs => simp [okA, okB, ok1] at hok
  | _ => exact key _ rfl rfl hl hok
theorem downO (hM : MemOk ι m w) (hf : Fits σ mc m) : MemOk (ιc σ mc m ι) mc w := by
  refine ⟨fun k g ob hk => ?_, fun k1 k2 g1 g2 ob1 ob2 b o1 o2 h1 h2 ho1 ho2 => ?_, fun b o hx => ?_, fun k g ob b o o' hk ho hx => ?_, fun p hp => ⟨(hM.gk p hp).1, fun o h => (hM.gk p hp).2 o (own_sub hf h)⟩⟩
  · obtain ⟨hok, k', g', ob1, h1, h2, h3⟩ := fits_at hf hk
    have hO := hM.ok _ _ _ h2
    have e : (ιc σ mc m ι) k = ι k' := by simp only [ιc, h1]
    rw [e]
    have hs : ∀ b' o', Own (ιc σ mc m ι) mc b' o' → Own ι m b' o' := fun _ _ => own_sub hf
    cases ob <;> cases ob1 <;> simp only [renO, LeO] at h3
    · rename_i cs cs1
      obtain ⟨vs, t, h4, h5, h6⟩ := hO
      obtain ⟨h7, h8⟩ := downs hf h5 (fun i v c hv hc => (h6 i v c hv hc).1) h3 hok
      refine ⟨vs, t, h4, h7, fun i v c hv hc => ⟨h8 i v c hv hc, ?_⟩⟩
      have hi : i < cs1.length := by rw [← h5]; exact (Array.getElem?_eq_some_iff.1 hv).1
      exact (h6 i v cs1[i] hv (List.getElem?_eq_getElem hi)).2
    · obtain ⟨rfl, rfl⟩ := h3; exact hO
    · obtain ⟨rfl, rfl⟩ := h3
      obtain ⟨h4, h5, h6, h7, h8⟩ := hO
      refine ⟨h4, h5, h6, h7, fun ad e => ?_⟩
      obtain ⟨h9, h10, vs, t, h11, h12, h13⟩ := h8 ad e
      refine ⟨h9, h10, vs, t, h11, h12, fun i j row pv hr hp => ?_⟩
      obtain ⟨v, h14, h15, h16⟩ := h13 i j row pv hr hp
      exact ⟨v, h14, h15.anti hs, h16⟩
    · cases h3
      obtain ⟨ents, h4, h5, h6⟩ := hO
      refine ⟨ents, h4, h5, fun i en q a b => ?_⟩
      obtain ⟨p1, p2, p3, p4⟩ := h6 i en q a b
      exact ⟨p1, p2, p3, p4.anti hs⟩
    · trivial
    · trivial
    · trivial
    · trivial
    · trivial
  · obtain ⟨_, k1', g1', ob1', e1, e2, e3⟩ := fits_at hf h1
    obtain ⟨_, k2', g2', ob2', f1, f2, f3⟩ := fits_at hf h2
    simp only [ιc, e1] at ho1
    simp only [ιc, f1] at ho2
    have := hM.apart k1' k2' g1' g2' ob1' ob2' b o1 o2 e2 f2 (e3.own ho1) (f3.own ho2)
    subst this
    exact sg_inj hf.2.1 e1 f1
  · rcases hx with h | ⟨j, g, ob, hj, _, ho⟩
    · exact hM.xlt b o h
    · exact own_lt (hM.ok j g ob hj) ho
  · obtain ⟨_, k', g', ob', e1, e2, e3⟩ := fits_at hf hk
    simp only [ιc, e1] at ho
    rcases hx with h | ⟨j, g1, ob1, hj, hn, ho1⟩
    · exact hM.xapart k' g' ob' b o o' e2 (e3.own ho) h
    · have := hM.apart k' j g' g1 ob' ob1 b o o' e2 hj (e3.own ho) ho1
      subst this
      exact hn k g g' (by rw [hk]; rfl) e1
end
end Go.Ab
