/- A region whose order is drawn. -/
import Derived.Test.YtphfoghhcemfhaaAbP17
namespace Go.Ab
set_option linter.unusedVariables false
set_option linter.unusedSimpArgs false
structure Eqv (s t : St) : Prop where
 fr : ∀ i, fget s.fr i = fget t.fr i
 mem : ∀ k, lk s.mem k = lk t.mem k
theorem Eqv.refl (s : St) : Eqv s s := ⟨fun _ => rfl, fun _ => rfl⟩
theorem Eqv.trans {a b c : St} (h : Eqv a b) (k : Eqv b c) : Eqv a c := ⟨fun i => (h.fr i).trans (k.fr i), fun i => (h.mem i).trans (k.mem i)⟩
theorem Rel.eqv {C : Ctx} {st s2 : St} {a : Act} {w : World} {ι : Pl} (hR : Rel C st a w ι) (h : Eqv s2 st) : Rel C s2 a w ι := by
  have he : ∀ k, ent s2.mem k = ent st.mem k := fun k => by unfold ent; rw [h.mem]
  have hO : OwnM ι s2.mem = OwnM ι st.mem := by funext b o; simp only [OwnM, h.mem]
  have hK : Keys ι st.mem ι s2.mem := ⟨fun k => by rw [he]; exact Nat.le_refl _, fun k g ob hk => .inl ⟨ob, by rw [← h.mem]; exact hk, Compat.refl ι ob k⟩⟩
  have hE : Ext ι st.mem w ι s2.mem w := ⟨by rw [hO]; exact .refl _ _, hK, rfl⟩
  have hM := hR.mem
  refine ⟨hR.size, hR.defers, ⟨fun k g ob hk => (hM.ok k g ob (by rw [← h.mem]; exact hk)).mono hE fun _ _ _ => rfl, fun k k' g g' ob ob' b o o' h1 h2 => hM.apart k k' g g' ob ob' b o o' (by rw [← h.mem]; exact h1) (by rw [← h.mem]; exact h2), hM.xlt, fun k g ob b o o' h1 => hM.xapart k g ob b o o' (by rw [← h.mem]; exact h1), hM.gk.mono hE⟩, fun t => by rw [h.fr]; exact (hR.fr t).mono hE, by rw [hO]; exact hR.evo, hR.keys.trans hK, hR.x⟩
section
variable {P : Program} {H : Hn} {all : List Oper}
theorem fget_put (st : St) (dst : Option Tmp) (v : AV) (t : Nat) : fget (st.put dst v).fr t = if dst = some t then v else fget st.fr t := by
  cases dst with
  | none => simp [St.put]
  | some d =>
    simp only [St.put, fget, lk_cons, Option.some.injEq]
    split <;> rfl
theorem mem_put (st : St) (dst : Option Tmp) (v : AV) : (st.put dst v).mem = st.mem := by cases dst <;> rfl
theorem fr_memPut (st : St) (k : Option Nat) (n : Option (Nat × Ob)) : (memPut st k n).fr = st.fr := by cases k <;> cases n <;> rfl
theorem looks_op {fr fr' : List (Nat × AV)} {o : Oper} (h : ∀ t ∈ o.looksAt all.toArray, fget fr t = fget fr' t) : ∀ x ∈ o.op.operands, oget fr x = oget fr' x := fun x hx => by
  cases x with
  | tmp t => exact h t (List.mem_append_left _ (List.mem_filterMap.2 ⟨.tmp t, by simpa using hx, rfl⟩))
  | _ => rfl
theorem looks_de {fr fr' : List (Nat × AV)} {o : Oper} (h : ∀ t ∈ o.looksAt all.toArray, fget fr t = fget fr' t) : de all fr o = de all fr' o := by
  unfold de
  cases hg : o.guard with
  | none => rfl
  | some jb =>
    obtain ⟨j, b⟩ := jb
    simp only
    cases hd : (all[j]?).map (·.dst) with
    | none => rfl
    | some x =>
      cases x with
      | none => rfl
      | some t =>
        obtain ⟨o', ho, hd'⟩ := Option.map_eq_some_iff.mp hd
        simp only [deT]
        rw [h t (List.mem_append_right _ (by simp [hg, ho, hd']))]
/-- The same operation in a state that looks alike where it looks. -/
theorem S1.loc {j : Nat} {o : Oper} {F : Fp} {st st1 s2 : St} (h : S1 P H all j o F st st1) (hfr : ∀ t ∈ o.looksAt all.toArray, fget s2.fr t = fget st.fr t) (hm : ∀ p ∈ F, lk s2.mem p.2.1 = lk st.mem p.2.1) :
    ∃ s3, S1 P H all j o F s2 s3 ∧ (∀ t, fget s3.fr t = if o.dst = some t then fget st1.fr t else fget s2.fr t) ∧ (∀ k, (∃ p ∈ F, p.2.1 = k) → lk s3.mem k = lk st1.mem k) ∧ ∀ k, (∀ p ∈ F, p.2.1 ≠ k) → lk s3.mem k = lk s2.mem k := by
  have hde := looks_de hfr
  have hop_ := looks_op hfr
  cases h with
  | skip _ h hd =>
    refine ⟨s2.put o.dst .und, .skip s2 (hde.trans h) hd, fun t => ?_, fun k ⟨p, hp, _⟩ => (by cases hp), fun k _ => by rw [mem_put]⟩
    rw [fget_put, fget_put]; split <;> rfl
  | op _ _ h hd hs =>
    have hk : keyOf o.op (oget s2.fr) (o.dst.getD 0) = keyOf o.op (oget st.fr) (o.dst.getD 0) := key_congr hop_
    have hF : fpOf j o s2 = fpOf j o st := by unfold fpOf; rw [hk]
    have hent : entO s2.mem (keyOf o.op (oget st.fr) (o.dst.getD 0)) = entO st.mem (keyOf o.op (oget st.fr) (o.dst.getD 0)) := by
      cases hkk : keyOf o.op (oget st.fr) (o.dst.getD 0) with
      | none => rfl
      | some k =>
        have := hm (j, k, writes o.op) (by simp [fpOf, fpK, hkk])
        simp only [entO, ent]; rw [this]
    unfold stepOp at hs
    cases hc : core P (H.2.1.contains (o.dst.getD 0)) o.op (oget st.fr) (o.dst.getD 0) (entO st.mem (keyOf o.op (oget st.fr) (o.dst.getD 0))) with
    | none => rw [hc] at hs; cases hs
    | some vn =>
      obtain ⟨v, n⟩ := vn
      rw [hc] at hs
      simp only [finO, Option.some.injEq] at hs
      subst hs
      have hs2 : stepOp P H o s2 = some ((memPut s2 (keyOf o.op (oget st.fr) (o.dst.getD 0)) n).put o.dst v) := by
        unfold stepOp
        rw [hk, hent, core_congr hop_, hc]; rfl
      have hS := S1.op (all := all) (j := j) s2 _ (hde.trans h) hd hs2
      rw [hF] at hS
      refine ⟨_, hS, fun t => ?_, fun k hk => ?_, fun k hk => ?_⟩
      · rw [fget_put, fget_put, fr_memPut]; split <;> rfl
      · obtain ⟨p, hp, rfl⟩ := hk
        cases hkk : keyOf o.op (oget st.fr) (o.dst.getD 0) with
        | none => simp [fpOf, fpK, hkk] at hp
        | some k =>
          simp only [fpOf, fpK, hkk, List.mem_singleton] at hp
          subst hp
          rw [mem_put, mem_put, memPut_mem, memPut_mem]
          cases n with
          | none => exact hm (j, k, writes o.op) (by simp [fpOf, fpK, hkk])
          | some n => simp only [memO, lk_mset]; simp
      · rw [mem_put, memPut_mem]
        cases hkk : keyOf o.op (oget st.fr) (o.dst.getD 0) with
        | none => cases n <;> rfl
        | some k' =>
          have := hk (j, k', writes o.op) (by simp [fpOf, fpK, hkk])
          cases n with
          | none => rfl
          | some n => simp only [memO, lk_mset]; rw [if_neg this]
  | call _ fv args ts f first caps σ cargs mc mc' v h hd hop hf hcon hargs hok hmm ho =>
    have hin : ∀ {k g0 k' g' : Nat}, lk σ k = some (g0, k', g') → lk s2.mem k' = lk st.mem k' := fun {k g0 k' g'} e =>
      hm (j, k', true) (List.mem_map.2 ⟨(k, (g0, k', g')), lk_mem e, rfl⟩)
    have e1 : oget s2.fr fv = oget st.fr fv := hop_ fv (by rw [hop]; simp [Op.operands, Call.operands])
    have e2 : args.toList.map (oget s2.fr) = args.toList.map (oget st.fr) := args_congr fun x hx => hop_ x (by rw [hop]; simp [Op.operands, Call.operands, hx])
    have hm2 : Fits σ mc s2.mem := ⟨fun q hq => by
      obtain ⟨h1, k', g', ob, h2, h3, h4⟩ := hmm.1 q hq
      exact ⟨h1, k', g', ob, h2, by rw [hin h2]; exact h3, h4⟩, hmm.2⟩
    have ho2 : FitsOut σ mc mc' s2.mem := ⟨fun q hq => by
      obtain ⟨k', g', h2, h3⟩ := ho.1 q hq
      exact ⟨k', g', h2, h3.imp id fun h => by unfold ent at h ⊢; rw [hin h2]; exact h⟩, ho.2⟩
    refine ⟨_, .call s2 fv args ts f first caps σ cargs mc mc' v (hde.trans h) hd hop (by rw [e1]; exact hf) hcon (by rw [e2]; exact hargs) hok hm2 ho2, fun t => ?_, fun k hk => ?_, fun k hk => ?_⟩
    · rw [fget_put, fget_put]; split <;> rfl
    · rw [mem_put, mem_put]
      obtain ⟨p, hp, rfl⟩ := hk
      obtain ⟨⟨k, g0, k', g'⟩, hq, rfl⟩ := List.mem_map.1 hp
      have h1 := mem_lk hmm.2.2.2 hq
      rcases img (ι := ⟨fun _ => ⟨0, none, 0, 0⟩, fun _ _ => False, []⟩) (ιo := ⟨fun _ => ⟨0, none, 0, 0⟩, fun _ _ => False, []⟩) hmm ho k' with ⟨k1, g1, g1', ob, f1, f2, f3, _⟩ | ⟨hn, _⟩
      · simp only; rw [f3, back_in hmm.2.1 f1 f2]
      · exact absurd h1 (hn _ _ _)
    · rw [mem_put]
      exact back_out fun q hq g0 g' e => hk _ (List.mem_map.2 ⟨(q.1, (g0, k, g')), lk_mem e, rfl⟩) rfl
theorem S1.same {j : Nat} {o : Oper} {F : Fp} {st st1 : St} (h : S1 P H all j o F st st1) : (∀ t, o.dst ≠ some t → fget st1.fr t = fget st.fr t) ∧ (∀ k, (∀ p ∈ F, p.2.1 = k → p.2.2 = false) → lk st1.mem k = lk st.mem k) ∧ ∀ p ∈ F, p.1 = j := by
  cases h with
  | skip _ h hd => exact ⟨fun t ht => by rw [fget_put, if_neg ht], fun k _ => by rw [mem_put], by simp⟩
  | op _ _ h hd hs =>
    unfold stepOp at hs
    cases hc : core P (H.2.1.contains (o.dst.getD 0)) o.op (oget st.fr) (o.dst.getD 0) (entO st.mem (keyOf o.op (oget st.fr) (o.dst.getD 0))) with
    | none => rw [hc] at hs; cases hs
    | some vn =>
      obtain ⟨v, n⟩ := vn
      rw [hc] at hs
      simp only [finO, Option.some.injEq] at hs
      subst hs
      refine ⟨fun t ht => by rw [fget_put, if_neg ht, fr_memPut], fun k hk => ?_, fun p hp => ?_⟩
      · rw [mem_put, memPut_mem]
        cases hkk : keyOf o.op (oget st.fr) (o.dst.getD 0) with
        | none => cases n <;> rfl
        | some k' =>
          cases n with
          | none => rfl
          | some n =>
            simp only [memO, lk_mset]
            split
            · rename_i e; subst e
              have := hk (j, k', writes o.op) (by simp [fpOf, fpK, hkk]) rfl
              have := core_reads this hc
              cases this
            · rfl
      · cases hkk : keyOf o.op (oget st.fr) (o.dst.getD 0) with
        | none => simp [fpOf, fpK, hkk] at hp
        | some k => simp only [fpOf, fpK, hkk, List.mem_singleton] at hp; rw [hp]
  | call _ fv args ts f first caps σ cargs mc mc' v h hd hop hf hcon hargs hok hmm ho =>
    refine ⟨fun t ht => by rw [fget_put, if_neg ht], fun k hk => ?_, fun p hp => ?_⟩
    · rw [mem_put]
      refine back_out fun q hq g0 g' e => ?_
      have := hk (j, k, true) (List.mem_map.2 ⟨(q.1, (g0, k, g')), lk_mem e, rfl⟩) rfl
      cases this
    · obtain ⟨q, _, rfl⟩ := List.mem_map.1 hp; rfl
theorem S1.eqv {j : Nat} {o : Oper} {F : Fp} {st st1 s2 : St} (h : S1 P H all j o F st st1) (he : Eqv s2 st) : ∃ s3, S1 P H all j o F s2 s3 ∧ Eqv s3 st1 := by
  obtain ⟨s3, h1, h2, h3, h4⟩ := h.loc (s2 := s2) (fun t _ => he.fr t) fun p _ => he.mem _
  obtain ⟨f1, f2, _⟩ := h.same
  refine ⟨s3, h1, fun t => ?_, fun k => ?_⟩
  · rw [h2]; split
    · rfl
    · rename_i hn; rw [he.fr, f1 t hn]
  · by_cases hk : ∃ p ∈ F, p.2.1 = k
    · exact h3 k hk
    · rw [h4 k fun p hp e => hk ⟨p, hp, e⟩, he.mem, f2 k fun p hp e => absurd ⟨p, hp, e⟩ hk]
theorem Ch.eqv : ∀ {L : List (Nat × Oper × Fp)} {st st' s2 : St}, Ch P H all L st st' → Eqv s2 st → ∃ s3, Ch P H all L s2 s3 ∧ Eqv s3 st'
  | [], st, st', s2, h, he => by cases h; exact ⟨s2, .nil _, he⟩
  | (j, o, F) :: r, st, st', s2, h, he => by
    cases h with
    | cons h t =>
      obtain ⟨s3, h1, h2⟩ := h.eqv he
      obtain ⟨s4, h3, h4⟩ := Ch.eqv t h2
      exact ⟨s4, .cons h1 h3, h4⟩
theorem Ch.fst : ∀ {L : List (Nat × Oper × Fp)} {st st' : St}, Ch P H all L st st' → ∀ p ∈ L, ∀ f ∈ p.2.2, f.1 = p.1
  | [], st, st', h, p, hp => by cases hp
  | (j, o, F) :: r, st, st', h, p, hp => by
    cases h with
    | cons h t =>
      rcases List.mem_cons.1 hp with rfl | hp
      · exact h.same.2.2
      · exact Ch.fst t p hp
/-- Two operations that keep apart. -/
structure Comm (all : List Oper) (p q : Nat × Oper × Fp) : Prop where
 a : ∀ d, p.2.1.dst = some d → d ∉ q.2.1.looksAt all.toArray
 b : ∀ d, p.2.1.dst = some d → q.2.1.dst ≠ some d
 c : ∀ d, q.2.1.dst = some d → d ∉ p.2.1.looksAt all.toArray
 m : ∀ x ∈ p.2.2, ∀ y ∈ q.2.2, x.2.1 = y.2.1 → x.2.2 = false ∧ y.2.2 = false
theorem S1.swap {j i : Nat} {o x : Oper} {F G : Fp} {st st1 st2 : St} (h1 : S1 P H all j o F st st1) (h2 : S1 P H all i x G st1 st2) (hc : Comm all (j, o, F) (i, x, G)) :
    ∃ sti st2', S1 P H all i x G st sti ∧ S1 P H all j o F sti st2' ∧ Eqv st2' st2 := by
  obtain ⟨a1, a2, _⟩ := h1.same
  obtain ⟨b1, b2, _⟩ := h2.same
  have offF : ∀ y ∈ G, ∀ p ∈ F, p.2.1 = y.2.1 → p.2.2 = false := fun y hy p hp e => (hc.m p hp y hy e).1
  have offG : ∀ p ∈ F, ∀ y ∈ G, y.2.1 = p.2.1 → y.2.2 = false := fun p hp y hy e => (hc.m p hp y hy e.symm).2
  obtain ⟨sti, h3, c1, c2, c3⟩ := h2.loc (s2 := st) (fun t ht => (a1 t fun e => hc.a t e ht).symm) fun y hy => (a2 _ (offF y hy)).symm
  obtain ⟨d1, d2, _⟩ := h3.same
  obtain ⟨s4, h4, e1, e2, e3⟩ := h1.loc (s2 := sti) (fun t ht => d1 t fun e => hc.c t e ht) fun p hp => d2 _ (offG p hp)
  refine ⟨sti, s4, h3, h4, fun t => ?_, fun k => ?_⟩
  · rw [e1]; split
    · rename_i h; exact (b1 t (hc.b t h)).symm
    · rename_i h; rw [c1]; split
      · rfl
      · rename_i h'; rw [b1 t h', a1 t h]
  · by_cases hF : ∃ p ∈ F, p.2.1 = k
    · rw [e2 k hF]
      obtain ⟨p, hp, rfl⟩ := hF
      exact (b2 _ (offG p hp)).symm
    · have hF' : ∀ p ∈ F, p.2.1 ≠ k := fun p hp e => hF ⟨p, hp, e⟩
      rw [e3 k hF']
      by_cases hG : ∃ p ∈ G, p.2.1 = k
      · exact c2 k hG
      · have hG' : ∀ p ∈ G, p.2.1 ≠ k := fun p hp e => hG ⟨p, hp, e⟩
        rw [c3 k hG', b2 k fun p hp e => absurd e (hG' p hp), a2 k fun p hp e => absurd e (hF' p hp)]
theorem Ch.front {i : Nat} {x : Oper} {G : Fp} {post : List (Nat × Oper × Fp)} : ∀ {pre : List (Nat × Oper × Fp)} {st st' : St}, Ch P H all (pre ++ (i, x, G) :: post) st st' → (∀ p ∈ pre, Comm all p (i, x, G)) →
    ∃ sti st'', S1 P H all i x G st sti ∧ Ch P H all (pre ++ post) sti st'' ∧ Eqv st'' st'
  | [], st, st', h, _ => by
    cases h with
    | cons h t => exact ⟨_, st', h, t, .refl _⟩
  | (j, o, F) :: pre, st, st', h, hc => by
    cases h with
    | cons h t =>
      obtain ⟨s1, s2, h1, h2, h3⟩ := Ch.front t fun p hp => hc p (List.mem_cons_of_mem _ hp)
      obtain ⟨sti, s4, h4, h5, h6⟩ := h.swap h1 (hc _ List.mem_cons_self)
      obtain ⟨s5, h7, h8⟩ := h2.eqv h6
      exact ⟨sti, s5, h4, .cons h5 h7, h8.trans h3⟩
end
theorem behind_listed {all : List Oper} {listed : Array Bool} (hcl : ∀ j o, all[j]? = some o → listed.getD j false = true → ∀ e ∈ o.after, Region.binds .any e = true → listed.getD e.on false = true) {i : Nat} :
    ∀ (n j : Nat), (∀ o, all[j]? = some o → ∀ e ∈ o.after, Region.binds .any e = true → listed.getD e.on false = true) → behind all n i j = true → listed.getD i false = true
  | 0, j, _, h => by cases h
  | n + 1, j, hj, h => by
    simp only [behind] at h
    split at h
    · rename_i o ho
      obtain ⟨e, he, hb⟩ := Array.any_eq_true'.1 h
      simp only [Bool.and_eq_true, Bool.or_eq_true, beq_iff_eq] at hb
      have h1 := hj o ho e he hb.1
      rcases hb.2 with rfl | h2
      · exact h1
      · exact behind_listed hcl n e.on (fun o ho => hcl e.on o ho h1) h2
    · cases h
theorem pairwise_front {α : Type} {R : α → α → Prop} {pre post : List α} {x : α} (h : (pre ++ x :: post).Pairwise R) : ∀ p ∈ pre, R p x :=
  fun p hp => (List.pairwise_append.1 h).2.2 p hp x List.mem_cons_self
theorem any_go {C : Ctx} {all : List Oper} {F : Fp} (hc : chk all F = true) {K : Act → World → Prop} {Q : Exit → Act → World → Prop} (hQ : ∀ a w, K a w → Q .normal a w) :
    ∀ (fuel : Nat) (listed : Array Bool) (L : List (Nat × Oper × Fp)) (st st' : St) (a : Act) (w : World) (ι : Pl), L.length = fuel → listed.size = all.length →
      (∀ i, i < all.length → (listed.getD i false = false ↔ ∃ p ∈ L, p.1 = i)) → L.Pairwise (fun p q => p.1 < q.1) → (∀ p ∈ L, all[p.1]? = some p.2.1) → (∀ p ∈ L, ∀ f ∈ p.2.2, f ∈ F) →
      (∀ j o, all[j]? = some o → listed.getD j false = true → ∀ e ∈ o.after, Region.binds .any e = true → listed.getD e.on false = true) →
      Ch C.P C.hint all L st st' → Rel C st a w ι → (∀ a' w' ι', Rel C st' a' w' ι' → K a' w') → wpAny C.P .any all.toArray Q fuel listed a w := by
  simp only [chk, Bool.and_eq_true, List.all_eq_true, List.mem_range] at hc
  obtain ⟨hc1, hc2⟩ := hc
  intro fuel
  induction fuel with
  | zero =>
    intro listed L st st' a w ι hl hs hin hp hall hF hcl h hR hn
    obtain rfl : L = [] := List.length_eq_zero_iff.1 hl
    cases h
    refine ⟨?_, hQ _ _ (hn _ _ _ hR)⟩
    cases hr : Region.ready .any all.toArray listed with
    | nil => rfl
    | cons i r =>
      exfalso
      have hm : i ∈ Region.ready .any all.toArray listed := by rw [hr]; exact List.mem_cons_self
      obtain ⟨h1, o, h2, _⟩ := mem_ready.1 hm
      have hi : i < all.length := by simpa using (Array.getElem?_eq_some_iff.1 h2).1
      have : listed.getD i false = false := by
        have hi' : i < listed.size := by omega
        simpa [Array.getD, hi'] using h1
      obtain ⟨p, hp, _⟩ := (hin i hi).1 this
      cases hp
  | succ fuel ih =>
    intro listed L st st' a w ι hl hs hin hp hall hF hcl h hR hn
    have hget : ∀ i, i < all.length → listed.getD i true = listed.getD i false := fun i hi => by
      have hi' : i < listed.size := by omega
      simp [Array.getD, hi']
    refine ⟨fun h0 => ?_, fun i hi => ?_⟩
    · exfalso
      cases L with
      | nil => cases hl
      | cons p r =>
        have h1 := hall p List.mem_cons_self
        have hlt : p.1 < all.length := (List.getElem?_eq_some_iff.1 h1).1
        have : p.1 ∈ Region.ready .any all.toArray listed := by
          rw [mem_ready]
          refine ⟨?_, p.2.1, by simpa using h1, fun e he hb => ?_⟩
          · rw [hget _ hlt]; exact (hin _ hlt).2 ⟨p, List.mem_cons_self, rfl⟩
          · have h2 := hc1 p.1 hlt
            rw [h1] at h2
            have h3 := Array.all_eq_true'.1 h2 e he
            simp only [hb, Bool.not_true, Bool.false_or] at h3
            have h4 : e.on < p.1 := by simpa using h3
            cases hx : listed.getD e.on false with
            | true => rfl
            | false =>
              obtain ⟨q, hq, e1⟩ := (hin e.on (by omega)).1 hx
              rcases List.mem_cons.1 hq with rfl | hq
              · omega
              · have := (List.pairwise_cons.1 hp).1 q hq; omega
        rw [h0] at this
        cases this
    · obtain ⟨h1, o, h2, h3⟩ := mem_ready.1 hi
      have hlt : i < all.length := by simpa using (Array.getElem?_eq_some_iff.1 h2).1
      have hun : listed.getD i false = false := by rw [← hget _ hlt]; exact h1
      obtain ⟨p, hpL, rfl⟩ := (hin i hlt).1 hun
      obtain ⟨i, x, G⟩ := p
      have hx := hall _ hpL
      have hx' : all.toArray[i]? = some x := by simpa using hx
      obtain ⟨pre, post, rfl⟩ := List.append_of_mem hpL
      have hcomm : ∀ q ∈ pre, Comm all q (i, x, G) := fun q hq => by
        have hqL : q ∈ pre ++ (i, x, G) :: post := List.mem_append_left _ hq
        have hlt' : q.1 < i := pairwise_front hp q hq
        have h4 := hc2 i hlt q.1 hlt'
        simp only [Bool.or_eq_true, Bool.and_eq_true] at h4
        rcases h4 with h4 | ⟨h4, h5⟩
        · exfalso
          have := behind_listed hcl all.length i (fun o ho => by
            have : o = x := by rw [hx] at ho; cases ho; rfl
            subst this
            rw [hx'] at h2; cases h2
            exact h3) h4
          have hq' := (hin q.1 (by omega)).2 ⟨q, hqL, rfl⟩
          rw [hq'] at this; cases this
        · rw [hall q hqL, hx] at h4
          obtain ⟨s1, s2, s3⟩ := Oper.apart_spec h4
          refine ⟨s1, s2, s3, fun y hy z hz e => ?_⟩
          have g1 := hF q hqL y hy
          have g2 := hF _ hpL z hz
          have t1 := List.all_eq_true.1 h5 y g1
          have n1 : y.1 = q.1 := h.fst q hqL y hy
          have n2 : z.1 = i := h.fst _ hpL z hz
          simp only [n1, bne_self_eq_false, Bool.false_or] at t1
          have t2 := List.all_eq_true.1 t1 z g2
          simp only [n2, e, bne_self_eq_false, Bool.false_or, Bool.not_eq_true', Bool.or_eq_false_iff] at t2
          exact t2
      obtain ⟨sti, st'', g1, g2, g3⟩ := h.front hcomm
      unfold wpOp
      rw [hx']
      refine g1.wp hR fun v w' ι' hR' => ?_
      have hne : ∀ q ∈ pre ++ post, q.1 ≠ i := fun q hq => by
        rcases List.mem_append.1 hq with hq | hq
        · exact Nat.ne_of_lt (pairwise_front hp q hq)
        · exact Nat.ne_of_gt ((List.pairwise_cons.1 (List.pairwise_append.1 hp).2.1).1 q hq)
      have hsub : ∀ q, q ∈ pre ++ post → q ∈ pre ++ (i, x, G) :: post := fun q hq => by
        rcases List.mem_append.1 hq with hq | hq
        · exact List.mem_append_left _ hq
        · exact List.mem_append_right _ (List.mem_cons_of_mem _ hq)
      have hset : (listed.setIfInBounds i true).getD i false = true := by
        have : i < listed.size := by omega
        simp [Array.getD, this]
      refine ih (listed.setIfInBounds i true) (pre ++ post) sti st'' _ _ ι' ?_ (by simp [hs]) (fun t ht => ?_) ?_ (fun q hq => hall q (hsub q hq)) (fun q hq => hF q (hsub q hq)) (fun j o' ho' hj e he hb => ?_) g2 hR' fun a' w' ι'' hR'' => hn a' w' ι'' (hR''.eqv ⟨fun i => (g3.fr i).symm, fun i => (g3.mem i).symm⟩)
      · simp only [List.length_append, List.length_cons] at hl ⊢; omega
      · by_cases e : t = i
        · subst e
          rw [hset]
          exact ⟨fun h => (by cases h), fun ⟨q, hq, e⟩ => absurd e (hne q hq)⟩
        · rw [getD_set_ne false (Ne.symm e), hin t ht]
          constructor
          · rintro ⟨q, hq, rfl⟩
            refine ⟨q, ?_, rfl⟩
            rcases List.mem_append.1 hq with hq | hq
            · exact List.mem_append_left _ hq
            · rcases List.mem_cons.1 hq with rfl | hq
              · exact absurd rfl e
              · exact List.mem_append_right _ hq
          · rintro ⟨q, hq, rfl⟩; exact ⟨q, hsub q hq, rfl⟩
      · exact hp.sublist (List.Sublist.append (List.Sublist.refl _) (List.sublist_cons_self _ _))
      · by_cases e' : j = i
        · subst e'
          rw [hx] at ho'; cases ho'
          rw [hx'] at h2; cases h2
          exact getD_set_true (h3 e he hb)
        · rw [getD_set_ne false (Ne.symm e')] at hj
          exact getD_set_true (hcl j o' ho' hj e he hb)
theorem range'_pairwise (n : Nat) : ∀ k, (List.range' k n).Pairwise (· < ·) := fun k => List.pairwise_lt_range'
theorem good_draw {C : Ctx} {id : Nat} {ops : Array Oper} {k : List Item} {st st' : St} {F : Fp} (hm : C.P.follows .mixedOrders = true) (h : AR C.P C.hint ops.toList 0 ops.toList st F st') (hc : chk ops.toList F = true) (g : Good C k st') : Good C (.code (.region id ops true) :: k) st := by
  intro a w ι hR
  obtain ⟨L, h1, h2, h3, h4⟩ := h.ch
  refine .of_wp (wp_region_any hm ?_)
  obtain ⟨q1, q2⟩ := quiet (w' := { w with drawn := w.drawn + 1 }) hR.mem rfl rfl rfl (Nat.le_refl _) fun _ _ => rfl
  have hR' : Rel C st a { w with drawn := w.drawn + 1 } ι := ⟨hR.size, hR.defers, q1, fun t => (hR.fr t).mono q2, hR.evo.trans q2.evo, hR.keys, hR.x⟩
  have hlen : L.length = ops.toList.length := by rw [← h2, List.length_map]
  have hat : ∀ (i : Nat) (p : Nat × Oper × Fp), L[i]? = some p → p.1 = i ∧ ops.toList[i]? = some p.2.1 := fun i p hp => by
    have e1 : (L.map (·.1))[i]? = some p.1 := by rw [List.getElem?_map, hp]; rfl
    have e2 : (L.map (·.2.1))[i]? = some p.2.1 := by rw [List.getElem?_map, hp]; rfl
    rw [h3] at e1; rw [h2] at e2
    have hi : i < ops.toList.length := (List.getElem?_eq_some_iff.1 e2).1
    rw [List.getElem?_range' hi] at e1
    refine ⟨?_, e2⟩
    have := Option.some.inj e1; omega
  have := any_go (K := Fin C k) (Q := fun e a w => e = .normal ∧ Fin C k a w) hc (fun a w h => ⟨rfl, h⟩) ops.size (Array.replicate ops.size false) L st st' a { w with drawn := w.drawn + 1 } ι (by simpa using hlen) (by simp) (fun i hi => ?_) ?_ (fun p hp => ?_) (fun p hp f hf => ?_) (fun j o ho hj => ?_) h1 hR' g
  · exact this
  · have hi' : i < ops.size := by simpa using hi
    refine ⟨fun _ => ?_, fun _ => by simp [Array.getD, hi']⟩
    have hL : i < L.length := by omega
    exact ⟨L[i], List.getElem_mem hL, (hat i _ (List.getElem?_eq_getElem hL)).1⟩
  · have := range'_pairwise ops.toList.length 0
    rw [← h3] at this
    exact List.pairwise_map.1 this
  · obtain ⟨i, hi⟩ := List.mem_iff_getElem?.1 hp
    obtain ⟨e1, e2⟩ := hat i p hi
    rw [e1]; exact e2
  · rw [← h4]; exact List.mem_flatten.2 ⟨p.2.2, List.mem_map_of_mem (f := (·.2.2)) hp, hf⟩
  · exfalso
    have : j < ops.size := by simpa using (List.getElem?_eq_some_iff.1 ho).1
    simp [Array.getD, this] at hj
end Go.Ab
