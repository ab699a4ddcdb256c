/- What an operation reads and writes: operations that keep apart may be turned round. -/
import Derived.Test.YtfeieigajdekhaaGreatDoorAbM2
namespace Go.Ab
set_option linter.unusedVariables false
set_option linter.unusedSimpArgs false
theorem oint_congr {g g' : Operand → AV} {x : Option Operand} {d : Int} (h : ∀ y ∈ x.toArray, g y = g' y) : oint g x d = oint g' x d := by
  cases x with
  | none => rfl
  | some y => simp only [oint]; rw [h y (by simp)]
theorem parts_congr {g g' : Operand → AV} {ps : Array (Nat × Operand)} (h : ∀ x ∈ (ps.toList.map (·.2)).toArray, g x = g' x) : (ps.toList.map fun q => (q.1, g q.2)) = ps.toList.map fun q => (q.1, g' q.2) :=
  List.map_congr_left fun q hq => by rw [h q.2 (by simp only [List.mem_toArray]; exact List.mem_map_of_mem (f := (·.2)) hq)]
theorem args_congr {g g' : Operand → AV} {xs : Array Operand} (h : ∀ x ∈ xs, g x = g' x) : xs.toList.map g = xs.toList.map g' :=
  List.map_congr_left fun q hq => h q (by simpa using hq)
theorem key_congr {op : Op} {g g' : Operand → AV} {d : Nat} (h : ∀ x ∈ op.operands, g x = g' x) : keyOf op g d = keyOf op g' d := by
  cases op <;> simp only [Op.operands] at h <;> simp only [keyOf]
  case load t x => rw [h x (by simp)]
  case store t x y => rw [h x (by simp)]
  case nilCheck x => rw [h x (by simp)]
  case fieldAddr s x f => rw [h x (by simp)]
  case indexAddr t x i => rw [h x (by simp)]
  case slice t x lo hi mx => rw [h x (by simp)]
  case lookup t x i ok => rw [h x (by simp)]
  case mapUpdate t x i y => rw [h x (by simp)]
  case insert t x i y => rw [h x (by simp)]
  case mapEntry t x i => rw [h x (by simp)]
  case entryStore t x i y => rw [h x (by simp)]
  case call c =>
    obtain ⟨callee, args, ts⟩ := c
    have ha : args.toList.map g = args.toList.map g' := args_congr fun x hx => h x (by simp [Call.operands, hx])
    cases callee with
    | builtin b => cases b <;> simp only [keyOf, ha]
    | _ => rfl
theorem core_congr {P : Program} {hb : Bool} {op : Op} {g g' : Operand → AV} {d : Nat} {e : Nat × Ob} (h : ∀ x ∈ op.operands, g x = g' x) : core P hb op g d e = core P hb op g' d e := by
  cases op <;> simp only [Op.operands] at h <;> simp only [core]
  case move x => rw [h x (by simp)]
  case assign x => rw [h x (by simp)]
  case pick c a b => rw [h c (by simp), h a (by simp), h b (by simp)]
  case binOp op t x y i => rw [h x (by simp), h y (by simp)]
  case unOp op t x => rw [h x (by simp)]
  case convert s t x => rw [h x (by simp)]
  case box t x => rw [h x (by simp)]
  case build t ps => rw [parts_congr h]
  case buildSlice t n ps => rw [parts_congr h]
  case load t x => rw [h x (by simp)]
  case store t a x => rw [h a (by simp), h x (by simp)]
  case nilCheck x => rw [h x (by simp)]
  case fieldAddr s x f => rw [h x (by simp)]
  case field s x f => rw [h x (by simp)]
  case indexAddr t x i => rw [h x (by simp), h i (by simp)]
  case index t x i => rw [h x (by simp), h i (by simp)]
  case slice t x lo hi mx =>
    have h1 : g x = g' x := h x (by simp)
    have h2 : ∀ n, oint g lo n = oint g' lo n := fun n => oint_congr fun y hy => h y (by simp only [Array.mem_append]; exact .inl (.inl (.inr hy)))
    have h3 : ∀ n, oint g hi n = oint g' hi n := fun n => oint_congr fun y hy => h y (by simp only [Array.mem_append]; exact .inl (.inr hy))
    simp only [h1, h2, h3]
  case extract x i => rw [h x (by simp)]
  case makeFunc fn first caps =>
    cases fn with
    | func f =>
      have h1 : first.toList.map g = first.toList.map g' := args_congr fun x hx => h x (by simp [hx])
      have h2 : caps.toList.map g = caps.toList.map g' := args_congr fun x hx => h x (by simp [hx])
      simp only [core, h1, h2]
    | _ => rfl
  case makeSlice t n c => rw [h n (by simp), h c (by simp)]
  case lookup t x i ok => rw [h x (by simp), h i (by simp)]
  case mapUpdate t x i y => rw [h x (by simp), h i (by simp), h y (by simp)]
  case insert t x i y => rw [h x (by simp), h i (by simp), h y (by simp)]
  case mapEntry t x i => rw [h x (by simp), h i (by simp)]
  case entryStore t x i y => rw [h x (by simp), h i (by simp), h y (by simp)]
  case makeMap t r =>
    have h1 : ∀ n, oint g r n = oint g' r n := fun n => oint_congr fun y hy => h y (by simpa using hy)
    simp only [h1]
  case call c =>
    obtain ⟨callee, args, ts⟩ := c
    have ha : args.toList.map g = args.toList.map g' := args_congr fun x hx => h x (by simp [Call.operands, hx])
    cases callee with
    | builtin b => simp only [core, ha]
    | _ => rfl
/-- An operation that only reads. -/
theorem core_reads {P : Program} {hb : Bool} {op : Op} {g : Operand → AV} {d : Nat} {e : Nat × Ob} {v : AV} {n : Option (Nat × Ob)} (hw : writes op = false) (h : core P hb op g d e = some (v, n)) : n = none := by
  rcases n with _ | n
  · rfl
  · exfalso
    cases op <;> try (simp [writes] at hw; done)
    case load t x =>
      simp only [core] at h
      split at h
      · split at h
        · obtain ⟨_, h⟩ := bif_none h; exact eff_no h
        · cases h
      · split at h
        · obtain ⟨_, h⟩ := bif_none h; exact eff_no h
        · cases h
      · exact eff_no h
      · split at h
        · obtain ⟨_, h⟩ := bif_none h; exact eff_no h
        · cases h
      · cases h
    case nilCheck => simp only [core] at h; split at h <;> first | (obtain ⟨_, h⟩ := bif_none h; exact eff_no h) | exact eff_no h | cases h
    case fieldAddr s x f =>
      simp only [core] at h
      obtain ⟨⟨o, ft⟩, hf, h⟩ := Option.bind_eq_some_iff.mp h
      obtain ⟨_, h⟩ := bif_none' h
      split at h <;> first | (obtain ⟨_, h⟩ := bif_none h; exact eff_no h) | exact eff_no h | cases h
    case indexAddr t x i =>
      simp only [core] at h
      split at h
      · split at h
        · obtain ⟨⟨len, s⟩, ha, h⟩ := Option.bind_eq_some_iff.mp h
          simp only at h
          split at h
          · obtain ⟨_, h⟩ := bif_none h; exact eff_no h
          · cases h
        · obtain ⟨s, ha, h⟩ := Option.bind_eq_some_iff.mp h
          obtain ⟨u, hin, h⟩ := Option.bind_eq_some_iff.mp h
          obtain ⟨_, h⟩ := bif_none h; exact eff_no h
        · obtain ⟨s, ha, h⟩ := Option.bind_eq_some_iff.mp h
          obtain ⟨row, hrow, h⟩ := Option.bind_eq_some_iff.mp h
          obtain ⟨_, h⟩ := bif_none h
          split at h
          · exact eff_no h
          · cases h
        · obtain ⟨s, ha, h⟩ := Option.bind_eq_some_iff.mp h
          obtain ⟨r, hr, h⟩ := Option.bind_eq_some_iff.mp h
          obtain ⟨row, hrow, h⟩ := Option.bind_eq_some_iff.mp h
          split at h
          · exact eff_no h
          · cases h
      · cases h
    case slice t x lo hi mx =>
      simp only [core] at h
      cases mx with
      | some _ => cases h
      | none =>
        simp only at h
        split at h
        · obtain ⟨_, h⟩ := bif_none' h; exact eff_no h
        · obtain ⟨s, ha, h⟩ := Option.bind_eq_some_iff.mp h; exact eff_no h
        · obtain ⟨s, ha, h⟩ := Option.bind_eq_some_iff.mp h
          obtain ⟨r, hr, h⟩ := Option.bind_eq_some_iff.mp h; exact eff_no h
    case lookup t x i ok =>
      simp only [core] at h
      split at h
      · obtain ⟨_, _, h⟩ := Option.bind_eq_some_iff.mp h
        obtain ⟨_, _, h⟩ := Option.bind_eq_some_iff.mp h
        obtain ⟨_, _, h⟩ := Option.bind_eq_some_iff.mp h
        exact eff_no h
      · cases h
    case call c =>
      obtain ⟨callee, args, ts⟩ := c
      cases callee with
      | builtin b =>
        cases b <;> try (simp [writes] at hw; done)
        simp only [core, coreB] at h
        split at h
        · rename_i x t _ _ _
          unfold lenA at h
          split at h
          · obtain ⟨_, h⟩ := bif_none h; exact eff_no h
          · obtain ⟨s, hs, h⟩ := Option.bind_eq_some_iff.mp h
            obtain ⟨_, h⟩ := bif_none h; exact eff_no h
          · obtain ⟨s, hs, h⟩ := Option.bind_eq_some_iff.mp h
            obtain ⟨es, hl, h⟩ := Option.bind_eq_some_iff.mp h
            exact eff_no h
          · obtain ⟨s, hs, h⟩ := Option.bind_eq_some_iff.mp h
            obtain ⟨_, h⟩ := bif_none h; exact eff_no h
          · obtain ⟨s, hs, h⟩ := Option.bind_eq_some_iff.mp h
            exact eff_no h
        all_goals first | contradiction | (rename_i hb' _ _; cases hb') | cases h | simp_all
      | _ => simp [writes] at hw
end Go.Ab
namespace Go.Ab
set_option linter.unusedVariables false
set_option linter.unusedSimpArgs false
structure Eqv (s t : St) : Prop where
 fr : ∀ i, fget s.fr i = fget t.fr i
 mem : ∀ k, lk s.mem k = lk t.mem k
theorem Eqv.refl (s : St) : Eqv s s := ⟨fun _ => rfl, fun _ => rfl⟩
theorem Eqv.trans {a b c : St} (h : Eqv a b) (k : Eqv b c) : Eqv a c := ⟨fun i => (h.fr i).trans (k.fr i), fun i => (h.mem i).trans (k.mem i)⟩
theorem Rel.eqv {C : Ctx} {st s2 : St} {a : Act} {w : World} {ι : Pl} (hR : Rel C st a w ι) (h : Eqv s2 st) : Rel C s2 a w ι := by
  have he : ∀ k, ent s2.mem k = ent st.mem k := fun k => by unfold ent; rw [h.mem]
  have hO : OwnM ι s2.mem = OwnM ι st.mem := by funext b o; simp only [OwnM, h.mem]
  have hK : Keys ι st.mem ι s2.mem := ⟨fun k => by rw [he]; exact Nat.le_refl _, fun k g ob hk => .inl ⟨ob, by rw [← h.mem]; exact hk, Compat.refl ι ob k⟩⟩
  have hE : Ext ι st.mem w ι s2.mem w := ⟨by rw [hO]; exact .refl _ _, hK, rfl⟩
  have hM := hR.mem
  refine ⟨hR.size, hR.defers, ⟨fun k g ob hk => (hM.ok k g ob (by rw [← h.mem]; exact hk)).mono hE fun _ _ _ => rfl, fun k k' g g' ob ob' b o o' h1 h2 => hM.apart k k' g g' ob ob' b o o' (by rw [← h.mem]; exact h1) (by rw [← h.mem]; exact h2), hM.xlt, fun k g ob b o o' h1 => hM.xapart k g ob b o o' (by rw [← h.mem]; exact h1), hM.gk.mono hE⟩, fun t => by rw [h.fr]; exact (hR.fr t).mono hE, by rw [hO]; exact hR.evo, hR.keys.trans hK, hR.x⟩
section
variable {P : Program} {H : Hn} {all : List Oper}
theorem fget_put (st : St) (dst : Option Tmp) (v : AV) (t : Nat) : fget (st.put dst v).fr t = if dst = some t then v else fget st.fr t := by
  cases dst with
  | none => simp [St.put]
  | some d =>
    simp only [St.put, fget, lk_cons, Option.some.injEq]
    split <;> rfl
theorem mem_put (st : St) (dst : Option Tmp) (v : AV) : (st.put dst v).mem = st.mem := by cases dst <;> rfl
theorem fr_memPut (st : St) (k : Option Nat) (n : Option (Nat × Ob)) : (memPut st k n).fr = st.fr := by cases k <;> cases n <;> rfl
theorem looks_op {fr fr' : List (Nat × AV)} {o : Oper} (h : ∀ t ∈ o.looksAt all.toArray, fget fr t = fget fr' t) : ∀ x ∈ o.op.operands, oget fr x = oget fr' x := fun x hx => by
  cases x with
  | tmp t => exact h t (List.mem_append_left _ (List.mem_filterMap.2 ⟨.tmp t, by simpa using hx, rfl⟩))
  | _ => rfl
theorem looks_de {fr fr' : List (Nat × AV)} {o : Oper} (h : ∀ t ∈ o.looksAt all.toArray, fget fr t = fget fr' t) : de all fr o = de all fr' o := by
  unfold de
  cases hg : o.guard with
  | none => rfl
  | some jb =>
    obtain ⟨j, b⟩ := jb
    simp only
    cases hd : (all[j]?).map (·.dst) with
    | none => rfl
    | some x =>
      cases x with
      | none => rfl
      | some t =>
        obtain ⟨o', ho, hd'⟩ := Option.map_eq_some_iff.mp hd
        simp only [deT]
        rw [h t (List.mem_append_right _ (by simp [hg, ho, hd']))]
/-- The same operation in a state that looks alike where it looks. -/
theorem S1.loc {j : Nat} {o : Oper} {F : Fp} {st st1 s2 : St} (h : S1 P H all j o F st st1) (hfr : ∀ t ∈ o.looksAt all.toArray, fget s2.fr t = fget st.fr t) (hm : ∀ p ∈ F, lk s2.mem p.2.1 = lk st.mem p.2.1) :
    ∃ s3, S1 P H all j o F s2 s3 ∧ (∀ t, fget s3.fr t = if o.dst = some t then fget st1.fr t else fget s2.fr t) ∧ (∀ k, (∃ p ∈ F, p.2.1 = k) → lk s3.mem k = lk st1.mem k) ∧ ∀ k, (∀ p ∈ F, p.2.1 ≠ k) → lk s3.mem k = lk s2.mem k := by
  have hde := looks_de hfr
  have hop_ := looks_op hfr
  cases h with
  | skip _ h hd =>
    refine ⟨s2.put o.dst .und, .skip s2 (hde.trans h) hd, fun t => ?_, fun k ⟨p, hp, _⟩ => (by cases hp), fun k _ => by rw [mem_put]⟩
    rw [fget_put, fget_put]; split <;> rfl
  | op _ _ h hd hs =>
    have hk : keyOf o.op (oget s2.fr) (o.dst.getD 0) = keyOf o.op (oget st.fr) (o.dst.getD 0) := key_congr hop_
    have hF : fpOf j o s2 = fpOf j o st := by unfold fpOf; rw [hk]
    have hent : entO s2.mem (keyOf o.op (oget st.fr) (o.dst.getD 0)) = entO st.mem (keyOf o.op (oget st.fr) (o.dst.getD 0)) := by
      cases hkk : keyOf o.op (oget st.fr) (o.dst.getD 0) with
      | none => rfl
      | some k =>
        have := hm (j, k, writes o.op) (by simp [fpOf, fpK, hkk])
        simp only [entO, ent]; rw [this]
    unfold stepOp at hs
    cases hc : core P (H.2.1.contains (o.dst.getD 0)) o.op (oget st.fr) (o.dst.getD 0) (entO st.mem (keyOf o.op (oget st.fr) (o.dst.getD 0))) with
    | none => rw [hc] at hs; cases hs
    | some vn =>
      obtain ⟨v, n⟩ := vn
      rw [hc] at hs
      simp only [finO, Option.some.injEq] at hs
      subst hs
      have hs2 : stepOp P H o s2 = some ((memPut s2 (keyOf o.op (oget st.fr) (o.dst.getD 0)) n).put o.dst v) := by
        unfold stepOp
        rw [hk, hent, core_congr hop_, hc]; rfl
      have hS := S1.op (all := all) (j := j) s2 _ (hde.trans h) hd hs2
      rw [hF] at hS
      refine ⟨_, hS, fun t => ?_, fun k hk => ?_, fun k hk => ?_⟩
      · rw [fget_put, fget_put, fr_memPut]; split <;> rfl
      · obtain ⟨p, hp, rfl⟩ := hk
        cases hkk : keyOf o.op (oget st.fr) (o.dst.getD 0) with
        | none => simp [fpOf, fpK, hkk] at hp
        | some k =>
          simp only [fpOf, fpK, hkk, List.mem_singleton] at hp
          subst hp
          rw [mem_put, mem_put, memPut_mem, memPut_mem]
          cases n with
          | none => exact hm (j, k, writes o.op) (by simp [fpOf, fpK, hkk])
          | some n => simp only [memO, lk_mset]; simp
      · rw [mem_put, memPut_mem]
        cases hkk : keyOf o.op (oget st.fr) (o.dst.getD 0) with
        | none => cases n <;> rfl
        | some k' =>
          have := hk (j, k', writes o.op) (by simp [fpOf, fpK, hkk])
          cases n with
          | none => rfl
          | some n => simp only [memO, lk_mset]; rw [if_neg this]
  | call _ fv args ts f first caps σ cargs mc mc' v h hd hop hf hcon hargs hok hmm ho ro hro =>
    have hin : ∀ {k g0 k' g' : Nat}, lk σ k = some (g0, k', g') → lk s2.mem k' = lk st.mem k' := fun {k g0 k' g'} e =>
      hm (j, k', _) (List.mem_map.2 ⟨(k, (g0, k', g')), lk_mem e, rfl⟩)
    have e1 : oget s2.fr fv = oget st.fr fv := hop_ fv (by rw [hop]; simp [Op.operands, Call.operands])
    have e2 : args.toList.map (oget s2.fr) = args.toList.map (oget st.fr) := args_congr fun x hx => hop_ x (by rw [hop]; simp [Op.operands, Call.operands, hx])
    have hm2 : Fits σ mc s2.mem := ⟨fun q hq => by
      obtain ⟨h1, k', g', ob, h2, h3, h4⟩ := hmm.1 q hq
      exact ⟨h1, k', g', ob, h2, by rw [hin h2]; exact h3, h4⟩, hmm.2⟩
    have ho2 : FitsOut σ mc mc' s2.mem := ⟨fun q hq => by
      obtain ⟨k', g', h2, h3⟩ := ho.1 q hq
      exact ⟨k', g', h2, h3.imp id fun h => by unfold ent at h ⊢; rw [hin h2]; exact h⟩, ho.2⟩
    have hb : ∀ q ∈ σ, lk (back σ s2.mem mc') q.2.2.1 = lk (back σ st.mem mc') q.2.2.1 := fun q hq => by
      obtain ⟨k, g0, k', g'⟩ := q
      have h1 := mem_lk hmm.2.2.2 hq
      rcases img (ι := ⟨fun _ => ⟨0, none, 0, 0, fun _ _ => False⟩, fun _ _ => False, [], 0⟩) (ιo := ⟨fun _ => ⟨0, none, 0, 0, fun _ _ => False⟩, fun _ _ => False, [], 0⟩) hmm ho k' with ⟨k1, g1, g1', ob, f1, f2, f3, _⟩ | ⟨hn, _⟩
      · simp only; rw [f3, back_in hmm.2.1 f1 f2]
      · exact absurd h1 (hn _ _ _)
    refine ⟨_, .call s2 fv args ts f first caps σ cargs mc mc' v (hde.trans h) hd hop (by rw [e1]; exact hf) hcon (by rw [e2]; exact hargs) hok hm2 ho2 ro (fun q hq hc => by rw [hb q hq, hro q hq hc]; exact (hin (mem_lk hmm.2.2.2 hq)).symm), fun t => ?_, fun k hk => ?_, fun k hk => ?_⟩
    · rw [fget_put, fget_put]; split <;> rfl
    · rw [mem_put, mem_put]
      obtain ⟨p, hp, rfl⟩ := hk
      obtain ⟨q, hq, rfl⟩ := List.mem_map.1 hp
      exact hb q hq
    · rw [mem_put]
      exact back_out fun q hq g0 g' e => hk _ (List.mem_map.2 ⟨(q.1, (g0, k, g')), lk_mem e, rfl⟩) rfl
theorem S1.same {j : Nat} {o : Oper} {F : Fp} {st st1 : St} (h : S1 P H all j o F st st1) : (∀ t, o.dst ≠ some t → fget st1.fr t = fget st.fr t) ∧ (∀ k, (∀ p ∈ F, p.2.1 = k → p.2.2 = false) → lk st1.mem k = lk st.mem k) ∧ ∀ p ∈ F, p.1 = j := by
  cases h with
  | skip _ h hd => exact ⟨fun t ht => by rw [fget_put, if_neg ht], fun k _ => by rw [mem_put], by simp⟩
  | op _ _ h hd hs =>
    unfold stepOp at hs
    cases hc : core P (H.2.1.contains (o.dst.getD 0)) o.op (oget st.fr) (o.dst.getD 0) (entO st.mem (keyOf o.op (oget st.fr) (o.dst.getD 0))) with
    | none => rw [hc] at hs; cases hs
    | some vn =>
      obtain ⟨v, n⟩ := vn
      rw [hc] at hs
      simp only [finO, Option.some.injEq] at hs
      subst hs
      refine ⟨fun t ht => by rw [fget_put, if_neg ht, fr_memPut], fun k hk => ?_, fun p hp => ?_⟩
      · rw [mem_put, memPut_mem]
        cases hkk : keyOf o.op (oget st.fr) (o.dst.getD 0) with
        | none => cases n <;> rfl
        | some k' =>
          cases n with
          | none => rfl
          | some n =>
            simp only [memO, lk_mset]
            split
            · rename_i e; subst e
              have := hk (j, k', writes o.op) (by simp [fpOf, fpK, hkk]) rfl
              have := core_reads this hc
              cases this
            · rfl
      · cases hkk : keyOf o.op (oget st.fr) (o.dst.getD 0) with
        | none => simp [fpOf, fpK, hkk] at hp
        | some k => simp only [fpOf, fpK, hkk, List.mem_singleton] at hp; rw [hp]
  | call _ fv args ts f first caps σ cargs mc mc' v h hd hop hf hcon hargs hok hmm ho ro hro =>
    refine ⟨fun t ht => by rw [fget_put, if_neg ht], fun k hk => ?_, fun p hp => ?_⟩
    · rw [mem_put]
      by_cases hq : ∃ q ∈ σ, q.2.2.1 = k
      · obtain ⟨q, hq, rfl⟩ := hq
        have := hk (j, q.2.2.1, !ro.contains q.2.2.1) (List.mem_map.2 ⟨q, hq, rfl⟩) rfl
        exact hro q hq (by simpa using this)
      · exact back_out fun q hq' g0 g' e => hq ⟨(q.1, (g0, k, g')), lk_mem e, rfl⟩
    · obtain ⟨q, _, rfl⟩ := List.mem_map.1 hp; rfl
theorem S1.eqv {j : Nat} {o : Oper} {F : Fp} {st st1 s2 : St} (h : S1 P H all j o F st st1) (he : Eqv s2 st) : ∃ s3, S1 P H all j o F s2 s3 ∧ Eqv s3 st1 := by
  obtain ⟨s3, h1, h2, h3, h4⟩ := h.loc (s2 := s2) (fun t _ => he.fr t) fun p _ => he.mem _
  obtain ⟨f1, f2, _⟩ := h.same
  refine ⟨s3, h1, fun t => ?_, fun k => ?_⟩
  · rw [h2]; split
    · rfl
    · rename_i hn; rw [he.fr, f1 t hn]
  · by_cases hk : ∃ p ∈ F, p.2.1 = k
    · exact h3 k hk
    · rw [h4 k fun p hp e => hk ⟨p, hp, e⟩, he.mem, f2 k fun p hp e => absurd ⟨p, hp, e⟩ hk]
theorem Ch.eqv : ∀ {L : List (Nat × Oper × Fp)} {st st' s2 : St}, Ch P H all L st st' → Eqv s2 st → ∃ s3, Ch P H all L s2 s3 ∧ Eqv s3 st'
  | [], st, st', s2, h, he => by cases h; exact ⟨s2, .nil _, he⟩
  | (j, o, F) :: r, st, st', s2, h, he => by
    cases h with
    | cons h t =>
      obtain ⟨s3, h1, h2⟩ := h.eqv he
      obtain ⟨s4, h3, h4⟩ := Ch.eqv t h2
      exact ⟨s4, .cons h1 h3, h4⟩
theorem Ch.fst : ∀ {L : List (Nat × Oper × Fp)} {st st' : St}, Ch P H all L st st' → ∀ p ∈ L, ∀ f ∈ p.2.2, f.1 = p.1
  | [], st, st', h, p, hp => by cases hp
  | (j, o, F) :: r, st, st', h, p, hp => by
    cases h with
    | cons h t =>
      rcases List.mem_cons.1 hp with rfl | hp
      · exact h.same.2.2
      · exact Ch.fst t p hp
/-- Two operations that keep apart. -/
structure Comm (all : List Oper) (p q : Nat × Oper × Fp) : Prop where
 a : ∀ d, p.2.1.dst = some d → d ∉ q.2.1.looksAt all.toArray
 b : ∀ d, p.2.1.dst = some d → q.2.1.dst ≠ some d
 c : ∀ d, q.2.1.dst = some d → d ∉ p.2.1.looksAt all.toArray
 m : ∀ x ∈ p.2.2, ∀ y ∈ q.2.2, x.2.1 = y.2.1 → (x.2.2 = false ∧ y.2.2 = false) ∨ soft p.2.1.op q.2.1.op = true
theorem mfind_app (key key' : PV) (z : List PV) : ∀ (es : Ents) (i : Nat), mfind key (es ++ [(key', z)]) i = match mfind key es i with | some q => some q | none => bif keyEq key key' then some (i + es.length, z) else none
  | [], i => by simp [mfind]
  | (k, v) :: r, i => by
    simp only [List.cons_append, mfind]
    cases keyEq key k
    · simp only [cond_false]; rw [mfind_app key key' z r (i + 1)]; simp only [List.length_cons]; rw [show i + 1 + r.length = i + (r.length + 1) by omega]
    · rfl
theorem mrow_ment (key key' : PV) (es : Ents) (z : List PV) : mrow key (ment key' es z) z = mrow key es z := by
  unfold ment
  cases mhas key' es
  · simp only [cond_false, mrow, mfind_app]
    cases mfind key es 0 with
    | some q => rfl
    | none => cases keyEq key key' <;> rfl
  · rfl
theorem mkEq_refl (mk : MK) : mkEq mk mk = true := by cases mk <;> simp [mkEq]
theorem liveM_told {mk : MK} {ag : Bool} {gn : Nat} {e : Nat × Ob} {es : Ents} (h : liveM mk ag gn e = some es) : e.1 = gn ∧ ∃ mk' , e.2 = .map mk' ag es ∧ mkEq mk mk' = true := by
  obtain ⟨g', ob⟩ := e
  cases ob <;> simp only [liveM, reduceCtorEq] at h
  rename_i mk' ag' es'
  cases hc : (gn == g' && mkEq mk mk' && ag == ag') <;> simp only [hc, cond_false, cond_true, reduceCtorEq, Option.some.injEq] at h
  simp only [Bool.and_eq_true, beq_iff_eq] at hc
  obtain ⟨⟨rfl, h2⟩, rfl⟩ := hc
  exact ⟨rfl, mk', by rw [h], h2⟩
/-- The read and the making of the entry change places. -/
theorem S1.softS {j i : Nat} {o x : Oper} {F G : Fp} {st st1 st2 : St} (h1 : S1 P H all j o F st st1) (h2 : S1 P H all i x G st1 st2) (hs : soft o.op x.op = true) (hab : ∃ p ∈ F, ∃ q ∈ G, p.2.1 = q.2.1)
    (ha : ∀ d, o.dst = some d → d ∉ x.looksAt all.toArray) (hb : ∀ d, o.dst = some d → x.dst ≠ some d) (hc : ∀ d, x.dst = some d → d ∉ o.looksAt all.toArray) :
    ∃ sti st2', S1 P H all i x G st sti ∧ S1 P H all j o F sti st2' ∧ Eqv st2' st2 := by
  obtain ⟨p, hp, q, hq, hpq⟩ := hab
  obtain ⟨a1, a2, _⟩ := h1.same
  obtain ⟨b1, b2, _⟩ := h2.same
  cases hoo : o.op <;> simp only [hoo, Go.Ab.soft, Bool.false_eq_true] at hs
  rename_i t xa xi ok
  cases ok
  case true => cases hxo : x.op <;> simp [hxo, Go.Ab.soft] at hs
  cases hxo : x.op <;> simp only [hxo, Go.Ab.soft, Bool.false_eq_true, decide_eq_true_eq] at hs
  rename_i t' ya yi
  subst hs
  cases h1 with
  | skip _ h hd => cases hp
  | call _ fv args ts f first caps σ cargs mc mc' v h hd hop hf hcon hargs hok hmm ho ro hro => rw [hoo] at hop; cases hop
  | op _ _ hde hd hst =>
  have hst' := hst
  unfold stepOp at hst
  rw [hoo] at hst
  simp only [keyOf, core] at hst
  cases hga : oget st.fr xa <;> simp only [hga, finO, reduceCtorEq] at hst
  rename_i k gn
  simp only [keyV, entO] at hst
  cases hmt : mapTy P t with
  | none => rw [hmt] at hst; cases hst
  | some mz =>
  obtain ⟨mk, ag, z⟩ := mz
  rw [hmt] at hst
  simp only [Option.bind_some] at hst
  cases hl : liveM mk ag gn (ent st.mem k) with
  | none => rw [hl] at hst; cases hst
  | some es =>
  rw [hl] at hst
  simp only [Option.bind_some] at hst
  cases hk : mkeyOf mk (oget st.fr xi) with
  | none => rw [hk] at hst; cases hst
  | some key =>
  rw [hk] at hst
  simp only [Option.bind_some, eff, Option.map_some, tupIf, cond_false, Option.some.injEq] at hst
  simp only [fpOf, hoo, keyOf, hga, keyV, fpK, List.mem_singleton] at hp
  subst hp
  have hF : fpOf j o st = [(j, k, false)] := by simp [fpOf, hoo, keyOf, hga, keyV, fpK, writes]
  have hnw : ∀ y ∈ fpOf j o st, y.2.2 = false := by rw [hF]; simp
  have hm1 : ∀ k', lk st1.mem k' = lk st.mem k' := fun k' => a2 k' fun p hp _ => hnw p hp
  obtain ⟨sti, h3, c1, c2, c3⟩ := h2.loc (s2 := st) (fun t ht => (a1 t fun e => ha t e ht).symm) fun y hy => (hm1 _).symm
  have h2' := h2
  cases h2 with
  | skip _ h hd => cases hq
  | call _ fv args ts f first caps σ cargs mc mc' v h hd hop hf hcon hargs hok hmm ho ro hro => rw [hxo] at hop; cases hop
  | op _ _ hde2 hd2 hst2 =>
  unfold stepOp at hst2
  have hGq := hq
  simp only [fpOf, hxo, keyOf] at hq
  rw [hxo] at hst2
  simp only [keyOf, core] at hst2
  cases hgb : oget st1.fr ya <;> simp only [hgb, finO, reduceCtorEq] at hst2
  rename_i k2 gn2
  simp only [hgb, keyV, fpK, List.mem_singleton] at hq
  subst hq
  simp only at hpq
  subst hpq
  simp only [keyV, entO] at hst2
  rw [hmt] at hst2
  simp only [Option.bind_some] at hst2
  have hent : ent st1.mem k = ent st.mem k := by unfold ent; rw [hm1]
  rw [hent] at hst2
  cases hl2 : liveM mk ag gn2 (ent st.mem k) with
  | none => rw [hl2] at hst2; cases hst2
  | some es2 =>
  rw [hl2] at hst2
  simp only [Option.bind_some] at hst2
  obtain ⟨e1, mk1, e2, e3⟩ := liveM_told hl
  obtain ⟨f1, mk2, f2, f3⟩ := liveM_told hl2
  obtain rfl : gn = gn2 := by rw [← e1, ← f1]
  obtain rfl : es = es2 := by rw [e2] at f2; cases f2; rfl
  cases hk2 : mkeyOf mk (oget st1.fr yi) with
  | none => rw [hk2] at hst2; cases hst2
  | some key2 =>
  rw [hk2] at hst2
  simp only [Option.bind_some, Option.some.injEq] at hst2
  have hlk : lk sti.mem k = some (gn, .map mk ag (ment key2 es z)) := by
    rw [c2 k ⟨_, hGq, rfl⟩, ← hst2, mem_put, memPut_mem]
    simp [memO, lk_mset]
  have hop_ := looks_op (all := all) (fr := sti.fr) (fr' := st.fr) (o := o) fun t ht => by
    rw [c1]; exact if_neg fun e => hc t e ht
  have ga : oget sti.fr xa = .mp k gn := by rw [hop_ xa (by rw [hoo]; simp [Op.operands]), hga]
  have gi : oget sti.fr xi = oget st.fr xi := hop_ xi (by rw [hoo]; simp [Op.operands])
  have hstep : stepOp P H o sti = some (sti.put o.dst (mval ag (mrow key es z))) := by
    unfold stepOp
    rw [hoo]
    have hl3 : liveM mk ag gn (ent sti.mem k) = some (ment key2 es z) := by
      unfold ent; rw [hlk]
      simp [liveM, mkEq_refl]
    simp only [keyOf, core, ga, keyV, entO, hmt, Option.bind_some, hl3, gi, hk, eff, Option.map_some, tupIf, cond_false, finO, mrow_ment]
    rfl
  have hde3 := looks_de (all := all) (fr := sti.fr) (fr' := st.fr) (o := o) fun t ht => by
    rw [c1]; exact if_neg fun e => hc t e ht
  have hF3 : fpOf j o sti = fpOf j o st := by simp only [fpOf, hoo, keyOf, ga, hga]
  refine ⟨sti, sti.put o.dst (mval ag (mrow key es z)), h3, ?_, ?_⟩
  · rw [← hF3]; exact .op _ _ (hde3.trans hde) hd hstep
  · refine ⟨fun t => ?_, fun k' => ?_⟩
    · rw [fget_put, c1]
      by_cases e : o.dst = some t
      · rw [if_pos e, b1 t (hb t e), ← hst, fget_put, if_pos e]
      · rw [if_neg e]
        split
        · rfl
        · rename_i h'; rw [b1 t h', a1 t e]
    · rw [mem_put]
      by_cases e : k' = k
      · subst e
        refine c2 k' ⟨_, hGq, rfl⟩
      · have hne : ∀ p ∈ fpOf i x st1, p.2.1 ≠ k' := fun p hp e' => by
          simp only [fpOf, hxo, keyOf, hgb, keyV, fpK, List.mem_singleton] at hp
          subst hp
          exact e e'.symm
        rw [c3 k' hne, b2 k' fun p hp e' => absurd e' (hne p hp), hm1]
theorem S1.swap {j i : Nat} {o x : Oper} {F G : Fp} {st st1 st2 : St} (h1 : S1 P H all j o F st st1) (h2 : S1 P H all i x G st1 st2) (hc : Comm all (j, o, F) (i, x, G)) :
    ∃ sti st2', S1 P H all i x G st sti ∧ S1 P H all j o F sti st2' ∧ Eqv st2' st2 := by
  by_cases hsf : soft o.op x.op = true ∧ ∃ p ∈ F, ∃ q ∈ G, p.2.1 = q.2.1
  · exact h1.softS h2 hsf.1 hsf.2 hc.a hc.b hc.c
  have hcm : ∀ p ∈ F, ∀ y ∈ G, p.2.1 = y.2.1 → p.2.2 = false ∧ y.2.2 = false := fun p hp y hy e => by
    rcases hc.m p hp y hy e with h | h
    · exact h
    · exact absurd ⟨h, p, hp, y, hy, e⟩ hsf
  obtain ⟨a1, a2, _⟩ := h1.same
  obtain ⟨b1, b2, _⟩ := h2.same
  have offF : ∀ y ∈ G, ∀ p ∈ F, p.2.1 = y.2.1 → p.2.2 = false := fun y hy p hp e => (hcm p hp y hy e).1
  have offG : ∀ p ∈ F, ∀ y ∈ G, y.2.1 = p.2.1 → y.2.2 = false := fun p hp y hy e => (hcm p hp y hy e.symm).2
  obtain ⟨sti, h3, c1, c2, c3⟩ := h2.loc (s2 := st) (fun t ht => (a1 t fun e => hc.a t e ht).symm) fun y hy => (a2 _ (offF y hy)).symm
  obtain ⟨d1, d2, _⟩ := h3.same
  obtain ⟨s4, h4, e1, e2, e3⟩ := h1.loc (s2 := sti) (fun t ht => d1 t fun e => hc.c t e ht) fun p hp => d2 _ (offG p hp)
  refine ⟨sti, s4, h3, h4, fun t => ?_, fun k => ?_⟩
  · rw [e1]; split
    · rename_i h; exact (b1 t (hc.b t h)).symm
    · rename_i h; rw [c1]; split
      · rfl
      · rename_i h'; rw [b1 t h', a1 t h]
  · by_cases hF : ∃ p ∈ F, p.2.1 = k
    · rw [e2 k hF]
      obtain ⟨p, hp, rfl⟩ := hF
      exact (b2 _ (offG p hp)).symm
    · have hF' : ∀ p ∈ F, p.2.1 ≠ k := fun p hp e => hF ⟨p, hp, e⟩
      rw [e3 k hF']
      by_cases hG : ∃ p ∈ G, p.2.1 = k
      · exact c2 k hG
      · have hG' : ∀ p ∈ G, p.2.1 ≠ k := fun p hp e => hG ⟨p, hp, e⟩
        rw [c3 k hG', b2 k fun p hp e => absurd e (hG' p hp), a2 k fun p hp e => absurd e (hF' p hp)]
theorem Ch.front {i : Nat} {x : Oper} {G : Fp} {post : List (Nat × Oper × Fp)} : ∀ {pre : List (Nat × Oper × Fp)} {st st' : St}, Ch P H all (pre ++ (i, x, G) :: post) st st' → (∀ p ∈ pre, Comm all p (i, x, G)) →
    ∃ sti st'', S1 P H all i x G st sti ∧ Ch P H all (pre ++ post) sti st'' ∧ Eqv st'' st'
  | [], st, st', h, _ => by
    cases h with
    | cons h t => exact ⟨_, st', h, t, .refl _⟩
  | (j, o, F) :: pre, st, st', h, hc => by
    cases h with
    | cons h t =>
      obtain ⟨s1, s2, h1, h2, h3⟩ := Ch.front t fun p hp => hc p (List.mem_cons_of_mem _ hp)
      obtain ⟨sti, s4, h4, h5, h6⟩ := h.swap h1 (hc _ List.mem_cons_self)
      obtain ⟨s5, h7, h8⟩ := h2.eqv h6
      exact ⟨sti, s5, h4, .cons h5 h7, h8.trans h3⟩
end
theorem behind_listed {all : List Oper} {listed : Array Bool} (hcl : ∀ j o, all[j]? = some o → listed.getD j false = true → ∀ e ∈ o.after, Region.binds .any e = true → listed.getD e.on false = true) {i : Nat} :
    ∀ (n j : Nat), (∀ o, all[j]? = some o → ∀ e ∈ o.after, Region.binds .any e = true → listed.getD e.on false = true) → behind all n i j = true → listed.getD i false = true
  | 0, j, _, h => by cases h
  | n + 1, j, hj, h => by
    simp only [behind] at h
    split at h
    · rename_i o ho
      obtain ⟨e, he, hb⟩ := Array.any_eq_true'.1 h
      simp only [Bool.and_eq_true, Bool.or_eq_true, beq_iff_eq] at hb
      have h1 := hj o ho e he hb.1
      rcases hb.2 with rfl | h2
      · exact h1
      · exact behind_listed hcl n e.on (fun o ho => hcl e.on o ho h1) h2
    · cases h
theorem pairwise_front {α : Type} {R : α → α → Prop} {pre post : List α} {x : α} (h : (pre ++ x :: post).Pairwise R) : ∀ p ∈ pre, R p x :=
  fun p hp => (List.pairwise_append.1 h).2.2 p hp x List.mem_cons_self
theorem any_go {C : Ctx} {all : List Oper} {F : Fp} (hc : chk all F = true) {K : Act → World → Prop} {Q : Exit → Act → World → Prop} (hQ : ∀ a w, K a w → Q .normal a w) :
    ∀ (fuel : Nat) (listed : Array Bool) (L : List (Nat × Oper × Fp)) (st st' : St) (a : Act) (w : World) (ι : Pl), L.length = fuel → listed.size = all.length →
      (∀ i, i < all.length → (listed.getD i false = false ↔ ∃ p ∈ L, p.1 = i)) → L.Pairwise (fun p q => p.1 < q.1) → (∀ p ∈ L, all[p.1]? = some p.2.1) → (∀ p ∈ L, ∀ f ∈ p.2.2, f ∈ F) →
      (∀ j o, all[j]? = some o → listed.getD j false = true → ∀ e ∈ o.after, Region.binds .any e = true → listed.getD e.on false = true) →
      Ch C.P C.hint all L st st' → Rel C st a w ι → (∀ a' w' ι', Rel C st' a' w' ι' → K a' w') → wpAny C.P .any all.toArray Q fuel listed a w := by
  simp only [chk, Bool.and_eq_true, List.all_eq_true, List.mem_range] at hc
  obtain ⟨hc1, hc2⟩ := hc
  intro fuel
  induction fuel with
  | zero =>
    intro listed L st st' a w ι hl hs hin hp hall hF hcl h hR hn
    obtain rfl : L = [] := List.length_eq_zero_iff.1 hl
    cases h
    refine ⟨?_, hQ _ _ (hn _ _ _ hR)⟩
    cases hr : Region.ready .any all.toArray listed with
    | nil => rfl
    | cons i r =>
      exfalso
      have hm : i ∈ Region.ready .any all.toArray listed := by rw [hr]; exact List.mem_cons_self
      obtain ⟨h1, o, h2, _⟩ := mem_ready.1 hm
      have hi : i < all.length := by simpa using (Array.getElem?_eq_some_iff.1 h2).1
      have : listed.getD i false = false := by
        have hi' : i < listed.size := by omega
        simpa [Array.getD, hi'] using h1
      obtain ⟨p, hp, _⟩ := (hin i hi).1 this
      cases hp
  | succ fuel ih =>
    intro listed L st st' a w ι hl hs hin hp hall hF hcl h hR hn
    have hget : ∀ i, i < all.length → listed.getD i true = listed.getD i false := fun i hi => by
      have hi' : i < listed.size := by omega
      simp [Array.getD, hi']
    refine ⟨fun h0 => ?_, fun i hi => ?_⟩
    · exfalso
      cases L with
      | nil => cases hl
      | cons p r =>
        have h1 := hall p List.mem_cons_self
        have hlt : p.1 < all.length := (List.getElem?_eq_some_iff.1 h1).1
        have : p.1 ∈ Region.ready .any all.toArray listed := by
          rw [mem_ready]
          refine ⟨?_, p.2.1, by simpa using h1, fun e he hb => ?_⟩
          · rw [hget _ hlt]; exact (hin _ hlt).2 ⟨p, List.mem_cons_self, rfl⟩
          · have h2 := hc1 p.1 hlt
            rw [h1] at h2
            have h3 := Array.all_eq_true'.1 h2 e he
            simp only [hb, Bool.not_true, Bool.false_or] at h3
            have h4 : e.on < p.1 := by simpa using h3
            cases hx : listed.getD e.on false with
            | true => rfl
            | false =>
              obtain ⟨q, hq, e1⟩ := (hin e.on (by omega)).1 hx
              rcases List.mem_cons.1 hq with rfl | hq
              · omega
              · have := (List.pairwise_cons.1 hp).1 q hq; omega
        rw [h0] at this
        cases this
    · obtain ⟨h1, o, h2, h3⟩ := mem_ready.1 hi
      have hlt : i < all.length := by simpa using (Array.getElem?_eq_some_iff.1 h2).1
      have hun : listed.getD i false = false := by rw [← hget _ hlt]; exact h1
      obtain ⟨p, hpL, rfl⟩ := (hin i hlt).1 hun
      obtain ⟨i, x, G⟩ := p
      have hx := hall _ hpL
      have hx' : all.toArray[i]? = some x := by simpa using hx
      obtain ⟨pre, post, rfl⟩ := List.append_of_mem hpL
      have hcomm : ∀ q ∈ pre, Comm all q (i, x, G) := fun q hq => by
        have hqL : q ∈ pre ++ (i, x, G) :: post := List.mem_append_left _ hq
        have hlt' : q.1 < i := pairwise_front hp q hq
        have h4 := hc2 i hlt q.1 hlt'
        simp only [Bool.or_eq_true, Bool.and_eq_true] at h4
        rcases h4 with h4 | ⟨h4, h5⟩
        · exfalso
          have := behind_listed hcl all.length i (fun o ho => by
            have : o = x := by rw [hx] at ho; cases ho; rfl
            subst this
            rw [hx'] at h2; cases h2
            exact h3) h4
          have hq' := (hin q.1 (by omega)).2 ⟨q, hqL, rfl⟩
          rw [hq'] at this; cases this
        · rw [hall q hqL, hx] at h4 h5
          obtain ⟨s1, s2, s3⟩ := Oper.apart_spec h4
          refine ⟨s1, s2, s3, fun y hy z hz e => ?_⟩
          have g1 := hF q hqL y hy
          have g2 := hF _ hpL z hz
          have t1 := List.all_eq_true.1 h5 y g1
          have n1 : y.1 = q.1 := h.fst q hqL y hy
          have n2 : z.1 = i := h.fst _ hpL z hz
          simp only [n1, bne_self_eq_false, Bool.false_or] at t1
          have t2 := List.all_eq_true.1 t1 z g2
          simp only [n2, e, bne_self_eq_false, Bool.false_or, Bool.or_eq_true, Bool.not_eq_true', Bool.or_eq_false_iff, softO] at t2
          exact t2
      obtain ⟨sti, st'', g1, g2, g3⟩ := h.front hcomm
      unfold wpOp
      rw [hx']
      refine g1.wp hR fun v w' ι' hR' => ?_
      have hne : ∀ q ∈ pre ++ post, q.1 ≠ i := fun q hq => by
        rcases List.mem_append.1 hq with hq | hq
        · exact Nat.ne_of_lt (pairwise_front hp q hq)
        · exact Nat.ne_of_gt ((List.pairwise_cons.1 (List.pairwise_append.1 hp).2.1).1 q hq)
      have hsub : ∀ q, q ∈ pre ++ post → q ∈ pre ++ (i, x, G) :: post := fun q hq => by
        rcases List.mem_append.1 hq with hq | hq
        · exact List.mem_append_left _ hq
        · exact List.mem_append_right _ (List.mem_cons_of_mem _ hq)
      have hset : (listed.setIfInBounds i true).getD i false = true := by
        have : i < listed.size := by omega
        simp [Array.getD, this]
      refine ih (listed.setIfInBounds i true) (pre ++ post) sti st'' _ _ ι' ?_ (by simp [hs]) (fun t ht => ?_) ?_ (fun q hq => hall q (hsub q hq)) (fun q hq => hF q (hsub q hq)) (fun j o' ho' hj e he hb => ?_) g2 hR' fun a' w' ι'' hR'' => hn a' w' ι'' (hR''.eqv ⟨fun i => (g3.fr i).symm, fun i => (g3.mem i).symm⟩)
      · simp only [List.length_append, List.length_cons] at hl ⊢; omega
      · by_cases e : t = i
        · subst e
          rw [hset]
          exact ⟨fun h => (by cases h), fun ⟨q, hq, e⟩ => absurd e (hne q hq)⟩
        · rw [getD_set_ne false (Ne.symm e), hin t ht]
          constructor
          · rintro ⟨q, hq, rfl⟩
            refine ⟨q, ?_, rfl⟩
            rcases List.mem_append.1 hq with hq | hq
            · exact List.mem_append_left _ hq
            · rcases List.mem_cons.1 hq with rfl | hq
              · exact absurd rfl e
              · exact List.mem_append_right _ hq
          · rintro ⟨q, hq, rfl⟩; exact ⟨q, hsub q hq, rfl⟩
      · exact hp.sublist (List.Sublist.append (List.Sublist.refl _) (List.sublist_cons_self _ _))
      · by_cases e' : j = i
        · subst e'
          rw [hx] at ho'; cases ho'
          rw [hx'] at h2; cases h2
          exact getD_set_true (h3 e he hb)
        · rw [getD_set_ne false (Ne.symm e')] at hj
          exact getD_set_true (hcl j o' ho' hj e he hb)
theorem range'_pairwise (n : Nat) : ∀ k, (List.range' k n).Pairwise (· < ·) := fun k => List.pairwise_lt_range'
theorem good_draw {C : Ctx} {id : Nat} {ops : Array Oper} {k : List Item} {st st' : St} {F : Fp} (hm : C.P.follows .mixedOrders = true) (h : AR C.P C.hint ops.toList 0 ops.toList st F st') (hc : chk ops.toList F = true) (g : Good C k st') : Good C (.code (.region id ops true) :: k) st := by
  intro a w ι hR
  obtain ⟨L, h1, h2, h3, h4⟩ := h.ch
  refine .of_wp (wp_region_any hm ?_)
  obtain ⟨q1, q2⟩ := quiet (w' := { w with drawn := w.drawn + 1 }) hR.mem rfl rfl rfl (Nat.le_refl _) fun _ _ => rfl
  have hR' : Rel C st a { w with drawn := w.drawn + 1 } ι := ⟨hR.size, hR.defers, q1, fun t => (hR.fr t).mono q2, hR.evo.trans q2.evo, hR.keys, hR.x⟩
  have hlen : L.length = ops.toList.length := by rw [← h2, List.length_map]
  have hat : ∀ (i : Nat) (p : Nat × Oper × Fp), L[i]? = some p → p.1 = i ∧ ops.toList[i]? = some p.2.1 := fun i p hp => by
    have e1 : (L.map (·.1))[i]? = some p.1 := by rw [List.getElem?_map, hp]; rfl
    have e2 : (L.map (·.2.1))[i]? = some p.2.1 := by rw [List.getElem?_map, hp]; rfl
    rw [h3] at e1; rw [h2] at e2
    have hi : i < ops.toList.length := (List.getElem?_eq_some_iff.1 e2).1
    rw [List.getElem?_range' hi] at e1
    refine ⟨?_, e2⟩
    have := Option.some.inj e1; omega
  have := any_go (K := Fin C k) (Q := fun e a w => e = .normal ∧ Fin C k a w) hc (fun a w h => ⟨rfl, h⟩) ops.size (Array.replicate ops.size false) L st st' a { w with drawn := w.drawn + 1 } ι (by simpa using hlen) (by simp) (fun i hi => ?_) ?_ (fun p hp => ?_) (fun p hp f hf => ?_) (fun j o ho hj => ?_) h1 hR' g
  · exact this
  · have hi' : i < ops.size := by simpa using hi
    refine ⟨fun _ => ?_, fun _ => by simp [Array.getD, hi']⟩
    have hL : i < L.length := by omega
    exact ⟨L[i], List.getElem_mem hL, (hat i _ (List.getElem?_eq_getElem hL)).1⟩
  · have := range'_pairwise ops.toList.length 0
    rw [← h3] at this
    exact List.pairwise_map.1 this
  · obtain ⟨i, hi⟩ := List.mem_iff_getElem?.1 hp
    obtain ⟨e1, e2⟩ := hat i p hi
    rw [e1]; exact e2
  · rw [← h4]; exact List.mem_flatten.2 ⟨p.2.2, List.mem_map_of_mem (f := (·.2.2)) hp, hf⟩
  · exfalso
    have : j < ops.size := by simpa using (List.getElem?_eq_some_iff.1 ho).1
    simp [Array.getD, this] at hj
end Go.Ab
namespace Go.Ab
set_option linter.unusedVariables false
set_option linter.unusedSimpArgs false
theorem runO_stop {P : Program} {H : Hn} {all : List Oper} : ∀ {l : List Oper} {j j0 : Nat} {l0 : List Oper} {F : Fp} {st : St}, runO P H all j l (.stop j0 l0 F st) = .stop j0 l0 F st
  | [], _, _, _, _, _ => by simp [runO]
  | _ :: _, _, _, _, _, _ => by simp [runO]
theorem runO_fail {P : Program} {H : Hn} {all : List Oper} : ∀ {l : List Oper} {j : Nat}, runO P H all j l .fail = .fail
  | [], _ => by simp [runO]
  | _ :: _, _ => by simp [runO]
theorem AR_run' {P : Program} {H : Hn} {all : List Oper} {j' : Nat} {l' : List Oper} {st1 : St} {F : Fp} : ∀ {l : List Oper} {j : Nat} {F0 : Fp} {st : St}, runO P H all j l (.go F0 st) = .stop j' l' F st1 →
    ∃ F1, F = F0 ++ F1 ∧ ∀ F' st', AR P H all j' l' st1 F' st' → AR P H all j l st (F1 ++ F') st'
  | [], j, F0, st, h => by
    simp only [runO, RS.stop.injEq] at h
    obtain ⟨rfl, rfl, rfl, rfl⟩ := h
    exact ⟨[], by simp, fun F' st' h => h⟩
  | o :: r, j, F0, st, h => by
    simp only [runO] at h
    cases hde : de all st.fr o with
    | op =>
      rw [hde] at h; simp only [step1] at h
      cases hd : dstOk H.1 o.dst with
      | false => rw [hd] at h; simp only [cond_false] at h; rw [runO_fail] at h; cases h
      | true =>
        rw [hd] at h; simp only [cond_true] at h
        cases hs : stepOp P H o st with
        | none => rw [hs] at h; simp only [ofO] at h; rw [runO_fail] at h; cases h
        | some s1 =>
          rw [hs] at h; simp only [ofO] at h
          obtain ⟨F1, e, g⟩ := AR_run' h
          exact ⟨fpOf j o st ++ F1, by rw [e, List.append_assoc], fun F' st' h => by rw [List.append_assoc]; exact .op j o r st s1 st' _ hde hd hs (g F' st' h)⟩
    | skip =>
      rw [hde] at h; simp only [step1] at h
      cases hd : dstOk H.1 o.dst with
      | false => rw [hd] at h; simp only [cond_false] at h; rw [runO_fail] at h; cases h
      | true =>
        rw [hd] at h; simp only [cond_true] at h
        obtain ⟨F1, e, g⟩ := AR_run' h
        exact ⟨F1, e, fun F' st' h => .skip j o r st st' _ hde hd (g F' st' h)⟩
    | call =>
      rw [hde] at h; simp only [step1] at h
      rw [runO_stop] at h
      simp only [RS.stop.injEq] at h
      obtain ⟨rfl, rfl, rfl, rfl⟩ := h
      exact ⟨[], by simp, fun F' st' h => h⟩
    | bad => rw [hde] at h; simp only [step1] at h; rw [runO_fail] at h; cases h
theorem AR_run {P : Program} {H : Hn} {all : List Oper} {j j' : Nat} {l l' : List Oper} {st st1 st' : St} {F F' : Fp} (h : runO P H all j l (.go [] st) = .stop j' l' F st1) (g : AR P H all j' l' st1 F' st') : AR P H all j l st (F ++ F') st' := by
  obtain ⟨F1, e, h2⟩ := AR_run' h
  rw [e]; exact h2 _ _ g
theorem good_stop {C : Ctx} {n : Nat} {it it' : List Item} {st st' : St} (h : run C.P C.hint n (.stop it st) = .stop it' st') (g : Good C it' st') : Good C it st := by
  cases n <;> (simp only [run, CF.stop.injEq] at h; obtain ⟨rfl, rfl⟩ := h; exact g)
theorem run_fail {P : Program} {H : Hn} {n : Nat} : run P H n .fail = .fail := by cases n <;> rfl
theorem run_good {C : Ctx} {n : Nat} {it it' : List Item} {st st' : St} (h : run C.P C.hint n (.on it st) = .stop it' st') (g : Good C it' st') : Good C it st := by
  induction n generalizing it st with
  | zero =>
    simp only [run, CF.stop.injEq] at h
    obtain ⟨rfl, rfl⟩ := h; exact g
  | succ n ih =>
    have done : CF.stop it st = CF.stop it' st' → Good C it st := fun h => by cases h; exact g
    cases it with
    | nil => exact done (by simpa only [run] using h)
    | cons x k =>
      cases x with
      | code c =>
        cases c with
        | skip => exact fun a w ι hR => (ih (by simpa only [run] using h) a w ι hR).of_steps fun b cs => .one step_skip
        | seq x y => exact fun a w ι hR => (ih (by simpa only [run] using h) a w ι hR).of_steps fun b cs => .one step_seq
        | block id c => exact fun a w ι hR => (ih (by simpa only [run] using h) a w ι hR).of_steps fun b cs => .one step_block
        | cond c x y =>
          simp only [run] at h
          intro a w ι hR
          have hv := hR.ev c
          cases hc : oget st.fr c with
          | p pv =>
            cases pv with
            | bool t =>
              rw [hc] at hv h
              refine Fin.of_steps (fun b cs => .one (step_cond hv.bool)) ?_
              cases t
              · exact ih (it := .code y :: k) (by simpa only [condC] using h) a w ι hR
              · exact ih (it := .code x :: k) (by simpa only [condC] using h) a w ι hR
            | _ => rw [hc] at h; simp only [condC, run_fail] at h; cases h
          | _ => rw [hc] at h; simp only [condC, run_fail] at h; cases h
        | exit id =>
          simp only [run] at h
          cases hx : exitTo id k with
          | none => rw [hx] at h; simp only [exitC, run_fail] at h; cases h
          | some k' =>
            rw [hx] at h; simp only [exitC] at h
            exact fun a w ι hR => (ih h a w ι hR).of_steps fun b cs => .one (step_exit hx)
        | region id ops draw =>
          cases draw with
          | true => exact done (by simpa only [run] using h)
          | false =>
            simp only [run] at h
            cases hr : runO C.P C.hint ops.toList 0 ops.toList (.go [] st) with
            | go F s => rw [hr] at h; simp only [afterR, run_fail] at h; cases h
            | fail => rw [hr] at h; simp only [afterR, run_fail] at h; cases h
            | stop j l F s =>
              rw [hr] at h
              cases l with
              | nil =>
                simp only [afterR] at h
                exact good_region (AR_run hr (.nil _ _)) (ih h)
              | cons o r => simp only [afterR] at h; exact good_stop h g
        | _ => exact done (by simpa only [run] using h)
      | inBlock id => exact fun a w ι hR => (ih (by simpa only [run] using h) a w ι hR).of_steps fun b cs => .one step_inBlock
      | _ => exact done (by simpa only [run] using h)
theorem good_loop_ {C : Ctx} {b : Code} {k : List Item} {st : St} (I : Nat → St → Prop) (n : Nat) (h0 : I n st)
  (step : ∀ n st, I n st → (∀ n' st', n' < n → I n' st' → Good C (.inLoop b :: k) st') → Good C (.code b :: .inLoop b :: k) st) : Good C (.code (.loop b) :: k) st := by
  have key : ∀ n st, I n st → Good C (.code b :: .inLoop b :: k) st := by
    intro n
    induction n using Nat.strongRecOn with
    | _ n ih => exact fun st h => step n st h fun n' st' hn h' a w ι hR => (ih n' hn st' h' a w ι hR).of_steps fun b cs => .one step_inLoop
  exact fun a w ι hR => (key n st h0 a w ι hR).of_steps fun b cs => .one step_loop
theorem Ra.le {ι : Pl} {m : Mem} {w : World} {v : Value} {a b : AV} (h : Ra ι m w v a) (hl : Le a b) : Ra ι m w v b := by
  cases hl with
  | refl => exact h
  | u => exact .u v
  | nil b => exact .p v _ (Rp.le h (.nil b))
  | full rows => exact .p v _ (Rp.le h (.full rows))
  | tip k g rows => exact .p v _ (Rp.le h (.tip k g rows))
  | nwp q => exact .p v _ (Rp.le h (.nwp q))
  | odp q => exact .p v _ (Rp.le h (.odp q))
theorem Ra.les {ι : Pl} {m : Mem} {w : World} {vs : Array Value} {as bs : List AV} (hl : vs.size = as.length) (h : ∀ (i : Nat) (v : Value) (c : AV), vs[i]? = some v → as[i]? = some c → Ra ι m w v c) (hle : F2 Le as bs) :
    vs.size = bs.length ∧ ∀ (i : Nat) (v : Value) (c : AV), vs[i]? = some v → bs[i]? = some c → Ra ι m w v c := by
  refine ⟨by rw [hl, hle.len], fun i v c hv hc => ?_⟩
  obtain ⟨a, ha, h'⟩ := hle.get hc
  exact (h i v a hv ha).le h'
theorem Ra.leA {ι : Pl} {m : Mem} {w : World} {v : Value} {a b : AV} (h : Ra ι m w v a) (hl : LeA a b) : Ra ι m w v b := by
  cases hl with
  | of _ _ hl => exact h.le hl
  | clo f as bs as' bs' h1 h2 =>
    cases h with
    | clo _ first caps _ _ l1 l2 h3 h4 =>
      obtain ⟨q1, q2⟩ := Ra.les l1 h3 h1
      obtain ⟨q3, q4⟩ := Ra.les l2 h4 h2
      exact .clo f first caps _ _ q1 q3 q2 q4
  | agg as bs h1 =>
    cases h with
    | agg vs _ l1 hone h3 =>
      obtain ⟨q1, q2⟩ := Ra.les l1 h3 h1
      exact .agg vs bs q1 hone q2
/-- Forget: slots that are known, among those that were. -/
def frLe (fr : List (Nat × AV)) : List (Nat × AV) → Prop
 | [] => True
 | (s, v) :: r => LeA (fget fr s) v ∧ frLe fr r
def leE : Nat × Ob → Nat × Ob → Prop
 | (g, _), (g', .gone) => g = g'
 | (g, ob), (g', ob') => g = g' ∧ LeO ob ob'
def memLe (m : Mem) : Mem → Prop
 | [] => True
 | (k, e) :: r => leE (ent m k) e ∧ memLe m r
def memKeys (m m' : Mem) : Prop := m.all (fun q => (lk m' q.1).isSome) = true ∧ (m'.map (·.1)).Nodup
theorem frLe_get {fr : List (Nat × AV)} {ι : Pl} {m : Mem} {w : World} {v : Value} {t : Nat} (h0 : Ra ι m w v (fget fr t)) : ∀ {fr' : List (Nat × AV)}, frLe fr fr' → Ra ι m w v (fget fr' t)
  | [], _ => .u v
  | (s, x) :: r, h => by
    obtain ⟨h1, h2⟩ := h
    have := frLe_get h0 h2
    unfold fget at this ⊢
    rw [lk_cons]
    by_cases e : s = t
    · subst e; rw [if_pos rfl]; exact h0.leA h1
    · rw [if_neg e]; exact this
theorem memLe_get {m : Mem} {k : Nat} {e : Nat × Ob} : ∀ {m' : Mem}, memLe m m' → lk m' k = some e → leE (ent m k) e
  | [], _, h => by cases h
  | (s, x) :: r, h, hk => by
    obtain ⟨h1, h2⟩ := h
    rw [lk_cons] at hk
    split at hk
    · rename_i e'; subst e'; cases hk; exact h1
    · exact memLe_get h2 hk
theorem leE_spec {e e' : Nat × Ob} (h : leE e e') : e.1 = e'.1 ∧ (e'.2 = .gone ∨ LeO e.2 e'.2) := by
  obtain ⟨g, ob⟩ := e
  obtain ⟨g', ob'⟩ := e'
  cases ob' <;> simp only [leE] at h <;> first | exact ⟨h, .inl rfl⟩ | exact ⟨h.1, .inr h.2⟩
theorem LeO.own' {c : CA} {ob1 ob : Ob} (h : LeO ob1 ob) {b o : Nat} (ho : OwnK c ob b o) : OwnK c ob1 b o := by
  cases ob <;> cases ob1 <;> simp only [LeO] at h <;> first | exact ho | exact h.elim | (obtain ⟨rfl, rfl⟩ := h; exact ho) | (obtain ⟨rfl, rfl, rfl⟩ := h; exact ho) | exact ho.elim
theorem good_weak {C : Ctx} {it : List Item} {st : St} (st' : St) (hf : frLe st.fr st'.fr) (hm : memLe st.mem st'.mem ∧ memKeys st.mem st'.mem) (g : Good C it st') : Good C it st := by
  intro a w ι hR
  refine g a w ι ?_
  have hM := hR.mem
  -- an object of the new memory, seen in the old
  have back_ : ∀ {k g : Nat} {ob' : Ob}, lk st'.mem k = some (g, ob') → ob' ≠ .gone → ∃ ob, lk st.mem k = some (g, ob) ∧ LeO ob ob' := fun {k g ob'} h hn => by
    have h1 := leE_spec (memLe_get hm.1 h)
    simp only at h1
    rcases h1.2 with h2 | h2
    · exact absurd h2 hn
    · unfold ent at h1 h2
      cases hk : lk st.mem k with
      | none => rw [hk] at h2; cases ob' <;> simp [LeO] at h2; exact absurd rfl hn
      | some e => rw [hk] at h1 h2; simp only [Option.getD_some] at h1 h2; exact ⟨e.2, by rw [← h1.1], h2⟩
  have gens : ∀ k, (ent st'.mem k).1 = (ent st.mem k).1 := fun k => by
    cases hk : lk st'.mem k with
    | some e => rw [show ent st'.mem k = e from by simp [ent, hk]]; exact (leE_spec (memLe_get hm.1 hk)).1.symm
    | none =>
      have : lk st.mem k = none := by
        cases hk2 : lk st.mem k with
        | none => rfl
        | some e =>
          have := List.all_eq_true.1 hm.2.1 _ (lk_mem hk2)
          simp only [hk] at this; cases this
      unfold ent; rw [hk, this]
  have ownS : ∀ b o, OwnM ι st'.mem b o → OwnM ι st.mem b o := fun b o ⟨k, g, ob', hk, ho⟩ => by
    obtain ⟨ob, h1, h2⟩ := back_ hk (fun e => by subst e; exact ho)
    exact ⟨k, g, ob, h1, h2.own' ho⟩
  have hK : Keys ι st.mem ι st'.mem := by
    refine ⟨fun k => by rw [gens]; exact Nat.le_refl _, fun k g ob' hk => ?_⟩
    by_cases hn : ob' = .gone
    · exact .inr (.inr hn)
    · obtain ⟨ob, h1, h2⟩ := back_ hk hn
      refine .inl ⟨ob, h1, ?_⟩
      cases ob' <;> cases ob <;> simp only [LeO] at h2 <;> first | exact ⟨⟨_, rfl⟩, rfl⟩ | exact h2.elim | exact trivial | skip
      · obtain ⟨rfl, rfl⟩ := h2; exact ⟨_, rfl, Nat.le_refl _, fun _ => rfl⟩
      · obtain ⟨rfl, rfl⟩ := h2; exact ⟨⟨_, rfl, rfl⟩, rfl⟩
      · cases h2; exact ⟨⟨_, rfl⟩, rfl⟩
      · obtain ⟨rfl, rfl⟩ := h2; exact ⟨⟨_, rfl, rfl⟩, rfl⟩
      · exact ⟨rfl, rfl⟩
      · obtain ⟨rfl, rfl, rfl⟩ := h2; exact ⟨⟨_, rfl⟩, rfl⟩
  have hE : Ext ι st.mem w ι st'.mem w := ⟨⟨rfl, rfl, rfl, Nat.le_refl _, fun _ _ _ => rfl, fun _ _ _ => rfl, fun b o h => .inl (ownS b o h)⟩, hK, rfl⟩
  refine ⟨hR.size, hR.defers, ⟨fun k g ob' hk => ?_, fun k k' g g' ob ob' b o o' h1 h2 ho1 ho2 => ?_, hM.xlt, fun k g ob b o o' h1 ho => ?_, hM.gk.mono hE⟩, fun t => frLe_get ((hR.fr t).mono hE) hf, hR.evo.trans hE.evo, hR.keys.trans hK, hR.x⟩
  · by_cases hn : ob' = .gone
    · subst hn; trivial
    · obtain ⟨ob, h1, h2⟩ := back_ hk hn
      have := (hM.ok k g ob h1).mono hE fun _ _ _ => rfl
      cases ob' with
      | gone => trivial
      | tip s n =>
        cases ob with
        | tip s' n' => obtain ⟨rfl, rfl⟩ := h2; exact this
        | _ => exact (show False from h2).elim
      | map mk ag es =>
        cases ob with
        | map mk' ag' es' => cases (show (mk', ag', es') = (mk, ag, es) from h2); exact this
        | _ => exact (show False from h2).elim
      | bufn s n =>
        cases ob with
        | bufn s' n' => obtain ⟨rfl, rfl⟩ := h2; exact this
        | _ => exact (show False from h2).elim
      | pool =>
        cases ob with
        | pool => exact this
        | _ => exact (show False from h2).elim
      | bld T e s =>
        cases ob with
        | bld T' e' s' => obtain ⟨rfl, rfl, rfl⟩ := h2; exact this
        | _ => exact (show False from h2).elim
      | buf s n =>
        cases ob with
        | buf s' n' => obtain ⟨rfl, rfl⟩ := h2; exact this
        | _ => exact (show False from h2).elim
      | cells cs =>
        cases ob with
        | cells cs' =>
          obtain ⟨vs, t, h4, h5, h6⟩ := this
          obtain ⟨h7, h8⟩ := Ra.les h5 (fun i v c hv hc => (h6 i v c hv hc).1) h2
          refine ⟨vs, t, h4, h7, fun i v c hv hc => ⟨h8 i v c hv hc, ?_⟩⟩
          obtain ⟨a', ha, _⟩ := F2.get h2 hc
          exact (h6 i v a' hv ha).2
        | _ => exact (show False from h2).elim
  · obtain ⟨ob1, e1, e2⟩ := back_ h1 (fun e => by subst e; exact ho1)
    obtain ⟨ob2, f1, f2⟩ := back_ h2 (fun e => by subst e; exact ho2)
    exact hM.apart k k' g g' ob1 ob2 b o o' e1 f1 (e2.own' ho1) (f2.own' ho2)
  · obtain ⟨ob1, e1, e2⟩ := back_ h1 (fun e => by subst e; exact ho)
    exact hM.xapart k g ob1 b o o' e1 (e2.own' ho)
end Go.Ab
namespace Go.Ab
set_option linter.unusedVariables false
set_option linter.unusedSimpArgs false
theorem Ra.ploc {ι ι1 : Pl} {m : Mem} {w : World} (hN : ι1.fr.N = ι.fr.N) (hl : ∀ k, ι1.loc k = ι.loc k) (hs : ∀ b o, Own ι1 m b o → Own ι m b o) {v : Value} {a : AV} (h : Ra ι m w v a) : Ra ι1 m w v a := by
  induction h with
  | u v => exact .u v
  | und => exact .und
  | p v pv h => exact .p v pv (h.anti hs)
  | agg vs cs h0 hone h ih => exact .agg vs cs h0 hone ih
  | tup vs cs h0 h ih => exact .tup vs cs h0 ih
  | ptr v k g off h1 hg h => exact .ptr v k g off h1 hg fun cs hk hC => by rw [hl]; exact h cs hk hC
  | cptr ad cells u hsp h hr => exact .cptr ad cells u hsp (fun j c hj => ⟨(h j c hj).1, fun h' => (h j c hj).2 (hs _ _ h')⟩) fun j c hj => (hr j c hj).anti hs
  | tip v k g rows hg hp h => exact .tip v k g rows hg (hp.anti hs) fun s n hk => by rw [hl]; exact h s n hk
  | buf v k g lo n h1 hg h => exact .buf v k g lo n h1 hg fun s rows hk => by rw [hl]; exact h s rows hk
  | eptr v k g i off h1 hg h => exact .eptr v k g i off h1 hg fun s rows hk => by rw [hl]; exact h s rows hk
  | mp v k g h1 hg h => exact .mp v k g h1 hg fun mk ag es hk => by rw [hl]; exact h mk ag es hk
  | nw v pv h => exact .nw v pv (by rw [hN]; exact h.anti hs)
  | od v pv h => exact .od v pv (by rw [hN]; exact h.anti fun b o h => h.imp (hs b o) id)
  | sh v k g rows h1 hg h => exact .sh v k g rows h1 hg fun hk => by rw [hl]; exact (h hk).anti hs
  | shp v k g row u h1 hg h =>
    exact .shp v k g row u h1 hg fun hk => by
      rw [hl]
      obtain ⟨ad, e, h5, h6⟩ := h hk
      exact ⟨ad, e, h5, fun j c hj => ⟨(h6 j c hj).1, fun hl => ⟨((h6 j c hj).2 hl).1, fun h => ((h6 j c hj).2 hl).2.1 (hs _ _ h), ((h6 j c hj).2 hl).2.2.anti hs⟩⟩⟩
  | clo f first caps fs cs hl1 hl2 h1 h2 ih1 ih2 => exact .clo f first caps fs cs hl1 hl2 ih1 ih2
theorem narrow_own {ι ι1 : Pl} {m : Mem} (hl : ∀ k, ι1.loc k = ι.loc k) (hX : ∀ b o, ι1.fr.X b o → ι.fr.X b o) (b o : Nat) (h : Own ι1 m b o) : Own ι m b o := by
  rcases h with h | ⟨k, g, ob, hk, ho⟩
  · exact .inl (hX b o h)
  · exact .inr ⟨k, g, ob, hk, by rw [← hl]; exact ho⟩
theorem MemOk.narrow {ι ι1 : Pl} {m : Mem} {w : World} (hl : ∀ k, ι1.loc k = ι.loc k) (hX : ∀ b o, ι1.fr.X b o → ι.fr.X b o) (hG : ι1.fr.G = ι.fr.G) (hN : ι1.fr.N = ι.fr.N) (h : MemOk ι m w) : MemOk ι1 m w := by
  have hs := narrow_own (m := m) hl hX
  refine ⟨fun k g ob hk => ?_, fun k k' g g' ob ob' b o o' h1 h2 h3 h4 => h.apart k k' g g' ob ob' b o o' h1 h2 (by rw [← hl]; exact h3) (by rw [← hl]; exact h4), fun b o hx => h.xlt b o (hX b o hx), fun k g ob b o o' hk ho hx => h.xapart k g ob b o o' hk (by rw [← hl]; exact ho) (hX b o' hx), ⟨fun p hp => ⟨(h.gk.1 p (hG ▸ hp)).1, fun o ho => (h.gk.1 p (hG ▸ hp)).2.1 o (hs _ _ ho), by rw [hN]; exact (h.gk.1 p (hG ▸ hp)).2.2⟩, by rw [hN]; exact h.gk.2⟩⟩
  have hO := h.ok k g ob hk
  rw [hl]
  cases ob with
  | cells cs =>
    obtain ⟨vs, t, h1, h2, h3⟩ := hO
    exact ⟨vs, t, h1, h2, fun i v a hv ha => ⟨(h3 i v a hv ha).1.ploc hN hl hs, (h3 i v a hv ha).2⟩⟩
  | tip s n => exact hO
  | buf s rows =>
    obtain ⟨h4, h5, h6, h7, h8⟩ := hO
    refine ⟨h4, h5, h6, h7, fun ad e => ?_⟩
    obtain ⟨h9, h10, vs, t, h11, h12, h13⟩ := h8 ad e
    refine ⟨h9, h10, vs, t, h11, h12, fun i j row pv hr hp => ?_⟩
    obtain ⟨v, h14, h15, h16⟩ := h13 i j row pv hr hp
    exact ⟨v, h14, h15.anti hs, h16⟩
  | map mk ag es =>
    obtain ⟨ents, h1, h2, h3⟩ := hO
    refine ⟨ents, h1, h2, fun i en q a b => ?_⟩
    obtain ⟨p1, p2, p3, p4⟩ := h3 i en q a b
    exact ⟨p1, p2, p3, p4.anti hs⟩
  | bufn s rows =>
    obtain ⟨h4, h5, h6, h7, h8⟩ := hO
    refine ⟨h4, h5, h6, h7, fun ad e => ?_⟩
    obtain ⟨h9, h10, hN', vs, t, h11, h12, h13⟩ := h8 ad e
    rw [hN]
    refine ⟨h9, h10, hN', vs, t, h11, h12, fun i j row pv hr hp => ?_⟩
    obtain ⟨v, h14, h15, h16⟩ := h13 i j row pv hr hp
    exact ⟨v, h14, h15.anti hs, h16⟩
  | pool => exact hO
  | bld T e s => exact hO
  | gone => trivial
section
variable {σ : Sg} {mc m : Mem} {ι : Pl} {w : World}
theorem downB (hf : Fits σ mc m) {v : Value} {a b : AV} (h : Ra ι m w v a) (hl : LeA a (renB σ b)) (hok : okB (inn σ mc) b = true) : Ra (ιc σ mc m ι) mc w v b := by
  cases b with
  | clo f fs cs =>
    simp only [okB, ok1, Bool.and_eq_true] at hok
    simp only [renB, ren1] at hl
    have fin : ∀ {as bs : List AV}, Ra ι m w v (.clo f as bs) → F2 Le as (fs.map (ren0 σ)) → F2 Le bs (cs.map (ren0 σ)) → Ra (ιc σ mc m ι) mc w v (.clo f fs cs) := fun {as bs} h h1 h2 => by
      cases h with
      | clo _ first caps _ _ hl1 hl2 h3 h4 =>
        obtain ⟨h5, h6⟩ := downs0 hf hl1 h3 h1 hok.1
        obtain ⟨h7, h8⟩ := downs0 hf hl2 h4 h2 hok.2
        exact .clo f first caps fs cs h5 h7 h6 h8
    cases hl with
    | of _ _ hl =>
      cases hl with
      | refl => exact fin h (F2.reflLe _) (F2.reflLe _)
    | clo _ as bs _ _ h1 h2 => exact fin h h1 h2
  | tup => simp [okB, ok1, ok0] at hok
  | _ => exact downA hf h hl hok
theorem LeA.refl' : ∀ (l : List AV), F2 LeA l l
  | [] => .nil
  | a :: r => .cons (.of _ _ (.refl a)) (LeA.refl' r)
theorem downT (hf : Fits σ mc m) {v : Value} {a b : AV} (h : Ra ι m w v a) (hl : LeT a (renA σ b)) (hok : okT (inn σ mc) b = true) : Ra (ιc σ mc m ι) mc w v b := by
  have key : ∀ {as bs : List AV}, Ra ι m w v (.tup as) → F2 LeA as (bs.map (renB σ)) → bs.all (okB (inn σ mc)) = true → Ra (ιc σ mc m ι) mc w v (.tup bs) := fun {as bs} h h1 h2 => by
    cases h with
    | tup vs _ h0 h =>
      refine .tup vs bs (by rw [h0, h1.len, List.length_map]) fun i v c hv hc => ?_
      obtain ⟨a, ha, h3⟩ := h1.get (i := i) (b := renB σ c) (by rw [List.getElem?_map, hc]; rfl)
      exact downB hf (h i v a hv ha) h3 (List.all_eq_true.1 h2 c (List.mem_of_getElem? hc))
  have key2 : ∀ b', renA σ b' = ren0 σ b' → LeT a (renA σ b') → okT (inn σ mc) b' = true → okT (inn σ mc) b' = okA (inn σ mc) b' → Ra (ιc σ mc m ι) mc w v b' := fun b' e1 h1 h2 e2 => by
    have hfl : flat (renA σ b') = true := by rw [e1]; exact ren0_flat σ b'
    refine downA hf h ?_ (e2 ▸ h2)
    revert h1 hfl
    generalize renA σ b' = c
    intro h1 hfl
    cases h1 with
    | of _ _ h => exact h
    | tup as bs => cases hfl
  cases b with
  | tup bs =>
    simp only [renA] at hl
    cases hl with
    | of _ _ hl => cases hl with | of _ _ hl => cases hl with | refl => exact key h (LeA.refl' _) hok
    | tup as _ h1 => exact key h h1 hok
  | clo f x y =>
    simp only [renA] at hl
    cases hl with
    | of _ _ hl => exact downA (b := .clo f x y) hf h hl hok
  | agg x =>
    simp only [renA, renB] at hl
    cases hl with
    | of _ _ hl => exact downA (b := .agg x) hf h hl hok
  | _ => exact key2 _ rfl hl hok rfl
end
def ιe (σ : Sg) (ι : Pl) : Pl where
  loc k := match lk σ k with | some (_, k', _) => ι k' | none => ι k
  fr := ι.fr
def resOne (P : Program) (st : St) : ResultVar → Option AV
 | .tmp t => some (fget st.fr t)
 | .cell a t => match fget st.fr a with
   | .ptr k g o => (match lk st.mem k with | some (g', .cells cs) => bif g == g' then ld P t (cs.drop o) else none | _ => none)
   | _ => none
def resAll (P : Program) (st : St) : List ResultVar → Option (List AV)
 | [] => some []
 | r :: rs => (resOne P st r).bind fun v => (resAll P st rs).map (v :: ·)
def tupOf : List AV → AV
 | [v] => v
 | vs => .tup vs
def resOf (P : Program) (rs : List ResultVar) (st : St) : Option AV := (resAll P st rs).map tupOf
/-- What the contract says of the memory, of the memory at the end; and of that at the start. -/
def EndOk (σ : Sg) (m m' m0 : Mem) : Prop :=
  Fits σ m' m ∧ (∀ q ∈ m', lk σ q.1 = some (q.2.1, q.1, q.2.1) ∨ (ent m0 q.1).1 < q.2.1) ∧ ∀ q ∈ m0, q.2.1 ≤ (ent m' q.1).1
section
variable {C : Ctx} {st : St} {a : Act} {w : World} {ι : Pl}
def resF (tmps : Array Value) : ResultVar → Sem Value
 | .tmp t => pure (tmps.getD t undef)
 | .cell x t => do loadVar t (← asAddr (tmps.getD x undef))
theorem results_eq (fn : Func) (tmps : Array Value) : results fn tmps = (List.toArray <$> fn.results.toList.mapM (resF tmps)) >>= fun vs => pure (if h : vs.size = 1 then vs[0] else .tuple vs) := by
  unfold results
  rw [array_mapM]
  refine congrArg (fun F => (List.toArray <$> List.mapM (m := Sem) F fn.results.toList) >>= _) (funext fun r => ?_)
  cases r <;> rfl
theorem resOne_run (hR : Rel C st a w ι) {r : ResultVar} {v : AV} (h : resOne C.P st r = some v) :
    ∃ cv, (resF a.tmps r).run C.P w = .ok cv w ∧ Ra ι st.mem w cv v := by
  cases r with
  | tmp t => simp only [resOne, Option.some.injEq] at h; subst h; exact ⟨_, rfl, hR.fr t⟩
  | cell x t =>
    simp only [resOne] at h
    have hx := hR.fr x
    split at h
    · rename_i k g o e
      rw [e] at hx
      split at h
      · rename_i g' cs hk
        obtain ⟨h1, h2⟩ := bif_none h
        obtain rfl : g = g' := by simpa using h1
        have hv := hx.ptrv hk
        obtain ⟨vs, ty, h3, h4, h5⟩ := hR.mem.ok k g _ hk
        obtain ⟨cv, h6, h7⟩ := ld_run h2 ⟨(ι k).blk, o, none⟩ (fun j => (vs[o + j]?).getD undef) (ι := ι) (m := st.mem) (w := w) (fun j c hj => by
          rw [List.getElem?_drop] at hj
          have hj' : o + j < vs.size := by rw [h4]; exact (List.getElem?_eq_some_iff.1 hj).1
          have := h5 (o + j) vs[o + j] c (Array.getElem?_eq_getElem hj') hj
          rw [add_mk]
          refine ⟨?_, ?_⟩
          · simp [World.cell?, h3, hj']
          · simp only [Array.getElem?_eq_getElem hj', Option.getD_some]; exact this)
        refine ⟨cv, ?_, h7⟩
        simp only [resF, hv, asAddr, Sem.run_bind, Sem.run_pure, Result.andThen_ok]
        exact h6
      · cases h
    · cases h
theorem resAll_run (hR : Rel C st a w ι) : ∀ {rs : List ResultVar} {vs : List AV}, resAll C.P st rs = some vs →
    ∃ cvs : List Value, (rs.mapM (m := Sem) (resF a.tmps)).run C.P w = .ok cvs w ∧ cvs.length = vs.length ∧ ∀ (i : Nat) (v : Value) (c : AV), cvs[i]? = some v → vs[i]? = some c → Ra ι st.mem w v c
  | [], vs, h => by simp only [resAll, Option.some.injEq] at h; subst h; exact ⟨[], by simp, rfl, by simp⟩
  | r :: rs, vs, h => by
    simp only [resAll] at h
    obtain ⟨v, h1, h⟩ := Option.bind_eq_some_iff.mp h
    obtain ⟨vs', h2, rfl⟩ := Option.map_eq_some_iff.mp h
    obtain ⟨cv, h3, h4⟩ := resOne_run hR h1
    obtain ⟨cvs, h5, h6, h7⟩ := resAll_run hR h2
    refine ⟨cv :: cvs, ?_, by simp [h6], fun i v c hv hc => ?_⟩
    · rw [List.mapM_cons]
      simp only [Sem.run_bind]
      rw [h3]
      simp only [Result.andThen_ok, h5, Sem.run_pure]
    · cases i with
      | zero => simp at hv hc; rw [← hv, ← hc]; exact h4
      | succ i => simp at hv hc; exact h7 i v c hv hc
theorem res_run (hR : Rel C st a w ι) {fn : Func} {v : AV} (h : resOf C.P fn.results.toList st = some v) : ∃ cv, (results fn a.tmps).run C.P w = .ok cv w ∧ Ra ι st.mem w cv v := by
  obtain ⟨vs, h1, rfl⟩ := Option.map_eq_some_iff.mp h
  obtain ⟨cvs, h2, h3, h4⟩ := resAll_run hR h1
  refine ⟨if h : cvs.toArray.size = 1 then cvs.toArray[0] else .tuple cvs.toArray, ?_, ?_⟩
  · rw [results_eq]
    simp only [Sem.run_bind, Sem.run_map]
    rw [h2]; rfl
  · match cvs, vs, h3 with
    | [x], [y], _ => simpa [tupOf] using h4 0 x y rfl rfl
    | [], [], _ => exact .tup _ _ rfl (by simp)
    | x :: x' :: r, y :: y' :: r', e => exact .tup _ _ (by simpa using e) fun i v c hv hc => h4 i v c (by simpa using hv) hc
theorem end_post (hR : Rel C st a w ι) {σ : Sg} {fn : Func} {v : AV} (hr : resOf C.P fn.results.toList st = some v) (hle : LeT v (renA σ C.res)) (hok : okT (inn σ C.mem) C.res = true) (hm : EndOk σ st.mem C.mem C.m0) :
    ∃ cv, (results fn a.tmps).run C.P w = .ok cv w ∧ Post C (.returned cv) w := by
  obtain ⟨cv, h1, h2⟩ := res_run hR hr
  obtain ⟨hf, hg, h0⟩ := hm
  have hloc : ∀ k, (ιe σ ι).loc k = (ιc σ C.mem st.mem ι).loc k := fun _ => rfl
  have hX : ∀ b o, (ιe σ ι).fr.X b o → (ιc σ C.mem st.mem ι).fr.X b o := fun b o h => .inl h
  have hown : ∀ b o, OwnM (ιe σ ι) C.mem b o → OwnM ι st.mem b o := fun b o h => ownM_sub hf (ι := ι) h
  refine ⟨cv, h1, ιe σ ι, cv, rfl, (downO hR.mem hf).narrow hloc hX rfl rfl, (downT hf h2 hle hok).ploc (show (ιe σ ι).fr.N = (ιc σ C.mem st.mem ι).fr.N from rfl) hloc (narrow_own hloc hX), ?_, ⟨fun k => ?_, fun k g ob' hk => ?_⟩, hR.x⟩
  · exact ⟨hR.evo.os, hR.evo.tape, hR.evo.output, hR.evo.size, hR.evo.blk, hR.evo.cell, fun b o h => hR.evo.own b o (hown b o h)⟩
  · cases hk : lk C.m0 k with
    | none => simp [ent, hk]
    | some e => rw [show ent C.m0 k = e from by simp [ent, hk]]; exact h0 _ (lk_mem hk)
  · rcases hg _ (lk_mem hk) with h | h
    · obtain ⟨_, k', g', ob1, e1, e2, e3⟩ := fits_at hf hk
      simp only at h
      rw [h] at e1; cases e1
      have eι : (ιe σ ι) k = ι k := by simp only [ιe, h]
      rcases hR.keys.2 k g ob1 e2 with ⟨ob, h3, h4⟩ | h3 | h3
      · cases ob' with
        | gone => exact .inr (.inr rfl)
        | cells cs =>
          cases ob1 <;> simp only [renO, LeO] at e3
          exact .inl ⟨ob, h3, h4.1, by rw [eι]; exact h4.2⟩
        | tip s n =>
          cases ob1 <;> simp only [renO, LeO] at e3
          obtain ⟨rfl, rfl⟩ := e3
          obtain ⟨n0, h5, h6, h7⟩ := h4
          exact .inl ⟨ob, h3, n0, h5, h6, fun e => by rw [eι]; exact h7 e⟩
        | map mk ag es =>
          cases ob1 <;> simp only [renO, LeO] at e3
          cases e3
          exact .inl ⟨ob, h3, h4.1, by rw [eι]; exact h4.2⟩
        | buf s rows =>
          cases ob1 <;> simp only [renO, LeO] at e3
          obtain ⟨rfl, rfl⟩ := e3
          exact .inl ⟨ob, h3, h4.1, by rw [eι]; exact h4.2⟩
        | bufn s rows =>
          cases ob1 <;> simp only [renO, LeO] at e3
          obtain ⟨rfl, rfl⟩ := e3
          exact .inl ⟨ob, h3, h4.1, by rw [eι]; exact h4.2⟩
        | pool =>
          cases ob1 <;> simp only [renO, LeO] at e3
          exact .inl ⟨ob, h3, h4.1, by rw [eι]; exact h4.2⟩
        | bld T e s =>
          cases ob1 <;> simp only [renO, LeO] at e3
          obtain ⟨rfl, rfl, rfl⟩ := e3
          exact .inl ⟨ob, h3, h4.1, by rw [eι]; exact h4.2⟩
      · exact .inr (.inl h3)
      · subst h3
        cases ob' <;> simp only [renO, LeO] at e3
        exact .inr (.inr rfl)
    · exact .inr (.inl h)
theorem good_ret_ {fn : Func} {k : List Item} {v : AV} (σ : Sg) (hfn : C.P.funcs[C.f]? = some fn) (hr : resOf C.P fn.results.toList st = some v) (hle : LeT v (renA σ C.res)) (hok : okT (inn σ C.mem) C.res = true) (hm : EndOk σ st.mem C.mem C.m0) : Good C (.code .ret :: k) st := by
  intro a w ι hR b cs hb hk
  obtain ⟨cv, h1, h2⟩ := end_post hR hr hle hok hm
  exact ⟨.returned cv, w, _, h2, .one step_ret, hb, rfl, hR.defers, hk, fn, by show C.P.funcs[b.fn]? = some fn; rw [hb]; exact hfn, h1⟩
theorem good_end_ {fn : Func} {v : AV} (σ : Sg) (hfn : C.P.funcs[C.f]? = some fn) (hr : resOf C.P fn.results.toList st = some v) (hle : LeT v (renA σ C.res)) (hok : okT (inn σ C.mem) C.res = true) (hm : EndOk σ st.mem C.mem C.m0) : Good C [] st := by
  intro a w ι hR b cs hb hk
  obtain ⟨cv, h1, h2⟩ := end_post hR hr hle hok hm
  exact ⟨.returned cv, w, _, h2, .one step_end, hb, rfl, hR.defers, hk, fn, by show C.P.funcs[b.fn]? = some fn; rw [hb]; exact hfn, h1⟩
end
theorem con_intro {P : Program} {f : FuncId} {fn : Func} {c : Code} {args : List AV} {m m' : Mem} {v : AV} {K : Kn} (n : Nat) (H : List Nat) (hf : P.funcs[f]? = some fn) (hnm : (fn.name == "runtime.NumGoroutine") = false) (hb : fn.body = some c) (hn : fn.ntmps = n) (hl : Nat.ble args.length n = true)
  (h : ∀ ι0 w0 (hk : ∀ p ∈ K, p ∈ ι0.fr.G), Good { P := P, f := f, ι0 := ι0, m0 := m, w0 := w0, res := v, mem := m', hint := (n, H, K), kg := hk } [.code c] { fr := (List.range args.length).zip args, mem := m }) : Con K P f args m v m' := by
  have hle : args.length ≤ n := by simpa using hl
  refine ⟨⟨fn, hf, hnm, by rw [hb]; rfl⟩, fun ι w cargs hK hM hA => fun cs => ?_⟩
  have hsz := hA.1
  have hR : Rel { P := P, f := f, ι0 := ι, m0 := m, w0 := w, res := v, mem := m', hint := (n, H, K), kg := hK } { fr := (List.range args.length).zip args, mem := m } { tmps := cargs ++ Array.replicate (n - cargs.size) undef, defers := [] } w ι := by
    refine ⟨by simp only [Array.size_append, Array.size_replicate]; omega, rfl, hM, fun t => ?_, .refl _ _, .refl _ _, rfl⟩
    have hz : ∀ (l : List AV) (k t : Nat), lk ((List.range' k l.length).zip l) t = if k ≤ t then l[t - k]? else none := by
      intro l
      induction l with
      | nil => intro k t; simp [lk]
      | cons x l ih =>
        intro k t
        rw [List.length_cons, List.range'_succ, List.zip_cons_cons, lk_cons, ih]
        by_cases e : k = t
        · subst e; simp
        · by_cases e2 : k ≤ t
          · have e3 : k + 1 ≤ t := by omega
            rw [if_neg e, if_pos e3, if_pos e2]
            have : t - k = (t - (k + 1)) + 1 := by omega
            rw [this, List.getElem?_cons_succ]
          · have e3 : ¬ k + 1 ≤ t := by omega
            rw [if_neg e, if_neg e3, if_neg e2]
    have hz0 := hz args 0 t
    simp only [Nat.zero_le, if_true, Nat.sub_zero, ← List.range_eq_range'] at hz0
    simp only [fget, hz0]
    cases ht : args[t]? with
    | none => exact .u _
    | some a =>
      have hlt : t < cargs.size := by rw [hsz]; exact (List.getElem?_eq_some_iff.1 ht).1
      have : (cargs ++ Array.replicate (n - cargs.size) undef).getD t undef = cargs[t] := by
        rw [Array.getD_eq_getD_getElem?, Array.getElem?_append_left hlt, Array.getElem?_eq_getElem hlt]; rfl
      rw [this]
      exact hA.2 t _ a (Array.getElem?_eq_getElem hlt) ht
  obtain ⟨e, w', fr, h1, h2, h3, h4⟩ := h ι w hK _ w ι hR (Frame.enter P f cargs .normal) cs rfl rfl
  refine ⟨e, w', fr, h1, ?_, h3, h4⟩
  have : Frame.enter P f cargs .normal = (Frame.enter P f cargs .normal).at { tmps := cargs ++ Array.replicate (n - cargs.size) undef, defers := [] } [.code c] := by
    simp [Frame.enter, Frame.at, hf, hb, hn]
  rw [this]; exact h2
/-- A contract of what is called by the row: all blocks are of before. -/
def ConT (K : Kn) (P : Program) (f : FuncId) (args : List AV) (m : Mem) (v : AV) (m' : Mem) : Prop :=
  FnOk P f ∧ ∀ (ι : Pl) (w : World) (cargs : Array Value), w.heap.size ≤ ι.fr.N → (∀ p ∈ K, p ∈ ι.fr.G) → MemOk ι m w → RaL ι m w cargs args →
    Calls P f cargs w fun e w' => ∃ ι' cv, e = .returned cv ∧ MemOk ι' m' w' ∧ Ra ι' m' w' cv v ∧ Evo (OwnM ι m) w (OwnM ι' m') w' ∧ Keys ι m ι' m' ∧ ι'.fr = ι.fr
theorem conT_intro {P : Program} {f : FuncId} {fn : Func} {c : Code} {args : List AV} {m m' : Mem} {v : AV} {K : Kn} (n : Nat) (H : List Nat) (hf : P.funcs[f]? = some fn) (hnm : (fn.name == "runtime.NumGoroutine") = false) (hb : fn.body = some c) (hn : fn.ntmps = n) (hl : Nat.ble args.length n = true)
  (h : ∀ ι0 w0 (hN : w0.heap.size ≤ ι0.fr.N) (hk : ∀ p ∈ K, p ∈ ι0.fr.G), Good { P := P, f := f, ι0 := ι0, m0 := m, w0 := w0, res := v, mem := m', hint := (n, H, K), kg := hk } [.code c] { fr := (List.range args.length).zip args, mem := m }) : ConT K P f args m v m' := by
  have hle : args.length ≤ n := by simpa using hl
  refine ⟨⟨fn, hf, hnm, by rw [hb]; rfl⟩, fun ι w cargs hN hK hM hA => fun cs => ?_⟩
  have hsz := hA.1
  have hR : Rel { P := P, f := f, ι0 := ι, m0 := m, w0 := w, res := v, mem := m', hint := (n, H, K), kg := hK } { fr := (List.range args.length).zip args, mem := m } { tmps := cargs ++ Array.replicate (n - cargs.size) undef, defers := [] } w ι := by
    refine ⟨by simp only [Array.size_append, Array.size_replicate]; omega, rfl, hM, fun t => ?_, .refl _ _, .refl _ _, rfl⟩
    have hz : ∀ (l : List AV) (k t : Nat), lk ((List.range' k l.length).zip l) t = if k ≤ t then l[t - k]? else none := by
      intro l
      induction l with
      | nil => intro k t; simp [lk]
      | cons x l ih =>
        intro k t
        rw [List.length_cons, List.range'_succ, List.zip_cons_cons, lk_cons, ih]
        by_cases e : k = t
        · subst e; simp
        · by_cases e2 : k ≤ t
          · have e3 : k + 1 ≤ t := by omega
            rw [if_neg e, if_pos e3, if_pos e2]
            have : t - k = (t - (k + 1)) + 1 := by omega
            rw [this, List.getElem?_cons_succ]
          · have e3 : ¬ k + 1 ≤ t := by omega
            rw [if_neg e, if_neg e3, if_neg e2]
    have hz0 := hz args 0 t
    simp only [Nat.zero_le, if_true, Nat.sub_zero, ← List.range_eq_range'] at hz0
    simp only [fget, hz0]
    cases ht : args[t]? with
    | none => exact .u _
    | some a =>
      have hlt : t < cargs.size := by rw [hsz]; exact (List.getElem?_eq_some_iff.1 ht).1
      have : (cargs ++ Array.replicate (n - cargs.size) undef).getD t undef = cargs[t] := by
        rw [Array.getD_eq_getD_getElem?, Array.getElem?_append_left hlt, Array.getElem?_eq_getElem hlt]; rfl
      rw [this]
      exact hA.2 t _ a (Array.getElem?_eq_getElem hlt) ht
  obtain ⟨e, w', fr, h1, h2, h3, h4⟩ := h ι w hN hK _ w ι hR (Frame.enter P f cargs .normal) cs rfl rfl
  refine ⟨e, w', fr, h1, ?_, h3, h4⟩
  have : Frame.enter P f cargs .normal = (Frame.enter P f cargs .normal).at { tmps := cargs ++ Array.replicate (n - cargs.size) undef, defers := [] } [.code c] := by
    simp [Frame.enter, Frame.at, hf, hb, hn]
  rw [this]; exact h2
end Go.Ab
namespace Go.Ab
set_option linter.unusedVariables false
set_option linter.unusedSimpArgs false
def plSet (ι : Pl) (k : Nat) (c : CA) : Pl where
  loc j := if j = k then c else ι j
  fr := ι.fr
theorem Ra.nilv {ι : Pl} {m : Mem} {w : World} {v : Value} (h : Ra ι m w v (.p .nilS)) : v = .slice none 0 0 := by cases h with | p _ _ h => cases h; rfl
theorem Ra.fullv {ι : Pl} {m : Mem} {w : World} {v : Value} {rows : Rows} (h : Ra ι m w v (.p (.lst true rows))) : ∃ A, v = .slice A rows.length rows.length ∧ Rp (Own ι m) w v (.lst false rows) := by
  cases h with
  | p _ _ h =>
    have h' := h.unfull
    cases h with
    | lst A cap sz _ _ u hcap hfull => rw [hfull rfl] at h' ⊢; exact ⟨A, rfl, h'⟩
/-- The memory with rows whose room is used up at the name k. -/
theorem adopt_mem {ι : Pl} {m : Mem} {w : World} (hM : MemOk ι m w) (k z : Nat) {A : Option Addr} {rows : Rows} (hz : rowsOk z rows = true) (hv : Rp (Own ι m) w (.slice A rows.length rows.length) (.lst false rows)) :
    ∃ ι', MemOk ι' (mset m k ((ent m k).1 + 1, .tip z rows.length)) w ∧ Ext ι m w ι' (mset m k ((ent m k).1 + 1, .tip z rows.length)) w ∧ Ra ι' (mset m k ((ent m k).1 + 1, .tip z rows.length)) w (.slice A rows.length rows.length) (.tip k ((ent m k).1 + 1) rows) := by
  have hc : (plSet ι k ⟨0, A, rows.length, z, fun _ _ => False⟩) k = ⟨0, A, rows.length, z, fun _ _ => False⟩ := by simp [plSet]
  obtain ⟨h1, h2⟩ := upd (w' := w) (ι' := plSet ι k ⟨0, A, rows.length, z, fun _ _ => False⟩) (k := k) (e := ((ent m k).1 + 1, .tip z rows.length)) hM (fun j hj => by simp [plSet, hj]) rfl (Nat.le_succ _) (fun h => by simp at h)
    (fun b o h => by rw [hc] at h; obtain ⟨ad, _, _, h1, h2⟩ := h; simp only at h1 h2; omega) rfl rfl rfl (Nat.le_refl _) (fun _ _ _ => rfl) (fun _ _ _ => rfl)
    (fun _ => by rw [hc]; exact ⟨rfl, Nat.le_refl _, fun h => by simp at h⟩)
  have hent : (ent (mset m k ((ent m k).1 + 1, .tip z rows.length)) k).1 = (ent m k).1 + 1 := by rw [ent_of_lk (g := (ent m k).1 + 1) (ob := .tip z rows.length) (by rw [lk_mset, if_pos rfl])]
  refine ⟨_, h1, h2, .tip _ _ _ _ (Nat.le_of_eq hent.symm) (hv.mono h2.evoX) fun s n hk => ?_⟩
  rw [lk_mset, if_pos rfl] at hk
  simp only [Option.some.injEq, Prod.mk.injEq, Ob.tip.injEq] at hk
  obtain ⟨_, rfl, rfl⟩ := hk
  exact ⟨Nat.le_refl _, fun _ => ⟨by rw [hc], fun row hr => by rw [hc]; exact rowsOk_spec hz row hr⟩⟩
theorem Rel.fset {C : Ctx} {st : St} {a : Act} {w : World} {ι ι' : Pl} {m' : Mem} {s : Nat} {x : AV} (hR : Rel C st a w ι) (hM : MemOk ι' m' w) (he : Ext ι st.mem w ι' m' w) (hx : Ra ι' m' w (a.tmps.getD s undef) x) : Rel C { fr := (s, x) :: st.fr, mem := m' } a w ι' := by
  refine ⟨hR.size, hR.defers, hM, fun t => ?_, hR.evo.trans he.evo, hR.keys.trans he.keys, he.x.trans hR.x⟩
  simp only [fget, lk_cons]
  by_cases e : s = t
  · subst e; rw [if_pos rfl]; exact hx
  · rw [if_neg e]; exact (hR.fr t).mono he
/-- A slot that holds the nil slice begins to own rows. -/
theorem good_adopt {C : Ctx} {it : List Item} {st : St} (s k z : Nat) (hs : fget st.fr s = .p .nilS) (g : Good C it { fr := (s, .tip k ((ent st.mem k).1 + 1) []) :: st.fr, mem := mset st.mem k ((ent st.mem k).1 + 1, .tip z 0) }) : Good C it st := by
  intro a w ι hR
  have hv := hR.fr s
  rw [hs] at hv
  have e := hv.nilv
  obtain ⟨ι', h1, h2, h3⟩ := adopt_mem hR.mem k z (A := none) (rows := []) rfl (Rp.nil _ none 0)
  exact g a w ι' (hR.fset h1 h2 (by rw [e]; exact h3))
theorem good_adoptF {C : Ctx} {it : List Item} {st : St} {rows : Rows} (s k z : Nat) (hz : rowsOk z rows = true) (hs : fget st.fr s = .p (.lst true rows)) (g : Good C it { fr := (s, .tip k ((ent st.mem k).1 + 1) rows) :: st.fr, mem := mset st.mem k ((ent st.mem k).1 + 1, .tip z rows.length) }) : Good C it st := by
  intro a w ι hR
  have hv := hR.fr s
  rw [hs] at hv
  obtain ⟨A, e, hp⟩ := hv.fullv
  rw [e] at hp
  obtain ⟨ι', h1, h2, h3⟩ := adopt_mem hR.mem k z hz hp
  exact g a w ι' (hR.fset h1 h2 (by rw [e]; exact h3))
theorem good_adoptc {C : Ctx} {it : List Item} {st : St} (k0 o k z g0 : Nat) (cs : List AV) (hs : lk st.mem k0 = some (g0, .cells cs)) (hc : cs[o]? = some (.p .nilS)) (hk : k ≠ k0)
  (g : Good C it { st with mem := mset (mset st.mem k ((ent st.mem k).1 + 1, .tip z 0)) k0 (g0, .cells (cs.set o (.tip k ((ent st.mem k).1 + 1) []))) }) : Good C it st := by
  intro a w ι hR
  obtain ⟨ι', h1, h2, h3⟩ := adopt_mem hR.mem k z (A := none) (rows := []) rfl (Rp.nil _ none 0)
  simp only [List.length_nil] at h1 h2 h3
  have hlk : lk (mset st.mem k ((ent st.mem k).1 + 1, .tip z 0)) k0 = some (g0, .cells cs) := by rw [lk_mset, if_neg hk]; exact hs
  have hent := ent_of_lk hlk
  obtain ⟨h4, h5⟩ := upd (w' := w) (ι' := ι') (k := k0) (e := (g0, .cells (cs.set o (.tip k ((ent st.mem k).1 + 1) [])))) h1 (fun _ _ => rfl) rfl (by rw [hent]; exact Nat.le_refl _) (fun _ => .inr ⟨_, hlk, ⟨_, rfl⟩, rfl⟩)
    (fun b o h => .inl (by rw [hent]; exact h)) rfl rfl rfl (Nat.le_refl _) (fun _ _ _ => rfl) (fun _ _ _ => rfl)
    (fun he => by
      obtain ⟨vs, t, q1, q2, q3⟩ := h1.ok _ _ _ hlk
      refine ⟨vs, t, q1, by simpa using q2, fun i v c hv hcc => ?_⟩
      rw [List.getElem?_set] at hcc
      split at hcc
      · rename_i e; subst e
        split at hcc
        · cases hcc
          obtain ⟨r1, r2⟩ := q3 o v _ hv hc
          have e := r1.nilv
          exact ⟨by rw [e]; exact h3.mono he, r2⟩
        · cases hcc
      · exact ⟨(q3 i v c hv hcc).1.mono he, (q3 i v c hv hcc).2⟩)
  have hE := h2.trans h5
  exact g a w ι' ⟨hR.size, hR.defers, h4, fun t => (hR.fr t).mono hE, hR.evo.trans hE.evo, hR.keys.trans hE.keys, hE.x.trans hR.x⟩
theorem good_adoptcF {C : Ctx} {it : List Item} {st : St} {rows : Rows} (k0 o k z g0 : Nat) (cs : List AV) (hs : lk st.mem k0 = some (g0, .cells cs)) (hz : rowsOk z rows = true) (hc : cs[o]? = some (.p (.lst true rows))) (hk : k ≠ k0)
  (g : Good C it { st with mem := mset (mset st.mem k ((ent st.mem k).1 + 1, .tip z rows.length)) k0 (g0, .cells (cs.set o (.tip k ((ent st.mem k).1 + 1) rows))) }) : Good C it st := by
  intro a w ι hR
  obtain ⟨v0, hv0, hr0⟩ : ∃ v0, Ra ι st.mem w v0 (.p (.lst true rows)) ∧ ∀ vs t, w.heap[(ι k0).blk]? = some (.cells vs t (0, 0)) → vs.size = cs.length → vs[o]? = some v0 := by
    obtain ⟨vs, t, q1, q2, q3⟩ := hR.mem.ok _ _ _ hs
    have ho : o < vs.size := by rw [q2]; exact (List.getElem?_eq_some_iff.1 hc).1
    exact ⟨vs[o], (q3 o _ _ (Array.getElem?_eq_getElem ho) hc).1, fun vs' t' e1 _ => by rw [q1] at e1; cases e1; exact Array.getElem?_eq_getElem ho⟩
  obtain ⟨A, e0, hp⟩ := hv0.fullv
  rw [e0] at hp
  obtain ⟨ι', h1, h2, h3⟩ := adopt_mem hR.mem k z hz hp
  have hlk : lk (mset st.mem k ((ent st.mem k).1 + 1, .tip z rows.length)) k0 = some (g0, .cells cs) := by rw [lk_mset, if_neg hk]; exact hs
  have hent := ent_of_lk hlk
  obtain ⟨h4, h5⟩ := upd (w' := w) (ι' := ι') (k := k0) (e := (g0, .cells (cs.set o (.tip k ((ent st.mem k).1 + 1) rows)))) h1 (fun _ _ => rfl) rfl (by rw [hent]; exact Nat.le_refl _) (fun _ => .inr ⟨_, hlk, ⟨_, rfl⟩, rfl⟩)
    (fun b o h => .inl (by rw [hent]; exact h)) rfl rfl rfl (Nat.le_refl _) (fun _ _ _ => rfl) (fun _ _ _ => rfl)
    (fun he => by
      obtain ⟨vs, t, q1, q2, q3⟩ := h1.ok _ _ _ hlk
      refine ⟨vs, t, q1, by simpa using q2, fun i v c hv hcc => ?_⟩
      rw [List.getElem?_set] at hcc
      split at hcc
      · rename_i e; subst e
        split at hcc
        · cases hcc
          obtain ⟨r1, r2⟩ := q3 o v _ hv hc
          have hbl : (ι' k0).blk = (ι k0).blk := by
            rcases h2.keys.2 k0 g0 _ hlk with ⟨ob, f1, f2⟩ | f1 | f1
            · exact f2.2
            · rw [ent_of_lk hs] at f1; omega
            · cases f1
          have hv' := hr0 vs t (by rw [← hbl]; exact q1) q2
          have e : v = .slice A rows.length rows.length := by rw [hv'] at hv; cases hv; exact e0
          exact ⟨by rw [e]; exact h3.mono he, r2⟩
        · cases hcc
      · exact ⟨(q3 i v c hv hcc).1.mono he, (q3 i v c hv hcc).2⟩)
  have hE := h2.trans h5
  exact g a w ι' ⟨hR.size, hR.defers, h4, fun t => (hR.fr t).mono hE, hR.evo.trans hE.evo, hR.keys.trans hE.keys, hE.x.trans hR.x⟩
theorem good_freeze {C : Ctx} {it : List Item} {st : St} (s : Nat) {k g lo n z : Nat} {rows : Rows} (hs : fget st.fr s = .buf k g lo n) (hk : lk st.mem k = some (g, .buf z rows))
  (h : Good C it { fr := (s, .p (.lst false ((rows.drop lo).take n))) :: st.fr, mem := mset st.mem k (g, .gone) }) : Good C it st := by
  intro a w ι hR
  have hv := hR.fr s
  rw [hs] at hv
  obtain ⟨hM, hE, hx⟩ := freeze_ra hR.mem hv hk
  exact h a w ι (hR.fset hM hE hx)
/-- Cells whose value is turned into one that says as much. -/
theorem good_cellset {C : Ctx} {it : List Item} {st : St} {m' : Mem} (k0 o : Nat) {g0 : Nat} {cs : List AV} {x y : AV} (hs : lk st.mem k0 = some (g0, .cells cs)) (hc : cs[o]? = some x) (hs' : lk m' k0 = some (g0, .cells cs))
  (hf : ∀ (w : World) (ι : Pl) (v : Value), MemOk ι st.mem w → Ra ι st.mem w v x → ∃ ι', MemOk ι' m' w ∧ Ext ι st.mem w ι' m' w ∧ Ra ι' m' w v y)
  (g : Good C it { st with mem := mset m' k0 (g0, .cells (cs.set o y)) }) : Good C it st := by
  intro a w ι hR
  obtain ⟨v0, hv0, hr0⟩ : ∃ v0, Ra ι st.mem w v0 x ∧ ∀ vs t, w.heap[(ι k0).blk]? = some (.cells vs t (0, 0)) → vs.size = cs.length → vs[o]? = some v0 := by
    obtain ⟨vs, t, q1, q2, q3⟩ := hR.mem.ok _ _ _ hs
    have ho : o < vs.size := by rw [q2]; exact (List.getElem?_eq_some_iff.1 hc).1
    exact ⟨vs[o], (q3 o _ _ (Array.getElem?_eq_getElem ho) hc).1, fun vs' t' e1 _ => by rw [q1] at e1; cases e1; exact Array.getElem?_eq_getElem ho⟩
  obtain ⟨ι', h1, h2, h3⟩ := hf w ι v0 hR.mem hv0
  have hent := ent_of_lk hs'
  obtain ⟨h4, h5⟩ := upd (w' := w) (ι' := ι') (k := k0) (e := (g0, .cells (cs.set o y))) h1 (fun _ _ => rfl) rfl (by rw [hent]; exact Nat.le_refl _) (fun _ => .inr ⟨_, hs', ⟨_, rfl⟩, rfl⟩)
    (fun b o h => .inl (by rw [hent]; exact h)) rfl rfl rfl (Nat.le_refl _) (fun _ _ _ => rfl) (fun _ _ _ => rfl)
    (fun he => by
      obtain ⟨vs, t, q1, q2, q3⟩ := h1.ok _ _ _ hs'
      refine ⟨vs, t, q1, by simpa using q2, fun i v c hv hcc => ?_⟩
      rw [List.getElem?_set] at hcc
      split at hcc
      · rename_i e; subst e
        split at hcc
        · cases hcc
          obtain ⟨r1, r2⟩ := q3 o v _ hv hc
          have hbl : (ι' k0).blk = (ι k0).blk := by
            rcases h2.keys.2 k0 g0 _ hs' with ⟨ob, f1, f2⟩ | f1 | f1
            · exact f2.2
            · rw [ent_of_lk hs] at f1; omega
            · cases f1
          have hv' := hr0 vs t (by rw [← hbl]; exact q1) q2
          have e : v = v0 := by rw [hv'] at hv; exact (Option.some.inj hv).symm
          exact ⟨by rw [e]; exact h3.mono he, r2⟩
        · cases hcc
      · exact ⟨(q3 i v c hv hcc).1.mono he, (q3 i v c hv hcc).2⟩)
  have hE := h2.trans h5
  exact g a w ι' ⟨hR.size, hR.defers, h4, fun t => (hR.fr t).mono hE, hR.evo.trans hE.evo, hR.keys.trans hE.keys, hE.x.trans hR.x⟩
theorem good_freezec {C : Ctx} {it : List Item} {st : St} (k0 o : Nat) {g0 k g lo n z : Nat} {rows : Rows} {cs : List AV} (hs : lk st.mem k0 = some (g0, .cells cs)) (hc : cs[o]? = some (.buf k g lo n)) (hk : lk st.mem k = some (g, .buf z rows)) (hne : k ≠ k0)
  (h : Good C it { st with mem := mset (mset st.mem k (g, .gone)) k0 (g0, .cells (cs.set o (.p (.lst false ((rows.drop lo).take n))))) }) : Good C it st :=
  good_cellset k0 o hs hc (by rw [lk_mset, if_neg hne]; exact hs) (fun w ι v hM hv => ⟨ι, freeze_ra hM hv hk⟩) h
/-- An own object that comes to stand at another name. -/
theorem move_mem {ι : Pl} {m : Mem} {w : World} (hM : MemOk ι m w) {k1 k2 g2 : Nat} {ob : Ob} (hk : lk m k2 = some (g2, ob)) (hne : k1 ≠ k2) :
    MemOk (plSet ι k1 (ι k2)) (mset (mset m k2 (g2, .gone)) k1 ((ent m k1).1 + 1, ob)) w ∧ Ext ι m w (plSet ι k1 (ι k2)) (mset (mset m k2 (g2, .gone)) k1 ((ent m k1).1 + 1, ob)) w := by
  have hl : ∀ j, lk (mset (mset m k2 (g2, .gone)) k1 ((ent m k1).1 + 1, ob)) j = if k1 = j then some ((ent m k1).1 + 1, ob) else if k2 = j then some (g2, .gone) else lk m j := fun j => by rw [lk_mset, lk_mset]
  have hc1 : (plSet ι k1 (ι k2)) k1 = ι k2 := by simp [plSet]
  have hcj : ∀ j, j ≠ k1 → (plSet ι k1 (ι k2)) j = ι j := fun j h => by simp [plSet, h]
  have hown : ∀ b o, OwnM (plSet ι k1 (ι k2)) (mset (mset m k2 (g2, .gone)) k1 ((ent m k1).1 + 1, ob)) b o → OwnM ι m b o := fun b o ho => by
    obtain ⟨j, g, ob', hj, ho⟩ := ho
    rw [hl] at hj
    split at hj
    · rename_i e; subst e; cases hj; rw [hc1] at ho; exact ⟨k2, g2, _, hk, ho⟩
    · split at hj
      · cases hj; exact ho.elim
      · rename_i h1 h2; rw [hcj j (Ne.symm h1)] at ho; exact ⟨j, g, _, hj, ho⟩
  have hext : Ext ι m w (plSet ι k1 (ι k2)) (mset (mset m k2 (g2, .gone)) k1 ((ent m k1).1 + 1, ob)) w := by
    refine ⟨⟨rfl, rfl, rfl, Nat.le_refl _, fun _ _ _ => rfl, fun _ _ _ => rfl, fun b o ho => .inl (hown b o ho)⟩, ⟨fun j => ?_, fun j g ob' hj => ?_⟩, rfl⟩
    · show (ent m j).1 ≤ ((lk (mset (mset m k2 (g2, .gone)) k1 ((ent m k1).1 + 1, ob)) j).getD (0, .gone)).1
      rw [hl]
      split
      · rename_i e; subst e; exact Nat.le_succ _
      · split
        · rename_i e; subst e; rw [ent_of_lk hk]; exact Nat.le_refl _
        · exact Nat.le_refl _
    · rw [hl] at hj
      split at hj
      · rename_i e; subst e; cases hj; exact .inr (.inl (Nat.lt_succ_self _))
      · split at hj
        · cases hj; exact .inr (.inr rfl)
        · rename_i h1 h2
          refine .inl ⟨ob', hj, ?_⟩
          have := hcj j (Ne.symm h1)
          cases ob' <;> simp [Compat, this]
  refine ⟨⟨fun j g ob' hj => ?_, fun j j' g g' ob1 ob2 b o o' hj hj' ho ho' => ?_, fun b o hx => hM.xlt b o hx, fun j g ob' b o o' hj ho hx => ?_, hM.gk.mono hext⟩, hext⟩
  · rw [hl] at hj
    split at hj
    · rename_i e; subst e; cases hj; rw [hc1]; exact (hM.ok k2 g2 _ hk).mono hext fun _ _ _ => rfl
    · split at hj
      · cases hj; trivial
      · rename_i h1 h2; rw [hcj j (Ne.symm h1)]; exact (hM.ok j g _ hj).mono hext fun _ _ _ => rfl
  · rw [hl] at hj hj'
    split at hj
    · rename_i e; subst e; cases hj; rw [hc1] at ho
      split at hj'
      · assumption
      · split at hj'
        · cases hj'; exact ho'.elim
        · rename_i h1 h2; rw [hcj j' (Ne.symm h1)] at ho'
          exact absurd (hM.apart k2 j' g2 g' _ ob2 b o o' hk hj' ho ho') h2
    · split at hj
      · cases hj; exact ho.elim
      · rename_i h1 h2; rw [hcj j (Ne.symm h1)] at ho
        split at hj'
        · rename_i e; subst e; cases hj'; rw [hc1] at ho'
          exact absurd (hM.apart j k2 g g2 ob1 _ b o o' hj hk ho ho').symm h2
        · split at hj'
          · cases hj'; exact ho'.elim
          · rename_i h3 h4; rw [hcj j' (Ne.symm h3)] at ho'; exact hM.apart j j' g g' ob1 ob2 b o o' hj hj' ho ho'
  · rw [hl] at hj
    split at hj
    · rename_i e; subst e; cases hj; rw [hc1] at ho; exact hM.xapart k2 g2 _ b o o' hk ho hx
    · split at hj
      · cases hj; exact ho.elim
      · rename_i h1 h2; rw [hcj j (Ne.symm h1)] at ho; exact hM.xapart j g _ b o o' hj ho hx
theorem move_memT {ι : Pl} {m : Mem} {w : World} (hM : MemOk ι m w) {k1 k2 g2 : Nat} {ob obn : Ob} (hk : lk m k2 = some (g2, ob)) (hne : k1 ≠ k2) (hsub : ∀ b o, OwnK (ι k2) obn b o → OwnK (ι k2) ob b o) (hok : ∀ (ι' : Pl) (m' : Mem) (w' : World), ObOk ι' m' w' (ι k2) ob → ObOk ι' m' w' (ι k2) obn) :
    MemOk (plSet ι k1 (ι k2)) (mset (mset m k2 (g2, .gone)) k1 ((ent m k1).1 + 1, obn)) w ∧ Ext ι m w (plSet ι k1 (ι k2)) (mset (mset m k2 (g2, .gone)) k1 ((ent m k1).1 + 1, obn)) w := by
  have hl : ∀ j, lk (mset (mset m k2 (g2, .gone)) k1 ((ent m k1).1 + 1, obn)) j = if k1 = j then some ((ent m k1).1 + 1, obn) else if k2 = j then some (g2, .gone) else lk m j := fun j => by rw [lk_mset, lk_mset]
  have hc1 : (plSet ι k1 (ι k2)) k1 = ι k2 := by simp [plSet]
  have hcj : ∀ j, j ≠ k1 → (plSet ι k1 (ι k2)) j = ι j := fun j h => by simp [plSet, h]
  have hown : ∀ b o, OwnM (plSet ι k1 (ι k2)) (mset (mset m k2 (g2, .gone)) k1 ((ent m k1).1 + 1, obn)) b o → OwnM ι m b o := fun b o ho => by
    obtain ⟨j, g, ob', hj, ho⟩ := ho
    rw [hl] at hj
    split at hj
    · rename_i e; subst e; cases hj; rw [hc1] at ho; exact ⟨k2, g2, _, hk, hsub _ _ ho⟩
    · split at hj
      · cases hj; exact ho.elim
      · rename_i h1 h2; rw [hcj j (Ne.symm h1)] at ho; exact ⟨j, g, _, hj, ho⟩
  have hext : Ext ι m w (plSet ι k1 (ι k2)) (mset (mset m k2 (g2, .gone)) k1 ((ent m k1).1 + 1, obn)) w := by
    refine ⟨⟨rfl, rfl, rfl, Nat.le_refl _, fun _ _ _ => rfl, fun _ _ _ => rfl, fun b o ho => .inl (hown b o ho)⟩, ⟨fun j => ?_, fun j g ob' hj => ?_⟩, rfl⟩
    · show (ent m j).1 ≤ ((lk (mset (mset m k2 (g2, .gone)) k1 ((ent m k1).1 + 1, obn)) j).getD (0, .gone)).1
      rw [hl]
      split
      · rename_i e; subst e; exact Nat.le_succ _
      · split
        · rename_i e; subst e; rw [ent_of_lk hk]; exact Nat.le_refl _
        · exact Nat.le_refl _
    · rw [hl] at hj
      split at hj
      · rename_i e; subst e; cases hj; exact .inr (.inl (Nat.lt_succ_self _))
      · split at hj
        · cases hj; exact .inr (.inr rfl)
        · rename_i h1 h2
          refine .inl ⟨ob', hj, ?_⟩
          have := hcj j (Ne.symm h1)
          cases ob' <;> simp [Compat, this]
  refine ⟨⟨fun j g ob' hj => ?_, fun j j' g g' ob1 ob2 b o o' hj hj' ho ho' => ?_, fun b o hx => hM.xlt b o hx, fun j g ob' b o o' hj ho hx => ?_, hM.gk.mono hext⟩, hext⟩
  · rw [hl] at hj
    split at hj
    · rename_i e; subst e; cases hj; rw [hc1]; exact hok _ _ _ ((hM.ok k2 g2 _ hk).mono hext fun _ _ _ => rfl)
    · split at hj
      · cases hj; trivial
      · rename_i h1 h2; rw [hcj j (Ne.symm h1)]; exact (hM.ok j g _ hj).mono hext fun _ _ _ => rfl
  · rw [hl] at hj hj'
    split at hj
    · rename_i e; subst e; cases hj; rw [hc1] at ho
      split at hj'
      · assumption
      · split at hj'
        · cases hj'; exact ho'.elim
        · rename_i h1 h2; rw [hcj j' (Ne.symm h1)] at ho'
          exact absurd (hM.apart k2 j' g2 g' _ ob2 b o o' hk hj' (hsub _ _ ho) ho') h2
    · split at hj
      · cases hj; exact ho.elim
      · rename_i h1 h2; rw [hcj j (Ne.symm h1)] at ho
        split at hj'
        · rename_i e; subst e; cases hj'; rw [hc1] at ho'
          exact absurd (hM.apart j k2 g g2 ob1 _ b o o' hj hk ho (hsub _ _ ho')).symm h2
        · split at hj'
          · cases hj'; exact ho'.elim
          · rename_i h3 h4; rw [hcj j' (Ne.symm h3)] at ho'; exact hM.apart j j' g g' ob1 ob2 b o o' hj hj' ho ho'
  · rw [hl] at hj
    split at hj
    · rename_i e; subst e; cases hj; rw [hc1] at ho; exact hM.xapart k2 g2 _ b o o' hk (hsub _ _ ho) hx
    · split at hj
      · cases hj; exact ho.elim
      · rename_i h1 h2; rw [hcj j (Ne.symm h1)] at ho; exact hM.xapart j g _ b o o' hj ho hx
theorem move_mp {ι : Pl} {m : Mem} {w : World} {v : Value} {k1 k2 g2 : Nat} {mk : MK} {ag : Bool} {es : Ents} (hv : Ra ι m w v (.mp k2 g2)) (hk : lk m k2 = some (g2, .map mk ag es)) :
    Ra (plSet ι k1 (ι k2)) (mset (mset m k2 (g2, .gone)) k1 ((ent m k1).1 + 1, .map mk ag es)) w v (.mp k1 ((ent m k1).1 + 1)) := by
  have hv' := hv.mpv hk
  refine .mp v k1 _ (by rw [hv']; rfl) ?_ fun mk' ag' es' _ => ?_
  · unfold ent; rw [lk_mset, if_pos rfl]; exact Nat.le_refl _
  · rw [hv']; simp [plSet]
theorem good_movec {C : Ctx} {it : List Item} {st : St} (k0 o k1 k2 : Nat) {g0 g2 : Nat} {mk : MK} {ag : Bool} {es : Ents} {cs : List AV} (hs : lk st.mem k0 = some (g0, .cells cs)) (hc : cs[o]? = some (.mp k2 g2)) (hk : lk st.mem k2 = some (g2, .map mk ag es)) (hne : k1 ≠ k2 ∧ k1 ≠ k0 ∧ k2 ≠ k0)
  (h : Good C it { st with mem := mset (mset (mset st.mem k2 (g2, .gone)) k1 ((ent st.mem k1).1 + 1, .map mk ag es)) k0 (g0, .cells (cs.set o (.mp k1 ((ent st.mem k1).1 + 1)))) }) : Good C it st :=
  good_cellset k0 o hs hc (by rw [lk_mset, if_neg hne.2.1, lk_mset, if_neg hne.2.2]; exact hs) (fun w ι v hM hv => ⟨_, (move_mem hM hk hne.1).1, (move_mem hM hk hne.1).2, move_mp hv hk⟩) h
theorem good_move {C : Ctx} {it : List Item} {st : St} (s k1 k2 : Nat) {g2 : Nat} {mk : MK} {ag : Bool} {es : Ents} (hs : fget st.fr s = .mp k2 g2) (hk : lk st.mem k2 = some (g2, .map mk ag es)) (hne : k1 ≠ k2)
  (h : Good C it { fr := (s, .mp k1 ((ent st.mem k1).1 + 1)) :: st.fr, mem := mset (mset st.mem k2 (g2, .gone)) k1 ((ent st.mem k1).1 + 1, .map mk ag es) }) : Good C it st := by
  intro a w ι hR
  have hv := hR.fr s
  rw [hs] at hv
  exact h a w _ (hR.fset (move_mem hR.mem hk hne).1 (move_mem hR.mem hk hne).2 (move_mp hv hk))
theorem move_bf {ι : Pl} {m : Mem} {w : World} {v : Value} {k1 k2 g2 lo n z : Nat} {rows : Rows} (hv : Ra ι m w v (.buf k2 g2 lo n)) (hk : lk m k2 = some (g2, .buf z rows)) :
    Ra (plSet ι k1 (ι k2)) (mset (mset m k2 (g2, .gone)) k1 ((ent m k1).1 + 1, .buf z rows)) w v (.buf k1 ((ent m k1).1 + 1) lo n) := by
  obtain ⟨h1, A, e, hA⟩ := hv.bufv (.inl hk)
  refine .buf v k1 _ lo n (by rw [e]; rfl) ?_ fun s rows' h => ?_
  · unfold ent; rw [lk_mset, if_pos rfl]; exact Nat.le_refl _
  · rw [lk_mset, if_pos rfl] at h
    have hr : rows' = rows := by
      rcases h with h | h
      · cases h; rfl
      · cases h
    subst hr
    exact ⟨h1, A, by rw [e]; simp [plSet], by simpa [plSet] using hA⟩
theorem good_moveB {C : Ctx} {it : List Item} {st : St} (s k1 k2 : Nat) {g2 lo n z : Nat} {rows : Rows} (hs : fget st.fr s = .buf k2 g2 lo n) (hk : lk st.mem k2 = some (g2, .buf z rows)) (hne : k1 ≠ k2)
  (h : Good C it { fr := (s, .buf k1 ((ent st.mem k1).1 + 1) lo n) :: st.fr, mem := mset (mset st.mem k2 (g2, .gone)) k1 ((ent st.mem k1).1 + 1, .buf z rows) }) : Good C it st := by
  intro a w ι hR
  have hv := hR.fr s
  rw [hs] at hv
  exact h a w _ (hR.fset (move_mem hR.mem hk hne).1 (move_mem hR.mem hk hne).2 (move_bf hv hk))
theorem buf_take {ι : Pl} {m : Mem} {w : World} {c : CA} {z : Nat} {rows : Rows} (n : Nat) (h : ObOk ι m w c (.buf z rows)) : ObOk ι m w c (.buf z (rows.take n)) := by
  obtain ⟨h1, h2, h3, h4, h5⟩ := h
  refine ⟨h1, by rw [List.length_take]; omega, h3, fun row hr => h4 row (List.mem_of_mem_take hr), fun ad had => ?_⟩
  obtain ⟨q1, q2, vs, t, q3, q4, q5⟩ := h5 ad had
  refine ⟨q1, q2, vs, t, q3, q4, fun i j row pv hi hj => q5 i j row pv ?_ hj⟩
  rw [List.getElem?_take] at hi
  split at hi
  · exact hi
  · cases hi
/-- Own rows of which the head is handed on: the rest is forgotten. -/
theorem good_moveT {C : Ctx} {it : List Item} {st : St} (s k1 k2 : Nat) {g2 n z : Nat} {rows : Rows} (rows' : Rows) (q : Nat) (hr' : rows.take n = rows') (hq : rows'.length = q) (hs : fget st.fr s = .buf k2 g2 0 n) (hk : lk st.mem k2 = some (g2, .buf z rows)) (hne : k1 ≠ k2)
  (h : Good C it { fr := (s, .buf k1 ((ent st.mem k1).1 + 1) 0 q) :: st.fr, mem := mset (mset st.mem k2 (g2, .gone)) k1 ((ent st.mem k1).1 + 1, .buf z rows') }) : Good C it st := by
  subst hr'; subst hq
  intro a w ι hR
  have hv := hR.fr s
  rw [hs] at hv
  obtain ⟨h1, A, e, hA⟩ := hv.bufv (.inl hk)
  have hl : (rows.take n).length = n := by rw [List.length_take]; omega
  have hM := move_memT (obn := .buf z (rows.take n)) hR.mem hk hne (fun b o ho => ho) (fun ι' m' w' ho => buf_take n ho)
  refine h a w _ (hR.fset hM.1 hM.2 ?_)
  rw [hl]
  refine .buf _ k1 _ 0 n (by rw [e]; rfl) ?_ fun s rows' h => ?_
  · unfold ent; rw [lk_mset, if_pos rfl]; exact Nat.le_refl _
  · rw [lk_mset, if_pos rfl] at h
    have hr : rows' = rows.take n := by
      rcases h with h | h
      · cases h; rfl
      · cases h
    subst hr
    exact ⟨by rw [hl]; omega, A, by rw [e]; simp [plSet], by simpa [plSet] using hA⟩
/-- New own rows become rows that stand, and are new. -/
theorem good_freezeN {C : Ctx} {it : List Item} {st : St} (s : Nat) {k g lo n z : Nat} {rows : Rows} (hs : fget st.fr s = .buf k g lo n) (hk : lk st.mem k = some (g, .bufn z rows))
  (h : Good C it { fr := (s, .nw (.lst false ((rows.drop lo).take n))) :: st.fr, mem := mset st.mem k (g, .gone) }) : Good C it st := by
  intro a w ι hR
  have hv := hR.fr s
  rw [hs] at hv
  obtain ⟨hle, A, e, hA⟩ := hv.bufv (.inr hk)
  have hO := hR.mem.ok _ _ _ hk
  obtain ⟨h4, h5, h6, h7, h8⟩ := hO
  have hent := ent_of_lk hk
  obtain ⟨hM, hE⟩ := upd (w' := w) (ι' := ι) (k := k) (e := (g, .gone)) hR.mem (fun _ _ => rfl) rfl (by rw [hent]; exact Nat.le_refl _) (fun _ => .inl rfl) (fun b o h => h.elim) rfl rfl rfl (Nat.le_refl _) (fun _ _ _ => rfl) (fun _ _ _ => rfl) (fun _ => trivial)
  refine h a w ι (hR.fset hM hE ?_)
  rw [e]
  have hlen : ((rows.drop lo).take n).length = n := by rw [List.length_take, List.length_drop]; omega
  have hrow : ∀ (i : Nat) (row : List PV), ((rows.drop lo).take n)[i]? = some row → i < n ∧ rows[lo + i]? = some row := fun i row hi => by
    have hlt : i < n := by
      have := (List.getElem?_eq_some_iff.1 hi).1
      omega
    rw [List.getElem?_take_of_lt hlt, List.getElem?_drop] at hi
    exact ⟨hlt, hi⟩
  have hsz : ∀ (i : Nat) (row : List PV), ((rows.drop lo).take n)[i]? = some row → row.length = (ι k).sz := fun i row hi => h7 row (List.mem_of_getElem? (hrow i row hi).2)
  have hat : ∀ (i : Nat) (row : List PV) (j : Nat) (c : PV), ((rows.drop lo).take n)[i]? = some row → row[j]? = some c → ∃ ad vs t v, A = some (ad.add (lo * (ι k).sz)) ∧ (ι k).base = some ad ∧ ad.off = 0 ∧ ad.spot = none ∧ w.heap[ad.block]? = some (.cells vs t (0, 0)) ∧ vs[(lo + i) * (ι k).sz + j]? = some v ∧ Rn (Own ι st.mem) ι.fr.N w v c ∧ ι.fr.N ≤ ad.block := fun i row j c hi hj => by
    obtain ⟨hlt, hi'⟩ := hrow i row hi
    have hlo : lo + i < rows.length := (List.getElem?_eq_some_iff.1 hi').1
    have hcap : 0 < (ι k).cap := by omega
    cases hb : (ι k).base with
    | none => have := h6 hb; omega
    | some ad =>
      obtain ⟨g1, g2, gN, vs, t, g3, g4, g5⟩ := h8 ad hb
      obtain ⟨v, g6, g7, g8⟩ := g5 (lo + i) j row c hi' hj
      exact ⟨ad, vs, t, v, by rw [hA (by omega), hb]; rfl, rfl, g1, g2, g3, g6, g7, gN⟩
  have hn : ∀ b o, (∃ ad, (ι k).base = some ad ∧ ad.block = b) → ¬ Own ι (mset st.mem k (g, .gone)) b o := fun b o hb ho => by
    rcases ho with ho | ⟨j, gj, obj, hj, ho⟩
    · exact hR.mem.xapart k g _ b o o hk hb ho
    · rw [lk_mset] at hj
      split at hj
      · cases hj; exact ho
      · rename_i hne
        exact hne (hR.mem.apart k j g gj _ obj b o o hk hj hb ho)
  refine .nw _ _ ?_
  have := Rn.lst (Ow := Own ι (mset st.mem k (g, .gone))) (N := ι.fr.N) (w := w) A ((ι k).cap - lo) (ι k).sz ((rows.drop lo).take n)
    (fun i j => match (ι k).base with | some ad => (w.cell? (ad.add ((lo + i) * (ι k).sz + j))).getD undef | none => undef) (by rw [hlen]; omega) hsz
    (fun i row j c hi hj => by
      obtain ⟨ad, vs, t, v, q1, q2, q3, q4, q5, q6, q7, q8⟩ := hat i row j c hi hj
      have hoff : lo * (ι k).sz + (i * (ι k).sz + j) = (lo + i) * (ι k).sz + j := by rw [Nat.add_mul]; omega
      refine ⟨_, q1, add_spot _ _ q4, ?_, by rw [add_block]; exact q8, ?_, vs, t, by rw [add_block]; exact q5⟩
      · rw [add_add, hoff, q2]
        simp only
        have : w.cell? (ad.add ((lo + i) * (ι k).sz + j)) = some v := by
          simp only [World.cell?, add_block, add_off, q5, add_spot _ _ q4, q3, Nat.zero_add]
          simpa using q6
        rw [this]; rfl
      · rw [add_block]
        exact fun o => hn _ _ ⟨ad, q2, rfl⟩)
    (fun i row j c hi hj => by
      obtain ⟨ad, vs, t, v, q1, q2, q3, q4, q5, q6, q7, q8⟩ := hat i row j c hi hj
      rw [q2]
      simp only
      have : w.cell? (ad.add ((lo + i) * (ι k).sz + j)) = some v := by
        simp only [World.cell?, add_block, add_off, q5, add_spot _ _ q4, q3, Nat.zero_add]
        simpa using q6
      rw [this]
      exact q7.mono hE.evoX)
  rwa [hlen] at this

def nilOrE : AV → Bool
 | .p .nilS => true
 | .p (.lst true []) => true
 | _ => false
/-- A slot that holds no rows begins to own rows that are written by index. -/
theorem good_adoptB {C : Ctx} {it : List Item} {st : St} (s k z : Nat) (hs : nilOrE (fget st.fr s) = true) (g : Good C it { fr := (s, .buf k ((ent st.mem k).1 + 1) 0 0) :: st.fr, mem := mset st.mem k ((ent st.mem k).1 + 1, .buf z []) }) : Good C it st := by
  intro a w ι hR
  have hv := hR.fr s
  obtain ⟨A, e⟩ : ∃ A, a.tmps.getD s undef = .slice A 0 0 := by
    unfold nilOrE at hs
    split at hs
    · rename_i e; rw [e] at hv; exact ⟨none, hv.nilv⟩
    · rename_i e; rw [e] at hv
      obtain ⟨A, e, _⟩ := hv.fullv
      exact ⟨A, e⟩
    · cases hs
  let c : CA := { blk := 0, base := none, cap := 0, sz := z }
  obtain ⟨h1, h2⟩ := upd_fresh (w' := w) hR.mem k c (.buf z []) rfl rfl rfl (Nat.le_refl _) (fun _ _ => rfl) (fun b o ho => by
    obtain ⟨ad, h3, _⟩ := ho; cases h3) (fun he => ⟨rfl, Nat.zero_le _, fun _ => rfl, by simp, fun ad had => by cases had⟩)
  refine g a w _ (hR.fset h1 h2 ?_)
  rw [e]
  refine .buf _ k _ 0 _ rfl (by rw [ent_mset]; exact Nat.le_refl _) fun s' rows' hk => ?_
  rcases hk with hk | hk <;> (rw [lk_mset, if_pos rfl] at hk; cases hk)
  exact ⟨Nat.le_refl _, A, by rw [setι_same]; rfl, fun hlt => by rw [setι_same] at hlt; exact absurd hlt (Nat.lt_irrefl _)⟩
theorem good_moveBc {C : Ctx} {it : List Item} {st : St} (k0 o k1 k2 : Nat) {g0 g2 lo n z : Nat} {rows : Rows} {cs : List AV} (hs : lk st.mem k0 = some (g0, .cells cs)) (hc : cs[o]? = some (.buf k2 g2 lo n)) (hk : lk st.mem k2 = some (g2, .buf z rows)) (hne : k1 ≠ k2 ∧ k1 ≠ k0 ∧ k2 ≠ k0)
  (h : Good C it { st with mem := mset (mset (mset st.mem k2 (g2, .gone)) k1 ((ent st.mem k1).1 + 1, .buf z rows)) k0 (g0, .cells (cs.set o (.buf k1 ((ent st.mem k1).1 + 1) lo n))) }) : Good C it st :=
  good_cellset k0 o hs hc (by rw [lk_mset, if_neg hne.2.1, lk_mset, if_neg hne.2.2]; exact hs) (fun w ι v hM hv => ⟨_, (move_mem hM hk hne.1).1, (move_mem hM hk hne.1).2, move_bf hv hk⟩) h
theorem good_adoptBc {C : Ctx} {it : List Item} {st : St} (k0 o k z : Nat) {g0 : Nat} {cs : List AV} (hs : lk st.mem k0 = some (g0, .cells cs)) (hc : cs[o]? = some (.p .nilS)) (hk : k ≠ k0)
  (h : Good C it { st with mem := mset (mset st.mem k ((ent st.mem k).1 + 1, .buf z [])) k0 (g0, .cells (cs.set o (.buf k ((ent st.mem k).1 + 1) 0 0))) }) : Good C it st :=
  good_cellset k0 o hs hc (by rw [lk_mset, if_neg hk]; exact hs) (fun w ι v hM hv => by
    let c : CA := { blk := 0, base := none, cap := 0, sz := z }
    obtain ⟨h1, h2⟩ := upd_fresh (w' := w) hM k c (.buf z []) rfl rfl rfl (Nat.le_refl _) (fun _ _ => rfl) (fun b o ho => by
      obtain ⟨ad, h3, _⟩ := ho; cases h3) (fun he => ⟨rfl, Nat.zero_le _, fun _ => rfl, by simp, fun ad had => by cases had⟩)
    refine ⟨_, h1, h2, ?_⟩
    rw [hv.nilv]
    refine .buf _ k _ 0 _ rfl (by rw [ent_mset]; exact Nat.le_refl _) fun s' rows' hk => ?_
    rcases hk with hk | hk <;> (rw [lk_mset, if_pos rfl] at hk; cases hk)
    exact ⟨Nat.le_refl _, none, by rw [setι_same]; rfl, fun hlt => by rw [setι_same] at hlt; exact absurd hlt (Nat.lt_irrefl _)⟩) h
end Go.Ab
namespace Go.Ab
set_option linter.unusedVariables false
set_option linter.unusedSimpArgs false
def pc : PV → Bool
 | .lst _ (_ :: _) => false
 | _ => true
def clean1 : AV → Bool
 | .p v => pc v
 | .cptr _ => false
 | .tip _ _ _ => false
 | .agg _ => false
 | .tup _ => false
 | .clo _ _ _ => false
 | _ => true
def clean0 : AV → Bool
 | .nw _ => false
 | v => clean1 v
def cleanB : AV → Bool
 | .agg cs => cs.all clean1
 | v => clean1 v
def cleanA : AV → Bool
 | .tup vs => vs.all cleanB
 | .clo _ a b => a.all clean0 && b.all clean0
 | v => cleanB v
def cleanC : AV → Bool
 | .clo _ a b => a.all clean0 && b.all clean0
 | v => clean1 v
def cleanO : Ob → Bool
 | .cells cs => cs.all cleanC
 | .buf _ rows => rows.all fun r => r.all pc
 | .bufn _ rows => false
 | .map _ _ es => es.all fun q => q.2.all pc
 | _ => true
def pool1 (d g : Nat) : AV → AV
 | .nw (.lst _ rows) => .sh d g rows
 | .nw _ => .u
 | v => v
def poolB (d g : Nat) : AV → AV
 | .agg cs => .agg (cs.map (pool1 d g))
 | v => pool1 d g v
def poolA (d g : Nat) : AV → AV
 | .tup vs => .tup (vs.map (poolB d g))
 | v => poolB d g v
def poolO (d g : Nat) : Ob → Ob
 | .cells cs => .cells (cs.map (pool1 d g))
 | o => o
def poolM (d g : Nat) (m : Mem) : Mem := m.map fun q => (q.1, (q.2.1, poolO d g q.2.2))
def plain : Value → Bool
 | .int _ _ => true
 | .bool _ => true
 | .string _ => true
 | _ => false
/-- The plain cells of new blocks that nobody owns. -/
def PoolS (ι : Pl) (m : Mem) (w : World) (b o : Nat) : Prop :=
  ι.fr.N ≤ b ∧ (∀ o', ¬ Own ι m b o') ∧ ∃ vs t v, w.heap[b]? = some (.cells vs t (0, 0)) ∧ vs[o]? = some v ∧ plain v = true
section
variable {ι : Pl} {m : Mem} {w : World} {d : Nat}
theorem Rp.pcT {Ow Ow' : Nat → Nat → Prop} {v : Value} {pv : PV} (h : Rp Ow w v pv) (hp : pc pv = true) : Rp Ow' w v pv := by
  cases h with
  | lst A cap sz full rows u hcap hfull hsz hc hr =>
    cases rows with
    | nil => exact .lst A cap sz full [] u hcap hfull (by simp) (by simp) (by simp)
    | cons _ _ => cases hp
  | ifc v b h h' => exact .ifc v b h h'
  | _ => constructor
theorem poolS_no {b o : Nat} {u : Value} (h : PoolS ι m w b o) (hc : w.cell? ⟨b, o, none⟩ = some u) : plain u = true := by
  obtain ⟨_, _, vs, t, v, h1, h2, h3⟩ := h
  simp only [World.cell?, h1] at hc
  simp [h2] at hc
  rw [← hc]; exact h3
theorem Rs.sl {Ow S : Nat → Nat → Prop} {v : Value} {c : PV} (h : Rs Ow S w v c) : plain v = false := by cases h; rfl
theorem Rn.sl {Ow : Nat → Nat → Prop} {N : Nat} {v : Value} {c : PV} (h : Rn Ow N w v c) (hc : c.isL = true) : plain v = false := by cases h <;> first | rfl | cases hc
theorem Rn.pl {Ow : Nat → Nat → Prop} {N : Nat} {v : Value} {c : PV} (h : Rn Ow N w v c) (hc : c.sc = true) : plain v = true := by cases h <;> first | rfl | cases hc
theorem cell_none {ad : Addr} {n : Nat} {u : Value} (h : w.cell? (ad.add n) = some u) : w.cell? ⟨ad.block, ad.off + n, none⟩ = some u := by
  unfold World.cell? at h ⊢
  rw [add_block, add_off] at h
  simp only
  split at h
  · rename_i c t fz hb
    split at h
    · cases h
    · simpa using h
  · cases h
theorem Rs.tr {Ow Ow' S : Nat → Nat → Prop} {S0 : Nat → Nat → Prop} (hO : ∀ b o, Ow' b o → Ow b o ∨ S b o) (hS : ∀ b o u, S b o → w.cell? ⟨b, o, none⟩ = some u → plain u = true) {v : Value} {pv : PV} (h : Rs Ow S0 w v pv) : Rs Ow' S0 w v pv := by
  induction h with
  | lst A cap sz full rows u hcap hsz hA hc hr ih =>
    refine .lst A cap sz full rows u hcap hsz hA (fun i row j c ad h1 h2 h3 => ?_) ih
    obtain ⟨h4, h5⟩ := hc i row j c ad h1 h2 h3
    refine ⟨h4, fun hl => ?_⟩
    obtain ⟨h6, h7⟩ := h5 hl
    refine ⟨h6, fun h => ?_⟩
    rcases hO _ _ h with h | h
    · exact h7 h
    · have := hS _ _ _ h (cell_none h6)
      rw [(ih i row j c h1 h2 hl).sl] at this; cases this
theorem Rn.sh {Ow' : Nat → Nat → Prop} (hO : ∀ b o, Ow' b o → Own ι m b o ∨ PoolS ι m w b o) {v : Value} {pv : PV} (h : Rn (Own ι m) ι.fr.N w v pv) (hl : pv.isL = true) : Rs Ow' (PoolS ι m w) w v pv := by
  induction h with
  | lst A cap sz rows u hcap hsz hc hr ih =>
    refine .lst A cap sz false rows u hcap hsz (fun h1 h2 => ?_) (fun i row j c ad h1 h2 h3 => ?_) (fun i row j c h1 h2 h3 => ih i row j c h1 h2 h3)
    · have e1 : rows[0]? = some rows[0] := List.getElem?_eq_getElem h1
      have e2 := hsz 0 _ e1
      have e3 : rows[0][0]? = some (rows[0]'h1)[0] := List.getElem?_eq_getElem (by omega)
      obtain ⟨ad, e, hs, _⟩ := hc 0 _ 0 _ e1 e3
      exact ⟨ad, e, hs⟩
    · obtain ⟨ad', e, hs, hcell, hN, hno, vs, t, hb⟩ := hc i row j c h1 h2
      rw [h3] at e; cases e
      have hcell' := cell_none hcell
      refine ⟨fun hsc => ⟨hN, hno, vs, t, u i j, hb, ?_, (hr i row j c h1 h2).pl hsc⟩, fun hlc => ⟨hcell, fun h => ?_⟩⟩
      · simp only [World.cell?, hb] at hcell'
        simpa using hcell'
      · rcases hO _ _ h with h | h
        · exact hno _ h
        · have := poolS_no h hcell'
          rw [(hr i row j c h1 h2).sl hlc] at this; cases this
  | _ => cases hl
end
theorem poolM_lk (d g : Nat) : ∀ (m : Mem) (k : Nat), lk (poolM d g m) k = (lk m k).map fun e => (e.1, poolO d g e.2)
  | [], k => rfl
  | (k', e) :: r, k => by
    have ih := poolM_lk d g r k
    unfold poolM at ih ⊢
    rw [List.map_cons, lk_cons, lk_cons]
    by_cases h : k' = k
    · rw [if_pos h, if_pos h]; rfl
    · rw [if_neg h, if_neg h]; exact ih
theorem poolM_ent (d g : Nat) (m : Mem) (k : Nat) : (ent (poolM d g m) k).1 = (ent m k).1 := by
  unfold ent; rw [poolM_lk]; cases lk m k <;> rfl
theorem poolO_own {d g : Nat} {c : CA} {ob : Ob} {b o : Nat} : OwnK c (poolO d g ob) b o ↔ OwnK c ob b o := by cases ob <;> exact Iff.rfl
/-- The new rows of the frame become a pool. -/
theorem good_pool {C : Ctx} {it : List Item} {st : St} (d : Nat) (hN : C.w0.heap.size ≤ C.ι0.fr.N) (hcl : st.fr.all (fun q => cleanA q.2) = true) (hco : st.mem.all (fun q => cleanO q.2.2) = true) (hd : (ent st.mem d).2 = .gone)
  (g : Good C it { fr := st.fr.map (fun q => (q.1, poolA d ((ent st.mem d).1 + 1) q.2)), mem := mset (poolM d ((ent st.mem d).1 + 1) st.mem) d ((ent st.mem d).1 + 1, .pool) }) : Good C it st := by
  intro a w ι hR
  have hM := hR.mem
  let c : CA := { blk := 0, base := none, cap := 0, sz := 0, set := PoolS ι st.mem w }
  have hι : ∀ j, j ≠ d → (setι ι d c) j = ι j := setι_other ι d c
  have hιd : (setι ι d c) d = c := setι_same ι d c
  have hdn : ∀ g ob, lk st.mem d = some (g, ob) → ob = .gone := fun g ob h => by rw [ent_of_lk h] at hd; exact hd
  have hlk : ∀ k, k ≠ d → lk (mset (poolM d ((ent st.mem d).1 + 1) st.mem) d ((ent st.mem d).1 + 1, .pool)) k = (lk st.mem k).map fun e => (e.1, poolO d ((ent st.mem d).1 + 1) e.2) := fun k hk => by rw [lk_mset, if_neg (Ne.symm hk), poolM_lk]
  have hlkd : lk (mset (poolM d ((ent st.mem d).1 + 1) st.mem) d ((ent st.mem d).1 + 1, .pool)) d = some ((ent st.mem d).1 + 1, .pool) := by rw [lk_mset, if_pos rfl]
  have hgen : ∀ k g, g ≤ (ent st.mem k).1 → g ≤ (ent (mset (poolM d ((ent st.mem d).1 + 1) st.mem) d ((ent st.mem d).1 + 1, .pool)) k).1 := fun k g h => by
    by_cases e : k = d
    · subst e; rw [ent_mset]; exact Nat.le_succ_of_le h
    · have : (ent (mset (poolM d ((ent st.mem d).1 + 1) st.mem) d ((ent st.mem d).1 + 1, .pool)) k).1 = (ent st.mem k).1 := by
        unfold ent; rw [show lk (mset (poolM d (((lk st.mem d).getD (0, Ob.gone)).1 + 1) st.mem) d (((lk st.mem d).getD (0, Ob.gone)).1 + 1, .pool)) k = _ from hlk k e]; cases lk st.mem k <;> rfl
      rw [this]; exact h
  have hO : ∀ b o, Own (setι ι d c) (mset (poolM d ((ent st.mem d).1 + 1) st.mem) d ((ent st.mem d).1 + 1, .pool)) b o → Own ι st.mem b o ∨ PoolS ι st.mem w b o := fun b o h => by
    rcases h with h | ⟨k, g, ob, hk, ho⟩
    · exact .inl (.inl h)
    · by_cases e : k = d
      · subst e; rw [hlkd] at hk; cases hk; rw [hιd] at ho; exact .inr ho
      · rw [hlk k e] at hk; rw [hι k e] at ho
        obtain ⟨⟨g0, ob0⟩, h1, h2⟩ := Option.map_eq_some_iff.mp hk
        cases h2
        exact .inl (.inr ⟨k, _, ob0, h1, poolO_own.1 ho⟩)
  have hS : ∀ b o u, PoolS ι st.mem w b o → w.cell? ⟨b, o, none⟩ = some u → plain u = true := fun b o u h hc => poolS_no h hc
  have key : ∀ {k g : Nat} {ob : Ob}, g ≤ (ent st.mem k).1 → lk (mset (poolM d ((ent st.mem d).1 + 1) st.mem) d ((ent st.mem d).1 + 1, .pool)) k = some (g, ob) → (∃ ob0, lk st.mem k = some (g, ob0) ∧ ob = poolO d ((ent st.mem d).1 + 1) ob0) ∧ (setι ι d c) k = ι k := fun {k g ob} hg hk => by
    by_cases e : k = d
    · subst e; rw [hlkd] at hk; cases hk; omega
    · rw [hlk k e] at hk
      obtain ⟨⟨g0, ob0⟩, h1, h2⟩ := Option.map_eq_some_iff.mp hk
      cases h2
      exact ⟨⟨ob0, h1, rfl⟩, hι k e⟩
  have t1 : ∀ {v : Value} {x : AV}, Ra ι st.mem w v x → clean1 x = true → Ra (setι ι d c) (mset (poolM d ((ent st.mem d).1 + 1) st.mem) d ((ent st.mem d).1 + 1, .pool)) w v (pool1 d ((ent st.mem d).1 + 1) x) := fun {v x} h hc => by
    cases h with
    | u => exact .u _
    | und => exact .und
    | p _ pv h => exact .p v pv (h.pcT hc)
    | agg => cases hc
    | tup => cases hc
    | cptr => cases hc
    | tip => cases hc
    | clo => cases hc
    | ptr _ k g off h1 hg h => exact .ptr v k g off h1 (hgen k g hg) fun ob hk hC => by obtain ⟨⟨ob0, e1, rfl⟩, e2⟩ := key hg hk; rw [e2]; exact h ob0 e1 (by cases ob0 <;> first | rfl | cases hC)
    | buf _ k g lo n h1 hg h =>
      exact .buf v k g lo n h1 (hgen k g hg) fun s rows hk => by
        rcases hk with hk | hk
        · obtain ⟨⟨ob0, e1, e3⟩, e2⟩ := key hg hk; cases ob0 <;> cases e3; rw [e2]; exact h s rows (.inl e1)
        · obtain ⟨⟨ob0, e1, e3⟩, e2⟩ := key hg hk; cases ob0 <;> cases e3; rw [e2]; exact h s rows (.inr e1)
    | eptr _ k g i off h1 hg h =>
      exact .eptr v k g i off h1 (hgen k g hg) fun s rows hk => by
        rcases hk with hk | hk
        · obtain ⟨⟨ob0, e1, e3⟩, e2⟩ := key hg hk; cases ob0 <;> cases e3; rw [e2]; exact h s rows (.inl e1)
        · obtain ⟨⟨ob0, e1, e3⟩, e2⟩ := key hg hk; cases ob0 <;> cases e3; rw [e2]; exact h s rows (.inr e1)
    | mp _ k g h1 hg h => exact .mp v k g h1 (hgen k g hg) fun mk ag es hk => by obtain ⟨⟨ob0, e1, e3⟩, e2⟩ := key hg hk; cases ob0 <;> cases e3; rw [e2]; exact h mk ag es e1
    | od _ pv h =>
      exact .od v pv (h.anti fun b o h => by
        rcases h with h | h
        · rcases hO b o h with h | h
          · exact .inl h
          · exact .inr h.1
        · exact .inr h)
    | sh _ k g rows h1 hg h => exact .sh v k g rows h1 (hgen k g hg) fun hk => by obtain ⟨⟨ob0, e1, e3⟩, e2⟩ := key hg hk; cases ob0 <;> cases e3; rw [e2]; exact (h e1).tr hO hS
    | shp _ k g row u h1 hg h =>
      exact .shp v k g row u h1 (hgen k g hg) fun hk => by
        obtain ⟨⟨ob0, e1, e3⟩, e2⟩ := key hg hk
        cases ob0 <;> cases e3
        rw [e2]
        obtain ⟨ad, e, h5, h6⟩ := h e1
        refine ⟨ad, e, h5, fun j c hj => ⟨(h6 j c hj).1, fun hl => ?_⟩⟩
        obtain ⟨q1, q2, q3⟩ := (h6 j c hj).2 hl
        refine ⟨q1, fun h => ?_, q3.tr hO hS⟩
        rcases hO _ _ h with h | h
        · exact q2 h
        · have := poolS_no h (cell_none q1)
          rw [q3.sl] at this; cases this
    | nw _ pv h =>
      cases pv with
      | lst b rows =>
        have hs := (h.sh (Ow' := Own (setι ι d c) (mset (poolM d ((ent st.mem d).1 + 1) st.mem) d ((ent st.mem d).1 + 1, .pool))) hO rfl).unfull
        exact .sh v d _ rows hs.2 (by rw [ent_mset]; exact Nat.le_refl _) fun _ => by rw [hιd]; exact hs.1
      | _ => exact .u _
  have t0 : ∀ {v : Value} {x : AV}, Ra ι st.mem w v x → clean0 x = true → Ra (setι ι d c) (mset (poolM d ((ent st.mem d).1 + 1) st.mem) d ((ent st.mem d).1 + 1, .pool)) w v x := fun {v x} h hc => by
    have hc1 : clean1 x = true := by cases x <;> first | exact hc | cases hc
    have e : pool1 d ((ent st.mem d).1 + 1) x = x := by cases x <;> first | rfl | cases hc
    have := t1 h hc1
    rwa [e] at this
  have tB : ∀ {v : Value} {x : AV}, Ra ι st.mem w v x → cleanB x = true → Ra (setι ι d c) (mset (poolM d ((ent st.mem d).1 + 1) st.mem) d ((ent st.mem d).1 + 1, .pool)) w v (poolB d ((ent st.mem d).1 + 1) x) := fun {v x} h hc => by
    cases x with
    | agg cs =>
      cases h with
      | agg vs _ hl hone h =>
        refine .agg vs _ (by rw [hl, List.length_map]) hone fun i v c hv hcc => ?_
        rw [List.getElem?_map] at hcc
        obtain ⟨b, hb, rfl⟩ := Option.map_eq_some_iff.mp hcc
        exact t1 (h i v b hv hb) (List.all_eq_true.1 hc b (List.mem_of_getElem? hb))
    | _ => exact t1 h hc
  have tC : ∀ {v : Value} {x : AV}, Ra ι st.mem w v x → cleanC x = true → Ra (setι ι d c) (mset (poolM d ((ent st.mem d).1 + 1) st.mem) d ((ent st.mem d).1 + 1, .pool)) w v (pool1 d ((ent st.mem d).1 + 1) x) := fun {v x} h hc => by
    cases x with
    | clo f x y =>
      simp only [cleanC, Bool.and_eq_true] at hc
      cases h with
      | clo _ first caps _ _ l1 l2 h1 h2 =>
        exact .clo f first caps x y l1 l2 (fun i v c hv hcc => t0 (h1 i v c hv hcc) (List.all_eq_true.1 hc.1 c (List.mem_of_getElem? hcc))) (fun i v c hv hcc => t0 (h2 i v c hv hcc) (List.all_eq_true.1 hc.2 c (List.mem_of_getElem? hcc)))
    | _ => exact t1 h hc
  have tA : ∀ {v : Value} {x : AV}, Ra ι st.mem w v x → cleanA x = true → Ra (setι ι d c) (mset (poolM d ((ent st.mem d).1 + 1) st.mem) d ((ent st.mem d).1 + 1, .pool)) w v (poolA d ((ent st.mem d).1 + 1) x) := fun {v x} h hc => by
    cases x with
    | tup cs =>
      cases h with
      | tup vs _ hl h =>
        refine .tup vs _ (by rw [hl, List.length_map]) fun i v c hv hcc => ?_
        rw [List.getElem?_map] at hcc
        obtain ⟨b, hb, rfl⟩ := Option.map_eq_some_iff.mp hcc
        exact tB (h i v b hv hb) (List.all_eq_true.1 hc b (List.mem_of_getElem? hb))
    | clo f x y =>
      simp only [cleanA, Bool.and_eq_true] at hc
      cases h with
      | clo _ first caps _ _ l1 l2 h1 h2 =>
        exact .clo f first caps x y l1 l2 (fun i v c hv hcc => t0 (h1 i v c hv hcc) (List.all_eq_true.1 hc.1 c (List.mem_of_getElem? hcc))) (fun i v c hv hcc => t0 (h2 i v c hv hcc) (List.all_eq_true.1 hc.2 c (List.mem_of_getElem? hcc)))
    | _ => exact tB h hc
  refine g a w (setι ι d c) ⟨hR.size, hR.defers, ⟨fun k g ob hk => ?_, fun k k' g g' ob ob' b o o' h1 h2 ho1 ho2 => ?_, hM.xlt, fun k g ob b o o' hk ho hx => ?_, ⟨fun p hp => ?_, hM.gk.2⟩⟩, fun t => ?_, ?_, ?_, hR.x⟩
  · by_cases e : k = d
    · subst e; rw [hlkd] at hk; cases hk; rw [hιd]
      intro b o h
      obtain ⟨_, _, vs, t, v, h1, h2, _⟩ := h
      exact ⟨vs, t, h1, (Array.getElem?_eq_some_iff.1 h2).1⟩
    · rw [hlk k e] at hk; rw [hι k e]
      obtain ⟨⟨g0, ob0⟩, hk0, e3⟩ := Option.map_eq_some_iff.mp hk
      cases e3
      clear hk
      have hk := hk0
      have hO' := hM.ok k _ ob0 hk
      have hcc := List.all_eq_true.1 hco _ (lk_mem hk)
      simp only at hcc
      cases ob0 with
      | cells cs =>
        obtain ⟨vs, t, h1, h2, h3⟩ := hO'
        refine ⟨vs, t, h1, by rw [h2, List.length_map], fun i v x hv hx => ?_⟩
        rw [List.getElem?_map] at hx
        obtain ⟨b, hb, rfl⟩ := Option.map_eq_some_iff.mp hx
        refine ⟨tC (h3 i v b hv hb).1 (List.all_eq_true.1 hcc b (List.mem_of_getElem? hb)), (h3 i v b hv hb).2⟩
      | tip s n => exact hO'
      | buf s rows =>
        obtain ⟨h4, h5, h6, h7, h8⟩ := hO'
        refine ⟨h4, h5, h6, h7, fun ad e => ?_⟩
        obtain ⟨h9, h10, vs, t, h11, h12, h13⟩ := h8 ad e
        refine ⟨h9, h10, vs, t, h11, h12, fun i j row pv hr hp => ?_⟩
        obtain ⟨v, h14, h15, h16⟩ := h13 i j row pv hr hp
        exact ⟨v, h14, h15.pcT (List.all_eq_true.1 (List.all_eq_true.1 hcc row (List.mem_of_getElem? hr)) pv (List.mem_of_getElem? hp)), h16⟩
      | bufn s rows => cases hcc
      | map mk ag es =>
        obtain ⟨ents, h1, h2, h3⟩ := hO'
        refine ⟨ents, h1, h2, fun i en q q1 q2 => ?_⟩
        obtain ⟨p1, p2, p3, p4, p5⟩ := h3 i en q q1 q2
        have hq := List.all_eq_true.1 hcc q (List.mem_of_getElem? q2)
        refine ⟨p1, p2, p3, fun ha => ?_, fun ha => ?_⟩
        · obtain ⟨p, e1, e2⟩ := p4 ha
          simp only [e1, List.all_cons, List.all_nil, Bool.and_true] at hq
          exact ⟨p, e1, e2.pcT hq⟩
        · obtain ⟨vs, e1, e2, e3⟩ := p5 ha
          exact ⟨vs, e1, e2, fun j u p r1 r2 => (e3 j u p r1 r2).pcT (List.all_eq_true.1 hq p (List.mem_of_getElem? r2))⟩
      | pool => exact hO'
      | bld T e s => exact hO'
      | gone => trivial
  · have side : ∀ {j : Nat} {g : Nat} {ob : Ob} {o o' : Nat}, j ≠ d → lk st.mem j = some (g, ob) → OwnK (ι j) ob b o → PoolS ι st.mem w b o' → False := fun {j g ob o o'} hj h1 h2 h3 => h3.2.1 o (.inr ⟨j, g, ob, h1, h2⟩)
    by_cases e : k = d
    · subst e
      by_cases e' : k' = k
      · exact e'.symm
      · rw [hlk k' e'] at h2; rw [hι k' e'] at ho2
        obtain ⟨⟨g0, ob0⟩, q2, e3⟩ := Option.map_eq_some_iff.mp h2; cases e3
        rw [hlkd] at h1; cases h1; rw [hιd] at ho1
        exact (side e' q2 (poolO_own.1 ho2) ho1).elim
    · rw [hlk k e] at h1; rw [hι k e] at ho1
      obtain ⟨⟨g0, ob0⟩, q1, e3⟩ := Option.map_eq_some_iff.mp h1; cases e3
      by_cases e' : k' = d
      · subst e'
        rw [hlkd] at h2; cases h2; rw [hιd] at ho2
        exact (side e q1 (poolO_own.1 ho1) ho2).elim
      · rw [hlk k' e'] at h2; rw [hι k' e'] at ho2
        obtain ⟨⟨g0', ob0'⟩, q2, e3⟩ := Option.map_eq_some_iff.mp h2; cases e3
        exact hM.apart k k' _ _ _ _ b o o' q1 q2 (poolO_own.1 ho1) (poolO_own.1 ho2)
  · by_cases e : k = d
    · subst e; rw [hlkd] at hk; cases hk; rw [hιd] at ho
      exact ho.2.1 o' (.inl hx)
    · rw [hlk k e] at hk; rw [hι k e] at ho
      obtain ⟨⟨g0, ob0⟩, h1, e3⟩ := Option.map_eq_some_iff.mp hk; cases e3
      exact hM.xapart k _ _ b o o' h1 (poolO_own.1 ho) hx
  · obtain ⟨h1, h2, h3⟩ := hM.gk.1 p hp
    refine ⟨h1, fun o h => ?_, h3⟩
    rcases hO _ _ h with h | h
    · exact h2 o h
    · exact absurd h.1 (Nat.not_le.mpr h3)
  · have hf : ∀ (l : List (Nat × AV)) , l.all (fun q => cleanA q.2) = true → Ra ι st.mem w (a.tmps.getD t undef) (fget l t) → Ra (setι ι d c) (mset (poolM d ((ent st.mem d).1 + 1) st.mem) d ((ent st.mem d).1 + 1, .pool)) w (a.tmps.getD t undef) (fget (l.map fun q => (q.1, poolA d ((ent st.mem d).1 + 1) q.2)) t) := fun l => by
      induction l with
      | nil => intro _ _; exact .u _
      | cons q r ih =>
        intro hc h
        obtain ⟨s, x⟩ := q
        rw [List.all_cons, Bool.and_eq_true] at hc
        unfold fget at h ih ⊢
        rw [List.map_cons, lk_cons]
        rw [lk_cons] at h
        by_cases e : s = t
        · rw [if_pos e] at h ⊢; exact tA h hc.1
        · rw [if_neg e] at h ⊢; exact ih hc.2 h
    exact hf st.fr hcl (hR.fr t)
  · refine ⟨hR.evo.os, hR.evo.tape, hR.evo.output, hR.evo.size, hR.evo.blk, hR.evo.cell, fun b o h => ?_⟩
    obtain ⟨k, g, ob, hk, ho⟩ := h
    by_cases e : k = d
    · subst e; rw [hlkd] at hk; cases hk; rw [hιd] at ho
      exact .inr (Nat.le_trans hN (by rw [← hR.x]; exact ho.1))
    · rw [hlk k e] at hk; rw [hι k e] at ho
      obtain ⟨⟨g0, ob0⟩, h1, e3⟩ := Option.map_eq_some_iff.mp hk; cases e3
      exact hR.evo.own b o ⟨k, _, _, h1, poolO_own.1 ho⟩
  · refine ⟨fun k => Nat.le_trans (hR.keys.1 k) (hgen k _ (Nat.le_refl _)), fun k g ob' hk => ?_⟩
    by_cases e : k = d
    · subst e; rw [hlkd] at hk; cases hk
      exact .inr (.inl (Nat.lt_succ_of_le (hR.keys.1 k)))
    · rw [hlk k e] at hk
      obtain ⟨⟨g0, ob0⟩, hk0, e3⟩ := Option.map_eq_some_iff.mp hk; cases e3
      rcases hR.keys.2 k _ ob0 hk0 with ⟨ob, h1, h2⟩ | h | h
      · refine .inl ⟨ob, h1, ?_⟩
        have := hι k e
        cases ob0 <;> simp only [poolO, Compat, this] at h2 ⊢ <;> exact h2
      · exact .inr (.inl h)
      · subst h; exact .inr (.inr rfl)
end Go.Ab
