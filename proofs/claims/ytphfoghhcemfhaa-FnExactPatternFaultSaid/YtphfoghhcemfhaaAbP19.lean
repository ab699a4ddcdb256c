/- The rules of a walk: stretches that the kernel computes, loops, forgetting. -/
import Derived.Test.YtphfoghhcemfhaaAbP18
namespace Go.Ab
set_option linter.unusedVariables false
set_option linter.unusedSimpArgs false
theorem runO_stop {P : Program} {H : Hn} {all : List Oper} : ∀ {l : List Oper} {j j0 : Nat} {l0 : List Oper} {F : Fp} {st : St}, runO P H all j l (.stop j0 l0 F st) = .stop j0 l0 F st
  | [], _, _, _, _, _ => by simp [runO]
  | _ :: _, _, _, _, _, _ => by simp [runO]
theorem runO_fail {P : Program} {H : Hn} {all : List Oper} : ∀ {l : List Oper} {j : Nat}, runO P H all j l .fail = .fail
  | [], _ => by simp [runO]
  | _ :: _, _ => by simp [runO]
theorem AR_run' {P : Program} {H : Hn} {all : List Oper} {j' : Nat} {l' : List Oper} {st1 : St} {F : Fp} : ∀ {l : List Oper} {j : Nat} {F0 : Fp} {st : St}, runO P H all j l (.go F0 st) = .stop j' l' F st1 →
    ∃ F1, F = F0 ++ F1 ∧ ∀ F' st', AR P H all j' l' st1 F' st' → AR P H all j l st (F1 ++ F') st'
  | [], j, F0, st, h => by
    simp only [runO, RS.stop.injEq] at h
    obtain ⟨rfl, rfl, rfl, rfl⟩ := h
    exact ⟨[], by simp, fun F' st' h => h⟩
  | o :: r, j, F0, st, h => by
    simp only [runO] at h
    cases hde : de all st.fr o with
    | op =>
      rw [hde] at h; simp only [step1] at h
      cases hd : dstOk H.1 o.dst with
      | false => rw [hd] at h; simp only [cond_false] at h; rw [runO_fail] at h; cases h
      | true =>
        rw [hd] at h; simp only [cond_true] at h
        cases hs : stepOp P H o st with
        | none => rw [hs] at h; simp only [ofO] at h; rw [runO_fail] at h; cases h
        | some s1 =>
          rw [hs] at h; simp only [ofO] at h
          obtain ⟨F1, e, g⟩ := AR_run' h
          exact ⟨fpOf j o st ++ F1, by rw [e, List.append_assoc], fun F' st' h => by rw [List.append_assoc]; exact .op j o r st s1 st' _ hde hd hs (g F' st' h)⟩
    | skip =>
      rw [hde] at h; simp only [step1] at h
      cases hd : dstOk H.1 o.dst with
      | false => rw [hd] at h; simp only [cond_false] at h; rw [runO_fail] at h; cases h
      | true =>
        rw [hd] at h; simp only [cond_true] at h
        obtain ⟨F1, e, g⟩ := AR_run' h
        exact ⟨F1, e, fun F' st' h => .skip j o r st st' _ hde hd (g F' st' h)⟩
    | call =>
      rw [hde] at h; simp only [step1] at h
      rw [runO_stop] at h
      simp only [RS.stop.injEq] at h
      obtain ⟨rfl, rfl, rfl, rfl⟩ := h
      exact ⟨[], by simp, fun F' st' h => h⟩
    | bad => rw [hde] at h; simp only [step1] at h; rw [runO_fail] at h; cases h
theorem AR_run {P : Program} {H : Hn} {all : List Oper} {j j' : Nat} {l l' : List Oper} {st st1 st' : St} {F F' : Fp} (h : runO P H all j l (.go [] st) = .stop j' l' F st1) (g : AR P H all j' l' st1 F' st') : AR P H all j l st (F ++ F') st' := by
  obtain ⟨F1, e, h2⟩ := AR_run' h
  rw [e]; exact h2 _ _ g
theorem good_stop {C : Ctx} {n : Nat} {it it' : List Item} {st st' : St} (h : run C.P C.hint n (.stop it st) = .stop it' st') (g : Good C it' st') : Good C it st := by
  cases n <;> (simp only [run, CF.stop.injEq] at h; obtain ⟨rfl, rfl⟩ := h; exact g)
theorem run_fail {P : Program} {H : Hn} {n : Nat} : run P H n .fail = .fail := by cases n <;> rfl
theorem run_good {C : Ctx} {n : Nat} {it it' : List Item} {st st' : St} (h : run C.P C.hint n (.on it st) = .stop it' st') (g : Good C it' st') : Good C it st := by
  induction n generalizing it st with
  | zero =>
    simp only [run, CF.stop.injEq] at h
    obtain ⟨rfl, rfl⟩ := h; exact g
  | succ n ih =>
    have done : CF.stop it st = CF.stop it' st' → Good C it st := fun h => by cases h; exact g
    cases it with
    | nil => exact done (by simpa only [run] using h)
    | cons x k =>
      cases x with
      | code c =>
        cases c with
        | skip => exact fun a w ι hR => (ih (by simpa only [run] using h) a w ι hR).of_steps fun b cs => .one step_skip
        | seq x y => exact fun a w ι hR => (ih (by simpa only [run] using h) a w ι hR).of_steps fun b cs => .one step_seq
        | block id c => exact fun a w ι hR => (ih (by simpa only [run] using h) a w ι hR).of_steps fun b cs => .one step_block
        | cond c x y =>
          simp only [run] at h
          intro a w ι hR
          have hv := hR.ev c
          cases hc : oget st.fr c with
          | p pv =>
            cases pv with
            | bool t =>
              rw [hc] at hv h
              refine Fin.of_steps (fun b cs => .one (step_cond hv.bool)) ?_
              cases t
              · exact ih (it := .code y :: k) (by simpa only [condC] using h) a w ι hR
              · exact ih (it := .code x :: k) (by simpa only [condC] using h) a w ι hR
            | _ => rw [hc] at h; simp only [condC, run_fail] at h; cases h
          | _ => rw [hc] at h; simp only [condC, run_fail] at h; cases h
        | exit id =>
          simp only [run] at h
          cases hx : exitTo id k with
          | none => rw [hx] at h; simp only [exitC, run_fail] at h; cases h
          | some k' =>
            rw [hx] at h; simp only [exitC] at h
            exact fun a w ι hR => (ih h a w ι hR).of_steps fun b cs => .one (step_exit hx)
        | region id ops draw =>
          cases draw with
          | true => exact done (by simpa only [run] using h)
          | false =>
            simp only [run] at h
            cases hr : runO C.P C.hint ops.toList 0 ops.toList (.go [] st) with
            | go F s => rw [hr] at h; simp only [afterR, run_fail] at h; cases h
            | fail => rw [hr] at h; simp only [afterR, run_fail] at h; cases h
            | stop j l F s =>
              rw [hr] at h
              cases l with
              | nil =>
                simp only [afterR] at h
                exact good_region (AR_run hr (.nil _ _)) (ih h)
              | cons o r => simp only [afterR] at h; exact good_stop h g
        | _ => exact done (by simpa only [run] using h)
      | inBlock id => exact fun a w ι hR => (ih (by simpa only [run] using h) a w ι hR).of_steps fun b cs => .one step_inBlock
      | _ => exact done (by simpa only [run] using h)
theorem good_loop_ {C : Ctx} {b : Code} {k : List Item} {st : St} (I : Nat → St → Prop) (n : Nat) (h0 : I n st)
  (step : ∀ n st, I n st → (∀ n' st', n' < n → I n' st' → Good C (.inLoop b :: k) st') → Good C (.code b :: .inLoop b :: k) st) : Good C (.code (.loop b) :: k) st := by
  have key : ∀ n st, I n st → Good C (.code b :: .inLoop b :: k) st := by
    intro n
    induction n using Nat.strongRecOn with
    | _ n ih => exact fun st h => step n st h fun n' st' hn h' a w ι hR => (ih n' hn st' h' a w ι hR).of_steps fun b cs => .one step_inLoop
  exact fun a w ι hR => (key n st h0 a w ι hR).of_steps fun b cs => .one step_loop
theorem Ra.le {ι : Pl} {m : Mem} {w : World} {v : Value} {a b : AV} (h : Ra ι m w v a) (hl : Le a b) : Ra ι m w v b := by
  cases hl with
  | refl => exact h
  | u => exact .u v
  | nil b => exact .p v _ (Rp.le h (.nil b))
  | full rows => exact .p v _ (Rp.le h (.full rows))
  | tip k g rows => exact .p v _ (Rp.le h (.tip k g rows))
theorem Ra.les {ι : Pl} {m : Mem} {w : World} {vs : Array Value} {as bs : List AV} (hl : vs.size = as.length) (h : ∀ (i : Nat) (v : Value) (c : AV), vs[i]? = some v → as[i]? = some c → Ra ι m w v c) (hle : F2 Le as bs) :
    vs.size = bs.length ∧ ∀ (i : Nat) (v : Value) (c : AV), vs[i]? = some v → bs[i]? = some c → Ra ι m w v c := by
  refine ⟨by rw [hl, hle.len], fun i v c hv hc => ?_⟩
  obtain ⟨a, ha, h'⟩ := hle.get hc
  exact (h i v a hv ha).le h'
theorem Ra.leA {ι : Pl} {m : Mem} {w : World} {v : Value} {a b : AV} (h : Ra ι m w v a) (hl : LeA a b) : Ra ι m w v b := by
  cases hl with
  | of _ _ hl => exact h.le hl
  | clo f as bs as' bs' h1 h2 =>
    cases h with
    | clo _ first caps _ _ l1 l2 h3 h4 =>
      obtain ⟨q1, q2⟩ := Ra.les l1 h3 h1
      obtain ⟨q3, q4⟩ := Ra.les l2 h4 h2
      exact .clo f first caps _ _ q1 q3 q2 q4
  | agg as bs h1 =>
    cases h with
    | agg vs _ l1 hone h3 =>
      obtain ⟨q1, q2⟩ := Ra.les l1 h3 h1
      exact .agg vs bs q1 hone q2
/-- Forget: slots that are known, among those that were. -/
def frLe (fr : List (Nat × AV)) : List (Nat × AV) → Prop
 | [] => True
 | (s, v) :: r => LeA (fget fr s) v ∧ frLe fr r
def leE : Nat × Ob → Nat × Ob → Prop
 | (g, _), (g', .gone) => g = g'
 | (g, ob), (g', ob') => g = g' ∧ LeO ob ob'
def memLe (m : Mem) : Mem → Prop
 | [] => True
 | (k, e) :: r => leE (ent m k) e ∧ memLe m r
def memKeys (m m' : Mem) : Prop := m.all (fun q => (lk m' q.1).isSome) = true ∧ (m'.map (·.1)).Nodup
theorem frLe_get {fr : List (Nat × AV)} {ι : Pl} {m : Mem} {w : World} {v : Value} {t : Nat} (h0 : Ra ι m w v (fget fr t)) : ∀ {fr' : List (Nat × AV)}, frLe fr fr' → Ra ι m w v (fget fr' t)
  | [], _ => .u v
  | (s, x) :: r, h => by
    obtain ⟨h1, h2⟩ := h
    have := frLe_get h0 h2
    unfold fget at this ⊢
    rw [lk_cons]
    by_cases e : s = t
    · subst e; rw [if_pos rfl]; exact h0.leA h1
    · rw [if_neg e]; exact this
theorem memLe_get {m : Mem} {k : Nat} {e : Nat × Ob} : ∀ {m' : Mem}, memLe m m' → lk m' k = some e → leE (ent m k) e
  | [], _, h => by cases h
  | (s, x) :: r, h, hk => by
    obtain ⟨h1, h2⟩ := h
    rw [lk_cons] at hk
    split at hk
    · rename_i e'; subst e'; cases hk; exact h1
    · exact memLe_get h2 hk
theorem leE_spec {e e' : Nat × Ob} (h : leE e e') : e.1 = e'.1 ∧ (e'.2 = .gone ∨ LeO e.2 e'.2) := by
  obtain ⟨g, ob⟩ := e
  obtain ⟨g', ob'⟩ := e'
  cases ob' <;> simp only [leE] at h <;> first | exact ⟨h, .inl rfl⟩ | exact ⟨h.1, .inr h.2⟩
theorem LeO.own' {c : CA} {ob1 ob : Ob} (h : LeO ob1 ob) {b o : Nat} (ho : OwnK c ob b o) : OwnK c ob1 b o := by
  cases ob <;> cases ob1 <;> simp only [LeO] at h <;> first | exact ho | exact h.elim | (obtain ⟨rfl, rfl⟩ := h; exact ho) | exact ho.elim
theorem good_weak {C : Ctx} {it : List Item} {st : St} (st' : St) (hf : frLe st.fr st'.fr) (hm : memLe st.mem st'.mem ∧ memKeys st.mem st'.mem) (g : Good C it st') : Good C it st := by
  intro a w ι hR
  refine g a w ι ?_
  have hM := hR.mem
  -- an object of the new memory, seen in the old
  have back_ : ∀ {k g : Nat} {ob' : Ob}, lk st'.mem k = some (g, ob') → ob' ≠ .gone → ∃ ob, lk st.mem k = some (g, ob) ∧ LeO ob ob' := fun {k g ob'} h hn => by
    have h1 := leE_spec (memLe_get hm.1 h)
    simp only at h1
    rcases h1.2 with h2 | h2
    · exact absurd h2 hn
    · unfold ent at h1 h2
      cases hk : lk st.mem k with
      | none => rw [hk] at h2; cases ob' <;> simp [LeO] at h2; exact absurd rfl hn
      | some e => rw [hk] at h1 h2; simp only [Option.getD_some] at h1 h2; exact ⟨e.2, by rw [← h1.1], h2⟩
  have gens : ∀ k, (ent st'.mem k).1 = (ent st.mem k).1 := fun k => by
    cases hk : lk st'.mem k with
    | some e => rw [show ent st'.mem k = e from by simp [ent, hk]]; exact (leE_spec (memLe_get hm.1 hk)).1.symm
    | none =>
      have : lk st.mem k = none := by
        cases hk2 : lk st.mem k with
        | none => rfl
        | some e =>
          have := List.all_eq_true.1 hm.2.1 _ (lk_mem hk2)
          simp only [hk] at this; cases this
      unfold ent; rw [hk, this]
  have ownS : ∀ b o, OwnM ι st'.mem b o → OwnM ι st.mem b o := fun b o ⟨k, g, ob', hk, ho⟩ => by
    obtain ⟨ob, h1, h2⟩ := back_ hk (fun e => by subst e; exact ho)
    exact ⟨k, g, ob, h1, h2.own' ho⟩
  have hK : Keys ι st.mem ι st'.mem := by
    refine ⟨fun k => by rw [gens]; exact Nat.le_refl _, fun k g ob' hk => ?_⟩
    by_cases hn : ob' = .gone
    · exact .inr (.inr hn)
    · obtain ⟨ob, h1, h2⟩ := back_ hk hn
      refine .inl ⟨ob, h1, ?_⟩
      cases ob' <;> cases ob <;> simp only [LeO] at h2 <;> first | exact ⟨⟨_, rfl⟩, rfl⟩ | exact h2.elim | exact trivial | skip
      · obtain ⟨rfl, rfl⟩ := h2; exact ⟨_, rfl, Nat.le_refl _, fun _ => rfl⟩
      · obtain ⟨rfl, rfl⟩ := h2; exact ⟨⟨_, rfl, rfl⟩, rfl⟩
      · cases h2; exact ⟨⟨_, rfl⟩, rfl⟩
  have hE : Ext ι st.mem w ι st'.mem w := ⟨⟨rfl, rfl, rfl, Nat.le_refl _, fun _ _ _ => rfl, fun _ _ _ => rfl, fun b o h => .inl (ownS b o h)⟩, hK, rfl⟩
  refine ⟨hR.size, hR.defers, ⟨fun k g ob' hk => ?_, fun k k' g g' ob ob' b o o' h1 h2 ho1 ho2 => ?_, hM.xlt, fun k g ob b o o' h1 ho => ?_, hM.gk.mono hE⟩, fun t => frLe_get ((hR.fr t).mono hE) hf, hR.evo.trans hE.evo, hR.keys.trans hK, hR.x⟩
  · by_cases hn : ob' = .gone
    · subst hn; trivial
    · obtain ⟨ob, h1, h2⟩ := back_ hk hn
      have := (hM.ok k g ob h1).mono hE fun _ _ _ => rfl
      cases ob' with
      | gone => trivial
      | tip s n =>
        cases ob with
        | tip s' n' => obtain ⟨rfl, rfl⟩ := h2; exact this
        | _ => exact (show False from h2).elim
      | map mk ag es =>
        cases ob with
        | map mk' ag' es' => cases (show (mk', ag', es') = (mk, ag, es) from h2); exact this
        | _ => exact (show False from h2).elim
      | buf s n =>
        cases ob with
        | buf s' n' => obtain ⟨rfl, rfl⟩ := h2; exact this
        | _ => exact (show False from h2).elim
      | cells cs =>
        cases ob with
        | cells cs' =>
          obtain ⟨vs, t, h4, h5, h6⟩ := this
          obtain ⟨h7, h8⟩ := Ra.les h5 (fun i v c hv hc => (h6 i v c hv hc).1) h2
          refine ⟨vs, t, h4, h7, fun i v c hv hc => ⟨h8 i v c hv hc, ?_⟩⟩
          obtain ⟨a', ha, _⟩ := F2.get h2 hc
          exact (h6 i v a' hv ha).2
        | _ => exact (show False from h2).elim
  · obtain ⟨ob1, e1, e2⟩ := back_ h1 (fun e => by subst e; exact ho1)
    obtain ⟨ob2, f1, f2⟩ := back_ h2 (fun e => by subst e; exact ho2)
    exact hM.apart k k' g g' ob1 ob2 b o o' e1 f1 (e2.own' ho1) (f2.own' ho2)
  · obtain ⟨ob1, e1, e2⟩ := back_ h1 (fun e => by subst e; exact ho)
    exact hM.xapart k g ob1 b o o' e1 (e2.own' ho)
end Go.Ab
