/- Returns; a function's contract from its walk. -/
import Derived.Test.YtphfoghhcemfhaaAbP19
namespace Go.Ab
set_option linter.unusedVariables false
set_option linter.unusedSimpArgs false
theorem Ra.ploc {ι ι1 : Pl} {m : Mem} {w : World} (hl : ∀ k, ι1.loc k = ι.loc k) (hs : ∀ b o, Own ι1 m b o → Own ι m b o) {v : Value} {a : AV} (h : Ra ι m w v a) : Ra ι1 m w v a := by
  induction h with
  | u v => exact .u v
  | und => exact .und
  | p v pv h => exact .p v pv (h.anti hs)
  | agg vs cs h0 hone h ih => exact .agg vs cs h0 hone ih
  | tup vs cs h0 h ih => exact .tup vs cs h0 ih
  | ptr v k g off h1 hg h => exact .ptr v k g off h1 hg fun cs hk => by rw [hl]; exact h cs hk
  | cptr ad cells u hsp h hr => exact .cptr ad cells u hsp (fun j c hj => ⟨(h j c hj).1, fun h' => (h j c hj).2 (hs _ _ h')⟩) fun j c hj => (hr j c hj).anti hs
  | tip v k g rows hg hp h => exact .tip v k g rows hg (hp.anti hs) fun s n hk => by rw [hl]; exact h s n hk
  | buf v k g lo n h1 hg h => exact .buf v k g lo n h1 hg fun s rows hk => by rw [hl]; exact h s rows hk
  | eptr v k g i off h1 hg h => exact .eptr v k g i off h1 hg fun s rows hk => by rw [hl]; exact h s rows hk
  | mp v k g h1 hg h => exact .mp v k g h1 hg fun mk ag es hk => by rw [hl]; exact h mk ag es hk
  | clo f first caps fs cs hl1 hl2 h1 h2 ih1 ih2 => exact .clo f first caps fs cs hl1 hl2 ih1 ih2
theorem narrow_own {ι ι1 : Pl} {m : Mem} (hl : ∀ k, ι1.loc k = ι.loc k) (hX : ∀ b o, ι1.fr.X b o → ι.fr.X b o) (b o : Nat) (h : Own ι1 m b o) : Own ι m b o := by
  rcases h with h | ⟨k, g, ob, hk, ho⟩
  · exact .inl (hX b o h)
  · exact .inr ⟨k, g, ob, hk, by rw [← hl]; exact ho⟩
theorem MemOk.narrow {ι ι1 : Pl} {m : Mem} {w : World} (hl : ∀ k, ι1.loc k = ι.loc k) (hX : ∀ b o, ι1.fr.X b o → ι.fr.X b o) (hG : ι1.fr.G = ι.fr.G) (h : MemOk ι m w) : MemOk ι1 m w := by
  have hs := narrow_own (m := m) hl hX
  refine ⟨fun k g ob hk => ?_, fun k k' g g' ob ob' b o o' h1 h2 h3 h4 => h.apart k k' g g' ob ob' b o o' h1 h2 (by rw [← hl]; exact h3) (by rw [← hl]; exact h4), fun b o hx => h.xlt b o (hX b o hx), fun k g ob b o o' hk ho hx => h.xapart k g ob b o o' hk (by rw [← hl]; exact ho) (hX b o' hx), fun p hp => ⟨(h.gk p (hG ▸ hp)).1, fun o ho => (h.gk p (hG ▸ hp)).2 o (hs _ _ ho)⟩⟩
  have hO := h.ok k g ob hk
  rw [hl]
  cases ob with
  | cells cs =>
    obtain ⟨vs, t, h1, h2, h3⟩ := hO
    exact ⟨vs, t, h1, h2, fun i v a hv ha => ⟨(h3 i v a hv ha).1.ploc hl hs, (h3 i v a hv ha).2⟩⟩
  | tip s n => exact hO
  | buf s rows =>
    obtain ⟨h4, h5, h6, h7, h8⟩ := hO
    refine ⟨h4, h5, h6, h7, fun ad e => ?_⟩
    obtain ⟨h9, h10, vs, t, h11, h12, h13⟩ := h8 ad e
    refine ⟨h9, h10, vs, t, h11, h12, fun i j row pv hr hp => ?_⟩
    obtain ⟨v, h14, h15, h16⟩ := h13 i j row pv hr hp
    exact ⟨v, h14, h15.anti hs, h16⟩
  | map mk ag es =>
    obtain ⟨ents, h1, h2, h3⟩ := hO
    refine ⟨ents, h1, h2, fun i en q a b => ?_⟩
    obtain ⟨p1, p2, p3, p4⟩ := h3 i en q a b
    exact ⟨p1, p2, p3, p4.anti hs⟩
  | gone => trivial
section
variable {σ : Sg} {mc m : Mem} {ι : Pl} {w : World}
theorem downB (hf : Fits σ mc m) {v : Value} {a b : AV} (h : Ra ι m w v a) (hl : LeA a (renB σ b)) (hok : okB (inn σ mc) b = true) : Ra (ιc σ mc m ι) mc w v b := by
  cases b with
  | clo => simp [okB, ok1] at hok
  | tup => simp [okB, ok1] at hok
  | _ => exact downA hf h hl hok
theorem LeA.refl' : ∀ (l : List AV), F2 LeA l l
  | [] => .nil
  | a :: r => .cons (.of _ _ (.refl a)) (LeA.refl' r)
theorem downT (hf : Fits σ mc m) {v : Value} {a b : AV} (h : Ra ι m w v a) (hl : LeT a (renA σ b)) (hok : okT (inn σ mc) b = true) : Ra (ιc σ mc m ι) mc w v b := by
  have key : ∀ {as bs : List AV}, Ra ι m w v (.tup as) → F2 LeA as (bs.map (renB σ)) → bs.all (okB (inn σ mc)) = true → Ra (ιc σ mc m ι) mc w v (.tup bs) := fun {as bs} h h1 h2 => by
    cases h with
    | tup vs _ h0 h =>
      refine .tup vs bs (by rw [h0, h1.len, List.length_map]) fun i v c hv hc => ?_
      obtain ⟨a, ha, h3⟩ := h1.get (i := i) (b := renB σ c) (by rw [List.getElem?_map, hc]; rfl)
      exact downB hf (h i v a hv ha) h3 (List.all_eq_true.1 h2 c (List.mem_of_getElem? hc))
  have key2 : ∀ b', renA σ b' = ren1 σ b' → LeT a (renA σ b') → okT (inn σ mc) b' = true → okT (inn σ mc) b' = okA (inn σ mc) b' → Ra (ιc σ mc m ι) mc w v b' := fun b' e1 h1 h2 e2 => by
    have hfl : flat (renA σ b') = true := by rw [e1]; exact ren1_flat σ b'
    refine downA hf h ?_ (e2 ▸ h2)
    revert h1 hfl
    generalize renA σ b' = c
    intro h1 hfl
    cases h1 with
    | of _ _ h => exact h
    | tup as bs => cases hfl
  cases b with
  | tup bs =>
    simp only [renA] at hl
    cases hl with
    | of _ _ hl => cases hl with | of _ _ hl => cases hl with | refl => exact key h (LeA.refl' _) hok
    | tup as _ h1 => exact key h h1 hok
  | clo f x y =>
    simp only [renA] at hl
    cases hl with
    | of _ _ hl => exact downA (b := .clo f x y) hf h hl hok
  | agg x =>
    simp only [renA, renB] at hl
    cases hl with
    | of _ _ hl => exact downA (b := .agg x) hf h hl hok
  | _ => exact key2 _ rfl hl hok rfl
end
def ιe (σ : Sg) (ι : Pl) : Pl where
  loc k := match lk σ k with | some (_, k', _) => ι k' | none => ι k
  fr := ι.fr
def resOne (P : Program) (st : St) : ResultVar → Option AV
 | .tmp t => some (fget st.fr t)
 | .cell a t => match fget st.fr a with
   | .ptr k g o => (match lk st.mem k with | some (g', .cells cs) => bif g == g' then ld P t (cs.drop o) else none | _ => none)
   | _ => none
def resAll (P : Program) (st : St) : List ResultVar → Option (List AV)
 | [] => some []
 | r :: rs => (resOne P st r).bind fun v => (resAll P st rs).map (v :: ·)
def tupOf : List AV → AV
 | [v] => v
 | vs => .tup vs
def resOf (P : Program) (rs : List ResultVar) (st : St) : Option AV := (resAll P st rs).map tupOf
/-- What the contract says of the memory, of the memory at the end; and of that at the start. -/
def EndOk (σ : Sg) (m m' m0 : Mem) : Prop :=
  Fits σ m' m ∧ (∀ q ∈ m', lk σ q.1 = some (q.2.1, q.1, q.2.1) ∨ (ent m0 q.1).1 < q.2.1) ∧ ∀ q ∈ m0, q.2.1 ≤ (ent m' q.1).1
section
variable {C : Ctx} {st : St} {a : Act} {w : World} {ι : Pl}
def resF (tmps : Array Value) : ResultVar → Sem Value
 | .tmp t => pure (tmps.getD t undef)
 | .cell x t => do loadVar t (← asAddr (tmps.getD x undef))
theorem results_eq (fn : Func) (tmps : Array Value) : results fn tmps = (List.toArray <$> fn.results.toList.mapM (resF tmps)) >>= fun vs => pure (if h : vs.size = 1 then vs[0] else .tuple vs) := by
  unfold results
  rw [array_mapM]
  refine congrArg (fun F => (List.toArray <$> List.mapM (m := Sem) F fn.results.toList) >>= _) (funext fun r => ?_)
  cases r <;> rfl
theorem resOne_run (hR : Rel C st a w ι) {r : ResultVar} {v : AV} (h : resOne C.P st r = some v) :
    ∃ cv, (resF a.tmps r).run C.P w = .ok cv w ∧ Ra ι st.mem w cv v := by
  cases r with
  | tmp t => simp only [resOne, Option.some.injEq] at h; subst h; exact ⟨_, rfl, hR.fr t⟩
  | cell x t =>
    simp only [resOne] at h
    have hx := hR.fr x
    split at h
    · rename_i k g o e
      rw [e] at hx
      split at h
      · rename_i g' cs hk
        obtain ⟨h1, h2⟩ := bif_none h
        obtain rfl : g = g' := by simpa using h1
        have hv := hx.ptrv hk
        obtain ⟨vs, ty, h3, h4, h5⟩ := hR.mem.ok k g _ hk
        obtain ⟨cv, h6, h7⟩ := ld_run h2 ⟨(ι k).blk, o, none⟩ (fun j => (vs[o + j]?).getD undef) (ι := ι) (m := st.mem) (w := w) (fun j c hj => by
          rw [List.getElem?_drop] at hj
          have hj' : o + j < vs.size := by rw [h4]; exact (List.getElem?_eq_some_iff.1 hj).1
          have := h5 (o + j) vs[o + j] c (Array.getElem?_eq_getElem hj') hj
          rw [add_mk]
          refine ⟨?_, ?_⟩
          · simp [World.cell?, h3, hj']
          · simp only [Array.getElem?_eq_getElem hj', Option.getD_some]; exact this)
        refine ⟨cv, ?_, h7⟩
        simp only [resF, hv, asAddr, Sem.run_bind, Sem.run_pure, Result.andThen_ok]
        exact h6
      · cases h
    · cases h
theorem resAll_run (hR : Rel C st a w ι) : ∀ {rs : List ResultVar} {vs : List AV}, resAll C.P st rs = some vs →
    ∃ cvs : List Value, (rs.mapM (m := Sem) (resF a.tmps)).run C.P w = .ok cvs w ∧ cvs.length = vs.length ∧ ∀ (i : Nat) (v : Value) (c : AV), cvs[i]? = some v → vs[i]? = some c → Ra ι st.mem w v c
  | [], vs, h => by simp only [resAll, Option.some.injEq] at h; subst h; exact ⟨[], by simp, rfl, by simp⟩
  | r :: rs, vs, h => by
    simp only [resAll] at h
    obtain ⟨v, h1, h⟩ := Option.bind_eq_some_iff.mp h
    obtain ⟨vs', h2, rfl⟩ := Option.map_eq_some_iff.mp h
    obtain ⟨cv, h3, h4⟩ := resOne_run hR h1
    obtain ⟨cvs, h5, h6, h7⟩ := resAll_run hR h2
    refine ⟨cv :: cvs, ?_, by simp [h6], fun i v c hv hc => ?_⟩
    · rw [List.mapM_cons]
      simp only [Sem.run_bind]
      rw [h3]
      simp only [Result.andThen_ok, h5, Sem.run_pure]
    · cases i with
      | zero => simp at hv hc; rw [← hv, ← hc]; exact h4
      | succ i => simp at hv hc; exact h7 i v c hv hc
theorem res_run (hR : Rel C st a w ι) {fn : Func} {v : AV} (h : resOf C.P fn.results.toList st = some v) : ∃ cv, (results fn a.tmps).run C.P w = .ok cv w ∧ Ra ι st.mem w cv v := by
  obtain ⟨vs, h1, rfl⟩ := Option.map_eq_some_iff.mp h
  obtain ⟨cvs, h2, h3, h4⟩ := resAll_run hR h1
  refine ⟨if h : cvs.toArray.size = 1 then cvs.toArray[0] else .tuple cvs.toArray, ?_, ?_⟩
  · rw [results_eq]
    simp only [Sem.run_bind, Sem.run_map]
    rw [h2]; rfl
  · match cvs, vs, h3 with
    | [x], [y], _ => simpa [tupOf] using h4 0 x y rfl rfl
    | [], [], _ => exact .tup _ _ rfl (by simp)
    | x :: x' :: r, y :: y' :: r', e => exact .tup _ _ (by simpa using e) fun i v c hv hc => h4 i v c (by simpa using hv) hc
theorem end_post (hR : Rel C st a w ι) {σ : Sg} {fn : Func} {v : AV} (hr : resOf C.P fn.results.toList st = some v) (hle : LeT v (renA σ C.res)) (hok : okT (inn σ C.mem) C.res = true) (hm : EndOk σ st.mem C.mem C.m0) :
    ∃ cv, (results fn a.tmps).run C.P w = .ok cv w ∧ Post C (.returned cv) w := by
  obtain ⟨cv, h1, h2⟩ := res_run hR hr
  obtain ⟨hf, hg, h0⟩ := hm
  have hloc : ∀ k, (ιe σ ι).loc k = (ιc σ C.mem st.mem ι).loc k := fun _ => rfl
  have hX : ∀ b o, (ιe σ ι).fr.X b o → (ιc σ C.mem st.mem ι).fr.X b o := fun b o h => .inl h
  have hown : ∀ b o, OwnM (ιe σ ι) C.mem b o → OwnM ι st.mem b o := fun b o h => ownM_sub hf (ι := ι) h
  refine ⟨cv, h1, ιe σ ι, cv, rfl, (downO hR.mem hf).narrow hloc hX rfl, (downT hf h2 hle hok).ploc hloc (narrow_own hloc hX), ?_, ⟨fun k => ?_, fun k g ob' hk => ?_⟩, hR.x⟩
  · exact ⟨hR.evo.os, hR.evo.tape, hR.evo.output, hR.evo.size, hR.evo.blk, hR.evo.cell, fun b o h => hR.evo.own b o (hown b o h)⟩
  · cases hk : lk C.m0 k with
    | none => simp [ent, hk]
    | some e => rw [show ent C.m0 k = e from by simp [ent, hk]]; exact h0 _ (lk_mem hk)
  · rcases hg _ (lk_mem hk) with h | h
    · obtain ⟨_, k', g', ob1, e1, e2, e3⟩ := fits_at hf hk
      simp only at h
      rw [h] at e1; cases e1
      have eι : (ιe σ ι) k = ι k := by simp only [ιe, h]
      rcases hR.keys.2 k g ob1 e2 with ⟨ob, h3, h4⟩ | h3 | h3
      · cases ob' with
        | gone => exact .inr (.inr rfl)
        | cells cs =>
          cases ob1 <;> simp only [renO, LeO] at e3
          exact .inl ⟨ob, h3, h4.1, by rw [eι]; exact h4.2⟩
        | tip s n =>
          cases ob1 <;> simp only [renO, LeO] at e3
          obtain ⟨rfl, rfl⟩ := e3
          obtain ⟨n0, h5, h6, h7⟩ := h4
          exact .inl ⟨ob, h3, n0, h5, h6, fun e => by rw [eι]; exact h7 e⟩
        | map mk ag es =>
          cases ob1 <;> simp only [renO, LeO] at e3
          cases e3
          exact .inl ⟨ob, h3, h4.1, by rw [eι]; exact h4.2⟩
        | buf s rows =>
          cases ob1 <;> simp only [renO, LeO] at e3
          obtain ⟨rfl, rfl⟩ := e3
          exact .inl ⟨ob, h3, h4.1, by rw [eι]; exact h4.2⟩
      · exact .inr (.inl h3)
      · subst h3
        cases ob' <;> simp only [renO, LeO] at e3
        exact .inr (.inr rfl)
    · exact .inr (.inl h)
theorem good_ret_ {fn : Func} {k : List Item} {v : AV} (σ : Sg) (hfn : C.P.funcs[C.f]? = some fn) (hr : resOf C.P fn.results.toList st = some v) (hle : LeT v (renA σ C.res)) (hok : okT (inn σ C.mem) C.res = true) (hm : EndOk σ st.mem C.mem C.m0) : Good C (.code .ret :: k) st := by
  intro a w ι hR b cs hb hk
  obtain ⟨cv, h1, h2⟩ := end_post hR hr hle hok hm
  exact ⟨.returned cv, w, _, h2, .one step_ret, hb, rfl, hR.defers, hk, fn, by show C.P.funcs[b.fn]? = some fn; rw [hb]; exact hfn, h1⟩
theorem good_end_ {fn : Func} {v : AV} (σ : Sg) (hfn : C.P.funcs[C.f]? = some fn) (hr : resOf C.P fn.results.toList st = some v) (hle : LeT v (renA σ C.res)) (hok : okT (inn σ C.mem) C.res = true) (hm : EndOk σ st.mem C.mem C.m0) : Good C [] st := by
  intro a w ι hR b cs hb hk
  obtain ⟨cv, h1, h2⟩ := end_post hR hr hle hok hm
  exact ⟨.returned cv, w, _, h2, .one step_end, hb, rfl, hR.defers, hk, fn, by show C.P.funcs[b.fn]? = some fn; rw [hb]; exact hfn, h1⟩
end
theorem con_intro {P : Program} {f : FuncId} {fn : Func} {c : Code} {args : List AV} {m m' : Mem} {v : AV} {K : Kn} (n : Nat) (H : List Nat) (hf : P.funcs[f]? = some fn) (hnm : (fn.name == "runtime.NumGoroutine") = false) (hb : fn.body = some c) (hn : fn.ntmps = n) (hl : Nat.ble args.length n = true)
  (h : ∀ ι0 w0 (hk : ∀ p ∈ K, p ∈ ι0.fr.G), Good { P := P, f := f, ι0 := ι0, m0 := m, w0 := w0, res := v, mem := m', hint := (n, H, K), kg := hk } [.code c] { fr := (List.range args.length).zip args, mem := m }) : Con K P f args m v m' := by
  have hle : args.length ≤ n := by simpa using hl
  refine ⟨⟨fn, hf, hnm, by rw [hb]; rfl⟩, fun ι w cargs hK hM hA => fun cs => ?_⟩
  have hsz := hA.1
  have hR : Rel { P := P, f := f, ι0 := ι, m0 := m, w0 := w, res := v, mem := m', hint := (n, H, K), kg := hK } { fr := (List.range args.length).zip args, mem := m } { tmps := cargs ++ Array.replicate (n - cargs.size) undef, defers := [] } w ι := by
    refine ⟨by simp only [Array.size_append, Array.size_replicate]; omega, rfl, hM, fun t => ?_, .refl _ _, .refl _ _, rfl⟩
    have hz : ∀ (l : List AV) (k t : Nat), lk ((List.range' k l.length).zip l) t = if k ≤ t then l[t - k]? else none := by
      intro l
      induction l with
      | nil => intro k t; simp [lk]
      | cons x l ih =>
        intro k t
        rw [List.length_cons, List.range'_succ, List.zip_cons_cons, lk_cons, ih]
        by_cases e : k = t
        · subst e; simp
        · by_cases e2 : k ≤ t
          · have e3 : k + 1 ≤ t := by omega
            rw [if_neg e, if_pos e3, if_pos e2]
            have : t - k = (t - (k + 1)) + 1 := by omega
            rw [this, List.getElem?_cons_succ]
          · have e3 : ¬ k + 1 ≤ t := by omega
            rw [if_neg e, if_neg e3, if_neg e2]
    have hz0 := hz args 0 t
    simp only [Nat.zero_le, if_true, Nat.sub_zero, ← List.range_eq_range'] at hz0
    simp only [fget, hz0]
    cases ht : args[t]? with
    | none => exact .u _
    | some a =>
      have hlt : t < cargs.size := by rw [hsz]; exact (List.getElem?_eq_some_iff.1 ht).1
      have : (cargs ++ Array.replicate (n - cargs.size) undef).getD t undef = cargs[t] := by
        rw [Array.getD_eq_getD_getElem?, Array.getElem?_append_left hlt, Array.getElem?_eq_getElem hlt]; rfl
      rw [this]
      exact hA.2 t _ a (Array.getElem?_eq_getElem hlt) ht
  obtain ⟨e, w', fr, h1, h2, h3, h4⟩ := h ι w hK _ w ι hR (Frame.enter P f cargs .normal) cs rfl rfl
  refine ⟨e, w', fr, h1, ?_, h3, h4⟩
  have : Frame.enter P f cargs .normal = (Frame.enter P f cargs .normal).at { tmps := cargs ++ Array.replicate (n - cargs.size) undef, defers := [] } [.code c] := by
    simp [Frame.enter, Frame.at, hf, hb, hn]
  rw [this]; exact h2
end Go.Ab
