/- One operation of a region, calls and all; a region whose order is given. -/
import Derived.Test.YtphfoghhcemfhaaAbP15
import Derived.Tactics
import Derived.Orders
namespace Go.Ab
set_option linter.unusedVariables false
set_option linter.unusedSimpArgs false
/-- One operation of a region, with what it touches. -/
inductive S1 (P : Program) (H : Hn) (all : List Oper) (j : Nat) (o : Oper) : Fp → St → St → Prop
 | skip (st : St) (h : de all st.fr o = .skip) (hd : dstOk H.1 o.dst = true) : S1 P H all j o [] st (st.put o.dst .und)
 | op (st st1 : St) (h : de all st.fr o = .op) (hd : dstOk H.1 o.dst = true) (hs : stepOp P H o st = some st1) : S1 P H all j o (fpOf j o st) st st1
 | call (st : St) (fv : Operand) (args : Array Operand) (ts : Array TypeId) (f : FuncId) (first caps : List AV) (σ : Sg) (cargs : List AV) (mc mc' : Mem) (v : AV)
   (h : de all st.fr o = .call) (hd : dstOk H.1 o.dst = true) (hop : o.op = .call { callee := .value fv, args := args, argTypes := ts }) (hf : fnOf (oget st.fr fv) = some (f, first, caps)) (hcon : Con H.2.2 P f cargs mc v mc')
   (hargs : F2 LeA (first ++ args.toList.map (oget st.fr) ++ caps) (cargs.map (renA σ))) (hok : cargs.all (okA (inn σ mc)) = true) (hm : Fits σ mc st.mem) (ho : FitsOut σ mc mc' st.mem) :
   S1 P H all j o (σ.map fun q => (j, q.2.2.1, true)) st ({ st with mem := back σ st.mem mc' }.put o.dst (renA σ v))
inductive Ch (P : Program) (H : Hn) (all : List Oper) : List (Nat × Oper × Fp) → St → St → Prop
 | nil (st : St) : Ch P H all [] st st
 | cons {j : Nat} {o : Oper} {F : Fp} {r : List (Nat × Oper × Fp)} {st st1 st' : St} (h : S1 P H all j o F st st1) (t : Ch P H all r st1 st') : Ch P H all ((j, o, F) :: r) st st'
theorem AR.ch {P : Program} {H : Hn} {all : List Oper} {j : Nat} {l : List Oper} {st st' : St} {F : Fp} (h : AR P H all j l st F st') :
    ∃ L : List (Nat × Oper × Fp), Ch P H all L st st' ∧ L.map (·.2.1) = l ∧ L.map (·.1) = List.range' j l.length ∧ (L.map (·.2.2)).flatten = F := by
  induction h with
  | nil j st => exact ⟨[], .nil _, rfl, rfl, rfl⟩
  | skip j o r st st' F h hd hr ih => obtain ⟨L, h1, h2, h3, h4⟩ := ih; exact ⟨(j, o, []) :: L, .cons (.skip st h hd) h1, by simp [h2], by simp [h3, List.range'_succ], by simp [h4]⟩
  | op j o r st st1 st' F h hd hs hr ih => obtain ⟨L, h1, h2, h3, h4⟩ := ih; exact ⟨(j, o, fpOf j o st) :: L, .cons (.op st st1 h hd hs) h1, by simp [h2], by simp [h3, List.range'_succ], by simp [h4]⟩
  | call j o r st st' F fv args ts f first caps σ cargs mc mc' v h hd hop hf hcon hargs hok hm ho hr ih =>
    obtain ⟨L, h1, h2, h3, h4⟩ := ih
    exact ⟨(j, o, _) :: L, .cons (.call st fv args ts f first caps σ cargs mc mc' v h hd hop hf hcon hargs hok hm ho) h1, by simp [h2], by simp [h3, List.range'_succ], by simp [h4]⟩
section
variable {C : Ctx} {st : St} {a : Act} {w : World} {ι : Pl}
theorem yielded_of (hR : Rel C st a w ι) {all : List Oper} {j : Nat} {t : Tmp} (h : (all[j]?).map (·.dst) = some (some t)) :
    (∀ b, fget st.fr t = .p (.bool b) → yielded all.toArray a.tmps j = some b) ∧ (fget st.fr t = .und → yielded all.toArray a.tmps j = none) := by
  obtain ⟨o, ho, hd⟩ := Option.map_eq_some_iff.mp h
  have e : yielded all.toArray a.tmps j = match a.tmps[t]? with | some (.bool b) => some b | _ => none := by
    simp only [yielded, List.getElem?_toArray, ho, Option.bind_some, hd]
    cases a.tmps[t]? with
    | none => rfl
    | some x => cases x <;> rfl
  rw [e]
  have hf := hR.fr t
  rw [Array.getD_eq_getD_getElem?] at hf
  refine ⟨fun b hb => ?_, fun hb => ?_⟩
  · rw [hb] at hf
    have := hf.bool
    cases hx : a.tmps[t]? with
    | none => rw [hx] at this; cases this
    | some x => rw [hx] at this; simp only [Option.getD_some] at this; rw [this]
  · rw [hb] at hf
    cases hx : a.tmps[t]? with
    | none => rfl
    | some x =>
      rw [hx] at hf
      simp only [Option.getD_some] at hf
      cases hf; rfl
theorem opD_eq {op : Op} : (opD op = .op ∧ isCall op = false) ∨ (opD op = .call ∧ isCall op = true) := by
  unfold opD; cases isCall op <;> simp
theorem de_spec (hR : Rel C st a w ι) (all : List Oper) (o : Oper) :
    (de all st.fr o = .op → Region.wanted o (yielded all.toArray a.tmps) = true ∧ isCall o.op = false) ∧ (de all st.fr o = .call → Region.wanted o (yielded all.toArray a.tmps) = true) ∧ (de all st.fr o = .skip → Region.wanted o (yielded all.toArray a.tmps) = false) := by
  unfold de Region.wanted
  cases hg : o.guard with
  | none =>
    simp only
    rcases opD_eq (op := o.op) with ⟨h1, h2⟩ | ⟨h1, h2⟩ <;> rw [h1] <;> simp [h2]
  | some jb =>
    obtain ⟨j, b⟩ := jb
    simp only
    cases hd : (all[j]?).map (·.dst) with
    | none => simp [deT]
    | some x =>
      cases x with
      | none => simp [deT]
      | some t =>
        obtain ⟨y1, y2⟩ := yielded_of hR hd
        have base := @opD_eq o.op
        simp only [deT]
        cases hv : fget st.fr t with
        | und => simp [deB, y2 hv]
        | p pv =>
          cases pv with
          | bool t' =>
            rw [y1 t' hv]
            rcases base with ⟨h1, h2⟩ | ⟨h1, h2⟩ <;> rw [h1] <;> cases t' <;> cases b <;> simp [deB, h2]
          | _ => simp [deB]
        | _ => simp [deB]
theorem memPut_mem (st : St) (k : Option Nat) (n : Option (Nat × Ob)) : memPut st k n = { st with mem := memO st.mem k n } := by
  cases k <;> cases n <;> rfl
theorem op_wp {o : Oper} {st1 : St} {next : Act → World → Prop} {Q : Exit → Act → World → Prop} (hR : Rel C st a w ι) (hnc : isCall o.op = false) (hd : dstOk C.hint.1 o.dst = true) (hs : stepOp C.P C.hint o st = some st1)
    (hn : ∀ v w' ι', Rel C st1 (a.put o.dst v) w' ι' → next (a.put o.dst v) w') : o.wp C.P a w next Q := by
  unfold stepOp finO at hs
  split at hs
  · rename_i av ob hc
    cases hs
    have hE : ∀ x, Ra ι st.mem w (a.eval x) (oget st.fr x) := fun x => hR.ev x
    obtain ⟨r, w', ι', h1, h2, h3, h4⟩ := op_run (P := C.P) (ρ := a.eval) (g := oget st.fr) hE hR.mem hnc hc
    unfold Oper.wp
    rw [h1]
    rw [memPut_mem] at hn
    rcases h4 with ⟨cv, rfl, h4⟩ | ⟨rfl, rfl⟩
    · rw [Oper.upon_value]; exact hn _ _ _ (hR.step hd h2 h3 h4)
    · rw [Oper.upon_skip]; exact hn _ _ _ (hR.step hd h2 h3 (.u _))
  · cases hs
theorem RaL.append {ι : Pl} {m : Mem} {w : World} {xs ys : Array Value} {as bs : List AV} (h1 : RaL ι m w xs as) (h2 : RaL ι m w ys bs) : RaL ι m w (xs ++ ys) (as ++ bs) := by
  refine ⟨by simp [h1.1, h2.1], fun i v c hv hc => ?_⟩
  rw [Array.getElem?_append] at hv
  rw [List.getElem?_append] at hc
  rw [h1.1] at hv
  split at hv
  · rename_i hi; rw [if_pos hi] at hc; exact h1.2 i v c hv hc
  · rename_i hi; rw [if_neg hi] at hc; exact h2.2 _ v c hv hc
theorem RaL.map {ι : Pl} {m : Mem} {w : World} {ρ : Operand → Value} {g : Operand → AV} (h : ∀ x, Ra ι m w (ρ x) (g x)) (xs : Array Operand) : RaL ι m w (xs.map ρ) (xs.toList.map g) := by
  refine ⟨by simp, fun i v c hv hc => ?_⟩
  rw [Array.getElem?_map] at hv
  rw [List.getElem?_map, Array.getElem?_toList] at hc
  obtain ⟨x, hx, rfl⟩ := Option.map_eq_some_iff.mp hv
  rw [hx] at hc; cases hc
  exact h x
theorem fnOf_run {ι : Pl} {m : Mem} {v : Value} {b : AV} {f : FuncId} {first caps : List AV} (h : Ra ι m w v b) (hf : fnOf b = some (f, first, caps)) :
    ∃ fs cs, v = .func (.func f) fs cs ∧ RaL ι m w fs first ∧ RaL ι m w cs caps := by
  unfold fnOf at hf
  split at hf
  · cases hf
    cases h with
    | p _ _ h => cases h; exact ⟨#[], #[], rfl, ⟨rfl, by simp⟩, ⟨rfl, by simp⟩⟩
  · cases hf
    cases h with
    | clo _ fs cs _ _ h1 h2 h3 h4 => exact ⟨fs, cs, rfl, ⟨h1, h3⟩, ⟨h2, h4⟩⟩
  · cases hf
theorem enter_run {P : Program} {f : FuncId} {args : Array Value} (h : FnOk P f) : (callFunc f args).run P w = .ok (.enter f args) w := by
  obtain ⟨fn, h1, h2, h3⟩ := h
  have h4 : fn.body.isNone = false := by cases hb : fn.body <;> simp_all
  simp only [beq_eq_false_iff_ne, ne_eq] at h2
  have h5 : fn.body ≠ none := fun e => by rw [e] at h3; cases h3
  simp [callFunc, h1, h2, h5]
theorem call_wp {all : List Oper} {j : Nat} {o : Oper} {next : Act → World → Prop} {Q : Exit → Act → World → Prop} (hR : Rel C st a w ι) {fv : Operand} {args : Array Operand} {ts : Array TypeId} {f : FuncId} {first caps : List AV} {σ : Sg} {cargs : List AV} {mc mc' : Mem} {v : AV}
    (hd : dstOk C.hint.1 o.dst = true) (hop : o.op = .call { callee := .value fv, args := args, argTypes := ts }) (hf : fnOf (oget st.fr fv) = some (f, first, caps)) (hcon : Con C.hint.2.2 C.P f cargs mc v mc')
    (hargs : F2 LeA (first ++ args.toList.map (oget st.fr) ++ caps) (cargs.map (renA σ))) (hok : cargs.all (okA (inn σ mc)) = true) (hm : Fits σ mc st.mem) (ho : FitsOut σ mc mc' st.mem)
    (hn : ∀ x w' ι', Rel C ({ st with mem := back σ st.mem mc' }.put o.dst (renA σ v)) (a.put o.dst x) w' ι' → next (a.put o.dst x) w') : o.wp C.P a w next Q := by
  obtain ⟨fs, cs, e, h1, h2⟩ := fnOf_run (hR.ev fv) hf
  have hE : ∀ x, Ra ι st.mem w (a.eval x) (oget st.fr x) := fun x => hR.ev x
  obtain ⟨h3, h4⟩ := call_run (vs := fs ++ args.map a.eval ++ cs) hR.mem hcon (fun p hp => by rw [hR.x]; exact C.kg p hp) hm ho ((h1.append (RaL.map hE args)).append h2) hargs hok
  have run : (execOp a.eval o).run C.P w = .ok (.enter f (fs ++ args.map a.eval ++ cs)) w := by
    simp [execOp, hop, resolve, e, Deferred.ofValue, invoke, enter_run h3]
  unfold Oper.wp
  rw [run, Oper.upon_enter]
  refine h4.mono fun e w' h => ?_
  obtain ⟨ι', cv, rfl, h5, h6, h7⟩ := h
  exact hn _ _ _ (hR.step hd h5 h6 h7)
/-- One operation as it comes up. -/
theorem S1.wp {all : List Oper} {j : Nat} {o : Oper} {F : Fp} {st1 : St} {K : Act → World → Prop} {Q : Exit → Act → World → Prop} (h : S1 C.P C.hint all j o F st st1) (hR : Rel C st a w ι) (hn : ∀ x w' ι', Rel C st1 (a.put o.dst x) w' ι' → K (a.put o.dst x) w') :
    if Region.wanted o (yielded all.toArray a.tmps) then o.wp C.P a w K Q ∨ (o.asks C.P a w ∧ LetsOut Q) else K (a.put o.dst undef) w := by
  obtain ⟨d1, d2, d3⟩ := de_spec hR all o
  cases h with
  | skip _ h hd =>
    rw [d3 h]
    exact hn _ _ _ (hR.step (m' := st.mem) hd hR.mem (.refl _ _ _) .und)
  | op _ _ h hd hs =>
    obtain ⟨h1, h2⟩ := d1 h
    rw [h1]
    exact .inl (op_wp hR h2 hd hs hn)
  | call _ fv args ts f first caps σ cargs mc mc' v h hd hop hf hcon hargs hok hm ho =>
    rw [d2 h]
    exact .inl (call_wp (all := all) (j := j) hR hd hop hf hcon hargs hok hm ho hn)
theorem Ch.wp {all : List Oper} {K : Act → World → Prop} {Q : Exit → Act → World → Prop} (hQ : ∀ a w, K a w → Q .normal a w) : ∀ {L : List (Nat × Oper × Fp)} {st st' : St} {a : Act} {w : World} {ι : Pl}, Ch C.P C.hint all L st st' → Rel C st a w ι → (∀ a' w' ι', Rel C st' a' w' ι' → K a' w') →
    wpList C.P all.toArray Q (L.map (·.2.1)) a w
  | [], st, st', a, w, ι, h, hR, hn => by cases h; exact hQ _ _ (hn _ _ _ hR)
  | (j, o, F) :: r, st, st', a, w, ι, h, hR, hn => by
    cases h with
    | cons h t =>
      simp only [List.map_cons, wpList]
      exact h.wp hR fun x w' ι' hR' => Ch.wp hQ t hR' hn
end
/-- From a region's wp to what stands behind. -/
theorem Fin.of_steps {C : Ctx} {it it' : List Item} {a a' : Act} {w w' : World} (h : ∀ (b : Frame) (cs : List Frame), Steps C.P (lone (b.at a it) cs w) (lone (b.at a' it') cs w')) (g : Fin C it' a' w') : Fin C it a w := fun b cs hb hk => by
  obtain ⟨e, w2, fr, h1, h2, h3⟩ := g b cs hb hk
  exact ⟨e, w2, fr, h1, h2.of_steps (h b cs), h3⟩
theorem Fin.of_wp {C : Ctx} {c : Code} {k : List Item} {a : Act} {w : World} (h : c.wp C.P (fun e a w => e = .normal ∧ Fin C k a w) a w) : Fin C (.code c :: k) a w := fun b cs hb hk => by
  obtain ⟨e, a', w', ⟨rfl, h1⟩, h2⟩ := h b k cs
  obtain ⟨e, w2, fr, h3, h4, h5⟩ := h1 b cs hb hk
  exact ⟨e, w2, fr, h3, h4.of_steps h2, h5⟩
theorem good_region {C : Ctx} {id : Nat} {ops : Array Oper} {k : List Item} {st st' : St} {F : Fp} (h : AR C.P C.hint ops.toList 0 ops.toList st F st') (g : Good C k st') : Good C (.code (.region id ops false) :: k) st := by
  intro a w ι hR
  obtain ⟨L, h1, h2, h3, h4⟩ := h.ch
  refine .of_wp (wp_region_list ?_)
  have := h1.wp (K := Fin C k) (Q := fun e a w => e = .normal ∧ Fin C k a w) (fun a w h => ⟨rfl, h⟩) hR g
  rw [h2] at this
  exact this
end Go.Ab
