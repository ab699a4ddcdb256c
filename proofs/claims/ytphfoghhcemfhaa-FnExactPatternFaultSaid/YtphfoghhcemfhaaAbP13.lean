/- Every operation that is no call of a Go function. -/
import Derived.Test.YtphfoghhcemfhaaAbM2
namespace Go.Ab
set_option linter.unusedVariables false
set_option linter.unusedSimpArgs false
/-- What an operation does, own memory and all. -/
def Does (P : Program) (w : World) (ι : Pl) (m : Mem) (s : Sem Next) (av : AV) (m' : Mem) : Prop :=
  ∃ r w' ι', s.run P w = .ok r w' ∧ MemOk ι' m' w' ∧ Ext ι m w ι' m' w' ∧ ((∃ cv, r = .value cv ∧ Ra ι' m' w' cv av) ∨ (r = .skip ∧ av = .u))
def memO (m : Mem) : Option Nat → Option (Nat × Ob) → Mem
 | some k, some e => mset m k e
 | _, _ => m
theorem bif_none' {α : Type} {b : Bool} {x : Option α} {y : α} (h : (bif b then none else x) = some y) : b = false ∧ x = some y := by cases b <;> simp_all
theorem eff_no {a : Option AV} {av : AV} {e : Nat × Ob} (h : eff a = some (av, some e)) : False := by have := (eff_some h).2; cases this
theorem appC_cases {hb : Bool} {sz d : Nat} {x0 av : AV} {e : Nat × Ob} {qo : Option Rows} {ob : Option (Nat × Ob)} (h : appC hb sz d x0 e qo = some (av, ob)) : ∃ q, qo = some q ∧ ((x0 = .p .nilS ∧ appN hb sz d [] e.1 q = some (av, ob)) ∨ (∃ r, x0 = .p (.lst true r) ∧ appN hb sz d r e.1 q = some (av, ob)) ∨
   (∃ k gn r, x0 = .tip k gn r ∧ e = (gn, .tip sz r.length) ∧ ∃ rq, app r q = some rq ∧ rowsOk sz rq = true ∧ av = .tip k gn rq ∧ ob = some (gn, .tip sz rq.length)) ∨
   (∃ k gn n rows, x0 = .buf k gn 0 n ∧ e = (gn, .buf sz rows) ∧ ∃ rq, app (rows.take n) q = some rq ∧ rowsOk sz rq = true ∧ av = .buf k (gn + 1) 0 rq.length ∧ ob = some (gn + 1, .buf sz rq))) := by
  unfold appC at h
  split at h
  · exact ⟨_, rfl, .inl ⟨rfl, h⟩⟩
  · exact ⟨_, rfl, .inr (.inl ⟨_, rfl, h⟩)⟩
  · obtain ⟨hb', h2⟩ := bif_none h
    obtain ⟨rq, hrq, h3⟩ := Option.bind_eq_some_iff.mp h2
    obtain ⟨hok, h4⟩ := bif_none h3
    clear h h2 h3
    simp only [Bool.and_eq_true, beq_iff_eq] at hb'
    obtain ⟨⟨rfl, rfl⟩, rfl⟩ := hb'
    cases h4
    exact ⟨_, rfl, .inr (.inr (.inl ⟨_, _, _, rfl, rfl, rq, hrq, hok, rfl, rfl⟩))⟩
  · obtain ⟨hb', h2⟩ := bif_none h
    obtain ⟨rq, hrq, h3⟩ := Option.bind_eq_some_iff.mp h2
    obtain ⟨hok, h4⟩ := bif_none h3
    clear h h2 h3
    simp only [Bool.and_eq_true, beq_iff_eq] at hb'
    obtain ⟨rfl, rfl⟩ := hb'
    cases h4
    exact ⟨_, rfl, .inr (.inr (.inr ⟨_, _, _, _, rfl, rfl, rq, hrq, hok, rfl, rfl⟩))⟩
  · cases h
section
variable {ι : Pl} {m : Mem} {w w' : World} {P : Program}
variable {ρ : Operand → Value} {g : Operand → AV} (hg : ∀ x, Ra ι m w (ρ x) (g x)) (hM : MemOk ι m w)
include hg hM
theorem strBytes_run {s t : TypeId} {x : Operand} {b : ByteArray} (hs : tkind P s = .str) (ht : tkind P t = .bytes) (hx : g x = .p (.str b)) :
    ∃ cv w', (Go.convert s t (ρ x)).run P w = .ok cv w' ∧ MemOk ι m w' ∧ Ext ι m w ι m w' ∧ Ra ι m w' cv (.p (.lst false (bytesOf b))) := by
  have h1 := hg x; rw [hx] at h1
  obtain ⟨e, hu, hu8⟩ := tkind_bytes ht
  let cap := grownCap w b.size 0 e
  have hge : b.size ≤ cap := grownCap_ge w b.size 0 e
  let vs : Array Value := b.data.map (fun c => .int .u8 c.toNat) ++ Array.replicate (cap - b.size) (.int .u8 0)
  let w1 := w.drew.alloc (.cells vs e)
  have hnew : w1.heap[w.heap.size]? = some (.cells vs e (0, 0)) := _root_.Go.heap_alloc_new w.drew _
  have hvs : vs.size = cap := by
    simp only [vs, Array.size_append, Array.size_map, Array.size_replicate]
    have : b.data.size = b.size := rfl
    omega
  let w2 := w1.freeze ⟨w.heap.size, vs.size, none⟩ 1
  have hw2 : w2.heap = w1.heap.modify w.heap.size fun | .cells c elem (lo, hi) => .cells c elem (if lo == hi then (vs.size, vs.size + 1) else (min lo vs.size, max hi (vs.size + 1))) | o => o := by
    simp only [w2, World.freeze]; rfl
  have h2blk : ∀ b', b' < w.heap.size → w2.heap[b']? = w.heap[b']? := fun b' hb => by
    rw [hw2, Array.getElem?_modify, if_neg (by omega)]
    exact (Array.getElem?_push_lt hb).trans (Array.getElem?_eq_getElem hb).symm
  obtain ⟨hM', he⟩ := quiet (w' := w2) hM rfl rfl rfl (by rw [hw2]; simp [w1, World.alloc]) h2blk
  have hfr : ∃ fr, w2.heap[w.heap.size]? = some (.cells vs e fr) := by
    rw [hw2, Array.getElem?_modify, if_pos rfl, hnew]; exact ⟨_, rfl⟩
  obtain ⟨fr, hfr⟩ := hfr
  have hlen : (bytesOf b).length = b.size := by simp [bytesOf]
  refine ⟨.slice (some ⟨w.heap.size, 0, none⟩) b.size cap, w2, ?_, hM', he, .p _ _ (fresh_rows (s := 1) he hM hfr hlen hge (by simp) (fun i row hi => ?_) (fun i j row pv hi hj => ?_))⟩
  · rw [h1.str]
    simp only [Go.convert, Sem.run_bind, run_underlying (tkind_str hs), run_underlying hu, Result.andThen_ok, run_underlying hu8]
    simp only [Conv.stringToBytes, Sem.run_bind, run_choose, Question.forced, Bool.false_eq_true, if_false, Result.andThen_ok, newRow, run_newObj, Sem.run_pure, World.drew_eq, World.alloc_eq, markStringish, run_shape]
    have hsh : w1.shape? w.heap.size = some (e, vs.size) := by simp only [World.shape?, hnew]
    show Result.andThen (Sem.run P (do
      match (w1.shape? w.heap.size) with
      | some (_, n) => freeze { block := w.heap.size, off := n } 1
      | _ => pure ()) w1) _ = _
    rw [hsh]; rfl
  · simp only [bytesOf, List.getElem?_map] at hi
    obtain ⟨c, hc, rfl⟩ := Option.map_eq_some_iff.mp hi
    rfl
  · simp only [bytesOf, List.getElem?_map] at hi
    obtain ⟨c, hc, rfl⟩ := Option.map_eq_some_iff.mp hi
    cases j with
    | zero =>
      simp [brow] at hj; subst hj
      refine ⟨.int .u8 c.toNat, ?_, .int _ _⟩
      have hil : i < b.data.size := by have := (List.getElem?_eq_some_iff.1 hc).1; simpa using this
      simp only [vs, Nat.mul_one, Nat.add_zero]
      rw [Array.getElem?_append_left (by simpa using hil), Array.getElem?_map]
      have : b.data[i]? = some c := by simpa using hc
      rw [this]; rfl
    | succ j => simp [brow] at hj
theorem op_run {o : Oper} {av : AV} {hb : Bool} {d : Nat} {ob : Option (Nat × Ob)} (hnc : isCall o.op = false) (h : core P hb o.op g d (entO m (keyOf o.op g d)) = some (av, ob)) :
    Does P w ι m (execOp ρ o) av (memO m (keyOf o.op g d) ob) := by
  have quietly : ∀ {s : Sem Value} {av : AV}, (∃ cv w', s.run P w = .ok cv w' ∧ MemOk ι m w' ∧ Ext ι m w ι m w' ∧ Ra ι m w' cv av) → Does P w ι m (do pure (.value (← s)) : Sem Next) av m := fun ⟨cv, w', h1, h2, h3, h4⟩ => ⟨_, w', ι, run_v h1, h2, h3, .inl ⟨cv, rfl, h4⟩⟩
  cases ob with
  | none =>
    have hm : memO m (keyOf o.op g d) none = m := by cases keyOf o.op g d <;> rfl
    rw [hm]
    by_cases hbs : ∃ t n ps, o.op = .buildSlice t n ps
    · obtain ⟨t, n, ps, e⟩ := hbs
      rw [e] at h
      simp only [core] at h
      obtain ⟨h1, _⟩ := eff_some h
      obtain ⟨s, hs, h1⟩ := Option.bind_eq_some_iff.mp h1
      split at h1
      · cases h1
      · rename_i hn
        obtain ⟨z, hz, h1⟩ := Option.bind_eq_some_iff.mp h1
        obtain ⟨cs, hf, h1⟩ := Option.bind_eq_some_iff.mp h1
        obtain ⟨l, hl, rfl⟩ := Option.map_eq_some_iff.mp h1
        have := quietly (buildSlice_run (P := P) hg hM hs hn hz hf hl)
        obtain ⟨dst, op, ty, pos, after, guard⟩ := o
        simp only at e; subst e
        exact this
    · by_cases hcv : ∃ s t x, o.op = .convert s t x ∧ tkind P s = .str ∧ tkind P t = .bytes
      · obtain ⟨s, t, x, e, hs, ht⟩ := hcv
        obtain ⟨dst, op, ty, pos, after, guard⟩ := o
        simp only at e; subst e
        simp only [core, hs, ht] at h
        cases hgx : g x with
        | p pv =>
          rw [hgx] at h
          cases pv with
          | str b =>
            obtain ⟨h1, _⟩ := eff_some h
            cases h1
            exact quietly (strBytes_run (P := P) hg hM hs ht hgx)
          | _ => cases h
        | _ => rw [hgx] at h; cases h
      · obtain ⟨cv, h1, h2⟩ := quiet_op hg hM hnc (fun t n ps e => hbs ⟨t, n, ps, e⟩) (fun s t x e h1 h2 => hcv ⟨s, t, x, e, h1, h2⟩) h
        exact ⟨_, w, ι, h1, hM, .refl _ _ _, .inl ⟨cv, rfl, h2⟩⟩
  | some e' =>
    obtain ⟨dst, op, ty, pos, after, guard⟩ := o
    simp only at h ⊢ hnc
    have alloc_ok : ∀ {t : TypeId} {v : Value} {cs : List AV} {k : Nat}, CellsR ι m w v.cells cs → Does P w ι m (do pure (.value (← (do pure (.pointer (some (← newVar t v))) : Sem Value))) : Sem Next) (.ptr k ((ent m k).1 + 1) 0) (mset m k ((ent m k).1 + 1, .cells cs)) := fun {t v cs k} hR => by
      obtain ⟨h1, h2, h3⟩ := alloc_cells hM k hR t
      exact ⟨_, _, _, run_v (by simp only [newVar, newRow, Sem.run_bind, run_newObj, Result.andThen_ok, Sem.run_pure, World.alloc_eq]), h1, h2, .inl ⟨_, rfl, h3⟩⟩
    cases op
    case alloc t =>
      simp only [core, keyOf] at h
      obtain ⟨cs, hz, h⟩ := Option.map_eq_some_iff.mp h
      obtain ⟨rfl, h⟩ := Prod.mk.inj h
      cases h
      obtain ⟨zv, hzv, hR⟩ := zero_run (ι := ι) (m := m) (w := w) hz
      obtain ⟨r, w', ι', h1, h2⟩ := alloc_ok (t := t) (k := d) hR
      refine ⟨r, w', ι', ?_, h2⟩
      rw [← h1]
      simp only [execOp, Instr.alloc, Sem.run_bind, hzv, Result.andThen_ok]
    case box t x =>
      simp only [core, keyOf] at h
      obtain ⟨cs, hc, h⟩ := Option.map_eq_some_iff.mp h
      obtain ⟨rfl, h⟩ := Prod.mk.inj h
      cases h
      obtain ⟨h1, h2, h3⟩ := (hg x).cells hc
      exact alloc_ok (t := t) (v := ρ x) (k := d) ⟨h1, h2, h3⟩
    case store t a x =>
      simp only [core, keyOf] at h ⊢
      have ha := hg a
      split at h
      · rename_i k gn i off g' z rows e1 e2
        rw [e1] at ha e2 ⊢
        obtain ⟨hgg, h⟩ := bif_none h
        obtain ⟨vc, hvc, h⟩ := Option.bind_eq_some_iff.mp h
        obtain ⟨s, hs, h⟩ := Option.bind_eq_some_iff.mp h
        obtain ⟨row, hrow, h⟩ := Option.bind_eq_some_iff.mp h
        split at h
        · rename_i hb'
          obtain ⟨r2, hr2, h⟩ := Option.map_eq_some_iff.mp h
          obtain ⟨rfl, h⟩ := Prod.mk.inj h
          cases h
          have hge : gn = g' := by simpa using hgg
          subst hge
          have hk : lk m k = some (gn, .buf z rows) := ent_lk e2.symm (by simp)
          obtain ⟨ad, hbase, hv⟩ := ha.eptrv hk
          obtain ⟨w', h1, h2, h3⟩ := store_elem (P := P) hM hk hbase hs hb'.1 hrow (by omega) hr2 ((hg x).cells hvc)
          refine ⟨.skip, w', ι, ?_, h2, h3, .inr ⟨rfl, rfl⟩⟩
          simp only [execOp, Instr.storeAt, hv, Instr.sureAddr, Sem.run_bind, Sem.run_pure, Result.andThen_ok, h1]
        · cases h
      · rename_i k gn off g' cs e1 e2
        rw [e1] at ha e2 ⊢
        obtain ⟨hgg, h⟩ := bif_none h
        obtain ⟨vc, hvc, h⟩ := Option.bind_eq_some_iff.mp h
        obtain ⟨s, hs, h⟩ := Option.bind_eq_some_iff.mp h
        split at h
        · rename_i hb'
          obtain ⟨rfl, h⟩ := Prod.mk.inj (Option.some.inj h)
          cases h
          have hge : gn = g' := by simpa using hgg
          subst hge
          have hk : lk m k = some (gn, .cells cs) := ent_lk e2.symm (by simp)
          have hv := ha.ptrv hk
          obtain ⟨w', h1, h2, h3⟩ := store_cells (P := P) hM hk hs hb'.1 hb'.2 ((hg x).cells hvc)
          refine ⟨.skip, w', ι, ?_, h2, h3, .inr ⟨rfl, rfl⟩⟩
          simp only [execOp, Instr.storeAt, hv, Instr.sureAddr, Sem.run_bind, Sem.run_pure, Result.andThen_ok, h1]
        · cases h
      · cases h
    case makeSlice t n c =>
      simp only [core, keyOf] at h ⊢
      split at h
      · rename_i kn n' kc c' e1 e2
        obtain ⟨s, hs, h⟩ := Option.bind_eq_some_iff.mp h
        obtain ⟨z, hz, h⟩ := Option.bind_eq_some_iff.mp h
        obtain ⟨zr, hp, h⟩ := Option.bind_eq_some_iff.mp h
        split at h
        · rename_i hzl
          obtain ⟨rows, hm, h⟩ := Option.map_eq_some_iff.mp h
          obtain ⟨rfl, h⟩ := Prod.mk.inj h
          cases h
          have h1 := hg n; rw [e1] at h1
          have h2 := hg c; rw [e2] at h2
          obtain ⟨cv, w', ca, h3, h4, h5, h6⟩ := makeSlice_run (P := P) (kn := kn) (kc := kc) hM d hs hz hp hzl hm
          refine ⟨_, w', _, ?_, h4, h5, .inl ⟨cv, rfl, h6⟩⟩
          simp only [execOp, h1.int, h2.int]
          exact run_v h3
        · cases h
      · cases h
    case call c =>
      obtain ⟨callee, args, ts⟩ := c
      cases callee <;> simp only [core] at h <;> try (first | cases h | cases hnc)
      rename_i b
      cases b
      case append =>
        simp only [keyOf] at h ⊢
        generalize hla : args.toList.map g = la at h ⊢
        generalize hlt : ts.toList = lt at h
        rcases la with _ | ⟨x0, _ | ⟨y0, _ | ⟨z0, la⟩⟩⟩ <;> try (simp [coreB] at h; done)
        rcases lt with _ | ⟨t, _ | ⟨tx, _ | ⟨_, lt⟩⟩⟩ <;> try (simp [coreB, appT] at h; done)
        simp only [coreB, appT] at h
        obtain ⟨htx, h⟩ := bif_none h
        obtain ⟨sz, hs, h⟩ := Option.bind_eq_some_iff.mp h
        obtain ⟨xs, ys, rfl, hgx, hgy⟩ : ∃ x y, args = #[x, y] ∧ g x = x0 ∧ g y = y0 := by
          cases hl : args.toList with
          | nil => rw [hl] at hla; cases hla
          | cons y r => rw [hl] at hla; cases r with
            | nil => simp at hla
            | cons z r => cases r with
              | nil => exact ⟨y, z, by rw [← Array.toList_inj, hl], by simpa using hla⟩
              | cons _ _ => simp at hla
        have hts : ts = #[t, tx] := by rw [← Array.toList_inj, hlt]
        subst hts
        have hx := hg xs; rw [hgx] at hx
        have hy := hg ys; rw [hgy] at hy
        have hexec : ∀ {cv : Value} {w' : World}, (Builtin.append_ #[t, tx] ty #[ρ xs, ρ ys]).run P w = .ok cv w' → (execOp ρ ⟨dst, .call { callee := .builtin .append, args := #[xs, ys], argTypes := #[t, tx] }, ty, pos, after, guard⟩).run P w = .ok (.value cv) w' := fun {cv w'} h => by
          have := run_v h
          simpa [execOp, resolve, Go.invoke, Go.builtin] using this
        obtain ⟨q, hq, hc⟩ := appC_cases h
        rcases hc with ⟨rfl, hN⟩ | ⟨r, rfl, hN⟩ | ⟨k, gn, r, rfl, he, rq, hrq, hok, rfl, hob⟩ | ⟨k, gn, n, rows, rfl, he, rq, hrq, hok, rfl, hob⟩
        · have hA : ρ xs = .slice none ([] : Rows).length ([] : Rows).length := by
            generalize ρ xs = v at hx
            cases hx with | p _ _ h => cases h; rfl
          obtain ⟨e2, cv, w', ι', h1, h2, h3, h4, h5⟩ := appN_run (P := P) (ty := ty) hM (Rp.nil _ none 0) hy hq hs htx hN
          cases h1
          exact ⟨_, w', ι', hexec (by rw [hA]; exact h2), h3, h4, .inl ⟨cv, rfl, h5⟩⟩
        · obtain ⟨A, hA, hR⟩ : ∃ A, ρ xs = .slice A r.length r.length ∧ Rp (Own ι m) w (.slice A r.length r.length) (.lst false r) := by
            generalize ρ xs = v at hx
            cases hx with
            | p _ _ h =>
              cases h with
              | lst A cap sz0 full rows u hcap hfull hsz hc hr =>
                have := hfull rfl
                subst this
                exact ⟨A, rfl, .lst A _ sz0 false r u hcap (by simp) hsz hc hr⟩
          obtain ⟨e2, cv, w', ι', h1, h2, h3, h4, h5⟩ := appN_run (P := P) (ty := ty) hM hR hy hq hs htx hN
          cases h1
          exact ⟨_, w', ι', hexec (by rw [hA]; exact h2), h3, h4, .inl ⟨cv, rfl, h5⟩⟩
        · cases hob
          have hk : lk m k = some (gn, .tip sz r.length) := ent_lk (k := k) (e := (gn, .tip sz r.length)) he.symm (by simp)
          obtain ⟨cv, w', ι', h2, h3, h4, h5⟩ := tip_run (P := P) (ty := ty) hM hx hk hy hq hs htx hrq hok
          exact ⟨_, w', ι', hexec h2, h3, h4, .inl ⟨cv, rfl, h5⟩⟩
        · cases hob
          have hk : lk m k = some (gn, .buf sz rows) := ent_lk (k := k) (e := (gn, .buf sz rows)) he.symm (by simp)
          obtain ⟨cv, w', ι', h2, h3, h4, h5⟩ := buf_run (P := P) (ty := ty) hM hx hk hy hq hs htx hrq hok
          exact ⟨_, w', ι', hexec h2, h3, h4, .inl ⟨cv, rfl, h5⟩⟩
      case len =>
        exfalso
        simp only [keyOf] at h
        generalize hla : args.toList.map g = la at h
        generalize hlt : ts.toList = lt at h
        rcases la with _ | ⟨x0, _ | ⟨y0, la⟩⟩ <;> try (simp [coreB] at h; done)
        rcases lt with _ | ⟨t, lt⟩ <;> try (simp [coreB] at h; done)
        simp only [coreB] at h
        obtain ⟨xs, rfl, rfl⟩ : ∃ x, args = #[x] ∧ g x = x0 := by
          cases hl : args.toList with
          | nil => rw [hl] at hla; cases hla
          | cons y r => rw [hl] at hla; cases r with
            | nil => exact ⟨y, by rw [← Array.toList_inj, hl], by simpa using hla⟩
            | cons _ _ => simp at hla
        have ht0 : ts[0]? = some t := by rw [← Array.getElem?_toList, hlt]; rfl
        obtain ⟨h1, _⟩ := lenA_run hM (P := P) (ty := ty) ht0 (hg xs) (fun kk hkk => by
          show entO m (keyL [g xs]) = ent m kk; rw [hkk]; rfl) h
        cases h1
      case min =>
        exfalso
        generalize hla : args.toList.map g = la at h
        rcases la with _ | ⟨x0, _ | ⟨y0, _ | ⟨z0, la⟩⟩⟩ <;> try (simp [coreB] at h; done)
        simp only [coreB, minA] at h
        split at h
        · split at h
          · exact eff_no h
          · cases h
        · exact eff_no h
        · cases h
      case max =>
        exfalso
        generalize hla : args.toList.map g = la at h
        rcases la with _ | ⟨x0, _ | ⟨y0, _ | ⟨z0, la⟩⟩⟩ <;> try (simp [coreB] at h; done)
        simp only [coreB, maxA] at h
        split at h
        · split at h
          · exact eff_no h
          · cases h
        · exact eff_no h
        · cases h
      all_goals (exfalso; revert h; unfold coreB; split <;> simp_all)
    case move x => exact (eff_no h).elim
    case assign x => exact (eff_no h).elim
    case binOp =>
      exfalso; simp only [core] at h
      split at h
      · obtain ⟨_, h⟩ := bif_none h; split at h <;> first | exact eff_no h | cases h
      · exact eff_no h
    case unOp => exact (eff_no h).elim
    case buildSlice => exact (eff_no h).elim
    case pick => exfalso; simp only [core] at h; split at h; · exact eff_no h
                 · cases h
    case convert => exfalso; simp only [core] at h; split at h <;> first | exact eff_no h | cases h
    case build => exfalso; simp only [core] at h; obtain ⟨_, h⟩ := bif_none' h; exact eff_no h
    case load t x => exfalso; have := (load_run (P := P) hg hM rfl h).1; cases this
    case nilCheck => exfalso; simp only [core] at h; split at h <;> first | (obtain ⟨_, h⟩ := bif_none h; exact eff_no h) | exact eff_no h | cases h
    case fieldAddr s x f =>
      exfalso; simp only [core] at h
      obtain ⟨⟨o, ft⟩, hf, h⟩ := Option.bind_eq_some_iff.mp h
      obtain ⟨_, h⟩ := bif_none' h
      split at h <;> first | (obtain ⟨_, h⟩ := bif_none h; exact eff_no h) | exact eff_no h | cases h
    case field s x f =>
      exfalso; simp only [core] at h
      obtain ⟨⟨o, ft⟩, hf, h⟩ := Option.bind_eq_some_iff.mp h
      simp only at h
      split at h <;> first | exact eff_no h | cases h
    case indexAddr t x i =>
      exfalso; simp only [core] at h
      split at h
      · split at h
        · obtain ⟨⟨len, s⟩, ha, h⟩ := Option.bind_eq_some_iff.mp h
          simp only at h
          split at h
          · obtain ⟨_, h⟩ := bif_none h; exact eff_no h
          · cases h
        · obtain ⟨s, ha, h⟩ := Option.bind_eq_some_iff.mp h
          obtain ⟨u, hin, h⟩ := Option.bind_eq_some_iff.mp h
          obtain ⟨_, h⟩ := bif_none h; exact eff_no h
        · obtain ⟨s, ha, h⟩ := Option.bind_eq_some_iff.mp h
          obtain ⟨r, hr, h⟩ := Option.bind_eq_some_iff.mp h
          obtain ⟨row, hrow, h⟩ := Option.bind_eq_some_iff.mp h
          split at h
          · exact eff_no h
          · cases h
      · cases h
    case index t x i => exfalso; simp only [core] at h; split at h <;> first | exact eff_no h | cases h
    case slice t x lo hi mx =>
      exfalso; simp only [core] at h
      cases mx with
      | some _ => cases h
      | none =>
        simp only at h
        split at h
        · obtain ⟨_, h⟩ := bif_none' h; exact eff_no h
        · obtain ⟨s, ha, h⟩ := Option.bind_eq_some_iff.mp h; exact eff_no h
        · obtain ⟨s, ha, h⟩ := Option.bind_eq_some_iff.mp h
          obtain ⟨r, hr, h⟩ := Option.bind_eq_some_iff.mp h; exact eff_no h
    case extract x i => exfalso; simp only [core] at h; split at h <;> first | exact eff_no h | cases h
    case makeFunc fn first caps => exfalso; cases fn <;> simp only [core] at h <;> first | exact eff_no h | cases h
    case makeMap t r =>
      simp only [core, keyOf] at h ⊢
      obtain ⟨n, hr, h⟩ := Option.bind_eq_some_iff.mp h
      obtain ⟨⟨mk, ag, z⟩, ht, h⟩ := Option.map_eq_some_iff.mp h
      obtain ⟨rfl, h⟩ := Prod.mk.inj h
      cases h
      obtain ⟨h1, h2, h3⟩ := make_map hM d mk ag
      exact ⟨_, _, _, run_v (makeMap_run hM hg d ht hr), h1, h2, .inl ⟨_, rfl, h3⟩⟩
    case mapUpdate t x i y =>
      simp only [core, keyOf] at h ⊢
      have hx := hg x
      split at h
      · rename_i k gn e
        rw [e] at hx h ⊢
        obtain ⟨⟨mk, ag, z⟩, ht, h⟩ := Option.bind_eq_some_iff.mp h
        obtain ⟨es, hl, h⟩ := Option.bind_eq_some_iff.mp h
        obtain ⟨key, hkey, h⟩ := Option.bind_eq_some_iff.mp h
        obtain ⟨row, hrow, h⟩ := Option.map_eq_some_iff.mp h
        obtain ⟨rfl, h⟩ := Prod.mk.inj h
        cases h
        obtain ⟨hk, _⟩ := liveM_spec (k := k) (m := m) rfl hl
        obtain ⟨w', h1, h2, h3⟩ := mapUpdate_run hM ht hx hk (hg i) hkey (mrowOf_mv (hg y) hrow)
        refine ⟨.skip, w', ι, ?_, h2, h3, .inr ⟨rfl, rfl⟩⟩
        simp only [execOp, Sem.run_bind, h1, Result.andThen_ok, Sem.run_pure]
      · cases h
    case insert t x i y =>
      simp only [core, keyOf] at h ⊢
      have hx := hg x
      split at h
      · rename_i k gn e
        rw [e] at hx h ⊢
        obtain ⟨⟨mk, ag, z⟩, ht, h⟩ := Option.bind_eq_some_iff.mp h
        obtain ⟨es, hl, h⟩ := Option.bind_eq_some_iff.mp h
        obtain ⟨key, hkey, h⟩ := Option.bind_eq_some_iff.mp h
        obtain ⟨row, hrow, h⟩ := Option.map_eq_some_iff.mp h
        obtain ⟨rfl, h⟩ := Prod.mk.inj h
        cases h
        obtain ⟨hk, _⟩ := liveM_spec (k := k) (m := m) rfl hl
        obtain ⟨w', h1, h2, h3⟩ := mapUpdate_run hM ht hx hk (hg i) hkey (mrowOf_mv (hg y) hrow)
        refine ⟨.skip, w', ι, ?_, h2, h3, .inr ⟨rfl, rfl⟩⟩
        simp only [execOp, Sem.run_bind, h1, Result.andThen_ok, Sem.run_pure]
      · cases h
    case mapEntry t x i =>
      simp only [core, keyOf] at h ⊢
      have hx := hg x
      split at h
      · rename_i k gn e
        rw [e] at hx h ⊢
        obtain ⟨⟨mk, ag, z⟩, ht, h⟩ := Option.bind_eq_some_iff.mp h
        obtain ⟨es, hl, h⟩ := Option.bind_eq_some_iff.mp h
        obtain ⟨key, hkey, h⟩ := Option.bind_eq_some_iff.mp h
        cases h
        obtain ⟨hk, _⟩ := liveM_spec (k := k) (m := m) rfl hl
        obtain ⟨cv, w', h1, h2, h3, h4⟩ := mapEntry_run hM ht hx hk (hg i) hkey
        exact ⟨_, w', ι, run_v h1, h2, h3, .inl ⟨cv, rfl, h4⟩⟩
      · cases h
    case entryStore t x i y =>
      simp only [core, keyOf] at h ⊢
      have hx := hg x
      have hi := hg i
      split at h
      · rename_i k gn n e e2
        rw [e] at hx h ⊢
        rw [e2] at hi
        obtain ⟨⟨mk, ag, z⟩, ht, h⟩ := Option.bind_eq_some_iff.mp h
        obtain ⟨es, hl, h⟩ := Option.bind_eq_some_iff.mp h
        obtain ⟨u, hn, h⟩ := Option.bind_eq_some_iff.mp h
        obtain ⟨row, hrow, h⟩ := Option.map_eq_some_iff.mp h
        obtain ⟨rfl, h⟩ := Prod.mk.inj h
        cases h
        obtain ⟨hk, _⟩ := liveM_spec (k := k) (m := m) rfl hl
        obtain ⟨w', h1, h2, h3⟩ := entryStore_run (P := P) (t := t) hM hx hk hi hn (mrowOf_mv (hg y) hrow)
        refine ⟨.skip, w', ι, ?_, h2, h3, .inr ⟨rfl, rfl⟩⟩
        simp only [execOp, Sem.run_bind, h1, Result.andThen_ok, Sem.run_pure]
      · cases h
    case lookup t x i ok =>
      exfalso
      simp only [core] at h
      split at h
      · obtain ⟨_, _, h⟩ := Option.bind_eq_some_iff.mp h
        obtain ⟨_, _, h⟩ := Option.bind_eq_some_iff.mp h
        obtain ⟨_, _, h⟩ := Option.bind_eq_some_iff.mp h
        exact eff_no h
      · cases h
    all_goals (exfalso; simp only [core] at h; cases h)
end
end Go.Ab
