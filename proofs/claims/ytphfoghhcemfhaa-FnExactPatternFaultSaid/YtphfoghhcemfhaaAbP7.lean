/- Every operation that leaves the function's own memory as it was. -/
import Derived.Test.YtphfoghhcemfhaaAbM
namespace Go.Ab
set_option linter.unusedVariables false
set_option linter.unusedSimpArgs false
theorem bif_none {α : Type} {b : Bool} {x : Option α} {y : α} (h : (bif b then x else none) = some y) : b = true ∧ x = some y := by cases b <;> simp_all
theorem Ra.nilIv {ι : Pl} {m : Mem} {w : World} {v : Value} (h : Ra ι m w v (.p .nilI)) : v = .nilIface := by cases h with | p _ _ h => cases h; rfl
theorem Ra.ifcv {ι : Pl} {m : Mem} {w : World} {v : Value} {b : Bool} (h : Ra ι m w v (.p (.ifc b))) : (b = true ∧ v = .nilIface) ∨ (b = false ∧ ∃ t x, v = .iface t x) := by
  cases h with
  | p _ _ h =>
    cases h with
    | ifc _ _ h1 h2 =>
      cases b
      · exact .inr ⟨rfl, h2 rfl⟩
      · exact .inl ⟨rfl, h1 rfl⟩
theorem guard_const {op : BinOp} {t : TypeId} {x y : Operand} {a b : Value} {P : Program} {w : World} (hy : constB y = true) (hv : (a = .nilIface ∨ ∃ t x, a = .iface t x) ∧ b = .nilIface) : (eqGuard op t x y a b).run P w = .ok () w := by
  obtain ⟨h1, rfl⟩ := hv
  cases y with
  | const v => rcases h1 with rfl | ⟨tt, xx, rfl⟩ <;> unfold eqGuard <;> cases op <;> simp
  | _ => cases hy
section
variable {ι : Pl} {m : Mem} {w : World} {P : Program}
variable {ρ : Operand → Value} {g : Operand → AV} (hg : ∀ x, Ra ι m w (ρ x) (g x)) (hM : MemOk ι m w)
include hg hM
theorem load_run {t : TypeId} {x : Operand} {av : AV} {n : Option (Nat × Ob)} {e : Nat × Ob} {hb : Bool} {d : Nat} (he : e = entO m (keyOf (.load t x) g d)) (h : core P hb (.load t x) g d e = some (av, n)) :
    n = none ∧ ∃ cv, (Instr.loadAt t (ρ x)).run P w = .ok cv w ∧ Ra ι m w cv av := by
  have hx := hg x
  simp only [core, keyOf] at h he
  cases hgx : g x with
  | ptr k gn off =>
    rw [hgx] at h he hx
    obtain ⟨g', ob⟩ := e
    cases ob with
    | cells cs =>
      simp only at h
      cases hgg : gn == g' <;> rw [hgg] at h
      · cases h
      obtain ⟨h1, h2⟩ := eff_some h
      have e1 : gn = g' := by simpa using hgg
      subst e1
      have hk := ent_lk he (by simp)
      obtain ⟨vs, ty, h3, h4, h5⟩ := hM.ok k gn _ hk
      rw [hx.ptrv hk]
      refine ⟨h2, ?_⟩
      simp only [Instr.loadAt, Instr.sureAddr, Sem.run_bind, Sem.run_pure, Result.andThen_ok]
      refine ld_run h1 _ (fun j => vs.getD (off + j) undef) fun j c hj => ?_
      rw [List.getElem?_drop] at hj
      have hlt : off + j < vs.size := by rw [h4]; exact (List.getElem?_eq_some_iff.1 hj).1
      have e2 : vs[off + j]? = some vs[off + j] := Array.getElem?_eq_getElem hlt
      obtain ⟨h6, h7⟩ := h5 (off + j) _ c e2 hj
      have e3 : vs.getD (off + j) undef = vs[off + j] := by simp [Array.getD, hlt]
      rw [e3]
      refine ⟨?_, h6, h7⟩
      rw [add_mk]
      simp [World.cell?, h3, hlt]
    | _ => cases h
  | eptr k gn i off =>
    rw [hgx] at h he hx
    obtain ⟨g', ob⟩ := e
    cases ob with
    | buf z rows =>
      simp only at h
      cases hgg : gn == g' <;> rw [hgg] at h
      · cases h
      obtain ⟨h1, h2⟩ := eff_some h
      obtain ⟨row, hrow, h1⟩ := Option.bind_eq_some_iff.mp h1
      have e1 : gn = g' := by simpa using hgg
      subst e1
      have hk := ent_lk he (by simp)
      obtain ⟨hz, _, _, hrl, hbuf⟩ := hM.ok k gn _ hk
      obtain ⟨ad, hbase, hv⟩ := hx.eptrv hk
      obtain ⟨ho, hsp, vs, ty, h3, h4, h5⟩ := hbuf ad hbase
      rw [hv]
      refine ⟨h2, ?_⟩
      simp only [Instr.loadAt, Instr.sureAddr, Sem.run_bind, Sem.run_pure, Result.andThen_ok]
      refine ld_run h1 _ (fun j => vs.getD (i * (ι k).sz + (off + j)) undef) fun j c hj => ?_
      rw [List.getElem?_drop, List.getElem?_map] at hj
      obtain ⟨pv, hpv, rfl⟩ := Option.map_eq_some_iff.mp hj
      obtain ⟨u, h6, h7, h8⟩ := h5 i (off + j) row pv hrow hpv
      have hlt : i * (ι k).sz + (off + j) < vs.size := (Array.getElem?_eq_some_iff.1 h6).1
      have e3 : vs.getD (i * (ι k).sz + (off + j)) undef = u := by
        rw [Array.getD_eq_getD_getElem?, h6]; rfl
      rw [e3]
      refine ⟨?_, .p _ _ h7, h8⟩
      obtain ⟨bl, of, sp⟩ := ad
      simp only at ho hsp h3
      subst ho; subst hsp
      rw [add_add, add_mk]
      simp only [World.cell?, h3, Nat.zero_add, Nat.add_assoc]
      simpa using h6
    | _ => cases h
  | cptr cells =>
    rw [hgx] at h hx
    obtain ⟨h1, h2⟩ := eff_some h
    refine ⟨h2, ?_⟩
    generalize ρ x = v at hx
    cases hx with
    | cptr ad _ u hs h3 h4 =>
      simp only [Instr.loadAt, Instr.sureAddr, Sem.run_bind, Sem.run_pure, Result.andThen_ok]
      refine ld_run h1 ad u fun j c hj => ?_
      rw [List.getElem?_map] at hj
      obtain ⟨pv, hpv, rfl⟩ := Option.map_eq_some_iff.mp hj
      exact ⟨(h3 j pv hpv).1, .p _ _ (h4 j pv hpv), (h4 j pv hpv).one⟩
  | _ => rw [hgx] at h; cases h
theorem quiet_op {o : Oper} {av : AV} {hb : Bool} {d : Nat} (hnc : isCall o.op = false) (hns : ∀ t n ps, o.op ≠ .buildSlice t n ps) (hnv : ∀ s t x, o.op = .convert s t x → tkind P s = .str → tkind P t = .bytes → False) (h : core P hb o.op g d (entO m (keyOf o.op g d)) = some (av, none)) :
    ∃ cv, (execOp ρ o).run P w = .ok (.value cv) w ∧ Ra ι m w cv av := by
  obtain ⟨dst, op, ty, pos, after, guard⟩ := o
  simp only at h
  cases op
  case move x => obtain ⟨rfl, _⟩ := Prod.mk.inj (Option.some.inj h); exact ⟨ρ x, rfl, hg x⟩
  case assign x => obtain ⟨rfl, _⟩ := Prod.mk.inj (Option.some.inj h); exact ⟨ρ x, rfl, hg x⟩
  case pick c a b => simp only [core] at h; exact d_pick hg h
  case binOp op t x y yt =>
    simp only [core] at h
    split at h
    · rename_i b hcb hgx hgy
      obtain ⟨ht, h⟩ := bif_none h
      obtain ⟨ms, hu⟩ : ∃ ms, P.underlying t = some (.interface ms) := by
        unfold isIfcT at ht; split at ht
        · rename_i ms hu; exact ⟨ms, hu⟩
        · cases ht
      have hx := hg x; have hy := hg y
      rw [hgx] at hx; rw [hgy] at hy
      have ey := hy.nilIv
      have hgd : (eqGuard op t x y (ρ x) .nilIface).run P w = .ok () w := guard_const hcb ⟨hx.ifcv.elim (fun h => .inl h.2) (fun h => .inr h.2), rfl⟩
      have hq : (Op.equal t (ρ x) .nilIface).run P w = .ok b w := by
        rw [Op.equal, show Op.maxDepth = 9999 + 1 from rfl, Op.equalIn]
        rcases hx.ifcv with ⟨rfl, e⟩ | ⟨rfl, tt, xx, e⟩ <;> simp [e, run_underlying hu]
      refine DoesP.of ?_
      rw [ey]
      have key : ∀ v : Value, (v = .nilIface ∨ ∃ tt xx, v = .iface tt xx) → (eqGuard op t x y v .nilIface).run P w = .ok () w → (Op.equal t v .nilIface).run P w = .ok b w → ∃ cv, (do eqGuard op t x y v .nilIface; Go.binOp op t v .nilIface : Sem Value).run P w = .ok cv w ∧ Ra ι m w cv av := fun v hv hgd hq => by
        cases op <;> simp only [reduceCtorEq] at h
        · obtain ⟨h1, _⟩ := eff_some h; cases h1
          rcases hv with rfl | ⟨tt, xx, rfl⟩ <;> exact ⟨.bool b, by rw [Sem.run_bind, hgd]; simp [Go.binOp, hq], .bool' _⟩
        · obtain ⟨h1, _⟩ := eff_some h; cases h1
          rcases hv with rfl | ⟨tt, xx, rfl⟩ <;> exact ⟨.bool (!b), by rw [Sem.run_bind, hgd]; simp [Go.binOp, hq], .bool' _⟩
      exact key _ (hx.ifcv.elim (fun h => .inl h.2) (fun h => .inr h.2)) hgd hq
    · obtain ⟨h1, _⟩ := eff_some h
      exact DoesP.of (binop_run hg h1)
  case unOp op t x =>
    simp only [core] at h
    obtain ⟨h1, _⟩ := eff_some h
    exact DoesP.of (unop_run hg h1)
  case load t x => exact DoesP.of (load_run hg hM rfl h).2
  case extract x i =>
    simp only [core] at h
    have hx := hg x
    split at h
    · rename_i vs e; rw [e] at hx
      obtain ⟨h1, _⟩ := eff_some h
      simp only [execOp]
      generalize ρ x = v at hx
      cases hx with
      | tup ws _ hl hr =>
        have hi : i < ws.size := by rw [hl]; exact (List.getElem?_eq_some_iff.1 h1).1
        exact DoesP.of ⟨ws[i], by simp [Instr.extract, hi], hr i _ av (Array.getElem?_eq_getElem hi) h1⟩
    · cases h
  case makeFunc fn first caps =>
    cases fn <;> simp only [core] at h <;> try cases h
    rename_i f
    refine ⟨.func (.func f) (first.map ρ) (caps.map ρ), rfl, .clo f _ _ _ _ (by simp) (by simp) (fun i v c hv hc => ?_) (fun i v c hv hc => ?_)⟩
    · simp only [Array.getElem?_map, List.getElem?_map, Array.getElem?_toList] at hv hc
      obtain ⟨x, hx, rfl⟩ := Option.map_eq_some_iff.mp hv
      rw [hx] at hc; cases hc; exact hg x
    · simp only [Array.getElem?_map, List.getElem?_map, Array.getElem?_toList] at hv hc
      obtain ⟨x, hx, rfl⟩ := Option.map_eq_some_iff.mp hv
      rw [hx] at hc; cases hc; exact hg x
  case build t parts =>
    simp only [core] at h
    cases hs : sizedB P t <;> rw [hs] at h
    · cases h
    obtain ⟨h1, _⟩ := eff_some h
    obtain ⟨z, hz, h1⟩ := Option.bind_eq_some_iff.mp h1
    obtain ⟨cs, hf, rfl⟩ := Option.map_eq_some_iff.mp h1
    obtain ⟨vs, h2, h3⟩ := build_run hg hs hz hf
    exact DoesP.of ⟨_, h2, .agg _ _ h3.len h3.one h3.rel⟩
  case field t x f =>
    simp only [core] at h
    obtain ⟨⟨o, ft⟩, hf, h⟩ := Option.bind_eq_some_iff.mp h
    split at h
    · rename_i cs e
      obtain ⟨h1, _⟩ := eff_some h
      exact DoesP.of (d_field hg hf e h1)
    · cases h
  case nilCheck x =>
    simp only [core, keyOf] at h
    have hx := hg x
    split at h
    · rename_i k gn off e
      rw [e] at hx h
      cases hl : liveC gn (entO m (keyV (.ptr k gn off))) <;> rw [hl] at h
      · cases h
      obtain ⟨h1, _⟩ := eff_some h
      cases h1
      obtain ⟨cs, hk, _⟩ := liveC_spec (k := k) rfl hl
      have hv := hx.ptrv hk
      exact ⟨ρ x, by simp [execOp, hv], hx⟩
    · rename_i c e
      rw [e] at hx
      obtain ⟨h1, _⟩ := eff_some h
      cases h1
      simp only [execOp]
      generalize ρ x = v at hx
      cases hx with
      | cptr ad _ u hs h3 h4 => exact ⟨_, rfl, .cptr ad _ u hs h3 h4⟩
    · rename_i k gn i off e
      rw [e] at hx h
      cases hl : liveB gn (entO m (keyV (.eptr k gn i off))) <;> rw [hl] at h
      · cases h
      obtain ⟨h1, _⟩ := eff_some h
      cases h1
      obtain ⟨z, r, hk, _⟩ := liveB_spec (k := k) rfl hl
      obtain ⟨ad, _, hv⟩ := hx.eptrv hk
      exact ⟨ρ x, by simp [execOp, hv], hx⟩
    · cases h
  case fieldAddr s x f =>
    simp only [core, keyOf] at h
    have hx := hg x
    obtain ⟨⟨o, ft⟩, hf, h⟩ := Option.bind_eq_some_iff.mp h
    cases hp : szPos P ft <;> rw [hp] at h
    · cases h
    simp only [Bool.not_true, cond_false] at h
    split at h
    · rename_i k gn off e
      rw [e] at hx h
      cases hl : liveC gn (entO m (keyV (.ptr k gn off))) <;> rw [hl] at h
      · cases h
      obtain ⟨h1, _⟩ := eff_some h
      cases h1
      obtain ⟨cs, hk, _⟩ := liveC_spec (k := k) rfl hl
      have hv := hx.ptrv hk
      have hgen : gn ≤ (ent m k).1 := by rw [ent_of_lk hk]; exact Nat.le_refl _
      refine DoesP.of ⟨.pointer (some (Addr.add ⟨(ι k).blk, off, none⟩ o)), by rw [hv]; exact d_fieldAddr hf hp, .ptr _ k gn _ rfl hgen fun _ _ => by rw [add_mk]⟩
    · rename_i c e
      rw [e] at hx
      obtain ⟨h1, _⟩ := eff_some h
      cases h1
      simp only [execOp]
      generalize ρ x = v at hx
      cases hx with
      | cptr ad _ u hs h3 h4 => exact DoesP.of ⟨_, d_fieldAddr hf hp, Ra.cdrop (.cptr ad _ u hs h3 h4) o⟩
    · rename_i k gn i off e
      rw [e] at hx h
      cases hl : liveB gn (entO m (keyV (.eptr k gn i off))) <;> rw [hl] at h
      · cases h
      obtain ⟨h1, _⟩ := eff_some h
      cases h1
      obtain ⟨z, r, hk, _⟩ := liveB_spec (k := k) rfl hl
      obtain ⟨ad, hb', hv⟩ := hx.eptrv hk
      have hgen : gn ≤ (ent m k).1 := by rw [ent_of_lk hk]; exact Nat.le_refl _
      refine DoesP.of ⟨_, by rw [hv]; exact d_fieldAddr hf hp, .eptr _ k gn _ _ rfl hgen fun _ _ _ => ⟨ad, hb', by rw [add_add, Nat.add_assoc]⟩⟩
    · cases h
  case indexAddr t x i =>
    simp only [core, keyOf] at h
    have hx := hg x; have hi := hg i
    split at h
    · rename_i kk n ei
      rw [ei] at hi
      split at h
      · rename_i k gn off e
        rw [e] at hx h
        obtain ⟨⟨len, s⟩, ha, h⟩ := Option.bind_eq_some_iff.mp h
        simp only at h
        split at h
        · rename_i hb'
          cases hl : liveC gn (entO m (keyV (.ptr k gn off))) <;> rw [hl] at h
          · cases h
          obtain ⟨h1, _⟩ := eff_some h
          cases h1
          obtain ⟨cs, hk, _⟩ := liveC_spec (k := k) rfl hl
          have hgen : gn ≤ (ent m k).1 := by rw [ent_of_lk hk]; exact Nat.le_refl _
          refine DoesP.of ⟨.pointer (some (Addr.add ⟨(ι k).blk, off, none⟩ (n.toNat * s))), ?_, .ptr _ k gn _ rfl hgen fun _ _ => by rw [add_mk]⟩
          rw [hx.ptrv hk, hi.int]; exact indexPtr_run (s := s) (k := k) (g := gn) (off := off) ha hb'
        · cases h
      · rename_i k gn lo c e
        rw [e] at hx h
        obtain ⟨s, ha, h⟩ := Option.bind_eq_some_iff.mp h
        obtain ⟨u, hin, h⟩ := Option.bind_eq_some_iff.mp h
        unfold inr at hin; split at hin
        · rename_i hb'
          cases hl : (liveZ gn s (entO m (keyV (.buf k gn lo c))) && decide (0 < s)) <;> rw [hl] at h
          · cases h
          obtain ⟨h1, _⟩ := eff_some h
          cases h1
          rw [Bool.and_eq_true] at hl
          obtain ⟨r, hk, _⟩ := liveZ_spec (k := k) rfl hl.1
          obtain ⟨h2, A, h3, h4⟩ := hx.bufv hk
          obtain ⟨hsz, h5, h6, _⟩ := hM.ok k gn _ hk
          have hlo : lo < (ι k).cap := by omega
          have hgen : gn ≤ (ent m k).1 := by rw [ent_of_lk hk]; exact Nat.le_refl _
          cases hbase : (ι k).base with
          | none => have := h6 hbase; omega
          | some ad =>
            rw [hbase] at h4
            refine DoesP.of ⟨.pointer (some ((ad.add (lo * (ι k).sz)).add (n.toNat * s))), ?_, .eptr _ k gn _ _ rfl hgen fun _ _ _ => ⟨ad, hbase, by rw [add_add, hsz, Nat.add_zero, ← Nat.add_mul]⟩⟩
            rw [h3, h4 hlo, hi.int]; exact indexSl_run ha hb'
        · cases hin
      · rename_i hn1 hn2
        obtain ⟨s, ha, h⟩ := Option.bind_eq_some_iff.mp h
        obtain ⟨r, hr, h⟩ := Option.bind_eq_some_iff.mp h
        obtain ⟨row, hrow, h⟩ := Option.bind_eq_some_iff.mp h
        split at h
        · rename_i hb'
          obtain ⟨h1, _⟩ := eff_some h
          cases h1
          unfold ix at hrow; split at hrow
          · rename_i h0
            obtain ⟨ad, cap, hv, hc⟩ := (hx.rows hr).row hrow hb'.1 hb'.2
            have hlt : n < r.length := by have := (List.getElem?_eq_some_iff.1 hrow).1; omega
            refine DoesP.of ⟨_, ?_, hc⟩
            rw [hv, hi.int]; exact indexSl_run ha ⟨h0, hlt⟩
          · cases hrow
        · cases h
    · cases h
  case index t x i =>
    simp only [core] at h
    split at h
    · rename_i b kk n hk hx hi
      obtain ⟨h1, _⟩ := eff_some h
      obtain ⟨c, hc, rfl⟩ := Option.map_eq_some_iff.mp h1
      exact DoesP.of (index_run hg hx hi (tkind_str hk) hc)
    · cases h
  case slice t x lo hi mx =>
    simp only [core, keyOf] at h
    cases mx with
    | some _ => cases h
    | none =>
      simp only at h
      split at h
      · rename_i b e
        cases ht : isStrT P t <;> rw [ht] at h
        · cases h
        obtain ⟨h1, _⟩ := eff_some h
        obtain ⟨l, hl, h1⟩ := Option.bind_eq_some_iff.mp h1
        obtain ⟨hh, hhi, h1⟩ := Option.bind_eq_some_iff.mp h1
        obtain ⟨s, hs, rfl⟩ := Option.map_eq_some_iff.mp h1
        exact DoesP.of (d_sliceStr hg e ht hl hhi hs)
      · rename_i k gn l0 c e
        rw [e] at h
        obtain ⟨s, ha, h⟩ := Option.bind_eq_some_iff.mp h
        obtain ⟨h1, _⟩ := eff_some h
        obtain ⟨l, hl, h1⟩ := Option.bind_eq_some_iff.mp h1
        obtain ⟨hh, hhi, h1⟩ := Option.bind_eq_some_iff.mp h1
        obtain ⟨u, hbn, h1⟩ := Option.bind_eq_some_iff.mp h1
        unfold bnd at hbn; split at hbn
        · rename_i hb'
          cases hz : liveZ gn s (entO m (keyV (.buf k gn l0 c))) <;> rw [hz] at h1
          · cases h1
          cases h1
          obtain ⟨r, hk, _⟩ := liveZ_spec (k := k) rfl hz
          exact DoesP.of (d_sliceBuf hg e ha hl hhi hb' hk hM)
        · cases hbn
      · rename_i hn1 hn2
        obtain ⟨s, ha, h⟩ := Option.bind_eq_some_iff.mp h
        obtain ⟨r, hr, h⟩ := Option.bind_eq_some_iff.mp h
        obtain ⟨h1, _⟩ := eff_some h
        obtain ⟨l, hl, h1⟩ := Option.bind_eq_some_iff.mp h1
        obtain ⟨hh, hhi, h1⟩ := Option.bind_eq_some_iff.mp h1
        obtain ⟨q, hq, h1⟩ := Option.bind_eq_some_iff.mp h1
        cases hok : rowsOk s r <;> rw [hok] at h1
        · cases h1
        cases h1
        exact DoesP.of (d_sliceLst hg hr ha hl hhi hq hok)
  case convert s t x =>
    simp only [core, keyOf] at h
    have hx := hg x
    split at h
    · rename_i k0 k1 k2 n hs ht e
      rw [e] at hx
      obtain ⟨h1, _⟩ := eff_some h
      cases h1
      refine DoesP.of ⟨_, ?_, .int' _ _⟩
      simp only [Go.convert, Sem.run_bind, run_underlying (tkind_int hs), run_underlying (tkind_int ht), Result.andThen_ok, hx.int, Conv.intToInt, Sem.run_pure]
    · rename_i b hs ht e
      rw [e] at hx
      obtain ⟨h1, _⟩ := eff_some h
      cases h1
      refine DoesP.of ⟨_, ?_, .str' _⟩
      simp only [Go.convert, Sem.run_bind, run_underlying (tkind_str hs), run_underlying (tkind_str ht), Result.andThen_ok, hx.str, Sem.run_pure]
    · rename_i hs ht
      obtain ⟨h1, _⟩ := eff_some h
      obtain ⟨r, hr, h1⟩ := Option.bind_eq_some_iff.mp h1
      obtain ⟨l, hl, rfl⟩ := Option.map_eq_some_iff.mp h1
      obtain ⟨el, hu, hu8⟩ := tkind_bytes hs
      have hrun := bytes_run (P := P) (hx.rows hr) hl
      refine DoesP.of ⟨_, ?_, .str' _⟩
      obtain ⟨A, cap, hv⟩ := (hx.rows hr).sliceV
      rw [hv] at hrun ⊢
      simp only [Go.convert, Sem.run_bind, run_underlying hu, run_underlying (tkind_str ht), Result.andThen_ok, run_underlying hu8]
      exact hrun
    · rename_i k0 k2 n hs ht e
      rw [e] at hx
      obtain ⟨h1, _⟩ := eff_some h
      cases h1
      refine DoesP.of ⟨_, ?_, .str' _⟩
      simp only [Go.convert, Sem.run_bind, run_underlying (tkind_int hs), run_underlying (tkind_str ht), Result.andThen_ok, hx.int, Conv.intToString, Sem.run_pure, istr]
    · rename_i b hs ht e; exact (hnv _ _ _ rfl hs ht).elim
    · cases h
  case call c =>
    obtain ⟨callee, args, ts⟩ := c
    cases callee <;> simp only [core] at h <;> try (first | cases h | cases hnc)
    rename_i b
    have hexec : ∀ (r : Sem Value), (Go.builtin b ts ty (args.map fun | .const _ => true | _ => false) (args.map ρ)) = (do pure (.value (← r)) : Sem Next) →
        execOp ρ ⟨dst, .call { callee := .builtin b, args := args, argTypes := ts }, ty, pos, after, guard⟩ = (do pure (.value (← r)) : Sem Next) := fun r hr => hr
    have one : ∀ {x0 : AV}, args.toList.map g = [x0] → ∃ x, args = #[x] ∧ g x = x0 := fun {x0} ha => by
      cases hl : args.toList with
      | nil => rw [hl] at ha; cases ha
      | cons y r => rw [hl] at ha; cases r with
        | nil => exact ⟨y, by rw [← Array.toList_inj, hl], by simpa using ha⟩
        | cons _ _ => simp at ha
    have two : ∀ {x0 y0 : AV}, args.toList.map g = [x0, y0] → ∃ x y, args = #[x, y] ∧ g x = x0 ∧ g y = y0 := fun {x0 y0} ha => by
      cases hl : args.toList with
      | nil => rw [hl] at ha; cases ha
      | cons y r => rw [hl] at ha; cases r with
        | nil => simp at ha
        | cons z r => cases r with
          | nil => exact ⟨y, z, by rw [← Array.toList_inj, hl], by simpa using ha⟩
          | cons _ _ => simp at ha
    cases b
    case len =>
      generalize hla : args.toList.map g = la at h
      generalize hlt : ts.toList = lt at h
      rcases la with _ | ⟨x0, _ | ⟨y0, la⟩⟩ <;> try (simp [coreB] at h; done)
      rcases lt with _ | ⟨t, lt⟩ <;> try (simp [coreB] at h; done)
      simp only [coreB] at h
      obtain ⟨xs, rfl, rfl⟩ := one hla
      have ht0 : ts[0]? = some t := by rw [← Array.getElem?_toList, hlt]; rfl
      obtain ⟨_, cv, h1, h2⟩ := lenA_run hM (P := P) (ty := ty) ht0 (hg xs) (fun kk hkk => by
        show entO m (keyL [g xs]) = ent m kk; rw [hkk]; rfl) h
      exact ⟨cv, by rw [hexec (Builtin.len_ ts ty #[ρ xs]) (by simp [Go.builtin])]; exact run_v h1, h2⟩
    case min =>
      generalize hla : args.toList.map g = la at h
      rcases la with _ | ⟨x0, _ | ⟨y0, _ | ⟨z0, la⟩⟩⟩ <;> try (simp [coreB] at h; done)
      simp only [coreB] at h
      obtain ⟨xs, ys, rfl, hgx, hgy⟩ := two hla
      obtain ⟨_, cv, h1, h2⟩ := minA_run (P := P) (hg xs) (hg ys) (by rw [hgx, hgy]; exact h)
      exact ⟨cv, by rw [hexec (Builtin.min2 (ρ xs) (ρ ys)) (by simp [Go.builtin, Builtin.min_])]; exact run_v h1, h2⟩
    case max =>
      generalize hla : args.toList.map g = la at h
      rcases la with _ | ⟨x0, _ | ⟨y0, _ | ⟨z0, la⟩⟩⟩ <;> try (simp [coreB] at h; done)
      simp only [coreB] at h
      obtain ⟨xs, ys, rfl, hgx, hgy⟩ := two hla
      obtain ⟨_, cv, h1, h2⟩ := maxA_run (P := P) (hg xs) (hg ys) (by rw [hgx, hgy]; exact h)
      exact ⟨cv, by rw [hexec (Builtin.max2 (ρ xs) (ρ ys)) (by simp [Go.builtin, Builtin.max_])]; exact run_v h1, h2⟩
    case append =>
      exfalso
      generalize hla : args.toList.map g = la at h
      generalize hlt : ts.toList = lt at h
      rcases la with _ | ⟨x0, _ | ⟨y0, _ | ⟨z0, la⟩⟩⟩ <;> try (simp [coreB] at h; done)
      rcases lt with _ | ⟨t, _ | ⟨tx, _ | ⟨_, lt⟩⟩⟩ <;> try (simp [coreB, appT] at h; done)
      simp only [coreB, appT] at h
      obtain ⟨_, h⟩ := bif_none h
      obtain ⟨sz, _, h⟩ := Option.bind_eq_some_iff.mp h
      have hN : ∀ {r : Rows} {g' : Nat} {q : Rows}, appN hb sz d r g' q = some (av, none) → False := fun {r g' q} h => by
        unfold appN at h
        obtain ⟨rq, _, h⟩ := Option.bind_eq_some_iff.mp h
        cases hh : rowsOk sz rq <;> rw [hh] at h
        · cases h
        · simp only [cond_true] at h
          cases hh2 : (hb && r.isEmpty) <;> rw [hh2] at h <;> cases h
      unfold appC at h
      split at h
      · exact hN h
      · exact hN h
      · obtain ⟨_, h⟩ := bif_none h
        obtain ⟨rq, _, h⟩ := Option.bind_eq_some_iff.mp h
        obtain ⟨_, h⟩ := bif_none h
        cases h
      · obtain ⟨_, h⟩ := bif_none h
        obtain ⟨rq, _, h⟩ := Option.bind_eq_some_iff.mp h
        obtain ⟨_, h⟩ := bif_none h
        cases h
      · cases h
    all_goals (exfalso; revert h; unfold coreB; split <;> simp_all)
  case alloc t => exfalso; simp only [core] at h; obtain ⟨cs, _, h⟩ := Option.map_eq_some_iff.mp h; cases h
  case box t x => exfalso; simp only [core] at h; obtain ⟨cs, _, h⟩ := Option.map_eq_some_iff.mp h; cases h
  case buildSlice t n ps => exact absurd rfl (hns t n ps)
  case store t a x =>
    exfalso; simp only [core] at h
    split at h
    · rename_i kk gn i off g' z rows e1 e2
      cases hh : (gn == g' : Bool) <;> rw [hh] at h <;> first | (cases h; done) | skip
      simp only [cond_true] at h
      obtain ⟨vc, _, h⟩ := Option.bind_eq_some_iff.mp h
      obtain ⟨s, _, h⟩ := Option.bind_eq_some_iff.mp h
      obtain ⟨row, _, h⟩ := Option.bind_eq_some_iff.mp h
      split at h
      · obtain ⟨r2, _, h⟩ := Option.map_eq_some_iff.mp h; cases h
      · cases h
    · rename_i kk gn off g' cs e1 e2
      cases hh : (gn == g' : Bool) <;> rw [hh] at h <;> first | (cases h; done) | skip
      simp only [cond_true] at h
      obtain ⟨vc, _, h⟩ := Option.bind_eq_some_iff.mp h
      obtain ⟨s, _, h⟩ := Option.bind_eq_some_iff.mp h
      split at h <;> cases h
    · cases h
  case makeSlice t n c =>
    exfalso; simp only [core] at h
    split at h
    · obtain ⟨s, _, h⟩ := Option.bind_eq_some_iff.mp h
      obtain ⟨z, _, h⟩ := Option.bind_eq_some_iff.mp h
      obtain ⟨zr, _, h⟩ := Option.bind_eq_some_iff.mp h
      split at h
      · obtain ⟨rows, _, h⟩ := Option.map_eq_some_iff.mp h; cases h
      · cases h
    · cases h
  case lookup t x i ok =>
    simp only [core] at h
    have hx := hg x
    split at h
    · rename_i k gn e
      rw [e] at hx
      obtain ⟨⟨mk, ag, z⟩, ht, h⟩ := Option.bind_eq_some_iff.mp h
      obtain ⟨es, hl, h⟩ := Option.bind_eq_some_iff.mp h
      obtain ⟨key, hkey, h⟩ := Option.bind_eq_some_iff.mp h
      obtain ⟨h1, _⟩ := eff_some h
      cases h1
      have he : entO m (keyOf (.lookup t x i ok) g d) = ent m k := by simp only [keyOf, e, keyV, entO]
      obtain ⟨hk, _⟩ := liveM_spec he hl
      exact DoesP.of (lookup_run hM ht hx hk (hg i) hkey)
    · cases h
  case makeMap t r =>
    simp only [core] at h
    obtain ⟨_, _, h⟩ := Option.bind_eq_some_iff.mp h
    obtain ⟨_, _, h⟩ := Option.map_eq_some_iff.mp h
    cases h
  case mapUpdate t x i y =>
    simp only [core] at h
    split at h
    · obtain ⟨_, _, h⟩ := Option.bind_eq_some_iff.mp h
      obtain ⟨_, _, h⟩ := Option.bind_eq_some_iff.mp h
      obtain ⟨_, _, h⟩ := Option.bind_eq_some_iff.mp h
      obtain ⟨_, _, h⟩ := Option.map_eq_some_iff.mp h
      cases h
    · cases h
  case insert t x i y =>
    simp only [core] at h
    split at h
    · obtain ⟨_, _, h⟩ := Option.bind_eq_some_iff.mp h
      obtain ⟨_, _, h⟩ := Option.bind_eq_some_iff.mp h
      obtain ⟨_, _, h⟩ := Option.bind_eq_some_iff.mp h
      obtain ⟨_, _, h⟩ := Option.map_eq_some_iff.mp h
      cases h
    · cases h
  case mapEntry t x i =>
    simp only [core] at h
    split at h
    · obtain ⟨_, _, h⟩ := Option.bind_eq_some_iff.mp h
      obtain ⟨_, _, h⟩ := Option.bind_eq_some_iff.mp h
      obtain ⟨_, _, h⟩ := Option.bind_eq_some_iff.mp h
      cases h
    · cases h
  case entryStore t x i y =>
    simp only [core] at h
    split at h
    · obtain ⟨_, _, h⟩ := Option.bind_eq_some_iff.mp h
      obtain ⟨_, _, h⟩ := Option.bind_eq_some_iff.mp h
      obtain ⟨_, _, h⟩ := Option.bind_eq_some_iff.mp h
      obtain ⟨_, _, h⟩ := Option.map_eq_some_iff.mp h
      cases h
    · cases h
  all_goals (simp only [core] at h; cases h)
end
end Go.Ab
