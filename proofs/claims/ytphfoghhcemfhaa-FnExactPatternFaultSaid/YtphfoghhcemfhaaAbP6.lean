/- Lengths, least and greatest, places of elements, conversions; a step that leaves the memory alone. -/
import Derived.MapKept
import Derived.Test.YtphfoghhcemfhaaAbP5
namespace Go.Ab
open Go.MapKept
set_option linter.unusedVariables false
set_option linter.unusedSimpArgs false
section
variable {ι : Pl} {m : Mem} {w : World} {P : Program} {v : Value}
variable {ρ : Operand → Value} {g : Operand → AV} (hg : ∀ x, Ra ι m w (ρ x) (g x))
theorem Rp.sliceV {Ow : Nat → Nat → Prop} {b : Bool} {r : Rows} (h : Rp Ow w v (.lst b r)) : ∃ A cap, v = .slice A r.length cap := by cases h; exact ⟨_, _, rfl⟩
theorem mapTy_spec {t : TypeId} {mk : MK} {ag : Bool} {z : List PV} (h : mapTy P t = some (mk, ag, z)) : ∃ kt el d zc, P.underlying t = some (.map kt el) ∧ P.underlying kt = some d ∧ (∀ pv, kOf mk pv = true → IsKey d (kval pv)) ∧ zeroAg P el = some ag ∧ zeroCells P el = some zc ∧ pvs zc = some z ∧ (ag = false → z.length = 1) := by
  unfold mapTy at h
  split at h
  case h_2 => cases h
  rename_i kt el hu
  obtain ⟨mk', hk, h⟩ := Option.bind_eq_some_iff.mp h
  obtain ⟨ag', ha, h⟩ := Option.bind_eq_some_iff.mp h
  obtain ⟨zc, hz, h⟩ := Option.bind_eq_some_iff.mp h
  obtain ⟨zr, hr, h⟩ := Option.bind_eq_some_iff.mp h
  cases hc : (ag' || zr.length == 1) with
  | false => rw [hc] at h; cases h
  | true =>
    rw [hc] at h
    cases h
    have hl : ag = false → z.length = 1 := fun e => by rw [e] at hc; simpa using hc
    split at hk
    · rename_i kk hkk
      cases hk
      exact ⟨kt, el, _, zc, hu, hkk, fun pv hp => by cases pv <;> simp [kOf] at hp; subst hp; simp [kval, IsKey], ha, hz, hr, hl⟩
    · rename_i hkk
      cases hk
      exact ⟨kt, el, _, zc, hu, hkk, fun pv hp => by cases pv <;> simp [kOf] at hp; simp [kval, IsKey], ha, hz, hr, hl⟩
    · cases hk
theorem lenA_run (hM : MemOk ι m w) {t : TypeId} {ts : Array TypeId} {ty : TypeId} (ht0 : ts[0]? = some t) {e : Nat × Ob} {a av : AV} {n : Option (Nat × Ob)} (hv : Ra ι m w v a) (he : ∀ kk, keyL [a] = some kk → e = ent m kk) (h : lenA P t e a = some (av, n)) :
    n = none ∧ ∃ cv, (Builtin.len_ ts ty #[v]).run P w = .ok cv w ∧ Ra ι m w cv av := by
  have rest : ∀ (hr : (sliceOf P t).bind (fun _ => eff (a.rows.map fun r => .p (.int .i64 r.length))) = some (av, n)), n = none ∧ ∃ cv, (Builtin.len_ ts ty #[v]).run P w = .ok cv w ∧ Ra ι m w cv av := fun hr => by
    obtain ⟨s, hs, hr⟩ := Option.bind_eq_some_iff.mp hr
    obtain ⟨h1, h2⟩ := eff_some hr
    obtain ⟨r, h3, rfl⟩ := Option.map_eq_some_iff.mp h1
    obtain ⟨el, hu, _⟩ := sliceOf_spec hs
    obtain ⟨A, cap, rfl⟩ := (hv.rows h3).sliceV
    exact ⟨h2, .int .i64 r.length, by simp [Builtin.len_, ht0, run_underlying hu, goInt], .int' _ _⟩
  unfold lenA at h
  split at h
  · cases ht : isStrT P t <;> rw [ht] at h
    · cases h
    obtain ⟨h1, h2⟩ := eff_some h
    cases h1
    rw [hv.str]
    exact ⟨h2, _, by simp [Builtin.len_, ht0, run_underlying (isStrT_spec ht), goInt] <;> rfl, .int' _ _⟩
  · rename_i kk gn lo nn
    obtain ⟨s, hs, h⟩ := Option.bind_eq_some_iff.mp h
    obtain ⟨el, hu, _⟩ := sliceOf_spec hs
    cases hl : liveB gn e <;> rw [hl] at h
    · cases h
    obtain ⟨h1, h2⟩ := eff_some h
    cases h1
    obtain ⟨z, r, hk, _⟩ := liveB_spec (he kk rfl) hl
    obtain ⟨_, A, e1, _⟩ := hv.bufv hk
    rw [e1]
    exact ⟨h2, .int .i64 nn, by simp [Builtin.len_, ht0, run_underlying hu, goInt], .int' _ _⟩
  · rename_i kk gn
    obtain ⟨⟨mk, ag, z⟩, hs, h⟩ := Option.bind_eq_some_iff.mp h
    obtain ⟨es, hl, h⟩ := Option.bind_eq_some_iff.mp h
    obtain ⟨h1, h2⟩ := eff_some h
    cases h1
    obtain ⟨kt, el, d, zc, hu, _⟩ := mapTy_spec hs
    obtain ⟨hk, _⟩ := liveM_spec (he kk rfl) hl
    obtain ⟨ents, hb, hsz, _⟩ := hM.ok _ _ _ hk
    rw [hv.mpv hk]
    exact ⟨h2, .int .i64 es.length, by simp [Builtin.len_, ht0, run_underlying hu, goInt, Go.MapKept.run_getObj_map hb, hsz], .int' _ _⟩
  · exact rest h
theorem slt_leq (a b : ByteArray) : (Op.stringOp .leq a b).run P w = .ok (.bool (!slt b a)) w := by
  simp only [Op.stringOp, Sem.run_pure]; congr 2; exact bl_total _ _
theorem minA_run {u v : Value} {a b av : AV} {n : Option (Nat × Ob)} (hu : Ra ι m w u a) (hv : Ra ι m w v b) (h : minA a b = some (av, n)) : n = none ∧ ∃ cv, (Builtin.min2 u v).run P w = .ok cv w ∧ Ra ι m w cv av := by
  unfold minA at h
  split at h
  · split at h
    · rename_i k a' k' b' e; subst e
      obtain ⟨h1, h2⟩ := eff_some h; cases h1
      rw [hu.int, hv.int]
      refine ⟨h2, .int k (min a' b'), ?_, .int' _ _⟩
      simp only [Builtin.min2, Sem.run_pure]; congr 2; simp only [Int.min_def]; split <;> split <;> omega
    · cases h
  · rename_i a' b'
    obtain ⟨h1, h2⟩ := eff_some h; cases h1
    rw [hu.str, hv.str]
    refine ⟨h2, .string (bif slt b' a' then b' else a'), ?_, .str' _⟩
    simp only [Builtin.min2, Sem.run_bind, slt_leq, Result.andThen_ok, asBool, Sem.run_pure]
    cases slt b' a' <;> rfl
  · cases h
theorem maxA_run {u v : Value} {a b av : AV} {n : Option (Nat × Ob)} (hu : Ra ι m w u a) (hv : Ra ι m w v b) (h : maxA a b = some (av, n)) : n = none ∧ ∃ cv, (Builtin.max2 u v).run P w = .ok cv w ∧ Ra ι m w cv av := by
  unfold maxA at h
  split at h
  · split at h
    · rename_i k a' k' b' e; subst e
      obtain ⟨h1, h2⟩ := eff_some h; cases h1
      rw [hu.int, hv.int]
      refine ⟨h2, .int k (max a' b'), ?_, .int' _ _⟩
      simp only [Builtin.max2, Sem.run_pure]; congr 2; simp only [Int.max_def]; split <;> split <;> omega
    · cases h
  · rename_i a' b'
    obtain ⟨h1, h2⟩ := eff_some h; cases h1
    rw [hu.str, hv.str]
    refine ⟨h2, .string (bif slt a' b' then b' else a'), ?_, .str' _⟩
    simp only [Builtin.max2, Sem.run_bind, Op.stringOp, Result.andThen_ok, asBool, Sem.run_pure]
    show Result.ok (Value.string (if (!slt a' b') = true then a' else b')) w = _
    cases slt a' b' <;> rfl
  · cases h
theorem indexPtr_run {t : TypeId} {len s k g off : Nat} {kk : IntKind} {n : Int} {ad : Addr} (ht : arrOf P t = some (len, s)) (hb : 0 ≤ n ∧ n < len) :
    (Instr.indexAt t (.pointer (some ad)) (.int kk n)).run P w = .ok (.pointer (some (ad.add (n.toNat * s)))) w := by
  obtain ⟨e, hu, hs⟩ := arrOf_spec ht
  simp only [Instr.indexAt, Sem.run_bind, asInt_run, Result.andThen_ok, run_underlying hu, Instr.sureAddr, Sem.run_pure]
  rw [if_pos hb]; simp [run_sizeOf hs]
theorem indexSl_run {t : TypeId} {s len cap : Nat} {kk : IntKind} {n : Int} {ad : Addr} (ht : sliceOf P t = some s) (hb : 0 ≤ n ∧ n < len) :
    (Instr.indexAt t (.slice (some ad) len cap) (.int kk n)).run P w = .ok (.pointer (some (ad.add (n.toNat * s)))) w := by
  obtain ⟨e, hu, hs⟩ := sliceOf_spec ht
  simp only [Instr.indexAt, Sem.run_bind, asInt_run, Result.andThen_ok, run_underlying hu, Sem.run_pure]
  rw [if_pos hb]; simp [run_sizeOf hs]
end
theorem Rel.step {C : Ctx} {st : St} {a : Act} {w w' : World} {ι ι' : Pl} {m' : Mem} {dst : Option Tmp} {cv : Value} {av : AV} (hR : Rel C st a w ι) (hd : dstOk C.hint.1 dst = true) (hM : MemOk ι' m' w') (he : Ext ι st.mem w ι' m' w') (hv : Ra ι' m' w' cv av) :
    Rel C ({ st with mem := m' }.put dst av) (a.put dst cv) w' ι' := by
  cases dst with
  | none => exact ⟨hR.size, hR.defers, hM, fun t => (hR.fr t).mono he, hR.evo.trans he.evo, hR.keys.trans he.keys, he.x.trans hR.x⟩
  | some d =>
    have hlt : d < a.tmps.size := by rw [hR.size]; simpa [dstOk] using hd
    refine ⟨by simp [Act.put, hR.size], hR.defers, hM, fun t => ?_, hR.evo.trans he.evo, hR.keys.trans he.keys, he.x.trans hR.x⟩
    simp only [St.put, fget, lk_cons, Act.put]
    by_cases h : d = t
    · subst h
      rw [if_pos rfl, Array.getD_eq_getD_getElem?, Array.getElem?_setIfInBounds_self_of_lt hlt]; exact hv
    · rw [if_neg h, Array.getD_eq_getD_getElem?, Array.getElem?_setIfInBounds_ne h, ← Array.getD_eq_getD_getElem?]
      exact (hR.fr t).mono he
theorem Rel.ev {C : Ctx} {st : St} {a : Act} {w : World} {ι : Pl} (hR : Rel C st a w ι) (x : Operand) : Ra ι st.mem w (a.eval x) (oget st.fr x) := by
  cases x with
  | tmp t => exact hR.fr t
  | const v => exact ofConst_ra v
  | global g => exact .u _
  | func f => exact .p _ _ (.fn f)
end Go.Ab
