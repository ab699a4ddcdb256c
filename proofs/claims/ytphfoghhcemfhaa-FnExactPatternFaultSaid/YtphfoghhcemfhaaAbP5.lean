/- Each operation that turns no memory of the function's own. -/
import Derived.Test.YtphfoghhcemfhaaAbP4
import Derived.Laws.BytesString
namespace Go.Ab
set_option linter.unusedVariables false
set_option linter.unusedSimpArgs false
section
variable {ι : Pl} {m : Mem} {w : World} {P : Program} {v : Value}
theorem run_v {s : Sem Value} {cv : Value} {w' : World} (h : s.run P w = .ok cv w') : (do pure (.value (← s)) : Sem Next).run P w = .ok (.value cv) w' := by
  simp only [Sem.run_bind, h, Result.andThen_ok, Sem.run_pure]
theorem ent_lk {k : Nat} {e : Nat × Ob} (h : e = ent m k) (hn : e.2 ≠ .gone) : lk m k = some e := by
  subst h
  unfold ent at hn ⊢
  cases hl : lk m k with
  | none => rw [hl] at hn; exact absurd rfl hn
  | some x => rfl
theorem liveC_spec {g : Nat} {k : Nat} {e : Nat × Ob} (he : e = ent m k) (h : liveC g e = true) : ∃ cs, lk m k = some (g, .cells cs) ∧ e = (g, .cells cs) := by
  obtain ⟨g', ob⟩ := e
  cases ob with
  | cells cs => simp [liveC] at h; subst h; exact ⟨cs, ent_lk he (by simp), rfl⟩
  | _ => cases h
theorem liveB_spec {g : Nat} {k : Nat} {e : Nat × Ob} (he : e = ent m k) (h : liveB g e = true) : ∃ z r, lk m k = some (g, .buf z r) ∧ e = (g, .buf z r) := by
  obtain ⟨g', ob⟩ := e
  cases ob with
  | buf z cs => simp [liveB] at h; subst h; exact ⟨z, cs, ent_lk he (by simp), rfl⟩
  | _ => cases h
theorem liveZ_spec {g s : Nat} {k : Nat} {e : Nat × Ob} (he : e = ent m k) (h : liveZ g s e = true) : ∃ r, lk m k = some (g, .buf s r) ∧ e = (g, .buf s r) := by
  obtain ⟨g', ob⟩ := e
  cases ob with
  | buf z cs => simp [liveZ] at h; obtain ⟨rfl, rfl⟩ := h; exact ⟨cs, ent_lk he (by simp), rfl⟩
  | _ => cases h
theorem mkEq_spec {a b : MK} (h : mkEq a b = true) : a = b := by
  cases a <;> cases b <;> simp [mkEq] at h ⊢
  exact h
theorem liveM_spec {mk : MK} {ag : Bool} {g : Nat} {k : Nat} {e : Nat × Ob} {es : Ents} (he : e = ent m k) (h : liveM mk ag g e = some es) : lk m k = some (g, .map mk ag es) ∧ e = (g, .map mk ag es) := by
  obtain ⟨g', ob⟩ := e
  cases ob with
  | map mk' ag' es' =>
    unfold liveM at h
    simp only at h
    cases hc : (g == g' && mkEq mk mk' && ag == ag') with
    | false => rw [hc] at h; cases h
    | true =>
      rw [hc] at h
      cases h
      simp only [Bool.and_eq_true, beq_iff_eq] at hc
      obtain ⟨⟨rfl, h2⟩, rfl⟩ := hc
      obtain rfl := mkEq_spec h2
      exact ⟨ent_lk he (by simp), rfl⟩
  | _ => cases h
theorem Ra.mpv {k g : Nat} {mk : MK} {ag : Bool} {es : Ents} (h : Ra ι m w v (.mp k g)) (hk : lk m k = some (g, .map mk ag es)) : v = .map (some (ι k).blk) := by
  cases h with | mp _ _ _ _ _ h => exact h mk ag es hk
theorem Ra.ptrv {k g off : Nat} {cs : List AV} (h : Ra ι m w v (.ptr k g off)) (hk : lk m k = some (g, .cells cs)) : v = .pointer (some ⟨(ι k).blk, off, none⟩) := by
  cases h with | ptr _ _ _ _ _ _ h => exact h cs hk
theorem Ra.eptrv {k g i off : Nat} {z : Nat} {r : Rows} (h : Ra ι m w v (.eptr k g i off)) (hk : lk m k = some (g, .buf z r)) : ∃ ad, (ι k).base = some ad ∧ v = .pointer (some (ad.add (i * (ι k).sz + off))) := by
  cases h with | eptr _ _ _ _ _ _ _ h => exact h z r hk
theorem Ra.bufv {k g lo n : Nat} {z : Nat} {r : Rows} (h : Ra ι m w v (.buf k g lo n)) (hk : lk m k = some (g, .buf z r)) : lo + n ≤ r.length ∧ ∃ A, v = .slice A n ((ι k).cap - lo) ∧ (lo < (ι k).cap → A = (ι k).base.map fun ad => ad.add (lo * (ι k).sz)) := by
  cases h with | buf _ _ _ _ _ _ _ h => exact h z r hk
theorem tkind_int {t : TypeId} {k : IntKind} (h : tkind P t = .int k) : P.underlying t = some (.int k) := by
  unfold tkind at h; split at h <;> first | (cases h; assumption) | (split at h <;> cases h) | cases h
theorem tkind_str {t : TypeId} (h : tkind P t = .str) : P.underlying t = some .string := by
  unfold tkind at h; split at h <;> first | assumption | (split at h <;> cases h) | cases h
theorem tkind_bytes {t : TypeId} (h : tkind P t = .bytes) : ∃ e, P.underlying t = some (.slice e) ∧ P.underlying e = some (.int .u8) := by
  unfold tkind at h
  split at h
  · cases h
  · cases h
  · rename_i e hu
    split at h
    · rename_i he; exact ⟨e, hu, he⟩
    · cases h
  · cases h
theorem isStrT_spec {t : TypeId} (h : isStrT P t = true) : P.underlying t = some .string := by
  unfold isStrT at h; split at h
  · assumption
  · cases h
variable {ρ : Operand → Value} {g : Operand → AV} (hg : ∀ x, Ra ι m w (ρ x) (g x))
/-- what an operation does, where no own memory turns -/
def DoesP (P : Program) (w : World) (ι : Pl) (m : Mem) (s : Sem Next) (av : AV) : Prop := ∃ cv, s.run P w = .ok (.value cv) w ∧ Ra ι m w cv av
theorem DoesP.of {s : Sem Value} {av : AV} (h : ∃ cv, s.run P w = .ok cv w ∧ Ra ι m w cv av) : DoesP P w ι m (do pure (.value (← s))) av :=
  let ⟨cv, h1, h2⟩ := h; ⟨cv, run_v h1, h2⟩
theorem eff_some {a : Option AV} {av : AV} {n : Option (Nat × Ob)} (h : eff a = some (av, n)) : a = some av ∧ n = none := by
  unfold eff at h; cases a <;> simp at h; exact ⟨by rw [h.1], h.2.symm⟩
theorem unint_spec {k : IntKind} : ∀ {r : Rows} {l : List Int}, unint k r = some l → r = l.map (irow k)
  | [], l, h => by cases h; rfl
  | [] :: _, _, h => by cases h
  | (_ :: _ :: _) :: _, _, h => by
    simp [unint] at h
  | [x] :: r, l, h => by
    cases x <;> simp only [unint] at h <;> try cases h
    split at h
    · rename_i e; subst e
      obtain ⟨l', h1, rfl⟩ := Option.map_eq_some_iff.mp h
      rw [unint_spec h1]; rfl
    · cases h
theorem bstr_fold : ∀ (l : List Int) (b : ByteArray), (l.foldl (fun r n => r.push (UInt8.ofNat n.toNat)) b).data.toList = b.data.toList ++ l.map fun n => UInt8.ofNat n.toNat
  | [], b => by simp
  | n :: l, b => by rw [List.foldl_cons, bstr_fold l]; simp [ByteArray.push]
theorem bytes_run {r : Rows} {l : List Int} (h : Rp (Own ι m) w v (.lst false r)) (hl : unint .u8 r = some l) : (Conv.bytesToString v).run P w = .ok (.string (bstr l)) w := by
  obtain rfl := unint_spec hl
  cases h with
  | lst A cap sz full rows u hcap hfull hsz hc hr =>
    cases A with
    | none =>
      cases l with
      | nil => simp [Conv.bytesToString, bstr]; rfl
      | cons n l =>
        obtain ⟨ad, e, _⟩ := hc 0 _ 0 _ rfl rfl
        cases e
    | some ad =>
      have hcell : ∀ (j : Nat) (n : Int), l[j]? = some n → w.cell? (ad.add j) = some (.int .u8 n) := fun j n hj => by
        have hrow : (l.map (irow .u8))[j]? = some (irow .u8 n) := by simp [hj]
        have h1 := hsz j _ hrow
        have hsz1 : sz = 1 := h1.symm
        subst hsz1
        obtain ⟨ad', e, h2, _⟩ := hc j _ 0 _ hrow rfl
        cases e
        have h3 := hr j _ 0 _ hrow rfl
        rw [Nat.mul_one, Nat.add_zero] at h2
        cases hu : u j 0 <;> rw [hu] at h3 <;> cases h3
        rw [h2, hu]
      have hload : (loadCells ad (l.map (irow .u8)).length).run P w = .ok (l.map (Value.int .u8)).toArray w := by
        have := run_loadCells_list (P := P) w ad (l.map (Value.int .u8)) (fun j v hj => by
          rw [List.getElem?_map] at hj
          obtain ⟨n, hn, rfl⟩ := Option.map_eq_some_iff.mp hj
          exact hcell j n hn)
        simpa using this
      rw [run_bytesToString w ad _ cap l hload]
      congr 2
      apply ByteArray.ext
      apply Array.ext'
      rw [bstr_fold]; simp [bstr]
include hg
theorem d_pick {c a b : Operand} {av : AV} (h : (match g c with | .p (.bool t) => eff (some (bif t then g a else g b)) | _ => none) = some (av, none)) :
    DoesP P w ι m (do pure (.value (if ← asBool (ρ c) then ρ a else ρ b))) av := by
  have hc := hg c
  split at h
  · rename_i t e; rw [e] at hc
    obtain ⟨rfl, _⟩ := Prod.mk.inj (Option.some.inj h)
    rw [hc.bool]
    cases t
    · exact ⟨ρ b, by simp [asBool], hg b⟩
    · exact ⟨ρ a, by simp [asBool], hg a⟩
  · cases h
theorem d_field {s : TypeId} {x : Operand} {f o : Nat} {ft : TypeId} {cs : List AV} {av : AV} (hf : fieldOf P s f = some (o, ft)) (hx : g x = .agg cs) (h : ld P ft (cs.drop o) = some av) :
    ∃ cv, (Instr.field s (ρ x) f).run P w = .ok cv w ∧ Ra ι m w cv av := by
  have h1 := hg x
  rw [hx] at h1
  generalize ρ x = v at h1
  cases h1 with
  | agg vs _ hl hone hr =>
    obtain ⟨fs, fl, hu, h2, h3, h4⟩ := fieldOf_spec hf
    obtain ⟨cv, h5, h6⟩ := part_run (P := P) h hl hone hr
    refine ⟨cv, ?_, h6⟩
    simp only [Instr.field, Sem.run_bind, run_underlying hu, Result.andThen_ok]
    simp only [h2, h3, h4, asAgg, Sem.run_bind, Sem.run_pure, Result.andThen_ok, h5]
omit hg
theorem szPos_spec {t : TypeId} (h : szPos P t = true) : ∃ s, tsize P t = some s ∧ 0 < s := by
  unfold szPos at h; split at h
  · rename_i s hs; exact ⟨s, hs, by simpa using h⟩
  · cases h
theorem d_fieldAddr {s : TypeId} {f o : Nat} {ft : TypeId} {ad : Addr} (hf : fieldOf P s f = some (o, ft)) (hp : szPos P ft = true) :
    (Instr.fieldAt s (.pointer (some ad)) f).run P w = .ok (.pointer (some (ad.add o))) w := by
  obtain ⟨fs, fl, hu, h2, h3, h4⟩ := fieldOf_spec hf
  obtain ⟨sz, h5, h6⟩ := szPos_spec hp
  simp only [Instr.fieldAt, Sem.run_bind, run_underlying hu, Result.andThen_ok, h2, Instr.sureAddr, Sem.run_pure, fieldPlace, h4, run_sizeOf h5, if_neg (Nat.ne_of_gt h6), h3]
theorem Ra.cdrop {ad : Addr} {cells : List PV} (h : Ra ι m w (.pointer (some ad)) (.cptr cells)) (o : Nat) : Ra ι m w (.pointer (some (ad.add o))) (.cptr (cells.drop o)) := by
  cases h with
  | cptr _ _ u hs h hr =>
    refine .cptr _ _ (fun j => u (o + j)) (add_spot _ _ hs) (fun j c hj => ?_) (fun j c hj => ?_)
    · rw [List.getElem?_drop] at hj
      rw [add_add, add_block, add_off, Nat.add_assoc]; exact h (o + j) c hj
    · rw [List.getElem?_drop] at hj; exact hr (o + j) c hj
theorem spot_of_cell {a : Addr} {v : Value} (h : w.cell? a = some v) : a.spot = none := by
  unfold World.cell? at h
  split at h
  · cases hs : a.spot with
    | none => rfl
    | some x => rw [hs] at h; cases h
  · cases h
/-- A row of rows that stand, and its place. -/
theorem Rp.row {r : Rows} {i : Nat} {row : List PV} {s : Nat} (h : Rp (Own ι m) w v (.lst false r)) (hi : r[i]? = some row) (hs : row.length = s) (h0 : 0 < s) :
    ∃ ad cap, v = .slice (some ad) r.length cap ∧ Ra ι m w (.pointer (some (ad.add (i * s)))) (.cptr row) := by
  cases h with
  | lst A cap sz full rows u hcap hfull hsz hc hr =>
    have e := hsz i row hi
    have hsz' : sz = s := by omega
    subst hsz'
    obtain ⟨c0, hc0⟩ : ∃ c, row[0]? = some c := ⟨row[0]'(by omega), List.getElem?_eq_getElem _⟩
    obtain ⟨ad, e1, h1, h2⟩ := hc i row 0 c0 hi hc0
    subst e1
    refine ⟨ad, cap, rfl, .cptr _ _ (u i) ?_ (fun j c hj => ?_) (fun j c hj => hr i row j c hi hj)⟩
    · have := spot_of_cell h1
      rwa [Nat.add_zero] at this
    · obtain ⟨ad', e2, h3, h4⟩ := hc i row j c hi hj
      cases e2
      rw [add_add, add_block, add_off, Nat.add_assoc]; exact ⟨h3, h4⟩
theorem bound_run {k : IntKind} {n : Int} {y : Nat} {code : BoundsCode} (h0 : 0 ≤ n) (h1 : n ≤ y) : (Instr.sliceBound (.int k n) y code).run P w = .ok n.toNat w := by
  simp only [Instr.sliceBound, Sem.run_bind, asInt_run, Result.andThen_ok]
  rw [if_pos ⟨h0, h1⟩]; rfl
include hg
theorem oint_val {o : Option Operand} {d n : Int} (h : oint g o d = some n) : (o = none ∧ n = d) ∨ ∃ x k, o = some x ∧ ρ x = .int k n := by
  unfold oint at h
  split at h
  · exact .inl ⟨rfl, (Option.some.inj h).symm⟩
  · rename_i x
    split at h
    · rename_i k n' e
      have := hg x; rw [e] at this
      cases h; exact .inr ⟨x, k, rfl, this.int⟩
    · cases h
/-- The bounds of a part. -/
theorem bounds_run {isS : Bool} {len cap : Nat} {lo hi : Option Operand} {l h : Int} (hl : oint g lo 0 = some l) (hh : oint g hi len = some h) (h0 : 0 ≤ l) (h1 : l ≤ h) (h2 : h ≤ len) (h3 : len ≤ cap) :
    (Instr.sliceBounds isS len cap (lo.map ρ) (hi.map ρ) none).run P w = .ok (l.toNat, h.toNat, cap) w := by
  have hcap : h ≤ cap := Int.le_trans h2 (by exact_mod_cast h3)
  have hle : l ≤ (h.toNat : Int) := by omega
  rcases oint_val hg hh with ⟨rfl, rfl⟩ | ⟨x, k, rfl, e⟩ <;> rcases oint_val hg hl with ⟨rfl, rfl⟩ | ⟨x', k', rfl, e'⟩
  · simp [Instr.sliceBounds]
  · simp only [Instr.sliceBounds, Option.map_some, Option.map_none, e', Sem.run_bind, Sem.run_pure, Result.andThen_ok]
    rw [bound_run h0 (by omega)]; simp
  · simp only [Instr.sliceBounds, Option.map_some, Option.map_none, e, Sem.run_bind, Sem.run_pure, Result.andThen_ok]
    rw [bound_run (by omega) hcap]; simp
  · simp only [Instr.sliceBounds, Option.map_some, Option.map_none, e, e', Sem.run_bind, Sem.run_pure, Result.andThen_ok]
    rw [bound_run (by omega) hcap]
    simp only [Result.andThen_ok]
    rw [bound_run h0 hle]; simp
theorem d_sliceStr {t : TypeId} {x : Operand} {b s : ByteArray} {lo hi : Option Operand} {l h : Int} (hx : g x = .p (.str b)) (ht : isStrT P t = true) (hl : oint g lo 0 = some l) (hh : oint g hi b.size = some h) (hs : sub b l h = some s) :
    ∃ cv, (Instr.sliceAt t (ρ x) (lo.map ρ) (hi.map ρ) none).run P w = .ok cv w ∧ Ra ι m w cv (.p (.str s)) := by
  have h1 := hg x; rw [hx] at h1
  have hu := isStrT_spec ht
  unfold sub at hs; split at hs
  · rename_i hb; cases hs
    refine ⟨_, ?_, .str' _⟩
    simp only [Instr.sliceAt, Instr.slice, Sem.run_bind, run_underlying hu, Result.andThen_ok, h1.str, Option.isSome_none, Bool.false_eq_true, if_false, Sem.run_pure]
    rw [bounds_run hg hl hh hb.1 hb.2.1 hb.2.2 (Nat.le_refl _)]; rfl
  · cases hs
theorem d_sliceLst {t : TypeId} {x : Operand} {s : Nat} {r q : Rows} {lo hi : Option Operand} {l h : Int} (hx : (g x).rows = some r) (ht : sliceOf P t = some s) (hl : oint g lo 0 = some l) (hh : oint g hi r.length = some h) (hq : lsub r l h = some q) (hok : rowsOk s r = true) :
    ∃ cv, (Instr.sliceAt t (ρ x) (lo.map ρ) (hi.map ρ) none).run P w = .ok cv w ∧ Ra ι m w cv (.p (.lst false q)) := by
  obtain ⟨e, hu, hsz⟩ := sliceOf_spec ht
  have h1 := (hg x).rows hx
  generalize ρ x = v at h1
  unfold lsub at hq; split at hq
  · rename_i hb; cases hq
    cases h1 with
    | lst A cap sz full rows u hcap hfull hsz' hc hr =>
      refine ⟨.slice (if cap = l.toNat then A else A.map (·.add (l.toNat * s))) (h.toNat - l.toNat) (cap - l.toNat), ?_, ?_⟩
      · simp only [Instr.sliceAt, Instr.slice, Sem.run_bind, run_underlying hu, Result.andThen_ok, Sem.run_pure]
        rw [bounds_run hg hl hh hb.1 hb.2.1 hb.2.2 hcap]
        simp only [Result.andThen_ok, run_sizeOf hsz]
      · have hlen : ((r.drop l.toNat).take (h.toNat - l.toNat)).length = h.toNat - l.toNat := by simp; omega
        have hrowsz : ∀ (i : Nat) (row : List PV), r[i]? = some row → row.length = s := by
          have : ∀ (r : Rows), rowsOk s r = true → ∀ row ∈ r, row.length = s := by
            intro r; induction r with
            | nil => simp
            | cons a b ih => intro h row hrow; simp [rowsOk] at h; rcases List.mem_cons.mp hrow with rfl | h'; exact h.1; exact ih h.2 _ h'
          exact fun i row hi => this r hok row (List.mem_of_getElem? hi)
        have hv : Rp (Own ι m) w (.slice (if cap = l.toNat then A else A.map (·.add (l.toNat * s))) ((r.drop l.toNat).take (h.toNat - l.toNat)).length (cap - l.toNat)) (.lst false ((r.drop l.toNat).take (h.toNat - l.toNat))) := by
         refine .lst _ (cap - l.toNat) sz false _ (fun i j => u (l.toNat + i) j) (by rw [hlen]; have := hb.2.2; omega) (by simp) (fun i row hi => ?_) (fun i row j c hi hj => ?_) (fun i row j c hi hj => ?_)
         · have hi' : i < h.toNat - l.toNat := by
             have := (List.getElem?_eq_some_iff.1 hi).1; rw [hlen] at this; exact this
           rw [List.getElem?_take_of_lt hi', List.getElem?_drop] at hi
           exact hsz' _ row hi
         · have hi' : i < h.toNat - l.toNat := by
             have := (List.getElem?_eq_some_iff.1 hi).1; rw [hlen] at this; exact this
           rw [List.getElem?_take_of_lt hi', List.getElem?_drop] at hi
           have e1 := hrowsz _ row hi
           have e2 := hsz' _ row hi
           have : sz = s := by omega
           subst this
           obtain ⟨ad, e3, h2, h3⟩ := hc _ row j c hi hj
           subst e3
           have hne : ¬ cap = l.toNat := by have := (List.getElem?_eq_some_iff.1 hi).1; omega
           rw [if_neg hne]
           refine ⟨ad.add (l.toNat * sz), rfl, ?_, ?_⟩
           · rw [add_add, show l.toNat * sz + (i * sz + j) = (l.toNat + i) * sz + j by rw [Nat.add_mul]; omega]; exact h2
           · rw [add_block, add_off, show ad.off + l.toNat * sz + (i * sz + j) = ad.off + ((l.toNat + i) * sz + j) by rw [Nat.add_mul]; omega]; exact h3
         · have hi' : i < h.toNat - l.toNat := by
             have := (List.getElem?_eq_some_iff.1 hi).1; rw [hlen] at this; exact this
           rw [List.getElem?_take_of_lt hi', List.getElem?_drop] at hi
           exact hr _ row j c hi hj
        rw [hlen] at hv; exact .p _ _ hv
  · cases hq
theorem d_sliceBuf {t : TypeId} {x : Operand} {s k gn l0 c : Nat} {r : Rows} {lo hi : Option Operand} {l h : Int} (hx : g x = .buf k gn l0 c) (ht : sliceOf P t = some s) (hl : oint g lo 0 = some l) (hh : oint g hi c = some h) (hb : 0 ≤ l ∧ l ≤ h ∧ h ≤ c) (hk : lk m k = some (gn, .buf s r)) (hM : MemOk ι m w) :
    ∃ cv, (Instr.sliceAt t (ρ x) (lo.map ρ) (hi.map ρ) none).run P w = .ok cv w ∧ Ra ι m w cv (.buf k gn (l0 + l.toNat) (h.toNat - l.toNat)) := by
  obtain ⟨e, hu, hsz⟩ := sliceOf_spec ht
  have h1 := hg x; rw [hx] at h1
  have hgen : gn ≤ (ent m k).1 := by rw [ent_of_lk hk]; exact Nat.le_refl _
  obtain ⟨h2, A, h3, h4⟩ := h1.bufv hk
  obtain ⟨hsz0, h5, _⟩ := hM.ok k gn _ hk
  rw [h3]
  refine ⟨.slice (if (ι k).cap - l0 = l.toNat then A else A.map (·.add (l.toNat * s))) (h.toNat - l.toNat) ((ι k).cap - l0 - l.toNat), ?_, .buf _ k gn _ _ rfl hgen fun z rows hr => ?_⟩
  · simp only [Instr.sliceAt, Instr.slice, Sem.run_bind, run_underlying hu, Result.andThen_ok, Sem.run_pure]
    rw [bounds_run hg hl hh hb.1 hb.2.1 hb.2.2 (by omega)]
    simp only [Result.andThen_ok, run_sizeOf hsz]
  · rw [hk] at hr; cases hr
    refine ⟨by omega, _, by rw [Nat.sub_sub], fun hlt => ?_⟩
    rw [if_neg (by omega), h4 (by omega)]
    cases (ι k).base with
    | none => rfl
    | some ad => simp only [Option.map_some]; rw [add_add, hsz0, ← Nat.add_mul]
end
end Go.Ab
