/- Maps: what is looked up, put in, laid. -/
import Derived.Test.YtphfoghhcemfhaaAbP6
import Derived.MapKept
namespace Go.Ab
open Go.MapKept
set_option linter.unusedVariables false
set_option linter.unusedSimpArgs false
section
variable {ι : Pl} {m : Mem} {w w' : World} {P : Program}
theorem Rp.stdv {Ow : Nat → Nat → Prop} {w : World} {v : Value} {pv : PV} (h : Rp Ow w v pv) : Rp Ow w v pv.std := by
  cases h with
  | nilS => exact Rp.nil _ none 0
  | lst A cap sz full rows u hcap hfull hsz hc hr => exact (Rp.lst A cap sz full rows u hcap hfull hsz hc hr).unfull
  | int k n => exact .int k n
  | bool b => exact .bool b
  | str s => exact .str s
  | nilI => exact .nilI
  | nilP => exact .nilP
  | nilF => exact .nilF
  | nilM => exact .nilM
  | fn f => exact .fn f
  | ifc v b h h' => exact .ifc v b h h'
theorem Ra.pvr {v : Value} {a : AV} {pv : PV} (h : Ra ι m w v a) (hp : a.pv = some pv) : Rp (Own ι m) w v pv := by
  cases h with
  | p v pv' h => cases hp; exact h.stdv
  | tip v k g rows hg hr h => cases hp; exact hr
  | _ => cases hp
theorem pvs_get : ∀ {as : List AV} {ps : List PV}, pvs as = some ps → as.length = ps.length ∧ ∀ (i : Nat) (pv : PV), ps[i]? = some pv → ∃ a, as[i]? = some a ∧ a.pv = some pv
  | [], ps, h => by cases h; simp
  | a :: r, ps, h => by
    obtain ⟨x, hx, h⟩ := Option.bind_eq_some_iff.mp h
    obtain ⟨q, hq, rfl⟩ := Option.map_eq_some_iff.mp h
    obtain ⟨h1, h2⟩ := pvs_get hq
    refine ⟨by simp [h1], fun i pv hi => ?_⟩
    cases i with
    | zero => simp at hi; subst hi; exact ⟨a, rfl, hx⟩
    | succ i => obtain ⟨b, hb, hb2⟩ := h2 i pv (by simpa using hi); exact ⟨b, by simpa using hb, hb2⟩
/-- A value that is looked up. -/
theorem MvOk.ra {ag : Bool} {v : Value} {row : List PV} (h : MvOk (Own ι m) w ag v row) : Ra ι m w v (mval ag row) := by
  cases ag with
  | false =>
    obtain ⟨p, rfl, hp⟩ := h.1 rfl
    exact .p _ _ hp
  | true =>
    obtain ⟨vs, rfl, hl, hr⟩ := h.2 rfl
    refine .agg _ _ (by simpa using hl) (fun v hv => ?_) (fun i u c hu hc => ?_)
    · obtain ⟨i, hi, rfl⟩ := List.getElem_of_mem hv
      have hi' : i < vs.size := by simpa using hi
      exact (hr i _ _ (by simp [hi']) (List.getElem?_eq_getElem (by omega))).one
    · rw [List.getElem?_map] at hc
      obtain ⟨p, hp, rfl⟩ := Option.map_eq_some_iff.mp hc
      exact .p _ _ (hr i u p hu hp)
theorem mv_cells {ag : Bool} {v : Value} {cs : List AV} {row : List PV} (hR : v.cells.size = cs.length ∧ ∀ (i : Nat) (x : Value) (c : AV), v.cells[i]? = some x → cs[i]? = some c → Ra ι m w x c) (hp : pvs cs = some row) (hs : ag = true → ∃ vs, v = .agg vs) (ho : ag = false → v.oneCell' = true) : MvOk (Own ι m) w ag v row := by
  obtain ⟨hl, hg⟩ := pvs_get hp
  have key : ∀ (i : Nat) (x : Value) (p : PV), v.cells[i]? = some x → row[i]? = some p → Rp (Own ι m) w x p := fun i x p hx hp => by
    obtain ⟨a, ha, hpv⟩ := hg i p hp
    exact (hR.2 i x a hx ha).pvr hpv
  refine ⟨fun ha => ?_, fun ha => ?_⟩
  · have hc := cells_one (ho ha)
    rw [hc] at key
    have h1 : row.length = 1 := by rw [← hl, ← hR.1, hc]; rfl
    obtain ⟨p, rfl⟩ := List.length_eq_one_iff.1 h1
    exact ⟨p, rfl, key 0 v p rfl rfl⟩
  · obtain ⟨vs, rfl⟩ := hs ha
    exact ⟨vs, rfl, hR.1.trans hl, key⟩
/-- The zero value of a map's values. -/
theorem zero_mv {el : TypeId} {ag : Bool} {zc : List AV} {z : List PV} (ha : zeroAg P el = some ag) (hz : zeroCells P el = some zc) (hp : pvs zc = some z) : ∃ zv, (zeroValue el).run P w = .ok zv w ∧ MvOk (Own ι m) w ag zv z := by
  have hz' := hz
  unfold zeroCells at hz'
  obtain ⟨zv, h1, hc⟩ := Option.bind_eq_some_iff.mp hz'
  obtain ⟨i, hi, h1⟩ := Option.bind_eq_some_iff.mp h1
  obtain ⟨h2, h3, h4⟩ := (ofConst_ra (ι := ι) (m := m) (w := w) zv).cells hc
  have hag : ag = isAggV zv := by
    unfold zeroAg at ha
    rw [hi, Option.bind_some, h1, Option.map_some] at ha
    exact (Option.some.inj ha).symm
  refine ⟨zv, by simp [zeroValue, typeInfo, hi, h1], mv_cells ⟨h2, h4⟩ hp (fun e => ?_) (fun e => ?_)⟩
  · rw [hag] at e; cases zv <;> first | exact ⟨_, rfl⟩ | (simp [isAggV] at e)
  · rw [hag] at e; cases zv <;> first | rfl | (simp [isAggV] at e; done) | (simp [ofConst, cell1, AV.cells] at hc; done)
theorem keyEq_spec {mk : MK} {a b : PV} (ha : kOf mk a = true) (hb : kOf mk b = true) {d : TypeDesc} (hd : ∀ pv, kOf mk pv = true → IsKey d (kval pv)) : Instr.sameNow d (kval a) (kval b) = some (keyEq a b) ∧ (keyEq a b = true ↔ kval a = kval b) := by
  have h1 := hd a ha
  have h2 := hd b hb
  cases a <;> simp [kOf] at ha <;> cases b <;> cases mk <;> simp [kOf] at ha hb <;> cases d <;> simp_all [kval, IsKey, keyEq, Instr.sameNow]
  rename_i s t
  rw [Bool.eq_iff_iff, decide_eq_true_iff]
  exact bytes_beq s t
/-- The entries, side by side. -/
def EntsR (ι : Pl) (m : Mem) (w : World) (mk : MK) (ag : Bool) (o : Nat) (l : List MapEntry) (es : Ents) : Prop :=
  l.length = es.length ∧ ∀ (i : Nat) (en : MapEntry) (q : PV × List PV), l[i]? = some en → es[i]? = some q → en.born = o + i ∧ kOf mk q.1 = true ∧ en.key = kval q.1 ∧ MvOk (Own ι m) w ag en.val q.2
theorem find_run {d : TypeDesc} {mk : MK} {ag : Bool} {key : PV} (hk : kOf mk key = true) (hd : ∀ pv, kOf mk pv = true → IsKey d (kval pv)) : ∀ (l : List MapEntry) (es : Ents) (o i : Nat), EntsR ι m w mk ag o l es →
    (mfind key es i = none ∧ Instr.findNow d (kval key) l i = some none) ∨ ∃ j en q, mfind key es i = some (i + j, q.2) ∧ Instr.findNow d (kval key) l i = some (some (i + j, en.val)) ∧ l[j]? = some en ∧ es[j]? = some q ∧ en.key = kval key
  | [], [], o, i, h => .inl ⟨rfl, rfl⟩
  | [], _ :: _, o, i, h => by cases h.1
  | _ :: _, [], o, i, h => by cases h.1
  | en :: l, q :: es, o, i, h => by
    obtain ⟨_, h2, h3, _⟩ := h.2 0 en q rfl rfl
    obtain ⟨h5, h6⟩ := keyEq_spec hk h2 hd
    obtain ⟨qk, qv⟩ := q
    unfold mfind Instr.findNow
    rw [h3, h5]
    cases hc : keyEq key qk with
    | true => exact .inr ⟨0, en, (qk, qv), rfl, rfl, rfl, rfl, h3.trans (h6.1 hc).symm⟩
    | false =>
      have ht : EntsR ι m w mk ag (o + 1) l es := ⟨by simpa using h.1, fun j e q h1 h2 => by
        have := h.2 (j + 1) e q (by simpa using h1) (by simpa using h2)
        rw [show o + 1 + j = o + (j + 1) by omega]; exact this⟩
      rcases find_run hk hd l es (o + 1) (i + 1) ht with ⟨h7, h8⟩ | ⟨j, e, q, h7, h8, h9, h10, h11⟩
      · exact .inl ⟨h7, h8⟩
      · exact .inr ⟨j + 1, e, q, by rw [show i + (j + 1) = i + 1 + j by omega]; exact h7, by rw [show i + (j + 1) = i + 1 + j by omega]; exact h8, by simpa using h9, by simpa using h10, h11⟩
theorem entsR_of (hM : MemOk ι m w) {k g : Nat} {mk : MK} {ag : Bool} {es : Ents} (h : lk m k = some (g, .map mk ag es)) : ∃ ents : Array MapEntry, w.heap[(ι k).blk]? = some (.map ents es.length) ∧ EntsR ι m w mk ag 0 ents.toList es := by
  obtain ⟨ents, h1, h2, h3⟩ := hM.ok k g _ h
  exact ⟨ents, h1, by simpa using h2, fun i en q a b => by rw [Nat.zero_add]; exact h3 i en q (by simpa using a) b⟩
theorem mkeyOf_spec {mk : MK} {a : AV} {pv : PV} (h : mkeyOf mk a = some pv) : a = .p pv ∧ kOf mk pv = true := by
  unfold mkeyOf at h
  split at h
  · rename_i p
    cases hk : kOf mk p with
    | false => rw [hk] at h; cases h
    | true => rw [hk] at h; cases h; exact ⟨rfl, hk⟩
  · cases h
theorem key_val {v : Value} {mk : MK} {pv : PV} (h : Ra ι m w v (.p pv)) (hk : kOf mk pv = true) : v = kval pv := by
  cases pv <;> simp [kOf] at hk
  · exact h.int
  · exact h.str
theorem lookup_run (hM : MemOk ι m w) {t : TypeId} {v x : Value} {k g : Nat} {mk : MK} {ag ok : Bool} {z : List PV} {es : Ents} {key : PV} {a : AV} (ht : mapTy P t = some (mk, ag, z)) (hv : Ra ι m w v (.mp k g)) (hk : lk m k = some (g, .map mk ag es)) (hx : Ra ι m w x a) (hkey : mkeyOf mk a = some key) :
    ∃ cv, (Instr.lookup t v x ok).run P w = .ok cv w ∧ Ra ι m w cv (tupIf ok (mval ag (mrow key es z)) (mhas key es)) := by
  obtain ⟨kt, el, d, zc, hu, hd, hkd, ha, hz, hzp, _⟩ := mapTy_spec ht
  obtain ⟨ents, hb, hR⟩ := entsR_of hM hk
  obtain ⟨rfl, hko⟩ := mkeyOf_spec hkey
  obtain rfl := key_val hx hko
  rw [hv.mpv hk]
  have fin : ∀ (u : Value) (row : List PV) (o : Bool), MvOk (Own ι m) w ag u row → Ra ι m w (if ok = true then .tuple #[u, .bool o] else u) (tupIf ok (mval ag row) o) := fun u row o h => by
    cases ok with
    | false => exact h.ra
    | true =>
      refine .tup _ _ rfl fun i y c hy hc => ?_
      match i, hy, hc with
      | 0, hy, hc => simp at hy hc; subst hy; subst hc; exact h.ra
      | 1, hy, hc => simp at hy hc; subst hy; subst hc; exact .p _ _ (.bool o)
      | n + 2, hy, _ => simp at hy
  rcases find_run hko hkd ents.toList es 0 0 hR with ⟨h1, h2⟩ | ⟨j, en, q, h1, h2, h3, h4, _⟩
  · obtain ⟨zv, h3, h4⟩ := zero_mv (ι := ι) (m := m) (w := w) ha hz hzp
    refine ⟨_, by simp [Instr.lookup, run_underlying hu, Go.MapKept.run_getObj_map hb, run_checkKey hd (hkd _ hko), run_findKey hd h2, h3, Result.andThen]; rfl, ?_⟩
    have e1 : mrow key es z = z := by unfold mrow; rw [h1]
    have e2 : mhas key es = false := by unfold mhas; rw [h1]; rfl
    rw [e1, e2]
    have := fin zv z false h4
    cases ok <;> exact this
  · refine ⟨_, by simp [Instr.lookup, run_underlying hu, Go.MapKept.run_getObj_map hb, run_checkKey hd (hkd _ hko), run_findKey hd h2, Result.andThen]; rfl, ?_⟩
    have e1 : mrow key es z = q.2 := by unfold mrow; rw [h1]
    have e2 : mhas key es = true := by unfold mhas; rw [h1]; rfl
    rw [e1, e2]
    have := fin en.val q.2 true (hR.2 j en q h3 h4).2.2.2
    cases ok <;> exact this
end
end Go.Ab
