/- Maps: what is looked up, put in, laid. -/
import Derived.Test.YtfeieigajdekhaaGreatDoorAbA
import Derived.MapKept
import Derived.Laws.CopyRow
import Derived.Laws.Append
import Derived.Laws.AppendOwn
namespace Go.Ab
open Go.MapKept
set_option linter.unusedVariables false
set_option linter.unusedSimpArgs false
section
variable {ι : Pl} {m : Mem} {w w' : World} {P : Program}
theorem Rp.stdv {Ow : Nat → Nat → Prop} {w : World} {v : Value} {pv : PV} (h : Rp Ow w v pv) : Rp Ow w v pv.std := by
  cases h with
  | nilS => exact Rp.nil _ none 0
  | lst A cap sz full rows u hcap hfull hsz hc hr => exact (Rp.lst A cap sz full rows u hcap hfull hsz hc hr).unfull
  | int k n => exact .int k n
  | bool b => exact .bool b
  | str s => exact .str s
  | nilI => exact .nilI
  | nilP => exact .nilP
  | nilF => exact .nilF
  | nilM => exact .nilM
  | fn f => exact .fn f
  | ifc v b h h' => exact .ifc v b h h'
theorem Ra.pvr {v : Value} {a : AV} {pv : PV} (h : Ra ι m w v a) (hp : a.pv = some pv) : Rp (Own ι m) w v pv := by
  cases h with
  | p v pv' h => cases hp; exact h.stdv
  | tip v k g rows hg hr h => cases hp; exact hr
  | _ => cases hp
theorem pvs_get : ∀ {as : List AV} {ps : List PV}, pvs as = some ps → as.length = ps.length ∧ ∀ (i : Nat) (pv : PV), ps[i]? = some pv → ∃ a, as[i]? = some a ∧ a.pv = some pv
  | [], ps, h => by cases h; simp
  | a :: r, ps, h => by
    obtain ⟨x, hx, h⟩ := Option.bind_eq_some_iff.mp h
    obtain ⟨q, hq, rfl⟩ := Option.map_eq_some_iff.mp h
    obtain ⟨h1, h2⟩ := pvs_get hq
    refine ⟨by simp [h1], fun i pv hi => ?_⟩
    cases i with
    | zero => simp at hi; subst hi; exact ⟨a, rfl, hx⟩
    | succ i => obtain ⟨b, hb, hb2⟩ := h2 i pv (by simpa using hi); exact ⟨b, by simpa using hb, hb2⟩
/-- A value that is looked up. -/
theorem MvOk.ra {ag : Bool} {v : Value} {row : List PV} (h : MvOk (Own ι m) w ag v row) : Ra ι m w v (mval ag row) := by
  cases ag with
  | false =>
    obtain ⟨p, rfl, hp⟩ := h.1 rfl
    exact .p _ _ hp
  | true =>
    obtain ⟨vs, rfl, hl, hr⟩ := h.2 rfl
    refine .agg _ _ (by simpa using hl) (fun v hv => ?_) (fun i u c hu hc => ?_)
    · obtain ⟨i, hi, rfl⟩ := List.getElem_of_mem hv
      have hi' : i < vs.size := by simpa using hi
      exact (hr i _ _ (by simp [hi']) (List.getElem?_eq_getElem (by omega))).one
    · rw [List.getElem?_map] at hc
      obtain ⟨p, hp, rfl⟩ := Option.map_eq_some_iff.mp hc
      exact .p _ _ (hr i u p hu hp)
theorem mv_cells {ag : Bool} {v : Value} {cs : List AV} {row : List PV} (hR : v.cells.size = cs.length ∧ ∀ (i : Nat) (x : Value) (c : AV), v.cells[i]? = some x → cs[i]? = some c → Ra ι m w x c) (hp : pvs cs = some row) (hs : ag = true → ∃ vs, v = .agg vs) (ho : ag = false → v.oneCell' = true) : MvOk (Own ι m) w ag v row := by
  obtain ⟨hl, hg⟩ := pvs_get hp
  have key : ∀ (i : Nat) (x : Value) (p : PV), v.cells[i]? = some x → row[i]? = some p → Rp (Own ι m) w x p := fun i x p hx hp => by
    obtain ⟨a, ha, hpv⟩ := hg i p hp
    exact (hR.2 i x a hx ha).pvr hpv
  refine ⟨fun ha => ?_, fun ha => ?_⟩
  · have hc := cells_one (ho ha)
    rw [hc] at key
    have h1 : row.length = 1 := by rw [← hl, ← hR.1, hc]; rfl
    obtain ⟨p, rfl⟩ := List.length_eq_one_iff.1 h1
    exact ⟨p, rfl, key 0 v p rfl rfl⟩
  · obtain ⟨vs, rfl⟩ := hs ha
    exact ⟨vs, rfl, hR.1.trans hl, key⟩
/-- The zero value of a map's values. -/
theorem zero_mv {el : TypeId} {ag : Bool} {zc : List AV} {z : List PV} (ha : zeroAg P el = some ag) (hz : zeroCells P el = some zc) (hp : pvs zc = some z) : ∃ zv, (zeroValue el).run P w = .ok zv w ∧ MvOk (Own ι m) w ag zv z := by
  have hz' := hz
  unfold zeroCells at hz'
  obtain ⟨zv, h1, hc⟩ := Option.bind_eq_some_iff.mp hz'
  obtain ⟨i, hi, h1⟩ := Option.bind_eq_some_iff.mp h1
  obtain ⟨h2, h3, h4⟩ := (ofConst_ra (ι := ι) (m := m) (w := w) zv).cells hc
  have hag : ag = isAggV zv := by
    unfold zeroAg at ha
    rw [hi, Option.bind_some, h1, Option.map_some] at ha
    exact (Option.some.inj ha).symm
  refine ⟨zv, by simp [zeroValue, typeInfo, hi, h1], mv_cells ⟨h2, h4⟩ hp (fun e => ?_) (fun e => ?_)⟩
  · rw [hag] at e; cases zv <;> first | exact ⟨_, rfl⟩ | (simp [isAggV] at e)
  · rw [hag] at e; cases zv <;> first | rfl | (simp [isAggV] at e; done) | (simp [ofConst, cell1, AV.cells] at hc; done)
/-- The entries, side by side. -/
def EntsR (ι : Pl) (m : Mem) (w : World) (mk : MK) (ag : Bool) (o : Nat) (l : List MapEntry) (es : Ents) : Prop :=
  l.length = es.length ∧ ∀ (i : Nat) (en : MapEntry) (q : PV × List PV), l[i]? = some en → es[i]? = some q → en.born = o + i ∧ kOf mk q.1 = true ∧ en.key = kval q.1 ∧ MvOk (Own ι m) w ag en.val q.2
theorem find_run {kt : TypeId} {mk : MK} {ag : Bool} {key : PV} (hk : kOf mk key = true) (hd : KeyOk P kt mk) (l : List MapEntry) (es : Ents) (hR : EntsR ι m w mk ag 0 l es) :
    (mfind key es 0 = none ∧ (Instr.findKey kt (kval key) l).run P w = .ok none w) ∨ ∃ j en q, mfind key es 0 = some (0 + j, q.2) ∧ (Instr.findKey kt (kval key) l).run P w = .ok (some (j, en.val)) w ∧ l[j]? = some en ∧ es[j]? = some q ∧ en.key = kval key := by
  rcases hd.find w key hk l es 0 hR.1 (fun i en q h1 h2 => ⟨(hR.2 i en q h1 h2).2.1, (hR.2 i en q h1 h2).2.2.1⟩) with ⟨h1, h2⟩ | ⟨j, en, q, h1, h2, h3⟩
  · exact .inl ⟨h1, h2 rfl⟩
  · exact .inr ⟨j, en, q, h1, h2 rfl, h3⟩
theorem entsR_of (hM : MemOk ι m w) {k g : Nat} {mk : MK} {ag : Bool} {es : Ents} (h : lk m k = some (g, .map mk ag es)) : ∃ ents : Array MapEntry, w.heap[(ι k).blk]? = some (.map ents es.length) ∧ EntsR ι m w mk ag 0 ents.toList es := by
  obtain ⟨ents, h1, h2, h3⟩ := hM.ok k g _ h
  exact ⟨ents, h1, by simpa using h2, fun i en q a b => by rw [Nat.zero_add]; exact h3 i en q (by simpa using a) b⟩
theorem mkeyOf_spec {mk : MK} {a : AV} {pv : PV} (h : mkeyOf mk a = some pv) : ((a = .p pv ∧ ∀ b r, pv ≠ .lst b r) ∨ ∃ x y, a = .agg [.p (.str x), .p (.str y)] ∧ pv = .lst false [[.str x, .str y]]) ∧ kOf mk pv = true := by
  unfold mkeyOf at h
  split at h
  · cases h
  · rename_i p hne
    cases hk : kOf mk p with
    | false => rw [hk] at h; cases h
    | true => rw [hk] at h; cases h; exact ⟨.inl ⟨rfl, fun b r e => hne b r e⟩, hk⟩
  · rename_i x y
    cases hk : kOf mk (.lst false [[.str x, .str y]]) with
    | false => rw [hk] at h; cases h
    | true => rw [hk] at h; cases h; exact ⟨.inr ⟨x, y, rfl, rfl⟩, hk⟩
  · cases h
theorem key_val {v : Value} {mk : MK} {a : AV} {pv : PV} (h : Ra ι m w v a) (hk : mkeyOf mk a = some pv) : v = kval pv ∧ kOf mk pv = true := by
  obtain ⟨h1, h2⟩ := mkeyOf_spec hk
  refine ⟨?_, h2⟩
  rcases h1 with ⟨rfl, hne⟩ | ⟨x, y, rfl, rfl⟩
  · cases pv with
    | int k n => exact h.int
    | str s => exact h.str
    | lst b r => exact absurd rfl (hne b r)
    | _ => cases mk <;> simp [kOf] at h2
  · cases h with
    | agg vs cs hl hone h =>
      obtain ⟨l⟩ := vs
      match l, hl with
      | [u, v], _ =>
        have e1 := (h 0 u _ rfl rfl).str
        have e2 := (h 1 v _ rfl rfl).str
        subst e1; subst e2; rfl
theorem lookup_run (hM : MemOk ι m w) {t : TypeId} {v x : Value} {k g : Nat} {mk : MK} {ag ok : Bool} {z : List PV} {es : Ents} {key : PV} {a : AV} (ht : mapTy P t = some (mk, ag, z)) (hv : Ra ι m w v (.mp k g)) (hk : lk m k = some (g, .map mk ag es)) (hx : Ra ι m w x a) (hkey : mkeyOf mk a = some key) :
    ∃ cv, (Instr.lookup t v x ok).run P w = .ok cv w ∧ Ra ι m w cv (tupIf ok (mval ag (mrow key es z)) (mhas key es)) := by
  obtain ⟨kt, el, d, zc, hu, hd, hkd, ha, hz, hzp, _⟩ := mapTy_spec ht
  obtain ⟨ents, hb, hR⟩ := entsR_of hM hk
  obtain ⟨rfl, hko⟩ := key_val hx hkey
  rw [hv.mpv hk]
  have fin : ∀ (u : Value) (row : List PV) (o : Bool), MvOk (Own ι m) w ag u row → Ra ι m w (if ok = true then .tuple #[u, .bool o] else u) (tupIf ok (mval ag row) o) := fun u row o h => by
    cases ok with
    | false => exact h.ra
    | true =>
      refine .tup _ _ rfl fun i y c hy hc => ?_
      match i, hy, hc with
      | 0, hy, hc => simp at hy hc; subst hy; subst hc; exact h.ra
      | 1, hy, hc => simp at hy hc; subst hy; subst hc; exact .p _ _ (.bool o)
      | n + 2, hy, _ => simp at hy
  rcases find_run hko hkd ents.toList es hR with ⟨h1, h2⟩ | ⟨j, en, q, h1, h2, h3, h4, _⟩
  · obtain ⟨zv, h3, h4⟩ := zero_mv (ι := ι) (m := m) (w := w) ha hz hzp
    refine ⟨_, by simp [Instr.lookup, run_underlying hu, Go.MapKept.run_getObj_map hb, hkd.check w _ key hko, h2, h3, Result.andThen]; rfl, ?_⟩
    have e1 : mrow key es z = z := by unfold mrow; rw [h1]
    have e2 : mhas key es = false := by unfold mhas; rw [h1]; rfl
    rw [e1, e2]
    have := fin zv z false h4
    cases ok <;> exact this
  · refine ⟨_, by simp [Instr.lookup, run_underlying hu, Go.MapKept.run_getObj_map hb, hkd.check w _ key hko, h2, Result.andThen]; rfl, ?_⟩
    have e1 : mrow key es z = q.2 := by unfold mrow; rw [h1]
    have e2 : mhas key es = true := by unfold mhas; rw [h1]; rfl
    rw [e1, e2]
    have := fin en.val q.2 true (hR.2 j en q h3 h4).2.2.2
    cases ok <;> exact this
end
end Go.Ab
namespace Go.Ab
set_option linter.unusedVariables false
set_option linter.unusedSimpArgs false
theorem bif_none {α : Type} {b : Bool} {x : Option α} {y : α} (h : (bif b then x else none) = some y) : b = true ∧ x = some y := by cases b <;> simp_all
theorem Ra.nilIv {ι : Pl} {m : Mem} {w : World} {v : Value} (h : Ra ι m w v (.p .nilI)) : v = .nilIface := by cases h with | p _ _ h => cases h; rfl
theorem Ra.ifcv {ι : Pl} {m : Mem} {w : World} {v : Value} {b : Bool} (h : Ra ι m w v (.p (.ifc b))) : (b = true ∧ v = .nilIface) ∨ (b = false ∧ ∃ t x, v = .iface t x) := by
  cases h with
  | p _ _ h =>
    cases h with
    | ifc _ _ h1 h2 =>
      cases b
      · exact .inr ⟨rfl, h2 rfl⟩
      · exact .inl ⟨rfl, h1 rfl⟩
theorem guard_const {op : BinOp} {t : TypeId} {x y : Operand} {a b : Value} {P : Program} {w : World} (hy : constB y = true) (hv : (a = .nilIface ∨ ∃ t x, a = .iface t x) ∧ b = .nilIface) : (eqGuard op t x y a b).run P w = .ok () w := by
  obtain ⟨h1, rfl⟩ := hv
  cases y with
  | const v => rcases h1 with rfl | ⟨tt, xx, rfl⟩ <;> unfold eqGuard <;> cases op <;> simp
  | _ => cases hy
theorem Rs.unfull {Ow S : Nat → Nat → Prop} {w : World} {v : Value} {b : Bool} {rows : Rows} (h : Rs Ow S w v (.lst b rows)) : Rs Ow S w v (.lst false rows) ∧ v.oneCell' = true := by
  cases h with | lst A cap sz full rows u hcap hsz hA hc hr => exact ⟨.lst A cap sz false rows u hcap hsz hA hc hr, rfl⟩
theorem nagg_spec {P : Program} {t : TypeId} (h : nagg P t = true) : isAggB P t = some false := by
  unfold nagg at h; split at h
  · assumption
  · cases h
section
variable {ι : Pl} {m : Mem} {w : World} {P : Program}
variable {ρ : Operand → Value} {g : Operand → AV} (hg : ∀ x, Ra ι m w (ρ x) (g x)) (hM : MemOk ι m w)
include hg hM
theorem load_run {t : TypeId} {x : Operand} {av : AV} {n : Option (Nat × Ob)} {e : Nat × Ob} {hb : Bool} {d : Nat} (he : e = entO m (keyOf (.load t x) g d)) (h : core P hb (.load t x) g d e = some (av, n)) :
    n = none ∧ ∃ cv, (Instr.loadAt t (ρ x)).run P w = .ok cv w ∧ Ra ι m w cv av := by
  have hx := hg x
  simp only [core, keyOf] at h he
  cases hgx : g x with
  | ptr k gn off =>
    rw [hgx] at h he hx
    obtain ⟨g', ob⟩ := e
    cases ob with
    | cells cs =>
      simp only at h
      cases hgg : gn == g' <;> rw [hgg] at h
      · cases h
      obtain ⟨h1, h2⟩ := eff_some h
      have e1 : gn = g' := by simpa using hgg
      subst e1
      have hk := ent_lk he (by simp)
      obtain ⟨vs, ty, h3, h4, h5⟩ := hM.ok k gn _ hk
      rw [hx.ptrv hk]
      refine ⟨h2, ?_⟩
      simp only [Instr.loadAt, Instr.sureAddr, Sem.run_bind, Sem.run_pure, Result.andThen_ok]
      refine ld_run h1 _ (fun j => vs.getD (off + j) undef) fun j c hj => ?_
      rw [List.getElem?_drop] at hj
      have hlt : off + j < vs.size := by rw [h4]; exact (List.getElem?_eq_some_iff.1 hj).1
      have e2 : vs[off + j]? = some vs[off + j] := Array.getElem?_eq_getElem hlt
      obtain ⟨h6, h7⟩ := h5 (off + j) _ c e2 hj
      have e3 : vs.getD (off + j) undef = vs[off + j] := by simp [Array.getD, hlt]
      rw [e3]
      refine ⟨?_, h6, h7⟩
      rw [add_mk]
      simp [World.cell?, h3, hlt]
    | _ => cases h
  | eptr k gn i off =>
    rw [hgx] at h he hx
    obtain ⟨g', ob⟩ := e
    cases ob with
    | buf z rows =>
      simp only at h
      cases hgg : gn == g' <;> rw [hgg] at h
      · cases h
      obtain ⟨h1, h2⟩ := eff_some h
      obtain ⟨row, hrow, h1⟩ := Option.bind_eq_some_iff.mp h1
      have e1 : gn = g' := by simpa using hgg
      subst e1
      have hk := ent_lk he (by simp)
      obtain ⟨hz, _, _, hrl, hbuf⟩ := hM.ok k gn _ hk
      obtain ⟨ad, hbase, hv⟩ := hx.eptrv (.inl hk)
      obtain ⟨ho, hsp, vs, ty, h3, h4, h5⟩ := hbuf ad hbase
      rw [hv]
      refine ⟨h2, ?_⟩
      simp only [Instr.loadAt, Instr.sureAddr, Sem.run_bind, Sem.run_pure, Result.andThen_ok]
      refine ld_run h1 _ (fun j => vs.getD (i * (ι k).sz + (off + j)) undef) fun j c hj => ?_
      rw [List.getElem?_drop, List.getElem?_map] at hj
      obtain ⟨pv, hpv, rfl⟩ := Option.map_eq_some_iff.mp hj
      obtain ⟨u, h6, h7, h8⟩ := h5 i (off + j) row pv hrow hpv
      have hlt : i * (ι k).sz + (off + j) < vs.size := (Array.getElem?_eq_some_iff.1 h6).1
      have e3 : vs.getD (i * (ι k).sz + (off + j)) undef = u := by
        rw [Array.getD_eq_getD_getElem?, h6]; rfl
      rw [e3]
      refine ⟨?_, .p _ _ h7, h8⟩
      obtain ⟨bl, of, sp⟩ := ad
      simp only at ho hsp h3
      subst ho; subst hsp
      rw [add_add, add_mk]
      simp only [World.cell?, h3, Nat.zero_add, Nat.add_assoc]
      simpa using h6
    | _ => cases h
  | cptr cells =>
    rw [hgx] at h hx
    obtain ⟨h1, h2⟩ := eff_some h
    refine ⟨h2, ?_⟩
    generalize ρ x = v at hx
    cases hx with
    | cptr ad _ u hs h3 h4 =>
      simp only [Instr.loadAt, Instr.sureAddr, Sem.run_bind, Sem.run_pure, Result.andThen_ok]
      refine ld_run h1 ad u fun j c hj => ?_
      rw [List.getElem?_map] at hj
      obtain ⟨pv, hpv, rfl⟩ := Option.map_eq_some_iff.mp hj
      exact ⟨(h3 j pv hpv).1, .p _ _ (h4 j pv hpv), (h4 j pv hpv).one⟩
  | shp k gn row =>
    rw [hgx] at h he hx
    cases row with
    | nil => cases h
    | cons c r =>
      cases c with
      | lst b rows' =>
        simp only at h
        cases hl : (nagg P t && liveP gn e) <;> rw [hl] at h
        · cases h
        obtain ⟨h1, h2⟩ := eff_some h
        cases h1
        rw [Bool.and_eq_true] at hl
        have hk := liveP_spec (k := k) he hl.2
        refine ⟨h2, ?_⟩
        generalize ρ x = v at hx
        cases hx with
        | shp _ _ _ _ u h3 hg' h4 =>
          obtain ⟨ad, rfl, hs, hc⟩ := h4 hk
          obtain ⟨-, h5⟩ := hc 0 _ rfl
          obtain ⟨h6, h7, h8⟩ := h5 rfl
          rw [add_zero'] at h6
          obtain ⟨h9, h10⟩ := h8.unfull
          refine ⟨u 0, ?_, .sh _ k gn rows' h10 hg' fun _ => h9⟩
          simp [Instr.loadAt, Instr.sureAddr, loadVar, run_isAgg (nagg_spec hl.1), h6]
      | _ => cases h
  | _ => rw [hgx] at h; cases h
theorem quiet_op {o : Oper} {av : AV} {hb : Bool} {d : Nat} (hnc : isCall o.op = false) (hns : ∀ t n ps, o.op ≠ .buildSlice t n ps) (hnv : ∀ s t x, o.op = .convert s t x → tkind P s = .str → tkind P t = .bytes → False) (hna : ∀ args ts x k gn lo n, o.op = .call { callee := .builtin .append, args := args, argTypes := ts } → args.toList.map g = [x, .buf k gn lo n] → False) (h : core P hb o.op g d (entO m (keyOf o.op g d)) = some (av, none)) :
    ∃ cv, (execOp ρ o).run P w = .ok (.value cv) w ∧ Ra ι m w cv av := by
  obtain ⟨dst, op, ty, pos, after, guard⟩ := o
  simp only at h
  cases op
  case move x => obtain ⟨rfl, _⟩ := Prod.mk.inj (Option.some.inj h); exact ⟨ρ x, rfl, hg x⟩
  case assign x => obtain ⟨rfl, _⟩ := Prod.mk.inj (Option.some.inj h); exact ⟨ρ x, rfl, hg x⟩
  case pick c a b => simp only [core] at h; exact d_pick hg h
  case binOp op t x y yt =>
    simp only [core] at h
    split at h
    · rename_i b hcb hgx hgy
      obtain ⟨ht, h⟩ := bif_none h
      obtain ⟨ms, hu⟩ : ∃ ms, P.underlying t = some (.interface ms) := by
        unfold isIfcT at ht; split at ht
        · rename_i ms hu; exact ⟨ms, hu⟩
        · cases ht
      have hx := hg x; have hy := hg y
      rw [hgx] at hx; rw [hgy] at hy
      have ey := hy.nilIv
      have hgd : (eqGuard op t x y (ρ x) .nilIface).run P w = .ok () w := guard_const hcb ⟨hx.ifcv.elim (fun h => .inl h.2) (fun h => .inr h.2), rfl⟩
      have hq : (Op.equal t (ρ x) .nilIface).run P w = .ok b w := by
        rw [Op.equal, show Op.maxDepth = 9999 + 1 from rfl, Op.equalIn]
        rcases hx.ifcv with ⟨rfl, e⟩ | ⟨rfl, tt, xx, e⟩ <;> simp [e, run_underlying hu]
      refine DoesP.of ?_
      rw [ey]
      have key : ∀ v : Value, (v = .nilIface ∨ ∃ tt xx, v = .iface tt xx) → (eqGuard op t x y v .nilIface).run P w = .ok () w → (Op.equal t v .nilIface).run P w = .ok b w → ∃ cv, (do eqGuard op t x y v .nilIface; Go.binOp op t v .nilIface : Sem Value).run P w = .ok cv w ∧ Ra ι m w cv av := fun v hv hgd hq => by
        cases op <;> simp only [reduceCtorEq] at h
        · obtain ⟨h1, _⟩ := eff_some h; cases h1
          rcases hv with rfl | ⟨tt, xx, rfl⟩ <;> exact ⟨.bool b, by rw [Sem.run_bind, hgd]; simp [Go.binOp, hq], .bool' _⟩
        · obtain ⟨h1, _⟩ := eff_some h; cases h1
          rcases hv with rfl | ⟨tt, xx, rfl⟩ <;> exact ⟨.bool (!b), by rw [Sem.run_bind, hgd]; simp [Go.binOp, hq], .bool' _⟩
      exact key _ (hx.ifcv.elim (fun h => .inl h.2) (fun h => .inr h.2)) hgd hq
    · obtain ⟨h1, _⟩ := eff_some h
      exact DoesP.of (binop_run hg h1)
  case unOp op t x =>
    simp only [core] at h
    obtain ⟨h1, _⟩ := eff_some h
    exact DoesP.of (unop_run hg h1)
  case load t x => exact DoesP.of (load_run hg hM rfl h).2
  case extract x i =>
    simp only [core] at h
    have hx := hg x
    split at h
    · rename_i vs e; rw [e] at hx
      obtain ⟨h1, _⟩ := eff_some h
      simp only [execOp]
      generalize ρ x = v at hx
      cases hx with
      | tup ws _ hl hr =>
        have hi : i < ws.size := by rw [hl]; exact (List.getElem?_eq_some_iff.1 h1).1
        exact DoesP.of ⟨ws[i], by simp [Instr.extract, hi], hr i _ av (Array.getElem?_eq_getElem hi) h1⟩
    · cases h
  case makeFunc fn first caps =>
    cases fn <;> simp only [core] at h <;> try cases h
    rename_i f
    refine ⟨.func (.func f) (first.map ρ) (caps.map ρ), rfl, .clo f _ _ _ _ (by simp) (by simp) (fun i v c hv hc => ?_) (fun i v c hv hc => ?_)⟩
    · simp only [Array.getElem?_map, List.getElem?_map, Array.getElem?_toList] at hv hc
      obtain ⟨x, hx, rfl⟩ := Option.map_eq_some_iff.mp hv
      rw [hx] at hc; cases hc; exact hg x
    · simp only [Array.getElem?_map, List.getElem?_map, Array.getElem?_toList] at hv hc
      obtain ⟨x, hx, rfl⟩ := Option.map_eq_some_iff.mp hv
      rw [hx] at hc; cases hc; exact hg x
  case build t parts =>
    simp only [core] at h
    cases hs : sizedB P t <;> rw [hs] at h
    · cases h
    obtain ⟨h1, _⟩ := eff_some h
    obtain ⟨z, hz, h1⟩ := Option.bind_eq_some_iff.mp h1
    obtain ⟨cs, hf, rfl⟩ := Option.map_eq_some_iff.mp h1
    obtain ⟨vs, h2, h3⟩ := build_run hg hs hz hf
    exact DoesP.of ⟨_, h2, .agg _ _ h3.len h3.one h3.rel⟩
  case field t x f =>
    simp only [core] at h
    obtain ⟨⟨o, ft⟩, hf, h⟩ := Option.bind_eq_some_iff.mp h
    split at h
    · rename_i cs e
      obtain ⟨h1, _⟩ := eff_some h
      exact DoesP.of (d_field hg hf e h1)
    · cases h
  case nilCheck x =>
    simp only [core, keyOf] at h
    have hx := hg x
    split at h
    · rename_i k gn off e
      rw [e] at hx h
      cases hl : liveC gn (entO m (keyV (.ptr k gn off))) <;> rw [hl] at h
      · cases h
      obtain ⟨h1, _⟩ := eff_some h
      cases h1
      obtain ⟨cs, hk, _⟩ := liveC_spec (k := k) rfl hl
      have hv := hx.ptrv hk
      exact ⟨ρ x, by simp [execOp, hv], hx⟩
    · rename_i c e
      rw [e] at hx
      obtain ⟨h1, _⟩ := eff_some h
      cases h1
      simp only [execOp]
      generalize ρ x = v at hx
      cases hx with
      | cptr ad _ u hs h3 h4 => exact ⟨_, rfl, .cptr ad _ u hs h3 h4⟩
    · rename_i k gn i off e
      rw [e] at hx h
      cases hl : liveB gn (entO m (keyV (.eptr k gn i off))) <;> rw [hl] at h
      · cases h
      obtain ⟨h1, _⟩ := eff_some h
      cases h1
      obtain ⟨z, r, hk, _⟩ := liveB_spec (k := k) rfl hl
      obtain ⟨ad, _, hv⟩ := hx.eptrv hk
      exact ⟨ρ x, by simp [execOp, hv], hx⟩
    · rename_i k gn row e
      rw [e] at hx h
      cases hl : liveP gn (entO m (keyV (.shp k gn row))) <;> rw [hl] at h
      · cases h
      obtain ⟨h1, _⟩ := eff_some h
      cases h1
      have hk := liveP_spec (k := k) rfl hl
      have hx' := hx
      generalize hv : ρ x = v at hx
      cases hx with
      | shp _ _ _ _ u h3 hg' h4 =>
        obtain ⟨ad, e1, _⟩ := h4 hk
        exact ⟨ρ x, by simp [execOp, hv, e1], hx'⟩
    · cases h
  case fieldAddr s x f =>
    simp only [core, keyOf] at h
    have hx := hg x
    obtain ⟨⟨o, ft⟩, hf, h⟩ := Option.bind_eq_some_iff.mp h
    cases hp : szPos P ft <;> rw [hp] at h
    · cases h
    simp only [Bool.not_true, cond_false] at h
    split at h
    · rename_i k gn off e
      rw [e] at hx h
      cases hl : liveC gn (entO m (keyV (.ptr k gn off))) <;> rw [hl] at h
      · cases h
      obtain ⟨h1, _⟩ := eff_some h
      cases h1
      obtain ⟨cs, hk, _⟩ := liveC_spec (k := k) rfl hl
      have hv := hx.ptrv hk
      have hgen : gn ≤ (ent m k).1 := by rw [ent_of_lk hk]; exact Nat.le_refl _
      refine DoesP.of ⟨.pointer (some (Addr.add ⟨(ι k).blk, off, none⟩ o)), by rw [hv]; exact d_fieldAddr hf hp, .ptr _ k gn _ rfl hgen fun _ _ _ => by rw [add_mk]⟩
    · rename_i c e
      rw [e] at hx
      obtain ⟨h1, _⟩ := eff_some h
      cases h1
      simp only [execOp]
      generalize ρ x = v at hx
      cases hx with
      | cptr ad _ u hs h3 h4 => exact DoesP.of ⟨_, d_fieldAddr hf hp, Ra.cdrop (.cptr ad _ u hs h3 h4) o⟩
    · rename_i k gn i off e
      rw [e] at hx h
      cases hl : liveB gn (entO m (keyV (.eptr k gn i off))) <;> rw [hl] at h
      · cases h
      obtain ⟨h1, _⟩ := eff_some h
      cases h1
      obtain ⟨z, r, hk, _⟩ := liveB_spec (k := k) rfl hl
      obtain ⟨ad, hb', hv⟩ := hx.eptrv hk
      have hgen : gn ≤ (ent m k).1 := by rcases hk with hk | hk <;> (rw [ent_of_lk hk]; exact Nat.le_refl _)
      refine DoesP.of ⟨_, by rw [hv]; exact d_fieldAddr hf hp, .eptr _ k gn _ _ rfl hgen fun _ _ _ => ⟨ad, hb', by rw [add_add, Nat.add_assoc]⟩⟩
    · rename_i k gn row e
      rw [e] at hx h
      cases hl : liveP gn (entO m (keyV (.shp k gn row))) <;> rw [hl] at h
      · cases h
      obtain ⟨h1, _⟩ := eff_some h
      cases h1
      have hk := liveP_spec (k := k) rfl hl
      simp only [execOp]
      generalize ρ x = v at hx
      cases hx with
      | shp _ _ _ _ u h3 hg' h4 =>
        obtain ⟨ad, rfl, hs, hc⟩ := h4 hk
        refine DoesP.of ⟨_, d_fieldAddr hf hp, .shp _ k gn _ (fun j => u (o + j)) rfl hg' fun _ => ⟨ad.add o, rfl, add_spot _ _ hs, fun j c hj => ?_⟩⟩
        rw [List.getElem?_drop] at hj
        obtain ⟨h5, h6⟩ := hc (o + j) c hj
        rw [add_block, add_off, Nat.add_assoc]
        refine ⟨h5, fun hlc => ?_⟩
        rw [add_add]
        exact h6 hlc
    · cases h
  case indexAddr t x i =>
    simp only [core, keyOf] at h
    have hx := hg x; have hi := hg i
    split at h
    · rename_i kk n ei
      rw [ei] at hi
      split at h
      · rename_i k gn off e
        rw [e] at hx h
        obtain ⟨⟨len, s⟩, ha, h⟩ := Option.bind_eq_some_iff.mp h
        simp only at h
        split at h
        · rename_i hb'
          cases hl : liveC gn (entO m (keyV (.ptr k gn off))) <;> rw [hl] at h
          · cases h
          obtain ⟨h1, _⟩ := eff_some h
          cases h1
          obtain ⟨cs, hk, _⟩ := liveC_spec (k := k) rfl hl
          have hgen : gn ≤ (ent m k).1 := by rw [ent_of_lk hk]; exact Nat.le_refl _
          refine DoesP.of ⟨.pointer (some (Addr.add ⟨(ι k).blk, off, none⟩ (n.toNat * s))), ?_, .ptr _ k gn _ rfl hgen fun _ _ _ => by rw [add_mk]⟩
          rw [hx.ptrv hk, hi.int]; exact indexPtr_run (s := s) (k := k) (g := gn) (off := off) ha hb'
        · cases h
      · rename_i k gn lo c e
        rw [e] at hx h
        obtain ⟨s, ha, h⟩ := Option.bind_eq_some_iff.mp h
        obtain ⟨u, hin, h⟩ := Option.bind_eq_some_iff.mp h
        unfold inr at hin; split at hin
        · rename_i hb'
          cases hl : (liveZ gn s (entO m (keyV (.buf k gn lo c))) && decide (0 < s)) <;> rw [hl] at h
          · cases h
          obtain ⟨h1, _⟩ := eff_some h
          cases h1
          rw [Bool.and_eq_true] at hl
          obtain ⟨r, hk, _⟩ := liveZ_spec (k := k) rfl hl.1
          obtain ⟨h2, A, h3, h4⟩ := hx.bufv hk
          obtain ⟨hsz, h5, h6⟩ := buf_base hM hk
          have hlo : lo < (ι k).cap := by omega
          have hgen : gn ≤ (ent m k).1 := by rcases hk with hk | hk <;> (rw [ent_of_lk hk]; exact Nat.le_refl _)
          cases hbase : (ι k).base with
          | none => have := h6 hbase; omega
          | some ad =>
            rw [hbase] at h4
            refine DoesP.of ⟨.pointer (some ((ad.add (lo * (ι k).sz)).add (n.toNat * s))), ?_, .eptr _ k gn _ _ rfl hgen fun _ _ _ => ⟨ad, hbase, by rw [add_add, hsz, Nat.add_zero, ← Nat.add_mul]⟩⟩
            rw [h3, h4 hlo, hi.int]; exact indexSl_run ha hb'
        · cases hin
      · rename_i k gn rows e
        rw [e] at hx h
        obtain ⟨s, ha, h⟩ := Option.bind_eq_some_iff.mp h
        obtain ⟨row, hrow, h⟩ := Option.bind_eq_some_iff.mp h
        cases hl : liveP gn (entO m (keyV (.sh k gn rows))) <;> rw [hl] at h
        · cases h
        simp only [cond_true] at h
        split at h
        · rename_i hb'
          obtain ⟨h1, _⟩ := eff_some h
          cases h1
          have hk := liveP_spec (k := k) rfl hl
          unfold ix at hrow; split at hrow
          · rename_i h0
            have hlt : n < rows.length := by have := (List.getElem?_eq_some_iff.1 hrow).1; omega
            generalize hv : ρ x = v at hx
            cases hx with
            | sh _ _ _ _ h3 hg' h4 =>
              have h4 := h4 hk
              cases h4 with
              | lst A cap sz full _ u hcap hsz hA hc hr =>
                have hs := hsz _ row hrow
                have : sz = s := by omega
                subst this
                obtain ⟨ad, rfl, hsp⟩ := hA (by omega) hb'.2
                refine DoesP.of ⟨.pointer (some (ad.add (n.toNat * sz))), ?_, .shp _ k gn row (fun j => u n.toNat j) rfl hg' fun _ => ⟨_, rfl, add_spot _ _ hsp, fun j c hj => ?_⟩⟩
                · rw [hi.int, hv]; exact indexSl_run ha ⟨h0, hlt⟩
                · obtain ⟨h5, h6⟩ := hc _ row j c ad hrow hj rfl
                  rw [add_block, add_off, Nat.add_assoc]
                  refine ⟨h5, fun hlc => ?_⟩
                  obtain ⟨h7, h8⟩ := h6 hlc
                  rw [add_add]
                  exact ⟨h7, h8, hr _ row j c hrow hj hlc⟩
          · cases hrow
        · cases h
      · rename_i hn1 hn2 hn3
        obtain ⟨s, ha, h⟩ := Option.bind_eq_some_iff.mp h
        obtain ⟨r, hr, h⟩ := Option.bind_eq_some_iff.mp h
        obtain ⟨row, hrow, h⟩ := Option.bind_eq_some_iff.mp h
        split at h
        · rename_i hb'
          obtain ⟨h1, _⟩ := eff_some h
          cases h1
          unfold ix at hrow; split at hrow
          · rename_i h0
            obtain ⟨ad, cap, hv, hc⟩ := (hx.rows hr).row hrow hb'.1 hb'.2
            have hlt : n < r.length := by have := (List.getElem?_eq_some_iff.1 hrow).1; omega
            refine DoesP.of ⟨_, ?_, hc⟩
            rw [hv, hi.int]; exact indexSl_run ha ⟨h0, hlt⟩
          · cases hrow
        · cases h
    · cases h
  case index t x i =>
    simp only [core] at h
    split at h
    · rename_i b kk n hk hx hi
      obtain ⟨h1, _⟩ := eff_some h
      obtain ⟨c, hc, rfl⟩ := Option.map_eq_some_iff.mp h1
      exact DoesP.of (index_run hg hx hi (tkind_str hk) hc)
    · cases h
  case slice t x lo hi mx =>
    simp only [core, keyOf] at h
    cases mx with
    | some _ => cases h
    | none =>
      simp only at h
      split at h
      · rename_i b e
        cases ht : isStrT P t <;> rw [ht] at h
        · cases h
        obtain ⟨h1, _⟩ := eff_some h
        obtain ⟨l, hl, h1⟩ := Option.bind_eq_some_iff.mp h1
        obtain ⟨hh, hhi, h1⟩ := Option.bind_eq_some_iff.mp h1
        obtain ⟨s, hs, rfl⟩ := Option.map_eq_some_iff.mp h1
        exact DoesP.of (d_sliceStr hg e ht hl hhi hs)
      · rename_i k gn l0 c e
        rw [e] at h
        obtain ⟨s, ha, h⟩ := Option.bind_eq_some_iff.mp h
        obtain ⟨h1, _⟩ := eff_some h
        obtain ⟨l, hl, h1⟩ := Option.bind_eq_some_iff.mp h1
        obtain ⟨hh, hhi, h1⟩ := Option.bind_eq_some_iff.mp h1
        obtain ⟨u, hbn, h1⟩ := Option.bind_eq_some_iff.mp h1
        unfold bnd at hbn; split at hbn
        · rename_i hb'
          cases hz : liveZ0 gn s (entO m (keyV (.buf k gn l0 c))) <;> rw [hz] at h1
          · cases h1
          cases h1
          obtain ⟨r, hk, _⟩ := liveZ0_spec (k := k) rfl hz
          exact DoesP.of (d_sliceBuf hg e ha hl hhi hb' hk hM)
        · cases hbn
      · rename_i hn1 hn2
        obtain ⟨s, ha, h⟩ := Option.bind_eq_some_iff.mp h
        obtain ⟨r, hr, h⟩ := Option.bind_eq_some_iff.mp h
        obtain ⟨h1, _⟩ := eff_some h
        obtain ⟨l, hl, h1⟩ := Option.bind_eq_some_iff.mp h1
        obtain ⟨hh, hhi, h1⟩ := Option.bind_eq_some_iff.mp h1
        obtain ⟨q, hq, h1⟩ := Option.bind_eq_some_iff.mp h1
        cases hok : rowsOk s r <;> rw [hok] at h1
        · cases h1
        cases h1
        exact DoesP.of (d_sliceLst hg hr ha hl hhi hq hok)
  case convert s t x =>
    simp only [core, keyOf] at h
    have hx := hg x
    split at h
    · rename_i k0 k1 k2 n hs ht e
      rw [e] at hx
      obtain ⟨h1, _⟩ := eff_some h
      cases h1
      refine DoesP.of ⟨_, ?_, .int' _ _⟩
      simp only [Go.convert, Sem.run_bind, run_underlying (tkind_int hs), run_underlying (tkind_int ht), Result.andThen_ok, hx.int, Conv.intToInt, Sem.run_pure]
    · rename_i b hs ht e
      rw [e] at hx
      obtain ⟨h1, _⟩ := eff_some h
      cases h1
      refine DoesP.of ⟨_, ?_, .str' _⟩
      simp only [Go.convert, Sem.run_bind, run_underlying (tkind_str hs), run_underlying (tkind_str ht), Result.andThen_ok, hx.str, Sem.run_pure]
    · rename_i hs ht
      obtain ⟨h1, _⟩ := eff_some h
      obtain ⟨r, hr, h1⟩ := Option.bind_eq_some_iff.mp h1
      obtain ⟨l, hl, rfl⟩ := Option.map_eq_some_iff.mp h1
      obtain ⟨el, hu, hu8⟩ := tkind_bytes hs
      have hrun := bytes_run (P := P) (hx.rows hr) hl
      refine DoesP.of ⟨_, ?_, .str' _⟩
      obtain ⟨A, cap, hv⟩ := (hx.rows hr).sliceV
      rw [hv] at hrun ⊢
      simp only [Go.convert, Sem.run_bind, run_underlying hu, run_underlying (tkind_str ht), Result.andThen_ok, run_underlying hu8]
      exact hrun
    · rename_i k0 k2 n hs ht e
      rw [e] at hx
      obtain ⟨h1, _⟩ := eff_some h
      cases h1
      refine DoesP.of ⟨_, ?_, .str' _⟩
      simp only [Go.convert, Sem.run_bind, run_underlying (tkind_int hs), run_underlying (tkind_str ht), Result.andThen_ok, hx.int, Conv.intToString, Sem.run_pure, istr]
    · rename_i b hs ht e; exact (hnv _ _ _ rfl hs ht).elim
    · cases h
  case call c =>
    obtain ⟨callee, args, ts⟩ := c
    cases callee <;> simp only [core] at h <;> try (first | cases h | cases hnc)
    rename_i b
    have hexec : ∀ (r : Sem Value), (Go.builtin b ts ty (args.map fun | .const _ => true | _ => false) (args.map ρ)) = (do pure (.value (← r)) : Sem Next) →
        execOp ρ ⟨dst, .call { callee := .builtin b, args := args, argTypes := ts }, ty, pos, after, guard⟩ = (do pure (.value (← r)) : Sem Next) := fun r hr => hr
    have one : ∀ {x0 : AV}, args.toList.map g = [x0] → ∃ x, args = #[x] ∧ g x = x0 := fun {x0} ha => by
      cases hl : args.toList with
      | nil => rw [hl] at ha; cases ha
      | cons y r => rw [hl] at ha; cases r with
        | nil => exact ⟨y, by rw [← Array.toList_inj, hl], by simpa using ha⟩
        | cons _ _ => simp at ha
    have two : ∀ {x0 y0 : AV}, args.toList.map g = [x0, y0] → ∃ x y, args = #[x, y] ∧ g x = x0 ∧ g y = y0 := fun {x0 y0} ha => by
      cases hl : args.toList with
      | nil => rw [hl] at ha; cases ha
      | cons y r => rw [hl] at ha; cases r with
        | nil => simp at ha
        | cons z r => cases r with
          | nil => exact ⟨y, z, by rw [← Array.toList_inj, hl], by simpa using ha⟩
          | cons _ _ => simp at ha
    cases b
    case len =>
      generalize hla : args.toList.map g = la at h
      generalize hlt : ts.toList = lt at h
      rcases la with _ | ⟨x0, _ | ⟨y0, la⟩⟩ <;> try (simp [coreB] at h; done)
      rcases lt with _ | ⟨t, lt⟩ <;> try (simp [coreB] at h; done)
      simp only [coreB] at h
      obtain ⟨xs, rfl, rfl⟩ := one hla
      have ht0 : ts[0]? = some t := by rw [← Array.getElem?_toList, hlt]; rfl
      obtain ⟨_, cv, h1, h2⟩ := lenA_run hM (P := P) (ty := ty) ht0 (hg xs) (fun kk hkk => by
        show entO m (keyL [g xs]) = ent m kk; rw [hkk]; rfl) h
      exact ⟨cv, by rw [hexec (Builtin.len_ ts ty #[ρ xs]) (by simp [Go.builtin])]; exact run_v h1, h2⟩
    case min =>
      generalize hla : args.toList.map g = la at h
      rcases la with _ | ⟨x0, _ | ⟨y0, _ | ⟨z0, la⟩⟩⟩ <;> try (simp [coreB] at h; done)
      simp only [coreB] at h
      obtain ⟨xs, ys, rfl, hgx, hgy⟩ := two hla
      obtain ⟨_, cv, h1, h2⟩ := minA_run (P := P) (hg xs) (hg ys) (by rw [hgx, hgy]; exact h)
      exact ⟨cv, by rw [hexec (Builtin.min2 (ρ xs) (ρ ys)) (by simp [Go.builtin, Builtin.min_])]; exact run_v h1, h2⟩
    case max =>
      generalize hla : args.toList.map g = la at h
      rcases la with _ | ⟨x0, _ | ⟨y0, _ | ⟨z0, la⟩⟩⟩ <;> try (simp [coreB] at h; done)
      simp only [coreB] at h
      obtain ⟨xs, ys, rfl, hgx, hgy⟩ := two hla
      obtain ⟨_, cv, h1, h2⟩ := maxA_run (P := P) (hg xs) (hg ys) (by rw [hgx, hgy]; exact h)
      exact ⟨cv, by rw [hexec (Builtin.max2 (ρ xs) (ρ ys)) (by simp [Go.builtin, Builtin.max_])]; exact run_v h1, h2⟩
    case append =>
      exfalso
      generalize hla : args.toList.map g = la at h
      generalize hlt : ts.toList = lt at h
      rcases la with _ | ⟨x0, _ | ⟨y0, _ | ⟨z0, la⟩⟩⟩ <;> try (simp [coreB] at h; done)
      rcases lt with _ | ⟨t, _ | ⟨tx, _ | ⟨_, lt⟩⟩⟩ <;> try (simp [coreB, appT] at h; done)
      simp only [coreB, appT] at h
      obtain ⟨_, h⟩ := bif_none h
      obtain ⟨sz, _, h⟩ := Option.bind_eq_some_iff.mp h
      have hN : ∀ {r : Rows} {g' : Nat} {q : Rows}, appN hb sz d r g' q = some (av, none) → False := fun {r g' q} h => by
        unfold appN at h
        obtain ⟨rq, _, h⟩ := Option.bind_eq_some_iff.mp h
        cases hh : rowsOk sz rq <;> rw [hh] at h
        · cases h
        · simp only [cond_true] at h
          cases hh2 : (hb && r.isEmpty) <;> rw [hh2] at h <;> cases h
      unfold appS at h
      split at h
      · exact hna _ _ _ _ _ _ _ rfl hla
      unfold appC at h
      split at h
      · exact hN h
      · exact hN h
      · obtain ⟨_, h⟩ := bif_none h
        obtain ⟨rq, _, h⟩ := Option.bind_eq_some_iff.mp h
        obtain ⟨_, h⟩ := bif_none h
        cases h
      · obtain ⟨_, h⟩ := bif_none h
        obtain ⟨rq, _, h⟩ := Option.bind_eq_some_iff.mp h
        obtain ⟨_, h⟩ := bif_none h
        cases h
      · cases h
    all_goals (exfalso; revert h; unfold coreB; split <;> simp_all)
  case alloc t =>
    exfalso; simp only [core] at h; obtain ⟨cs, _, h⟩ := Option.bind_eq_some_iff.mp h
    cases hb with
    | false => cases h
    | true =>
      simp only [cond_true] at h
      obtain ⟨_, h⟩ := bif_none h
      obtain ⟨et, _, h⟩ := Option.map_eq_some_iff.mp h; cases h
  case box t x => exfalso; simp only [core] at h; obtain ⟨cs, _, h⟩ := Option.map_eq_some_iff.mp h; cases h
  case buildSlice t n ps => exact absurd rfl (hns t n ps)
  case store t a x =>
    exfalso; simp only [core] at h
    split at h
    · rename_i kk gn i off g' z rows e1 e2
      cases hh : (gn == g' : Bool) <;> rw [hh] at h <;> first | (cases h; done) | skip
      simp only [cond_true] at h
      obtain ⟨vc, _, h⟩ := Option.bind_eq_some_iff.mp h
      obtain ⟨s, _, h⟩ := Option.bind_eq_some_iff.mp h
      obtain ⟨row, _, h⟩ := Option.bind_eq_some_iff.mp h
      split at h
      · obtain ⟨r2, _, h⟩ := Option.map_eq_some_iff.mp h; cases h
      · cases h
    · rename_i kk gn off g' cs e1 e2
      cases hh : (gn == g' : Bool) <;> rw [hh] at h <;> first | (cases h; done) | skip
      simp only [cond_true] at h
      obtain ⟨vc, _, h⟩ := Option.bind_eq_some_iff.mp h
      obtain ⟨s, _, h⟩ := Option.bind_eq_some_iff.mp h
      split at h <;> cases h
    · obtain ⟨_, h⟩ := bif_none h
      obtain ⟨vc, _, h⟩ := Option.bind_eq_some_iff.mp h
      obtain ⟨s, _, h⟩ := Option.bind_eq_some_iff.mp h
      obtain ⟨row, _, h⟩ := Option.bind_eq_some_iff.mp h
      split at h
      · obtain ⟨r2, _, h⟩ := Option.map_eq_some_iff.mp h; cases h
      · cases h
    · obtain ⟨_, h⟩ := bif_none h
      obtain ⟨vc, _, h⟩ := Option.bind_eq_some_iff.mp h
      obtain ⟨_, h⟩ := bif_none h
      cases h
    · cases h
  case makeSlice t n c =>
    exfalso; simp only [core] at h
    split at h
    · obtain ⟨s, _, h⟩ := Option.bind_eq_some_iff.mp h
      obtain ⟨z, _, h⟩ := Option.bind_eq_some_iff.mp h
      cases hb <;> simp only [cond_true, cond_false] at h
      all_goals
        obtain ⟨zr, _, h⟩ := Option.bind_eq_some_iff.mp h
        split at h
        · obtain ⟨rows, _, h⟩ := Option.map_eq_some_iff.mp h; cases h
        · cases h
    · cases h
  case lookup t x i ok =>
    simp only [core] at h
    have hx := hg x
    split at h
    · rename_i k gn e
      rw [e] at hx
      obtain ⟨⟨mk, ag, z⟩, ht, h⟩ := Option.bind_eq_some_iff.mp h
      obtain ⟨es, hl, h⟩ := Option.bind_eq_some_iff.mp h
      obtain ⟨key, hkey, h⟩ := Option.bind_eq_some_iff.mp h
      obtain ⟨h1, _⟩ := eff_some h
      cases h1
      have he : entO m (keyOf (.lookup t x i ok) g d) = ent m k := by simp only [keyOf, e, keyV, entO]
      obtain ⟨hk, _⟩ := liveM_spec he hl
      exact DoesP.of (lookup_run hM ht hx hk (hg i) hkey)
    · cases h
  case makeMap t r =>
    simp only [core] at h
    obtain ⟨_, _, h⟩ := Option.bind_eq_some_iff.mp h
    obtain ⟨_, _, h⟩ := Option.map_eq_some_iff.mp h
    cases h
  case mapUpdate t x i y =>
    simp only [core] at h
    split at h
    · obtain ⟨_, _, h⟩ := Option.bind_eq_some_iff.mp h
      obtain ⟨_, _, h⟩ := Option.bind_eq_some_iff.mp h
      obtain ⟨_, _, h⟩ := Option.bind_eq_some_iff.mp h
      obtain ⟨_, _, h⟩ := Option.map_eq_some_iff.mp h
      cases h
    · cases h
  case insert t x i y =>
    simp only [core] at h
    split at h
    · obtain ⟨_, _, h⟩ := Option.bind_eq_some_iff.mp h
      obtain ⟨_, _, h⟩ := Option.bind_eq_some_iff.mp h
      obtain ⟨_, _, h⟩ := Option.bind_eq_some_iff.mp h
      obtain ⟨_, _, h⟩ := Option.map_eq_some_iff.mp h
      cases h
    · cases h
  case mapEntry t x i =>
    simp only [core] at h
    split at h
    · obtain ⟨_, _, h⟩ := Option.bind_eq_some_iff.mp h
      obtain ⟨_, _, h⟩ := Option.bind_eq_some_iff.mp h
      obtain ⟨_, _, h⟩ := Option.bind_eq_some_iff.mp h
      cases h
    · cases h
  case entryStore t x i y =>
    simp only [core] at h
    split at h
    · obtain ⟨_, _, h⟩ := Option.bind_eq_some_iff.mp h
      obtain ⟨_, _, h⟩ := Option.bind_eq_some_iff.mp h
      obtain ⟨_, _, h⟩ := Option.bind_eq_some_iff.mp h
      obtain ⟨_, _, h⟩ := Option.map_eq_some_iff.mp h
      cases h
    · cases h
  all_goals (simp only [core] at h; cases h)
end
end Go.Ab
namespace Go.Ab
set_option linter.unusedVariables false
set_option linter.unusedSimpArgs false
def setι (ι : Pl) (k : Nat) (c : CA) : Pl := ⟨fun j => if j = k then c else ι j, ι.fr⟩
theorem setι_same (ι : Pl) (k : Nat) (c : CA) : setι ι k c k = c := by simp [setι]
theorem setι_other (ι : Pl) (k : Nat) (c : CA) (j : Nat) (h : j ≠ k) : setι ι k c j = ι j := by simp [setι, h]
theorem ent_mset (m : Mem) (k : Nat) (e : Nat × Ob) : ent (mset m k e) k = e := by simp [ent, lk_mset]
section
variable {ι : Pl} {m : Mem} {w w' : World} {P : Program}
/-- A fresh object under a key, in a new generation. -/
theorem upd_fresh (hM : MemOk ι m w) (k : Nat) (c : CA) (ob : Ob) (hos : w'.os = w.os) (htape : w'.tape = w.tape) (hout : w'.output = w.output) (hsize : w.heap.size ≤ w'.heap.size) (hblk : ∀ b, b < w.heap.size → w'.heap[b]? = w.heap[b]?)
  (hown : ∀ b o, OwnK c ob b o → w.heap.size ≤ b)
  (hnew : Ext ι m w (setι ι k c) (mset m k ((ent m k).1 + 1, ob)) w' → ObOk (setι ι k c) (mset m k ((ent m k).1 + 1, ob)) w' c ob) :
    MemOk (setι ι k c) (mset m k ((ent m k).1 + 1, ob)) w' ∧ Ext ι m w (setι ι k c) (mset m k ((ent m k).1 + 1, ob)) w' :=
  upd hM (setι_other ι k c) rfl (Nat.le_succ _) (fun h => absurd h (by simp)) (by rw [setι_same]; exact fun b o h => .inr (hown b o h)) hos htape hout hsize (fun b hb _ => hblk b hb) (fun a ha _ => World.cell?_of_block (w := w) (hblk a.block ha)) (by rw [setι_same]; exact hnew)
theorem alloc_cells (hM : MemOk ι m w) (k : Nat) {vs : Array Value} {cs : List AV} (hR : CellsR ι m w vs cs) (t : TypeId) :
    let c : CA := { blk := w.heap.size, base := none, cap := 0, sz := 0 }
    MemOk (setι ι k c) (mset m k ((ent m k).1 + 1, .cells cs)) (w.alloc (.cells vs t)) ∧ Ext ι m w (setι ι k c) (mset m k ((ent m k).1 + 1, .cells cs)) (w.alloc (.cells vs t)) ∧
    Ra (setι ι k c) (mset m k ((ent m k).1 + 1, .cells cs)) (w.alloc (.cells vs t)) (.pointer (some ⟨w.heap.size, 0, none⟩)) (.ptr k ((ent m k).1 + 1) 0) := by
  intro c
  obtain ⟨h1, h2⟩ := upd_fresh (w' := w.alloc (.cells vs t)) hM k c (.cells cs) rfl rfl rfl (by simp) (fun b hb => by rw [World.alloc]; exact Array.getElem?_push_lt hb |>.trans (Array.getElem?_eq_getElem hb).symm) (fun b o h => Nat.le_of_eq h) (fun he =>
    ⟨vs, t, heap_alloc_new _ _, hR.len, fun i v a hv ha => ⟨(hR.rel i v a hv ha).mono he, hR.one v (by rw [← Array.mem_def]; exact Array.mem_of_getElem? hv)⟩⟩)
  exact ⟨h1, h2, .ptr _ _ _ _ rfl (by rw [ent_mset]; exact Nat.le_refl _) fun _ _ _ => by rw [setι_same]⟩
theorem seg_get (l : List Value) (o : Nat) (vs : List Value) (h : o + vs.length ≤ l.length) (j : Nat) : (l.take o ++ vs ++ l.drop (o + vs.length))[j]? = if o ≤ j ∧ j < o + vs.length then vs[j - o]? else l[j]? := by
  have h0 : (l.take o).length = o := by simp; omega
  by_cases h1 : j < o
  · rw [if_neg (by omega), List.append_assoc, List.getElem?_append_left (by omega), List.getElem?_take_of_lt h1]
  · by_cases h2 : j < o + vs.length
    · rw [if_pos ⟨by omega, h2⟩, List.getElem?_append_left (by simp; omega), List.getElem?_append_right (by omega), h0]
    · rw [if_neg (by omega), List.getElem?_append_right (by simp; omega), List.getElem?_drop]
      congr 1; simp; omega
theorem storeVar_run {t : TypeId} {s b o : Nat} {cur : Array Value} {ty : TypeId} {v : Value} (hs : tsize P t = some s) (hv : v.cells.size = s) (hg : w.heap[b]? = some (.cells cur ty (0, 0))) (hl : o + s ≤ cur.size) (h1 : ∀ x ∈ v.cells.toList, x.oneCell' = true) :
    (storeVar t ⟨b, o, none⟩ v).run P w = .ok () (w.setRow b (cur.toList.take o ++ v.cells.toList ++ cur.toList.drop (o + v.cells.toList.length)).toArray) := by
  have := run_storeCells_at P b o ty v.cells.toList 0 cur w hg (by simpa [hv] using hl) h1
  simp only [Nat.add_zero] at this
  simp only [storeVar, Sem.run_bind, run_sizeOf hs, Result.andThen_ok]
  rw [if_neg (by simp [hv])]
  exact this
theorem store_cells (hM : MemOk ι m w) {k g off s : Nat} {cs vc : List AV} {t : TypeId} {v : Value} (hk : lk m k = some (g, .cells cs)) (hs : tsize P t = some s) (hvl : vc.length = s) (hl : off + s ≤ cs.length)
  (hc : v.cells.size = vc.length ∧ (∀ x ∈ v.cells.toList, x.oneCell' = true) ∧ ∀ (i : Nat) (x : Value) (c : AV), v.cells[i]? = some x → vc[i]? = some c → Ra ι m w x c) :
    ∃ w', (storeVar t ⟨(ι k).blk, off, none⟩ v).run P w = .ok () w' ∧ MemOk ι (mset m k (g, .cells (splice cs off vc))) w' ∧ Ext ι m w ι (mset m k (g, .cells (splice cs off vc))) w' := by
  obtain ⟨hc1, hc2, hc3⟩ := hc
  obtain ⟨vs, ty, h1, h2, h3⟩ := hM.ok k g _ hk
  have hlv : v.cells.toList.length = vc.length := by simpa using hc1
  refine ⟨_, storeVar_run hs (by omega) h1 (by omega) hc2, ?_⟩
  have hent := ent_of_lk hk
  refine upd hM (fun _ _ => rfl) rfl (by rw [hent]; exact Nat.le_refl _) (fun _ => .inr ⟨_, hk, ⟨_, rfl⟩, rfl⟩) (fun b o h => .inl (by rw [hent]; exact h)) rfl rfl rfl (by simp) (fun b hb hn => setRow_other w _ _ _ fun e => hn 0 (by rw [hent]; exact e.symm)) (fun a ha hn => cell_setRow_other w _ _ a fun e => hn (by rw [hent]; exact e.symm)) fun he => ?_
  refine ⟨_, ty, setRow_heap w _ vs _ ty _ h1, ?_, fun i x a hx ha => ?_⟩
  · rw [splice_length]; simp; omega
  · rw [List.getElem?_toArray, seg_get _ _ _ (by simp; omega)] at hx
    rw [splice_get vc cs off i (by omega)] at ha
    rw [hlv] at hx
    split at hx
    · rename_i hin
      rw [if_pos hin] at ha
      have hx' : v.cells[i - off]? = some x := by simpa using hx
      exact ⟨(hc3 _ x a hx' ha).mono he, hc2 x (List.mem_of_getElem? hx)⟩
    · rename_i hin
      rw [if_neg hin] at ha
      obtain ⟨h4, h5⟩ := h3 i x a (by simpa using hx) ha
      exact ⟨h4.mono he, h5⟩
theorem row_lt {i j s n : Nat} (hi : i < n) (hj : j < s) : i * s + j < n * s := by
  have : (i + 1) * s ≤ n * s := Nat.mul_le_mul_right s hi
  rw [Nat.add_mul] at this; omega
theorem row_ne {i i' j o s l : Nat} (hne : i ≠ i') (hj : j < s) (ho : o + l ≤ s) : ¬ (i * s + o ≤ i' * s + j ∧ i' * s + j < i * s + o + l) := by
  rcases Nat.lt_or_gt_of_ne hne with h | h
  · have : (i + 1) * s ≤ i' * s := Nat.mul_le_mul_right s h
    rw [Nat.add_mul] at this; omega
  · have : (i' + 1) * s ≤ i * s := Nat.mul_le_mul_right s h
    rw [Nat.add_mul] at this; omega
theorem store_elem (hM : MemOk ι m w) {k g i off s z : Nat} {rows : Rows} {row r2 : List PV} {vc : List AV} {t : TypeId} {v : Value} {ad : Addr} (hk : lk m k = some (g, .buf z rows)) (hbase : (ι k).base = some ad) (hs : tsize P t = some s) (hvl : vc.length = s) (hrow : rows[i]? = some row) (hl : off + s ≤ row.length)
  (hr2 : pvs (splice (row.map .p) off vc) = some r2)
  (hc : v.cells.size = vc.length ∧ (∀ x ∈ v.cells.toList, x.oneCell' = true) ∧ ∀ (i : Nat) (x : Value) (c : AV), v.cells[i]? = some x → vc[i]? = some c → Ra ι m w x c) :
    ∃ w', (storeVar t (ad.add (i * (ι k).sz + off)) v).run P w = .ok () w' ∧ MemOk ι (mset m k (g, .buf z (setr rows i r2))) w' ∧ Ext ι m w ι (mset m k (g, .buf z (setr rows i r2))) w' := by
  obtain ⟨hc1, hc2, hc3⟩ := hc
  obtain ⟨hz, hcap, hnone, hrl, hb⟩ := hM.ok k g _ hk
  obtain ⟨ho, hsp, vs, ty, h1, h2, h3⟩ := hb ad hbase
  have hlv : v.cells.toList.length = vc.length := by simpa using hc1
  have hrs : row.length = (ι k).sz := hrl row (List.mem_of_getElem? hrow)
  have hil : i < rows.length := (List.getElem?_eq_some_iff.1 hrow).1
  have hfit : i * (ι k).sz + off + s ≤ vs.size := by
    rw [h2]
    have : (i + 1) * (ι k).sz ≤ (ι k).cap * (ι k).sz := Nat.mul_le_mul_right _ (by omega)
    rw [Nat.add_mul] at this; omega
  have hade : ad.add (i * (ι k).sz + off) = ⟨ad.block, i * (ι k).sz + off, none⟩ := by
    obtain ⟨bl, of, sp⟩ := ad
    simp only at ho hsp
    subst ho; subst hsp; rw [add_mk, Nat.zero_add]
  obtain ⟨hp1, hp2⟩ := pvs_get hr2
  rw [splice_length, List.length_map] at hp1
  rw [hade]
  refine ⟨_, storeVar_run hs (by omega) h1 hfit hc2, ?_⟩
  have hent := ent_of_lk hk
  have hlen : (setr rows i r2).length = rows.length := by simp [setr]
  refine upd hM (fun _ _ => rfl) rfl (by rw [hent]; exact Nat.le_refl _) (fun _ => .inr ⟨_, hk, ⟨_, rfl, hlen.symm⟩, rfl⟩) (fun b o h => .inl (by rw [hent]; exact h)) rfl rfl rfl (by simp) (fun b hb' hn => setRow_other w _ _ _ fun e => hn 0 (by rw [hent]; exact ⟨ad, hbase, e.symm⟩)) (fun a ha hn => cell_setRow_other w _ _ a fun e => hn (by rw [hent]; exact ⟨ad, hbase, e.symm⟩)) fun he => ?_
  refine ⟨hz, by rw [hlen]; exact hcap, hnone, fun x hx => ?_, fun ad' had' => ?_⟩
  · rcases List.mem_or_eq_of_mem_set hx with h | h
    · exact hrl x h
    · rw [h, ← hp1]; exact hrs
  · rw [hbase] at had'; cases had'
    refine ⟨ho, hsp, _, ty, setRow_heap w _ vs _ ty _ h1, by simp; omega, fun i' j row' pv hr hj => ?_⟩
    have hget : ∀ q, ((vs.toList.take (i * (ι k).sz + off) ++ v.cells.toList ++ vs.toList.drop (i * (ι k).sz + off + v.cells.toList.length)).toArray)[q]? = if i * (ι k).sz + off ≤ q ∧ q < i * (ι k).sz + off + vc.length then v.cells.toList[q - (i * (ι k).sz + off)]? else vs[q]? := fun q => by
      rw [List.getElem?_toArray, seg_get _ _ _ (by simp; omega), hlv]; simp
    rw [hget]
    by_cases e : i' = i
    · subst e
      have hr' : r2 = row' := by
        simp only [setr, List.getElem?_set_self hil, Option.some.injEq] at hr; exact hr
      subst hr'
      obtain ⟨a, ha, hap⟩ := hp2 j pv hj
      rw [splice_get vc _ off j (by simp; omega)] at ha
      by_cases hin : off ≤ j ∧ j < off + vc.length
      · rw [if_pos hin] at ha
        rw [if_pos (by omega), show i' * (ι k).sz + j - (i' * (ι k).sz + off) = j - off by omega]
        have hjl : j - off < v.cells.toList.length := by omega
        have e1 : v.cells.toList[j - off]? = some v.cells.toList[j - off] := List.getElem?_eq_getElem hjl
        have e2 : v.cells[j - off]? = some v.cells.toList[j - off] := by rw [← Array.getElem?_toList]; exact e1
        exact ⟨_, e1, (hc3 _ _ a e2 ha).pvr hap |>.mono he.evoX, hc2 _ (List.mem_of_getElem? e1)⟩
      · rw [if_neg hin, List.getElem?_map] at ha
        obtain ⟨pv', hpv', rfl⟩ := Option.map_eq_some_iff.mp ha
        cases hap
        rw [if_neg (by omega)]
        obtain ⟨x, hx, hx2, hx3⟩ := h3 i' j row pv' hrow hpv'
        exact ⟨x, hx, (hx2.mono he.evoX).stdv, hx3⟩
    · have hr' : rows[i']? = some row' := by simpa [setr, List.getElem?_set_ne (Ne.symm e)] using hr
      have hj' : j < (ι k).sz := by rw [← hrl row' (List.mem_of_getElem? hr')]; exact (List.getElem?_eq_some_iff.1 hj).1
      rw [if_neg (row_ne (Ne.symm e) hj' (by omega))]
      obtain ⟨x, hx, hx2, hx3⟩ := h3 i' j row' pv hr' hj
      exact ⟨x, hx, hx2.mono he.evoX, hx3⟩
end
end Go.Ab
namespace Go.Ab
set_option linter.unusedVariables false
set_option linter.unusedSimpArgs false
section
variable {ι : Pl} {m : Mem} {w w' : World} {P : Program}
theorem rep_get {α : Type} (z : List α) : ∀ (n k : Nat), (List.replicate n z).flatten[k]? = if k < n * z.length then z[k % z.length]? else none
  | 0, k => by simp
  | n + 1, k => by
    rw [List.replicate_succ, List.flatten_cons]
    by_cases h : k < z.length
    · rw [List.getElem?_append_left h, if_pos (by rw [Nat.add_mul]; omega), Nat.mod_eq_of_lt h]
    · rw [List.getElem?_append_right (by omega), rep_get z n]
      by_cases h0 : z.length = 0
      · simp [h0]
      · have : (k - z.length) % z.length = k % z.length := (Nat.mod_eq_sub_mod (by omega)).symm
        rw [this]
        by_cases h1 : k - z.length < n * z.length
        · rw [if_pos h1, if_pos (by rw [Nat.add_mul]; omega)]
        · rw [if_neg h1, if_neg (by rw [Nat.add_mul]; omega)]
theorem zeros_R {zv : Value} {z : List AV} (hR : CellsR ι m w zv.cells z) (n s : Nat) (hs : z.length = s) :
    CellsR ι m w ((Array.range (n * s)).map fun i => zv.cells[i % zv.cells.size]!) (List.replicate n z).flatten := by
  have hsz : zv.cells.size = s := by rw [hR.len, hs]
  have hlen : ((List.replicate n z).flatten).length = n * s := by simp [hs]
  refine ⟨by simp [hs], fun v hv => ?_, fun i v c hv hc => ?_⟩
  · simp at hv
    obtain ⟨k, hk, rfl⟩ := hv
    have h0 : 0 < s := Nat.pos_of_ne_zero fun h => by subst h; simp at hk
    have hlt : k % zv.cells.size < zv.cells.size := by rw [hsz]; exact Nat.mod_lt _ h0
    rw [getElem!_pos zv.cells _ hlt]
    exact hR.one _ (by simp)
  · rw [rep_get] at hc
    split at hc
    · rename_i hk
      rw [hs] at hk
      have h0 : 0 < s := Nat.pos_of_ne_zero fun h => by subst h; simp at hk
      have hlt : i % zv.cells.size < zv.cells.size := by rw [hsz]; exact Nat.mod_lt _ h0
      simp only [Array.getElem?_map, Array.getElem?_range, hk, if_true, Option.map_some, Option.some.injEq] at hv
      rw [getElem!_pos zv.cells _ hlt] at hv
      refine hR.rel (i % s) v c ?_ (by rw [← hs]; exact hc)
      have e1 : i % s = i % zv.cells.size := by rw [hsz]
      rw [← hv, e1]; exact Array.getElem?_eq_getElem hlt
    · cases hc
theorem elemZero_spec {t : TypeId} {z : List AV} (h : core.elemZero P t = some z) : ∃ e s, P.underlying t = some (.slice e) ∧ zeroCells P e = some z ∧ tsize P e = some s ∧ z.length = s := by
  unfold core.elemZero at h
  split at h
  · rename_i e hu
    obtain ⟨z', hz, h⟩ := Option.bind_eq_some_iff.mp h
    split at h
    · rename_i hl; cases h; exact ⟨e, _, hu, hz, hl.symm, rfl⟩
    · cases h
  · cases h
theorem rowsN_get (s : Nat) : ∀ (n : Nat) (l : List PV) (i : Nat), (rowsN s n l)[i]? = if i < n then some ((l.drop (i * s)).take s) else none
  | 0, l, i => by simp [rowsN]
  | n + 1, l, i => by
    cases i with
    | zero => simp [rowsN]
    | succ i =>
      simp only [rowsN, List.getElem?_cons_succ]
      rw [rowsN_get s n]
      by_cases h : i < n
      · rw [if_pos h, if_pos (by omega), List.drop_drop]; congr 3; rw [Nat.add_mul]; omega
      · rw [if_neg h, if_neg (by omega)]
theorem rowsN_len (s n : Nat) (l : List PV) : (rowsN s n l).length = n := by
  induction n generalizing l with
  | zero => rfl
  | succ n ih => simp [rowsN, ih]
theorem own_old (hM : MemOk ι m w) {b o : Nat} (h : Own ι m b o) : b < w.heap.size := by
  rcases h with h | ⟨k, g, ob, hk, ho⟩
  · exact hM.xlt b o h
  · exact own_lt (hM.ok k g ob hk) ho
/-- Rows of a block that has just been made. -/
theorem fresh_rows {vs : Array Value} {t : TypeId} {n s cap : Nat} {rows : Rows} {full : Bool} {fr : Nat × Nat} (he : Ext ι m w ι m w') (hM : MemOk ι m w) (hg : w'.heap[w.heap.size]? = some (.cells vs t fr)) (hn : rows.length = n) (hc : n ≤ cap) (hf : full = true → cap = n)
  (hsz : ∀ (i : Nat) (row : List PV), rows[i]? = some row → row.length = s) (hr : ∀ (i j : Nat) (row : List PV) (pv : PV), rows[i]? = some row → row[j]? = some pv → ∃ v, vs[i * s + j]? = some v ∧ Rp (Own ι m) w v pv) :
    Rp (Own ι m) w' (.slice (some ⟨w.heap.size, 0, none⟩) n cap) (.lst full rows) := by
  subst hn
  refine .lst _ cap s full rows (fun i j => vs.getD (i * s + j) undef) hc hf hsz (fun i row j c hi hj => ?_) (fun i row j c hi hj => ?_)
  · obtain ⟨v, hv, _⟩ := hr i j row c hi hj
    refine ⟨_, rfl, ?_, fun h => ?_⟩
    · rw [add_mk, Nat.zero_add]
      simp only [World.cell?, hg]
      rw [Array.getD_eq_getD_getElem?, hv]; simp [hv]
    · have := own_old hM h; simp at this
  · obtain ⟨v, hv, h⟩ := hr i j row c hi hj
    rw [Array.getD_eq_getD_getElem?, hv]; exact h.mono he.evoX
variable {ρ : Operand → Value} {g : Operand → AV} (hg : ∀ x, Ra ι m w (ρ x) (g x)) (hM : MemOk ι m w)
include hg hM
theorem buildSlice_run {t : TypeId} {n s : Nat} {parts : Array (Nat × Operand)} {z cs : List AV} {l : List PV} (hs : sliceOf P t = some s) (hn : ¬ 16777216 < n * s) (hz : core.elemZero P t = some z)
  (hf : fillP (fun i => some (i * s, s)) (List.replicate n z).flatten (parts.toList.map fun q => (q.1, g q.2)) = some cs) (hl : pvs cs = some l) :
    ∃ cv w', (Instr.buildSlice t n (parts.map fun (i, x) => (i, ρ x))).run P w = .ok cv w' ∧ MemOk ι m w' ∧ Ext ι m w ι m w' ∧ Ra ι m w' cv (.p (.lst true (rowsN s n l))) := by
  obtain ⟨e, s', hu, hze, hse, hzl⟩ := elemZero_spec hz
  obtain ⟨e', hu', hse'⟩ := sliceOf_spec hs
  rw [hu] at hu'; cases hu'
  rw [hse] at hse'; cases hse'
  obtain ⟨zv, hzv, hR⟩ := zero_run (ι := ι) (m := m) (w := w) hze
  have hpl : (parts.map fun (i, x) => (i, ρ x)).toList = parts.toList.map fun q => (q.1, ρ q.2) := by simp
  obtain ⟨vs, hv, hR'⟩ := fill_run hg (fun i => some (i * s, s)) parts.toList _ _ cs (zeros_R hR n s hzl) hf
  have hlen0 : ∀ (parts : List (Nat × AV)) (a b : List AV), fillP (fun i => some (i * s, s)) a parts = some b → b.length = a.length := by
    intro parts
    induction parts with
    | nil => intro a b h; cases h; rfl
    | cons q r ih =>
      intro a b h
      obtain ⟨i, x⟩ := q
      simp only [fillP, Option.bind_some] at h
      obtain ⟨vc, _, h⟩ := Option.bind_eq_some_iff.mp h
      split at h
      · rw [ih _ _ h, splice_length]
      · cases h
  have hcl : cs.length = n * s := by rw [hlen0 _ _ _ hf]; simp [hzl]
  obtain ⟨hp1, hp2⟩ := pvs_get hl
  obtain ⟨hM', he⟩ := quiet (w' := w.alloc (.cells vs e)) hM rfl rfl rfl (by simp) (fun b hb => by rw [World.alloc]; exact (Array.getElem?_push_lt hb).trans (Array.getElem?_eq_getElem hb).symm)
  refine ⟨.slice (some ⟨w.heap.size, 0, none⟩) n n, w.alloc (.cells vs e), ?_, hM', he, .p _ _ (fresh_rows (s := s) he hM (_root_.Go.heap_alloc_new _ _) (rowsN_len s n l) (Nat.le_refl _) (fun _ => rfl) (fun i row hi => ?_) (fun i j row pv hi hj => ?_))⟩
  · have hn' : ¬ n * s > 2 ^ 24 := by have : (2 : Nat) ^ 24 = 16777216 := rfl; omega
    by_cases h0 : n * s = 0
    · have hz0 : ∀ zz : Array Value, ((Array.range (n * s)).map fun i => zz[i % zz.size]!) = #[] := fun zz => by rw [h0]; simp
      rw [hz0] at hv
      simp only [Instr.buildSlice, Sem.run_bind, run_underlying hu, Result.andThen_ok, run_sizeOf hse, if_neg hn', if_pos h0, Sem.run_pure, hz0, hpl]
      rw [hv]; rfl
    · simp only [Instr.buildSlice, Sem.run_bind, run_underlying hu, Result.andThen_ok, run_sizeOf hse, if_neg hn', if_neg h0, Sem.run_pure, hzv, hpl]
      rw [hv]; rfl
  · rw [rowsN_get] at hi
    split at hi
    · rename_i hin
      cases hi
      have h2 : (i + 1) * s ≤ n * s := Nat.mul_le_mul_right _ hin
      rw [Nat.add_mul] at h2
      simp; omega
    · cases hi
  · rw [rowsN_get] at hi
    split at hi
    · rename_i hin
      cases hi
      have hjs : j < s := by have := (List.getElem?_eq_some_iff.1 hj).1; simp at this; omega
      rw [List.getElem?_take_of_lt hjs, List.getElem?_drop] at hj
      obtain ⟨a, ha, hap⟩ := hp2 _ pv hj
      have hlt : i * s + j < vs.size := by rw [hR'.len]; exact (List.getElem?_eq_some_iff.1 ha).1
      exact ⟨_, Array.getElem?_eq_getElem hlt, (hR'.rel _ _ a (Array.getElem?_eq_getElem hlt) ha).pvr hap⟩
    · cases hi
theorem buildSlice_runB (k : Nat) {t : TypeId} {n s : Nat} {parts : Array (Nat × Operand)} {z cs : List AV} {l : List PV} (hs : sliceOf P t = some s) (hn : ¬ 16777216 < n * s) (hz : core.elemZero P t = some z)
  (hf : fillP (fun i => some (i * s, s)) (List.replicate n z).flatten (parts.toList.map fun q => (q.1, g q.2)) = some cs) (hl : pvs cs = some l) :
    ∃ cv w' ca, (Instr.buildSlice t n (parts.map fun (i, x) => (i, ρ x))).run P w = .ok cv w' ∧ MemOk (setι ι k ca) (mset m k ((ent m k).1 + 1, .buf s (rowsN s n l))) w' ∧ Ext ι m w (setι ι k ca) (mset m k ((ent m k).1 + 1, .buf s (rowsN s n l))) w' ∧
      Ra (setι ι k ca) (mset m k ((ent m k).1 + 1, .buf s (rowsN s n l))) w' cv (.buf k ((ent m k).1 + 1) 0 n) := by
  obtain ⟨e, s', hu, hze, hse, hzl⟩ := elemZero_spec hz
  obtain ⟨e', hu', hse'⟩ := sliceOf_spec hs
  rw [hu] at hu'; cases hu'
  rw [hse] at hse'; cases hse'
  obtain ⟨zv, hzv, hR⟩ := zero_run (ι := ι) (m := m) (w := w) hze
  have hpl : (parts.map fun (i, x) => (i, ρ x)).toList = parts.toList.map fun q => (q.1, ρ q.2) := by simp
  obtain ⟨vs, hv, hR'⟩ := fill_run hg (fun i => some (i * s, s)) parts.toList _ _ cs (zeros_R hR n s hzl) hf
  have hlen0 : ∀ (parts : List (Nat × AV)) (a b : List AV), fillP (fun i => some (i * s, s)) a parts = some b → b.length = a.length := by
    intro parts
    induction parts with
    | nil => intro a b h; cases h; rfl
    | cons q r ih =>
      intro a b h
      obtain ⟨i, x⟩ := q
      simp only [fillP, Option.bind_some] at h
      obtain ⟨vc, _, h⟩ := Option.bind_eq_some_iff.mp h
      split at h
      · rw [ih _ _ h, splice_length]
      · cases h
  have hcl : cs.length = n * s := by rw [hlen0 _ _ _ hf]; simp [hzl]
  obtain ⟨hp1, hp2⟩ := pvs_get hl
  have hvsz : vs.size = n * s := by rw [hR'.len]; exact hcl
  let ca : CA := { blk := w.heap.size, base := some ⟨w.heap.size, 0, none⟩, cap := n, sz := s }
  have hent : ∀ (he : Ext ι m w (setι ι k ca) (mset m k ((ent m k).1 + 1, .buf s (rowsN s n l))) (w.alloc (.cells vs e))), ObOk (setι ι k ca) (mset m k ((ent m k).1 + 1, .buf s (rowsN s n l))) (w.alloc (.cells vs e)) ca (.buf s (rowsN s n l)) := fun he => by
    have hcl2 : l.length = n * s := by rw [← hp1]; exact hcl
    refine ⟨rfl, by rw [rowsN_len]; exact Nat.le_refl _, by simp [ca], fun row hrow => ?_, fun ad had => ?_⟩
    · obtain ⟨i, hi⟩ := List.getElem?_of_mem hrow
      rw [rowsN_get] at hi
      split at hi
      · rename_i hin
        cases hi
        have h2 : (i + 1) * s ≤ n * s := Nat.mul_le_mul_right _ hin
        rw [Nat.add_mul] at h2
        simp [hcl2, ca]; omega
      · cases hi
    · cases had
      refine ⟨rfl, rfl, vs, e, _root_.Go.heap_alloc_new _ _, hvsz, fun i' j row pv hr hj => ?_⟩
      rw [rowsN_get] at hr
      split at hr
      · rename_i hin
        cases hr
        have hjs : j < s := by have := (List.getElem?_eq_some_iff.1 hj).1; simp at this; omega
        rw [List.getElem?_take_of_lt hjs, List.getElem?_drop] at hj
        obtain ⟨a, ha, hap⟩ := hp2 _ pv hj
        have hlt : i' * s + j < vs.size := by rw [hR'.len]; exact (List.getElem?_eq_some_iff.1 ha).1
        exact ⟨_, Array.getElem?_eq_getElem hlt, ((hR'.rel _ _ a (Array.getElem?_eq_getElem hlt) ha).pvr hap).mono he.evoX, hR'.one _ (by rw [← Array.mem_def]; exact Array.getElem_mem _)⟩
      · cases hr
  obtain ⟨hM', he⟩ := upd_fresh (w' := w.alloc (.cells vs e)) hM k ca (.buf s (rowsN s n l)) rfl rfl rfl (by simp) (fun b hb => by rw [World.alloc]; exact (Array.getElem?_push_lt hb).trans (Array.getElem?_eq_getElem hb).symm) (fun b o ho => by
    obtain ⟨ad, h3, h4⟩ := ho; cases h3; exact Nat.le_of_eq h4) hent
  refine ⟨.slice (some ⟨w.heap.size, 0, none⟩) n n, w.alloc (.cells vs e), ca, ?_, hM', he, .buf _ k _ 0 _ rfl (by rw [ent_mset]; exact Nat.le_refl _) fun s' rows' hk => ?_⟩
  · have hn' : ¬ n * s > 2 ^ 24 := by have : (2 : Nat) ^ 24 = 16777216 := rfl; omega
    by_cases h0 : n * s = 0
    · have hz0 : ∀ zz : Array Value, ((Array.range (n * s)).map fun i => zz[i % zz.size]!) = #[] := fun zz => by rw [h0]; simp
      rw [hz0] at hv
      simp only [Instr.buildSlice, Sem.run_bind, run_underlying hu, Result.andThen_ok, run_sizeOf hse, if_neg hn', if_pos h0, Sem.run_pure, hz0, hpl]
      rw [hv]; rfl
    · simp only [Instr.buildSlice, Sem.run_bind, run_underlying hu, Result.andThen_ok, run_sizeOf hse, if_neg hn', if_neg h0, Sem.run_pure, hzv, hpl]
      rw [hv]; rfl
  · rcases hk with hk | hk <;> (rw [lk_mset, if_pos rfl] at hk; cases hk)
    refine ⟨by rw [rowsN_len]; omega, _, by rw [setι_same]; simp [ca]; rfl, fun _ => by rw [setι_same]; simp [ca]; rfl⟩
omit hg hM
theorem wrap_small {n : Int} (h0 : 0 ≤ n) (h1 : n ≤ 68719476736) : IntKind.i64.wrap n = n := by
  have e : n % 18446744073709551616 = n := Int.emod_eq_of_lt h0 (by omega)
  have : IntKind.i64.wrap n = if (true && decide (n % 18446744073709551616 ≥ 9223372036854775808)) = true then n % 18446744073709551616 - 18446744073709551616 else n % 18446744073709551616 := rfl
  rw [this, e]
  have h2 : ¬ (n ≥ 9223372036854775808) := by omega
  simp [h2]
include hM
theorem makeSlice_run {t : TypeId} {s : Nat} {z : List AV} {zr : List PV} {n c : Int} {kn kc : IntKind} {rows : Rows} (k : Nat) (hs : sliceOf P t = some s) (hz : core.elemZero P t = some z) (hp : pvs z = some zr) (hzl : zr.length = s) (hm : mks zr n c = some rows) :
    ∃ cv w' ca, (Instr.makeSlice t (.int kn n) (.int kc c)).run P w = .ok cv w' ∧ MemOk (setι ι k ca) (mset m k ((ent m k).1 + 1, .buf s rows)) w' ∧ Ext ι m w (setι ι k ca) (mset m k ((ent m k).1 + 1, .buf s rows)) w' ∧
      Ra (setι ι k ca) (mset m k ((ent m k).1 + 1, .buf s rows)) w' cv (.buf k ((ent m k).1 + 1) 0 rows.length) := by
  obtain ⟨e, i, zv0, hu, hi, hsize, hbytes, hzero, _⟩ := sliceOf_more hs
  obtain ⟨e', s', hu', hze, hse, hzl'⟩ := elemZero_spec hz
  rw [hu] at hu'; cases hu'
  have hse' : tsize P e = some s := by rw [tsize, hi]; exact congrArg some hsize
  rw [hse] at hse'; cases hse'
  obtain ⟨zv, hzv, hR⟩ := zero_run (ι := ι) (m := m) (w := w) hze
  unfold mks at hm
  split at hm
  · rename_i hb
    cases hm
    obtain ⟨h0, h1, h2⟩ := hb
    have hw1 := wrap_small h0 (by omega)
    have hw2 := wrap_small (by omega) h2
    have hRz := zeros_R hR c.toNat s hzl'
    let vs := (Array.range (c.toNat * s)).map fun i => zv.cells[i % zv.cells.size]!
    let ca : CA := { blk := w.heap.size, base := some ⟨w.heap.size, 0, none⟩, cap := c.toNat, sz := s }
    obtain ⟨hp1, hp2⟩ := pvs_get hp
    have hvs : vs.size = c.toNat * s := by simp [vs]
    have hent : ∀ (he : Ext ι m w (setι ι k ca) (mset m k ((ent m k).1 + 1, .buf s (List.replicate n.toNat zr))) (w.alloc (.cells vs e))), ObOk (setι ι k ca) (mset m k ((ent m k).1 + 1, .buf s (List.replicate n.toNat zr))) (w.alloc (.cells vs e)) ca (.buf s (List.replicate n.toNat zr)) := fun he => by
      refine ⟨rfl, by simp [ca]; omega, by simp [ca], fun row hrow => ?_, fun ad had => ?_⟩
      · rw [List.eq_of_mem_replicate hrow]; exact hzl
      · cases had
        refine ⟨rfl, rfl, vs, e, _root_.Go.heap_alloc_new _ _, hvs, fun i' j row pv hr hj => ?_⟩
        have hin : i' < n.toNat := by have := (List.getElem?_eq_some_iff.1 hr).1; simpa using this
        have hrow : row = zr := by
          rw [List.getElem?_replicate, if_pos hin] at hr; exact (Option.some.inj hr).symm
        subst hrow
        have hj' : j < s := by rw [← hzl]; exact (List.getElem?_eq_some_iff.1 hj).1
        obtain ⟨a, ha, hap⟩ := hp2 j pv hj
        have hlt : i' * s + j < vs.size := by rw [hvs]; exact row_lt (by omega) hj'
        have ha' : ((List.replicate c.toNat z).flatten)[i' * s + j]? = some a := by
          rw [rep_get, hzl', if_pos (row_lt (by omega) hj'), Nat.mul_comm, Nat.mul_add_mod, Nat.mod_eq_of_lt hj']; exact ha
        refine ⟨_, Array.getElem?_eq_getElem hlt, ((hRz.rel _ _ a (Array.getElem?_eq_getElem hlt) ha').pvr hap).mono he.evoX, hRz.one _ (by rw [← Array.mem_def]; exact Array.getElem_mem _)⟩
    obtain ⟨hM', he⟩ := upd_fresh (w' := w.alloc (.cells vs e)) hM k ca (.buf s (List.replicate n.toNat zr)) rfl rfl rfl (by simp) (fun b hb => by rw [World.alloc]; exact (Array.getElem?_push_lt hb).trans (Array.getElem?_eq_getElem hb).symm) (fun b o ho => by
      obtain ⟨ad, h3, h4⟩ := ho; cases h3; exact Nat.le_of_eq h4) hent
    refine ⟨.slice (some ⟨w.heap.size, 0, none⟩) n.toNat c.toNat, w.alloc (.cells vs e), ca, ?_, hM', he, .buf _ k _ 0 _ rfl (by rw [ent_mset]; exact Nat.le_refl _) fun s' rows' hk => ?_⟩
    · have hbig : ¬ ((i.bytes : Int) * c > 2 ^ 48) := by
        have h5 : (i.bytes : Int) * c ≤ 2048 * 68719476736 := Int.mul_le_mul (by omega) h2 (by omega) (by omega)
        have h6 : (2 : Int) ^ 48 = 281474976710656 := rfl
        omega
      have hcond : ¬ ((decide (c < 0) || decide ((i.bytes : Int) * c > 2 ^ 48)) || decide (n < 0) || decide (n > c)) = true := by
        rw [decide_eq_false hbig, decide_eq_false (show ¬ c < 0 by omega), decide_eq_false (show ¬ n < 0 by omega), decide_eq_false (show ¬ n > c by omega)]; exact Bool.false_ne_true
      have hti : (typeInfo e).run P w = .ok i w := by simp [typeInfo, hi]
      unfold Instr.makeSlice
      simp only [Sem.run_bind, run_underlying hu, Result.andThen_ok, asInt, asInt_run, Sem.run_pure, hti, hw1, hw2]
      rw [if_neg hcond]
      simp only [Sem.run_bind, run_askRoom, Result.andThen_ok, run_sizeOf hse]
      by_cases hc0 : c.toNat * s = 0
      · rw [if_pos hc0]
        have hvs0 : ((Array.range (c.toNat * s)).map fun i => (#[] : Array Value)[i % (#[] : Array Value).size]!) = vs := by simp only [vs, hc0]; simp
        simp only [Sem.run_bind, Sem.run_pure, Result.andThen_ok, hvs0, newRow, run_newObj]; rfl
      · rw [if_neg hc0]
        simp only [Sem.run_bind, hzv, Sem.run_pure, Result.andThen_ok, newRow, run_newObj]; rfl
    · rcases hk with hk | hk <;> (rw [lk_mset, if_pos rfl] at hk; cases hk)
      refine ⟨by simp, _, by rw [setι_same]; simp [ca]; rfl, fun _ => by rw [setι_same]; simp [ca]; rfl⟩
  · cases hm
omit hM in
theorem nvs_get : ∀ {l : List AV} {r : List PV}, nvs l = some r → l.length = r.length ∧ ∀ (j : Nat) (pv : PV), r[j]? = some pv → ∃ a, l[j]? = some a ∧ a.nv = some pv
  | [], r, h => by cases h; simp
  | a :: l, r, h => by
    simp only [nvs] at h
    obtain ⟨x, hx, h⟩ := Option.bind_eq_some_iff.mp h
    obtain ⟨q, hq, rfl⟩ := Option.map_eq_some_iff.mp h
    obtain ⟨h1, h2⟩ := nvs_get hq
    refine ⟨by simp [h1], fun j pv hj => ?_⟩
    cases j with
    | zero => cases hj; exact ⟨a, rfl, hx⟩
    | succ j => exact h2 j pv hj
omit hM in
theorem Rn.std {Ow : Nat → Nat → Prop} {N : Nat} {v : Value} {pv : PV} (h : Rn Ow N w v pv) : Rn Ow N w v pv.std := by
  cases h with
  | lst A cap sz rows u hcap hsz hc hr => exact .lst A cap sz rows u hcap hsz hc hr
  | _ => constructor
omit hM in
theorem Rn.nil (Ow : Nat → Nat → Prop) (N : Nat) (A : Option Addr) (cap : Nat) : Rn Ow N w (.slice A 0 cap) (.lst false []) :=
  .lst A cap 0 [] (fun _ _ => undef) (Nat.zero_le _) (by simp) (by simp) (by simp)
omit hM in
theorem Ra.nvr {v : Value} {a : AV} {pv : PV} (h : Ra ι m w v a) (ha : a.nv = some pv) : Rn (Own ι m) ι.fr.N w v pv := by
  cases h with
  | nw _ q h => cases ha; exact h.std
  | p _ q h =>
    cases q with
    | int k n => cases ha; cases h; exact .int k n
    | bool b => cases ha; cases h; exact .bool b
    | str t => cases ha; cases h; exact .str t
    | nilS => cases ha; cases h; exact .nil _ _ _ _
    | lst b rows =>
      cases rows with
      | nil => cases ha; cases h; exact .nil _ _ _ _
      | cons _ _ => cases ha
    | _ => cases ha
  | _ => cases ha
theorem makeSlice_runN {t : TypeId} {s : Nat} {z : List AV} {zr : List PV} {n c : Int} {kn kc : IntKind} {rows : Rows} (k : Nat) (hs : sliceOf P t = some s) (hz : core.elemZero P t = some z) (hp : nvs z = some zr) (hzl : zr.length = s) (hm : mks zr n c = some rows) :
    ∃ cv w' ca, (Instr.makeSlice t (.int kn n) (.int kc c)).run P w = .ok cv w' ∧ MemOk (setι ι k ca) (mset m k ((ent m k).1 + 1, .bufn s rows)) w' ∧ Ext ι m w (setι ι k ca) (mset m k ((ent m k).1 + 1, .bufn s rows)) w' ∧
      Ra (setι ι k ca) (mset m k ((ent m k).1 + 1, .bufn s rows)) w' cv (.buf k ((ent m k).1 + 1) 0 rows.length) := by
  obtain ⟨e, i, zv0, hu, hi, hsize, hbytes, hzero, _⟩ := sliceOf_more hs
  obtain ⟨e', s', hu', hze, hse, hzl'⟩ := elemZero_spec hz
  rw [hu] at hu'; cases hu'
  have hse' : tsize P e = some s := by rw [tsize, hi]; exact congrArg some hsize
  rw [hse] at hse'; cases hse'
  obtain ⟨zv, hzv, hR⟩ := zero_run (ι := ι) (m := m) (w := w) hze
  unfold mks at hm
  split at hm
  · rename_i hb
    cases hm
    obtain ⟨h0, h1, h2⟩ := hb
    have hw1 := wrap_small h0 (by omega)
    have hw2 := wrap_small (by omega) h2
    have hRz := zeros_R hR c.toNat s hzl'
    let vs := (Array.range (c.toNat * s)).map fun i => zv.cells[i % zv.cells.size]!
    let ca : CA := { blk := w.heap.size, base := some ⟨w.heap.size, 0, none⟩, cap := c.toNat, sz := s }
    obtain ⟨hp1, hp2⟩ := nvs_get hp
    have hvs : vs.size = c.toNat * s := by simp [vs]
    have hent : ∀ (he : Ext ι m w (setι ι k ca) (mset m k ((ent m k).1 + 1, .bufn s (List.replicate n.toNat zr))) (w.alloc (.cells vs e))), ObOk (setι ι k ca) (mset m k ((ent m k).1 + 1, .bufn s (List.replicate n.toNat zr))) (w.alloc (.cells vs e)) ca (.bufn s (List.replicate n.toNat zr)) := fun he => by
      refine ⟨rfl, by simp [ca]; omega, by simp [ca], fun row hrow => ?_, fun ad had => ?_⟩
      · rw [List.eq_of_mem_replicate hrow]; exact hzl
      · cases had
        refine ⟨rfl, rfl, hM.gk.2, vs, e, _root_.Go.heap_alloc_new _ _, hvs, fun i' j row pv hr hj => ?_⟩
        have hin : i' < n.toNat := by have := (List.getElem?_eq_some_iff.1 hr).1; simpa using this
        have hrow : row = zr := by
          rw [List.getElem?_replicate, if_pos hin] at hr; exact (Option.some.inj hr).symm
        subst hrow
        have hj' : j < s := by rw [← hzl]; exact (List.getElem?_eq_some_iff.1 hj).1
        obtain ⟨a, ha, hap⟩ := hp2 j pv hj
        have hlt : i' * s + j < vs.size := by rw [hvs]; exact row_lt (by omega) hj'
        have ha' : ((List.replicate c.toNat z).flatten)[i' * s + j]? = some a := by
          rw [rep_get, hzl', if_pos (row_lt (by omega) hj'), Nat.mul_comm, Nat.mul_add_mod, Nat.mod_eq_of_lt hj']; exact ha
        refine ⟨_, Array.getElem?_eq_getElem hlt, ((hRz.rel _ _ a (Array.getElem?_eq_getElem hlt) ha').nvr hap).mono he.evoX, hRz.one _ (by rw [← Array.mem_def]; exact Array.getElem_mem _)⟩
    obtain ⟨hM', he⟩ := upd_fresh (w' := w.alloc (.cells vs e)) hM k ca (.bufn s (List.replicate n.toNat zr)) rfl rfl rfl (by simp) (fun b hb => by rw [World.alloc]; exact (Array.getElem?_push_lt hb).trans (Array.getElem?_eq_getElem hb).symm) (fun b o ho => by
      obtain ⟨ad, h3, h4⟩ := ho; cases h3; exact Nat.le_of_eq h4) hent
    refine ⟨.slice (some ⟨w.heap.size, 0, none⟩) n.toNat c.toNat, w.alloc (.cells vs e), ca, ?_, hM', he, .buf _ k _ 0 _ rfl (by rw [ent_mset]; exact Nat.le_refl _) fun s' rows' hk => ?_⟩
    · have hbig : ¬ ((i.bytes : Int) * c > 2 ^ 48) := by
        have h5 : (i.bytes : Int) * c ≤ 2048 * 68719476736 := Int.mul_le_mul (by omega) h2 (by omega) (by omega)
        have h6 : (2 : Int) ^ 48 = 281474976710656 := rfl
        omega
      have hcond : ¬ ((decide (c < 0) || decide ((i.bytes : Int) * c > 2 ^ 48)) || decide (n < 0) || decide (n > c)) = true := by
        rw [decide_eq_false hbig, decide_eq_false (show ¬ c < 0 by omega), decide_eq_false (show ¬ n < 0 by omega), decide_eq_false (show ¬ n > c by omega)]; exact Bool.false_ne_true
      have hti : (typeInfo e).run P w = .ok i w := by simp [typeInfo, hi]
      unfold Instr.makeSlice
      simp only [Sem.run_bind, run_underlying hu, Result.andThen_ok, asInt, asInt_run, Sem.run_pure, hti, hw1, hw2]
      rw [if_neg hcond]
      simp only [Sem.run_bind, run_askRoom, Result.andThen_ok, run_sizeOf hse]
      by_cases hc0 : c.toNat * s = 0
      · rw [if_pos hc0]
        have hvs0 : ((Array.range (c.toNat * s)).map fun i => (#[] : Array Value)[i % (#[] : Array Value).size]!) = vs := by simp only [vs, hc0]; simp
        simp only [Sem.run_bind, Sem.run_pure, Result.andThen_ok, hvs0, newRow, run_newObj]; rfl
      · rw [if_neg hc0]
        simp only [Sem.run_bind, hzv, Sem.run_pure, Result.andThen_ok, newRow, run_newObj]; rfl
    · rcases hk with hk | hk <;> (rw [lk_mset, if_pos rfl] at hk; cases hk)
      refine ⟨by simp, _, by rw [setι_same]; simp [ca]; rfl, fun _ => by rw [setι_same]; simp [ca]; rfl⟩
  · cases hm
end
end Go.Ab
namespace Go.Ab
set_option linter.unusedVariables false
set_option linter.unusedSimpArgs false
section
variable {ι : Pl} {m : Mem} {w w' : World} {P : Program}
theorem rowsOk_app (s : Nat) (a b : Rows) : rowsOk s (a ++ b) = (rowsOk s a && rowsOk s b) := by induction a <;> simp_all [rowsOk, Bool.and_assoc]
theorem noSpot (x : Option Value) : (if (none : Option Nat).isSome = true then none else x) = x := rfl
theorem cell_heap {w w2 : World} (h : w2.heap = w.heap) (a : Addr) : w2.cell? a = w.cell? a := by simp only [World.cell?, h]
theorem rowsOk_spec {s : Nat} : ∀ {r : Rows}, rowsOk s r = true → ∀ row ∈ r, row.length = s
  | [], _ => by simp
  | a :: b, h => by
    simp [rowsOk] at h
    intro row hrow
    rcases List.mem_cons.mp hrow with rfl | h'
    · exact h.1
    · exact rowsOk_spec h.2 _ h'
/-- What is appended. -/
structure Src (P : Program) (ι : Pl) (m : Mem) (w : World) (x : Value) (q : Rows) (s : Nat) (news : List Value) : Prop where
  len : news.length = q.length * s
  lenOf : (Builtin.lenOf x).run P w = .ok q.length w
  cells : ∀ w2 : World, w2.heap = w.heap → (Builtin.firstCells s q.length x).run P w2 = .ok news.toArray w2
  one : ∀ u ∈ news, u.oneCell' = true
  rel : ∀ (i j : Nat) (row : List PV) (pv : PV), q[i]? = some row → row[j]? = some pv → ∃ v, news[i * s + j]? = some v ∧ Rp (Own ι m) w v pv
theorem src_rows {x : Value} {q : Rows} {s : Nat} (h : Rp (Own ι m) w x (.lst false q)) (hok : rowsOk s q = true) : ∃ news, Src P ι m w x q s news := by
  have hs := rowsOk_spec hok
  cases h with
  | lst A cap sz full rows u hcap hfull hsz hc hr =>
    have hcell : ∀ (i j : Nat), i < q.length → j < s → ∃ ad, A = some ad ∧ w.cell? (ad.add (i * s + j)) = some (u i j) ∧ (u i j).oneCell' = true := fun i j hi hj => by
      have hrow : q[i]? = some q[i] := List.getElem?_eq_getElem hi
      have e1 := hsz i _ hrow
      have e2 := hs q[i] (List.getElem_mem hi)
      have e : sz = s := by omega
      subst e
      have hp : q[i][j]? = some (q[i][j]'(by omega)) := List.getElem?_eq_getElem _
      obtain ⟨ad, h1, h2, _⟩ := hc i _ j _ hrow hp
      exact ⟨ad, h1, h2, (hr i _ j _ hrow hp).one⟩
    have hdm : ∀ k, k < q.length * s → k / s < q.length ∧ k % s < s ∧ k / s * s + k % s = k := fun k hk => by
      have h0 : 0 < s := Nat.pos_of_ne_zero fun h => by subst h; simp at hk
      exact ⟨Nat.div_lt_of_lt_mul (by rwa [Nat.mul_comm]), Nat.mod_lt _ h0, by rw [Nat.mul_comm]; exact Nat.div_add_mod k s⟩
    refine ⟨(List.range (q.length * s)).map fun k => u (k / s) (k % s), by simp, rfl, fun w2 hw => ?_, fun v hv => ?_, fun i j row pv hi hj => ?_⟩
    · cases A with
      | none =>
        have h0 : q.length * s = 0 := Nat.eq_zero_of_not_pos fun h => by
          obtain ⟨h1, h2, _⟩ := hdm 0 h
          obtain ⟨ad, e, _⟩ := hcell _ _ h1 h2; cases e
        simp [Builtin.firstCells, h0]
      | some ad =>
        simp only [Builtin.firstCells]
        rw [run_loadCells w2 ad (q.length * s) (fun k => u (k / s) (k % s)) fun k hk => ?_]
        obtain ⟨h1, h2, h3⟩ := hdm k hk
        obtain ⟨ad', e, h4, _⟩ := hcell _ _ h1 h2
        cases e
        rw [cell_heap hw]; rwa [h3] at h4
    · simp at hv
      obtain ⟨k, hk, rfl⟩ := hv
      obtain ⟨h1, h2, _⟩ := hdm k hk
      exact (hcell _ _ h1 h2).choose_spec.2.2
    · have hil : i < q.length := (List.getElem?_eq_some_iff.1 hi).1
      have hjs : j < s := by rw [← hs row (List.mem_of_getElem? hi)]; exact (List.getElem?_eq_some_iff.1 hj).1
      have hlt : i * s + j < q.length * s := row_lt hil hjs
      refine ⟨u i j, ?_, hr i row j pv hi hj⟩
      have e1 : (i * s + j) / s = i := by
        rw [Nat.mul_comm, Nat.mul_add_div (by omega), Nat.div_eq_of_lt hjs, Nat.add_zero]
      have e2 : (i * s + j) % s = j := by rw [Nat.mul_comm, Nat.mul_add_mod, Nat.mod_eq_of_lt hjs]
      simp [hlt, e1, e2]
theorem src_str {b : ByteArray} {s : Nat} (hok : rowsOk s (bytesOf b) = true) : ∃ news, Src P ι m w (.string b) (bytesOf b) s news := by
  have hs := rowsOk_spec hok
  have hl : (bytesOf b).length = b.size := by simp [bytesOf]
  have h1 : b.size ≠ 0 → s = 1 := fun h => by
    cases hb : b.data.toList with
    | nil => exact absurd (by have := congrArg List.length hb; simpa using this) h
    | cons x r => exact (hs (brow x) (by simp [bytesOf, hb])).symm
  refine ⟨b.data.toList.map fun c => .int .u8 c.toNat, ?_, ?_, fun w2 hw => ?_, fun u hu => ?_, fun i j row pv hi hj => ?_⟩
  · rw [hl]
    by_cases h : b.size = 0
    · have h2 : b.data.size = 0 := h
      simp [h, h2]
    · rw [h1 h]; simp
  · rw [hl]; rfl
  · rw [hl]
    simp only [Builtin.firstCells, Sem.run_pure]
    congr 1
    apply Array.ext'
    have e : b.extract 0 b.size = b := by
      cases b; apply ByteArray.ext; simp [ByteArray.extract, ByteArray.copySlice, ByteArray.size]
    rw [e]; simp
  · simp at hu; obtain ⟨c, _, rfl⟩ := hu; rfl
  · simp only [bytesOf, List.getElem?_map] at hi
    obtain ⟨c, hc, rfl⟩ := Option.map_eq_some_iff.mp hi
    have hne : b.size ≠ 0 := fun h => by
      have : b.data.toList = [] := by
        have h2 : b.data.size = 0 := h
        exact List.eq_nil_of_length_eq_zero (by simpa using h2)
      rw [this] at hc; cases hc
    have e := h1 hne
    subst e
    cases j with
    | zero =>
      simp [brow] at hj; subst hj
      refine ⟨.int .u8 c.toNat, ?_, .int _ _⟩
      rw [Nat.mul_one, Nat.add_zero, List.getElem?_map, hc]; rfl
    | succ j => simp [brow] at hj
theorem src_of {x : Value} {a : AV} {q : Rows} {s : Nat} (h : Ra ι m w x a) (hq : rowsB a = some q) (hok : rowsOk s q = true) : ∃ news, Src P ι m w x q s news := by
  unfold rowsB at hq
  split at hq
  · cases hq; rw [h.str]; exact src_str hok
  · exact src_rows (h.rows hq) hok
theorem notIntT_spec {t : TypeId} (h : notIntT P t = true) : ∃ d, P.underlying t = some d ∧ ∀ k, d ≠ .int k := by
  unfold notIntT at h
  split at h
  · cases h
  · rename_i d h1 h2; exact ⟨d, h2, fun k e => h1 k e⟩
  · cases h
variable {t tx ty e : TypeId} {i : TypeInfo} {z : Value}
theorem zeros_run {d : TypeDesc} (h2 : ∀ k, d ≠ .int k) : (match d with | .int _ => true | _ => false) = false := by
  cases d <;> first | rfl | exact absurd rfl (h2 _)
theorem app_room (ht : P.underlying t = some (.slice e)) (hi : P.info? e = some i) (htx : notIntT P tx = true) {base : Option Addr} {sLen sCap : Nat} {x : Value} {q : Rows} {news : List Value} (hs : Src P ι m w x q i.size news) (hr : sLen + q.length ≤ sCap)
   (w' : World) (hst : ∀ a, base = some a → (storeCells (a.add (sLen * i.size)) news).run P w = .ok () w') (hno : base = none → w' = w) :
    (Builtin.append_ #[t, tx] ty #[.slice base sLen sCap, x]).run P w = .ok (.slice base (sLen + q.length) sCap) w' := by
  obtain ⟨d, h1, h2⟩ := notIntT_spec htx
  have hz := zeros_run h2
  have hse : (Go.sizeOf e).run P w = .ok i.size w := by simp [Go.sizeOf, typeInfo, hi]
  have hc := hs.cells w rfl
  unfold Builtin.append_
  simp only [List.getElem?_toArray, List.getElem?_cons_zero, List.getElem?_cons_succ, Sem.run_bind, run_underlying ht, Result.andThen_ok, hse, run_underlying h1, Sem.run_pure]
  simp only [Bool.false_eq_true, if_false, Bool.not_false, if_true]
  rw [Sem.run_bind, hs.lenOf]
  simp only [Result.andThen_ok]
  rw [if_pos hr, Sem.run_bind, hc]
  simp only [Result.andThen_ok]
  cases base with
  | none => rw [hno rfl]; rfl
  | some a => simp only [Sem.run_bind, List.toList_toArray, hst a rfl, Result.andThen_ok]; rfl
theorem app_grow (ht : P.underlying t = some (.slice e)) (hi : P.info? e = some i) (hz0 : i.zero = some z) (hbytes : i.bytes ≤ 2048) (htx : notIntT P tx = true) {base : Option Addr} {sLen sCap : Nat} {x : Value} {q : Rows} {news olds : List Value} (hs : Src P ι m w x q i.size news) (hr : sCap < sLen + q.length) (hlim : sLen + q.length ≤ 68719476736)
   (hold : ∀ w2 : World, w2.heap = w.heap → (Builtin.firstCells i.size sLen (.slice base sLen sCap)).run P w2 = .ok olds.toArray w2) :
    (Builtin.append_ #[t, tx] ty #[.slice base sLen sCap, x]).run P w =
      .ok (.slice (some ⟨w.heap.size, 0, none⟩) (sLen + q.length) (grownCap w (sLen + q.length) sCap e)) (w.drew.alloc (.cells (olds.toArray ++ news.toArray ++ Builtin.zeroCells z.cells (grownCap w (sLen + q.length) sCap e - (sLen + q.length))) e)) := by
  obtain ⟨d, h1, h2⟩ := notIntT_spec htx
  have hz := zeros_run h2
  have hse : (Go.sizeOf e).run P w = .ok i.size w := by simp [Go.sizeOf, typeInfo, hi]
  have hti : ∀ w : World, (typeInfo e).run P w = .ok i w := fun w => by simp [typeInfo, hi]
  have hzv : ∀ w : World, (zeroValue e).run P w = .ok z w := fun w => by simp [zeroValue, typeInfo, hi, hz0]
  have hc := hs.cells w.drew rfl
  have ho := hold w.drew rfl
  have hn : ¬ (sLen + q.length ≤ sCap) := by omega
  have hfit : ¬ (Builtin.nextslicecap (sLen + q.length) sCap * i.bytes > 2 ^ 48) := by
    have h3 : (sLen + q.length) * i.bytes ≤ 68719476736 * 2048 := Nat.mul_le_mul hlim hbytes
    have := growslice_fits (need := sLen + q.length) (old := sCap) (bytes := i.bytes) hr (by omega)
    have h6 : (2 : Nat) ^ 48 = 281474976710656 := rfl
    omega
  have h63 : ¬ (((sLen + q.length : Nat) : Int) > IntKind.i64.max ∧ (False ∨ i.bytes = 0)) := by
    have : IntKind.i64.max = 9223372036854775807 := rfl
    rw [this]; omega
  unfold Builtin.append_
  simp only [List.getElem?_toArray, List.getElem?_cons_zero, List.getElem?_cons_succ, Sem.run_bind, run_underlying ht, Result.andThen_ok, hse, run_underlying h1, Sem.run_pure]
  simp only [Bool.false_eq_true, if_false, Bool.not_false, if_true]
  rw [Sem.run_bind, hs.lenOf]
  simp only [Result.andThen_ok]
  rw [if_neg hn, Sem.run_bind, hti]
  simp only [Result.andThen_ok]
  rw [if_neg h63, Sem.run_bind, hti]
  simp only [Result.andThen_ok]
  rw [if_neg hfit]
  simp only [Sem.run_bind, run_choose, Question.forced, Bool.false_eq_true, if_false, Result.andThen_ok, World.drew_eq, hti, run_askRoom, ho, hc, hzv, newRow, run_newObj, Sem.run_pure, World.alloc_eq]
  rfl
end
end Go.Ab
namespace Go.Ab
set_option linter.unusedVariables false
set_option linter.unusedSimpArgs false
theorem Rp.inv {Ow : Nat → Nat → Prop} {w : World} {v : Value} {full : Bool} {rows : Rows} (h : Rp Ow w v (.lst full rows)) : ∃ A cap sz, ∃ u : Nat → Nat → Value, v = .slice A rows.length cap ∧ rows.length ≤ cap ∧ (∀ (i : Nat) (row : List PV), rows[i]? = some row → row.length = sz) ∧
   (∀ (i : Nat) (row : List PV) (j : Nat) (c : PV), rows[i]? = some row → row[j]? = some c → ∃ ad, A = some ad ∧ w.cell? (ad.add (i * sz + j)) = some (u i j) ∧ ¬ Ow ad.block (ad.off + (i * sz + j))) ∧
   (∀ (i : Nat) (row : List PV) (j : Nat) (c : PV), rows[i]? = some row → row[j]? = some c → Rp Ow w (u i j) c) := by
  cases h with | lst A cap sz full rows u hcap hfull hsz hc hr => exact ⟨A, cap, sz, u, rfl, hcap, hsz, hc, hr⟩
section
variable {ι : Pl} {m : Mem} {w w' : World} {P : Program}
theorem app_some {α : Type} {a b c : List α} (h : app a b = some c) : c = a ++ b ∧ a.length + b.length ≤ 68719476736 := by
  unfold app at h; split at h
  · rename_i hb; cases h; exact ⟨rfl, hb⟩
  · cases h
/-- Rows, and the cells in which they lie one behind the other. -/
def RowsAt (Ow : Nat → Nat → Prop) (w : World) (rows : Rows) (s : Nat) (get : Nat → Option Value) : Prop :=
  ∀ (i j : Nat) (row : List PV) (pv : PV), rows[i]? = some row → row[j]? = some pv → ∃ v, get (i * s + j) = some v ∧ Rp Ow w v pv ∧ v.oneCell' = true
theorem rows_append {Ow : Nat → Nat → Prop} {r q : Rows} {s : Nat} {olds news rest : List Value} (hl : olds.length = r.length * s) (hr : RowsAt Ow w r s (olds[·]?)) (hq : RowsAt Ow w q s (news[·]?)) (hqs : ∀ row ∈ q, row.length = s) (hnl : news.length = q.length * s) (hrs : ∀ row ∈ r, row.length = s) :
    RowsAt Ow w (r ++ q) s ((olds ++ news ++ rest)[·]?) := by
  intro i j row pv hi hj
  by_cases h : i < r.length
  · rw [List.getElem?_append_left h] at hi
    obtain ⟨v, h1, h2, h3⟩ := hr i j row pv hi hj
    have hjs : j < s := by rw [← hrs row (List.mem_of_getElem? hi)]; exact (List.getElem?_eq_some_iff.1 hj).1
    have hlt : i * s + j < olds.length := by rw [hl]; exact row_lt h hjs
    exact ⟨v, by show ((olds ++ news) ++ rest)[i * s + j]? = _; rw [List.append_assoc, List.getElem?_append_left hlt]; exact h1, h2, h3⟩
  · rw [List.getElem?_append_right (by omega)] at hi
    obtain ⟨v, h1, h2, h3⟩ := hq _ j row pv hi hj
    have hil : i - r.length < q.length := (List.getElem?_eq_some_iff.1 hi).1
    have hjs : j < s := by rw [← hqs row (List.mem_of_getElem? hi)]; exact (List.getElem?_eq_some_iff.1 hj).1
    have e : i * s + j = r.length * s + ((i - r.length) * s + j) := by
      have : i = r.length + (i - r.length) := by omega
      conv => lhs; rw [this, Nat.add_mul]
      omega
    have hlt : (i - r.length) * s + j < news.length := by rw [hnl]; exact row_lt hil hjs
    refine ⟨v, ?_, h2, h3⟩
    show ((olds ++ news) ++ rest)[i * s + j]? = _
    rw [e, List.append_assoc, List.getElem?_append_right (by omega), hl, Nat.add_sub_cancel_left, List.getElem?_append_left hlt]; exact h1
theorem Src.rowsAt {x : Value} {q : Rows} {s : Nat} {news : List Value} (h : Src P ι m w x q s news) : RowsAt (Own ι m) w q s (news[·]?) := fun i j row pv hi hj => by
  obtain ⟨v, h1, h2⟩ := h.rel i j row pv hi hj
  exact ⟨v, h1, h2, h2.one⟩
/-- A tip in a block that has just been made. -/
theorem fresh_tip (hM : MemOk ι m w) {k g n' cap s : Nat} {rq : Rows} {vs : Array Value} {t : TypeId} {w' : World} {ob : Ob} (hos : w'.os = w.os) (htape : w'.tape = w.tape) (hout : w'.output = w.output) (hsize : w.heap.size ≤ w'.heap.size) (hblk : ∀ b, b < w.heap.size → w'.heap[b]? = w.heap[b]?)
   (hg : w'.heap[w.heap.size]? = some (.cells vs t (0, 0))) (hcap : rq.length ≤ cap) (hvs : vs.size = cap * s) (hrs : ∀ row ∈ rq, row.length = s) (hr : RowsAt (Own ι m) w rq s (vs.toList[·]?)) (hgen : (ent m k).1 ≤ g)
   (hcomp : g = (ent m k).1 → ∃ n, lk m k = some (g, .tip s n) ∧ n < rq.length) :
   let ca : CA := { blk := w.heap.size, base := some ⟨w.heap.size, 0, none⟩, cap := cap, sz := s }
   MemOk (setι ι k ca) (mset m k (g, .tip s rq.length)) w' ∧ Ext ι m w (setι ι k ca) (mset m k (g, .tip s rq.length)) w' ∧ Ra (setι ι k ca) (mset m k (g, .tip s rq.length)) w' (.slice (some ⟨w.heap.size, 0, none⟩) rq.length cap) (.tip k g rq) := by
  intro ca
  obtain ⟨h1, h2⟩ := upd (k := k) (e := (g, .tip s rq.length)) (ι' := setι ι k ca) hM (setι_other ι k ca) rfl hgen (fun e => by
      obtain ⟨n, hk, hn⟩ := hcomp e
      exact .inr ⟨_, hk, n, rfl, Nat.le_of_lt hn, fun e => absurd e (Nat.ne_of_lt hn)⟩) (fun b o ho => by
      rw [setι_same] at ho
      obtain ⟨ad, h3, h4, _⟩ := ho; cases h3; exact .inr (Nat.le_of_eq h4)) hos htape hout hsize (fun b hb _ => hblk b hb) (fun a ha _ => World.cell?_of_block (w := w) (hblk a.block ha)) (fun he => by
      rw [setι_same]
      exact ⟨rfl, hcap, fun _ => ⟨_, vs, t, rfl, rfl, hg, by show 0 + cap * s ≤ vs.size; omega⟩⟩)
  refine ⟨h1, h2, .tip _ k g rq (by rw [ent_mset]; exact Nat.le_refl _) ?_ fun s' n hk => ?_⟩
  · refine .lst _ cap s false rq (fun i j => vs.toList.getD (i * s + j) undef) hcap (by simp) (fun i row hi => hrs row (List.mem_of_getElem? hi)) (fun i row j c hi hj => ?_) (fun i row j c hi hj => ?_)
    · obtain ⟨v, hv0, h3, h4⟩ := hr i j row c hi hj
      have hv : vs.toList[i * s + j]? = some v := hv0
      refine ⟨_, rfl, ?_, ?_⟩
      · rw [add_mk, Nat.zero_add]
        simp only [World.cell?, hg]
        have : vs[i * s + j]? = some v := by simpa using hv
        rw [List.getD_eq_getElem?_getD, hv]; simpa using this
      · rintro (hx | ⟨k', g', ob', hk', ho⟩)
        · have := hM.xlt _ _ hx; simp at this
        rw [lk_mset] at hk'
        split at hk'
        · rename_i e; subst e; cases hk'
          rw [setι_same] at ho
          obtain ⟨ad, h5, h6, h7, h8⟩ := ho
          cases h5
          have hil : i < rq.length := (List.getElem?_eq_some_iff.1 hi).1
          have hjs : j < s := by rw [← hrs row (List.mem_of_getElem? hi)]; exact (List.getElem?_eq_some_iff.1 hj).1
          have := row_lt hil hjs
          simp only [ca] at h7
          omega
        · rename_i hne
          rw [setι_other _ _ _ _ (Ne.symm hne)] at ho
          have := own_lt (hM.ok k' g' ob' hk') ho
          simp at this
    · obtain ⟨v, hv0, h3, h4⟩ := hr i j row c hi hj
      have hv : vs.toList[i * s + j]? = some v := hv0
      show Rp _ _ (vs.toList.getD (i * s + j) undef) c
      rw [List.getD_eq_getElem?_getD, hv]; exact h3.mono h2.evoX
  · rw [lk_mset, if_pos rfl] at hk; cases hk
    refine ⟨Nat.le_refl _, fun _ => ⟨by rw [setι_same], fun row hrow => by rw [setι_same]; exact hrs row hrow⟩⟩
/-- Own rows in a block that has just been made. -/
theorem fresh_buf (hM : MemOk ι m w) {k cap s : Nat} {rq : Rows} {vs : Array Value} {t : TypeId} {w' : World} (hos : w'.os = w.os) (htape : w'.tape = w.tape) (hout : w'.output = w.output) (hsize : w.heap.size ≤ w'.heap.size) (hblk : ∀ b, b < w.heap.size → w'.heap[b]? = w.heap[b]?)
   (hg : w'.heap[w.heap.size]? = some (.cells vs t (0, 0))) (hcap : rq.length ≤ cap) (hvs : vs.size = cap * s) (hrs : ∀ row ∈ rq, row.length = s) (hr : RowsAt (Own ι m) w rq s (vs.toList[·]?)) :
   let ca : CA := { blk := w.heap.size, base := some ⟨w.heap.size, 0, none⟩, cap := cap, sz := s }
   MemOk (setι ι k ca) (mset m k ((ent m k).1 + 1, .buf s rq)) w' ∧ Ext ι m w (setι ι k ca) (mset m k ((ent m k).1 + 1, .buf s rq)) w' ∧ Ra (setι ι k ca) (mset m k ((ent m k).1 + 1, .buf s rq)) w' (.slice (some ⟨w.heap.size, 0, none⟩) rq.length cap) (.buf k ((ent m k).1 + 1) 0 rq.length) := by
  intro ca
  obtain ⟨h1, h2⟩ := upd_fresh (w' := w') hM k ca (.buf s rq) hos htape hout hsize hblk (fun b o ho => by
      obtain ⟨ad, h3, h4⟩ := ho; cases h3; exact Nat.le_of_eq h4) (fun he => by
      refine ⟨rfl, hcap, by simp [ca], hrs, fun ad had => ?_⟩
      cases had
      refine ⟨rfl, rfl, vs, t, hg, hvs, fun i j row pv hi hj => ?_⟩
      obtain ⟨v, hv, h3, h4⟩ := hr i j row pv hi hj
      exact ⟨v, by simpa using hv, h3.mono he.evoX, h4⟩)
  refine ⟨h1, h2, .buf _ k _ 0 _ rfl (by rw [ent_mset]; exact Nat.le_refl _) fun s' rows' hk => ?_⟩
  rcases hk with hk | hk <;> (rw [lk_mset, if_pos rfl] at hk; cases hk)
  exact ⟨by simp, _, by rw [setι_same]; rfl, fun _ => by rw [setι_same]; show _ = some (Addr.add _ (0 * s)); rw [Nat.zero_mul]; rfl⟩
theorem zc_size (z : Array Value) (n : Nat) : (Builtin.zeroCells z n).size = n * z.size := by simp [Builtin.zeroCells]
/-- append to rows that stand, and whose room is used up. -/
theorem appN_run {t tx ty : TypeId} {d sz : Nat} {hb : Bool} {A : Option Addr} {x : Value} {r q : Rows} {ax av : AV} {ob : Option (Nat × Ob)} (hM : MemOk ι m w) (hv : Rp (Own ι m) w (.slice A r.length r.length) (.lst false r)) (hx : Ra ι m w x ax) (hq : rowsB ax = some q)
   (hs : sliceOf P t = some sz) (htx : notIntT P tx = true) (h : appN hb sz d r (ent m d).1 q = some (av, ob)) :
   ∃ e' cv w' ι', ob = some e' ∧ (Builtin.append_ #[t, tx] ty #[.slice A r.length r.length, x]).run P w = .ok cv w' ∧ MemOk ι' (mset m d e') w' ∧ Ext ι m w ι' (mset m d e') w' ∧ Ra ι' (mset m d e') w' cv av := by
  unfold appN at h
  obtain ⟨rq, hrq, h⟩ := Option.bind_eq_some_iff.mp h
  obtain ⟨hok, h⟩ := bif_none h
  obtain ⟨rfl, hlim⟩ := app_some hrq
  rw [rowsOk_app, Bool.and_eq_true] at hok
  obtain ⟨e, i, z, hu, hi, hsize, hbytes, hz, hzs⟩ := sliceOf_more hs
  obtain ⟨olds, ho⟩ := src_rows (P := P) hv hok.1
  obtain ⟨news, hn⟩ := src_of (P := P) hx hq hok.2
  have hrs := rowsOk_spec hok.1
  have hqs := rowsOk_spec hok.2
  have hall : ∀ row ∈ r ++ q, row.length = sz := fun row h => (List.mem_append.mp h).elim (hrs row) (hqs row)
  by_cases hq0 : q.length = 0
  · have hnil : q = [] := List.eq_nil_of_length_eq_zero hq0
    subst hnil
    have hnews : news = [] := List.eq_nil_of_length_eq_zero (by simpa using hn.len)
    subst hnews
    have hrun := app_room (ty := ty) (sCap := r.length) (base := A) (w' := w) hu hi htx (by rw [hsize]; exact hn) (Nat.le_refl _) (fun a _ => rfl) (fun _ => rfl)
    simp only [List.length_nil, Nat.add_zero, List.append_nil] at hrun h
    cases hh : (hb && r.isEmpty) <;> rw [hh] at h
    · cases h
      let ca : CA := { blk := 0, base := A, cap := r.length, sz := sz }
      obtain ⟨h1, h2⟩ := upd_fresh (w' := w) hM d ca (.tip sz r.length) rfl rfl rfl (Nat.le_refl _) (fun _ _ => rfl) (fun b o ho => by
        obtain ⟨ad, _, _, h3, h4⟩ := ho; simp only [ca] at h3 h4; omega) (fun he => ⟨rfl, Nat.le_refl _, fun hlt => absurd hlt (Nat.lt_irrefl _)⟩)
      refine ⟨_, _, w, _, rfl, hrun, h1, h2, .tip _ d _ r (by rw [ent_mset]; exact Nat.le_refl _) (hv.mono h2.evoX) fun s' n hk => ?_⟩
      rw [lk_mset, if_pos rfl] at hk; cases hk
      exact ⟨Nat.le_refl _, fun _ => ⟨by rw [setι_same], fun row hrow => by rw [setι_same]; exact hrs row hrow⟩⟩
    · cases h
      rw [Bool.and_eq_true] at hh
      have hr0 : r = [] := by simpa using hh.2
      subst hr0
      let ca : CA := { blk := 0, base := none, cap := 0, sz := sz }
      obtain ⟨h1, h2⟩ := upd_fresh (w' := w) hM d ca (.buf sz []) rfl rfl rfl (Nat.le_refl _) (fun _ _ => rfl) (fun b o ho => by
        obtain ⟨ad, h3, _⟩ := ho; cases h3) (fun he => ⟨rfl, Nat.zero_le _, fun _ => rfl, by simp, fun ad had => by cases had⟩)
      refine ⟨_, _, w, _, rfl, hrun, h1, h2, .buf _ d _ 0 _ rfl (by rw [ent_mset]; exact Nat.le_refl _) fun s' rows' hk => ?_⟩
      rcases hk with hk | hk <;> (rw [lk_mset, if_pos rfl] at hk; cases hk)
      exact ⟨Nat.le_refl _, A, by rw [setι_same]; rfl, fun hlt => by rw [setι_same] at hlt; exact absurd hlt (Nat.lt_irrefl _)⟩
  · have hrun := app_grow (ty := ty) (sCap := r.length) (base := A) hu hi hz hbytes htx (by rw [hsize]; exact hn) (by omega) hlim (by rw [hsize]; exact ho.cells)
    have hge := grownCap_ge w (r.length + q.length) r.length e
    generalize hcapd : grownCap w (r.length + q.length) r.length e = cap at hrun hge
    let vs : Array Value := olds.toArray ++ news.toArray ++ Builtin.zeroCells z.cells (cap - (r.length + q.length))
    have hvs : vs.size = cap * sz := by
      simp only [vs, Array.size_append, List.size_toArray, ho.len, hn.len, zc_size, hzs, ← Nat.add_mul]
      congr 1; omega
    have hvl : vs.toList = olds ++ news ++ (Builtin.zeroCells z.cells (cap - (r.length + q.length))).toList := by simp [vs]
    have hat : RowsAt (Own ι m) w (r ++ q) sz (vs.toList[·]?) := by rw [hvl]; exact rows_append ho.len ho.rowsAt hn.rowsAt hqs hn.len hrs
    have hblk : ∀ b, b < w.heap.size → (w.drew.alloc (.cells vs e)).heap[b]? = w.heap[b]? := fun b hb => (Array.getElem?_push_lt hb).trans (Array.getElem?_eq_getElem hb).symm
    have hsz : w.heap.size ≤ (w.drew.alloc (.cells vs e)).heap.size := by show w.heap.size ≤ (w.heap.push _).size; simp
    have hnew : (w.drew.alloc (.cells vs e)).heap[w.heap.size]? = some (.cells vs e (0, 0)) := _root_.Go.heap_alloc_new w.drew _
    have hlen : (r ++ q).length = r.length + q.length := List.length_append
    cases hh : (hb && r.isEmpty) <;> rw [hh] at h
    · cases h
      obtain ⟨h1, h2, h3⟩ := fresh_tip (k := d) (g := (ent m d).1 + 1) (ob := .gone) (n' := 0) (w' := w.drew.alloc (.cells vs e)) (cap := cap) (s := sz) (rq := r ++ q) hM rfl rfl rfl hsz hblk hnew (by rw [hlen]; exact hge) hvs hall hat (Nat.le_succ _) (fun h => absurd h (by simp))
      exact ⟨_, _, _, _, rfl, hrun, h1, h2, by rw [hlen] at h3 ⊢; exact h3⟩
    · cases h
      obtain ⟨h1, h2, h3⟩ := fresh_buf (k := d) (w' := w.drew.alloc (.cells vs e)) (cap := cap) (s := sz) (rq := r ++ q) hM rfl rfl rfl hsz hblk hnew (by rw [hlen]; exact hge) hvs hall hat
      exact ⟨_, _, _, _, rfl, hrun, h1, h2, by rw [hlen] at h3 ⊢; exact h3⟩
theorem cell_row_out {b o l : Nat} {vs : Array Value} {t : TypeId} {news : List Value} (hg : w.heap[b]? = some (.cells vs t (0, 0))) (hl : o + news.length ≤ vs.size) (a : Addr) (hn : a.block = b → ¬ (o ≤ a.off ∧ a.off < o + news.length)) :
    (w.setRow b (vs.toList.take o ++ news ++ vs.toList.drop (o + news.length)).toArray).cell? a = w.cell? a := by
  by_cases h : a.block = b
  · simp only [World.cell?, h, setRow_heap w b vs _ t _ hg, hg]
    rw [List.getElem?_toArray, seg_get _ _ _ (by simpa using hl), if_neg (hn h)]; simp
  · exact cell_setRow_other w _ _ a h
theorem cell_row_in {b o : Nat} {vs : Array Value} {t : TypeId} {news : List Value} (hg : w.heap[b]? = some (.cells vs t (0, 0))) (hl : o + news.length ≤ vs.size) (j : Nat) (hj : j < news.length) :
    (w.setRow b (vs.toList.take o ++ news ++ vs.toList.drop (o + news.length)).toArray).cell? ⟨b, o + j, none⟩ = news[j]? := by
  simp only [World.cell?, setRow_heap w b vs _ t _ hg]
  rw [noSpot, List.getElem?_toArray, seg_get _ _ _ (by simpa using hl), if_pos ⟨by omega, by omega⟩, Nat.add_sub_cancel_left]
/-- append to rows of which the function holds the end. -/
theorem tip_run {t tx ty : TypeId} {k gn sz : Nat} {x v : Value} {r q rq : Rows} {ax : AV} (hM : MemOk ι m w) (hv : Ra ι m w v (.tip k gn r)) (hk : lk m k = some (gn, .tip sz r.length)) (hx : Ra ι m w x ax) (hq : rowsB ax = some q)
   (hs : sliceOf P t = some sz) (htx : notIntT P tx = true) (hrq : app r q = some rq) (hok : rowsOk sz rq = true) :
   ∃ cv w' ι', (Builtin.append_ #[t, tx] ty #[v, x]).run P w = .ok cv w' ∧ MemOk ι' (mset m k (gn, .tip sz rq.length)) w' ∧ Ext ι m w ι' (mset m k (gn, .tip sz rq.length)) w' ∧ Ra ι' (mset m k (gn, .tip sz rq.length)) w' cv (.tip k gn rq) := by
  obtain ⟨rfl, hlim⟩ := app_some hrq
  rw [rowsOk_app, Bool.and_eq_true] at hok
  obtain ⟨e, i, z, hu, hi, hsize, hbytes, hz, hzs⟩ := sliceOf_more hs
  have hrs := rowsOk_spec hok.1
  have hqs := rowsOk_spec hok.2
  have hall : ∀ row ∈ r ++ q, row.length = sz := fun row h => (List.mem_append.mp h).elim (hrs row) (hqs row)
  obtain ⟨news, hn⟩ := src_of (P := P) hx hq hok.2
  obtain ⟨hsz, hcap, hblkt⟩ := hM.ok k gn _ hk
  have hlen : (r ++ q).length = r.length + q.length := List.length_append
  cases hv with
  | tip _ _ _ _ hg hp hclaim =>
  obtain ⟨_, hcl⟩ := hclaim sz r.length hk
  obtain ⟨hveq, hrsz⟩ := hcl rfl
  have hent := ent_of_lk hk
  obtain ⟨olds, ho⟩ := src_rows (P := P) hp hok.1
  rw [hveq] at ho hp ⊢
  by_cases hroom : r.length + q.length ≤ (ι k).cap
  · -- in place
    have hbase : 0 < news.length → ∃ ad vs ty', (ι k).base = some ad ∧ ad.spot = none ∧ w.heap[ad.block]? = some (.cells vs ty' (0, 0)) ∧ ad.off + (ι k).cap * sz ≤ vs.size := fun h0 => by
      rw [hn.len] at h0
      have : 0 < sz := Nat.pos_of_ne_zero fun h => by subst h; simp at h0
      have hq0 : 0 < q.length := Nat.pos_of_ne_zero fun h => by rw [h] at h0; simp at h0
      obtain ⟨ad, vs, ty', h1, h2, h3, h4⟩ := hblkt (Nat.mul_lt_mul_of_pos_right (by omega) (by rw [hsz]; exact this))
      exact ⟨ad, vs, ty', h1, h2, h3, by rw [← hsz]; exact h4⟩
    have hfit : (r.length + q.length) * sz ≤ (ι k).cap * sz := Nat.mul_le_mul_right _ hroom
    rw [Nat.add_mul] at hfit
    -- the world behind it
    have hex : ∃ w', (∀ a, (ι k).base = some a → (storeCells (a.add (r.length * i.size)) news).run P w = .ok () w') ∧ ((ι k).base = none → w' = w) ∧ w'.os = w.os ∧ w'.tape = w.tape ∧ w'.output = w.output ∧ w'.heap.size = w.heap.size ∧
        (∀ b, (∀ o, ¬ OwnK (ι k) (.tip sz r.length) b o) → w'.heap[b]? = w.heap[b]?) ∧ (∀ a : Addr, ¬ OwnK (ι k) (.tip sz r.length) a.block a.off → w'.cell? a = w.cell? a) ∧
        (∀ ad j, (ι k).base = some ad → j < news.length → w'.cell? (ad.add (r.length * sz + j)) = news[j]?) ∧
        (∀ ad vs ty', (ι k).base = some ad → w.heap[ad.block]? = some (.cells vs ty' (0, 0)) → ∃ vs', w'.heap[ad.block]? = some (.cells vs' ty' (0, 0)) ∧ vs'.size = vs.size) := by
      by_cases h0 : 0 < news.length
      · obtain ⟨ad, vs, ty', h1, h2, h3, h4⟩ := hbase h0
        have hl : ad.off + r.length * sz + news.length ≤ vs.size := by rw [hn.len]; omega
        have hown : OwnK (ι k) (.tip sz r.length) ad.block (ad.off + r.length * sz) := ⟨ad, h1, rfl, by rw [hsz]; exact Nat.le_refl _, by rw [hsz]; rw [hn.len] at h0; omega⟩
        have hadd : ad.add (r.length * i.size) = ⟨ad.block, ad.off + r.length * sz, none⟩ := by
          obtain ⟨bl, of, sp⟩ := ad
          simp only at h2; subst h2
          rw [add_mk, hsize]
        have hrunS := run_storeCells_at P ad.block (ad.off + r.length * sz) ty' news 0 vs w h3 (by simpa using hl) hn.one
        simp only [Nat.add_zero] at hrunS
        refine ⟨w.setRow ad.block (vs.toList.take (ad.off + r.length * sz) ++ news ++ vs.toList.drop (ad.off + r.length * sz + news.length)).toArray, fun a ha => ?_, (fun hb => by rw [h1] at hb; cases hb), rfl, rfl, rfl, by simp, fun b hb => setRow_other w _ _ _ fun e => hb (ad.off + r.length * sz) (by rw [e]; exact hown), fun a ha => cell_row_out (l := 0) h3 hl a fun e hin => ha ⟨ad, h1, e.symm, by rw [hsz]; omega, by rw [hsz]; rw [hn.len] at hin; omega⟩, fun ad' j had hj => ?_, fun ad' vs' t' had hh => ?_⟩
        · rw [h1] at ha; cases ha; rw [hadd]; exact hrunS
        · rw [h1] at had; cases had
          have : ad.add (r.length * sz + j) = ⟨ad.block, ad.off + r.length * sz + j, none⟩ := by
            obtain ⟨bl, of, sp⟩ := ad
            simp only at h2; subst h2
            rw [add_mk, Nat.add_assoc]
          rw [this]; exact cell_row_in h3 hl j hj
        · rw [h1] at had; cases had
          rw [h3] at hh; cases hh
          exact ⟨_, setRow_heap w _ vs _ ty' _ h3, by simp; omega⟩
      · have hnil : news = [] := List.eq_nil_of_length_eq_zero (by omega)
        subst hnil
        exact ⟨w, fun a _ => rfl, fun _ => rfl, rfl, rfl, rfl, rfl, fun _ _ => rfl, fun _ _ => rfl, fun _ j _ hj => absurd hj (by simp), fun ad vs ty' _ h => ⟨vs, h, rfl⟩⟩
    obtain ⟨w', hst, hno, hos, htape, hout, hsz', hblk, hcell, hin, hrow⟩ := hex
    have hrun := app_room (ty := ty) hu hi htx (by rw [hsize]; exact hn) hroom w' hst hno
    obtain ⟨hM', he⟩ := upd (k := k) (e := (gn, .tip sz (r ++ q).length)) (ι' := ι) (w' := w') hM (fun _ _ => rfl) rfl (by rw [hent]; exact Nat.le_refl _) (fun _ => .inr ⟨_, hk, r.length, rfl, by rw [hlen]; omega, fun _ => rfl⟩) (fun b o ho => by
        rw [hent]
        obtain ⟨ad, h1, h2, h3, h4⟩ := ho
        refine .inl ⟨ad, h1, h2, ?_, h4⟩
        rw [hlen, Nat.add_mul] at h3; omega) hos htape hout (by omega) (fun b _ hn => hblk b (by rw [hent] at hn; exact hn)) (fun a _ hn => hcell a (by rw [hent] at hn; exact hn)) (fun he => by
        refine ⟨hsz, by rw [hlen]; exact hroom, fun hlt => ?_⟩
        rw [hlen, hsz] at hlt
        obtain ⟨ad, vs, ty', h1, h2, h3, h4⟩ := hblkt (by rw [hsz]; rw [Nat.add_mul] at hlt; omega)
        obtain ⟨vs', h5, h6⟩ := hrow ad vs ty' h1 h3
        exact ⟨ad, vs', ty', h1, h2, h5, by omega⟩)
    refine ⟨_, w', ι, hrun, hM', he, .tip _ k gn _ (by rw [ent_mset]; exact Nat.le_refl _) ?_ fun s' n hk' => ?_⟩
    · rw [← hlen]
      obtain ⟨A, cap0, sz0, u, hA, hcap0, hsz0, hc0, hr0⟩ := hp.inv
      obtain ⟨hA1, _, hA2⟩ := Value.slice.inj hA
      subst hA1
      · refine .lst _ _ sz false _ (fun i j => if i < r.length then u i j else news.getD ((i - r.length) * sz + j) undef) (by rw [hlen]; exact hroom) (by simp) (fun i row hi => hall row (List.mem_of_getElem? hi)) (fun i row j c hi hj => ?_) (fun i row j c hi hj => ?_)
        · by_cases hil : i < r.length
          · rw [List.getElem?_append_left hil] at hi
            obtain ⟨ad, h1, h2, h3⟩ := hc0 i row j c hi hj
            have e1 := hsz0 i row hi
            have e2 := hrs row (List.mem_of_getElem? hi)
            have : sz0 = sz := by omega
            subst this
            rw [if_pos hil]
            have hlt := cell_lt h2
            rw [add_block] at hlt
            refine ⟨ad, h1, ?_, fun hown => ?_⟩
            · rw [he.evoX.cell _ (by rw [add_block]; exact hlt) (by rw [add_block, add_off]; exact h3)]; exact h2
            · rcases he.evoX.own _ _ hown with h | h
              · exact h3 h
              · omega
          · rw [List.getElem?_append_right (by omega)] at hi
            have hql : i - r.length < q.length := (List.getElem?_eq_some_iff.1 hi).1
            have hjs : j < sz := by rw [← hqs row (List.mem_of_getElem? hi)]; exact (List.getElem?_eq_some_iff.1 hj).1
            have hlt : (i - r.length) * sz + j < news.length := by rw [hn.len]; exact row_lt hql hjs
            obtain ⟨ad, vs, ty', h1, h2, h3, h4⟩ := hbase (by omega)
            have e : i * sz + j = r.length * sz + ((i - r.length) * sz + j) := by
              have : i = r.length + (i - r.length) := by omega
              conv => lhs; rw [this, Nat.add_mul]
              omega
            rw [if_neg hil]
            refine ⟨ad, h1, ?_, fun hown => ?_⟩
            · rw [e, hin ad _ h1 hlt, List.getD_eq_getElem?_getD, List.getElem?_eq_getElem hlt]; rfl
            · have hown1 : OwnK (ι k) (.tip sz r.length) ad.block (ad.off + r.length * sz) := ⟨ad, h1, rfl, by rw [hsz]; exact Nat.le_refl _, by rw [hsz]; rw [hn.len] at hlt; omega⟩
              rcases hown with hx | ⟨k', g', ob', hk', ho'⟩
              · exact hM.xapart k gn _ ad.block _ _ hk hown1 hx
              rw [lk_mset] at hk'
              split at hk'
              · rename_i e'; subst e'; cases hk'
                obtain ⟨ad', h5, h6, h7, h8⟩ := ho'
                rw [h1] at h5; cases h5
                rw [hlen, hsz] at h7
                have h9 := row_lt hql hjs
                rw [Nat.add_mul] at h7
                omega
              · rename_i hne
                have hown1 : OwnK (ι k) (.tip sz r.length) ad.block (ad.off + r.length * sz) := ⟨ad, h1, rfl, by rw [hsz]; exact Nat.le_refl _, by rw [hsz]; rw [hn.len] at hlt; omega⟩
                exact hne (hM.apart k k' gn g' _ ob' ad.block _ _ hk hk' hown1 ho')
        · by_cases hil : i < r.length
          · rw [List.getElem?_append_left hil] at hi
            show Rp _ _ (if i < r.length then u i j else _) c
            rw [if_pos hil]; exact (hr0 i row j c hi hj).mono he.evoX
          · rw [List.getElem?_append_right (by omega)] at hi
            obtain ⟨v', h1, h2⟩ := hn.rel _ j row c hi hj
            show Rp _ _ (if i < r.length then u i j else _) c
            rw [if_neg hil, List.getD_eq_getElem?_getD, h1]; exact h2.mono he.evoX
    · rw [lk_mset, if_pos rfl] at hk'; cases hk'
      refine ⟨Nat.le_refl _, fun _ => ⟨by rw [hlen], fun row hrow => by rw [hsz]; exact hall row hrow⟩⟩
  · -- grown
    have hrun := app_grow (ty := ty) (sCap := (ι k).cap) (base := (ι k).base) hu hi hz hbytes htx (by rw [hsize]; exact hn) (by omega) hlim (by rw [hsize]; exact ho.cells)
    have hge := grownCap_ge w (r.length + q.length) (ι k).cap e
    generalize hcapd : grownCap w (r.length + q.length) (ι k).cap e = cap at hrun hge
    let vs : Array Value := olds.toArray ++ news.toArray ++ Builtin.zeroCells z.cells (cap - (r.length + q.length))
    have hvs : vs.size = cap * sz := by
      simp only [vs, Array.size_append, List.size_toArray, ho.len, hn.len, zc_size, hzs, ← Nat.add_mul]
      congr 1; omega
    have hvl : vs.toList = olds ++ news ++ (Builtin.zeroCells z.cells (cap - (r.length + q.length))).toList := by simp [vs]
    have hat : RowsAt (Own ι m) w (r ++ q) sz (vs.toList[·]?) := by rw [hvl]; exact rows_append ho.len ho.rowsAt hn.rowsAt hqs hn.len hrs
    have hblk : ∀ b, b < w.heap.size → (w.drew.alloc (.cells vs e)).heap[b]? = w.heap[b]? := fun b hb => (Array.getElem?_push_lt hb).trans (Array.getElem?_eq_getElem hb).symm
    have hszw : w.heap.size ≤ (w.drew.alloc (.cells vs e)).heap.size := by show w.heap.size ≤ (w.heap.push _).size; simp
    have hnew : (w.drew.alloc (.cells vs e)).heap[w.heap.size]? = some (.cells vs e (0, 0)) := _root_.Go.heap_alloc_new w.drew _
    obtain ⟨h1, h2, h3⟩ := fresh_tip (k := k) (g := gn) (ob := .gone) (n' := 0) (w' := w.drew.alloc (.cells vs e)) (cap := cap) (s := sz) (rq := r ++ q) hM rfl rfl rfl hszw hblk hnew (by rw [hlen]; exact hge) hvs hall hat (by rw [hent]; exact Nat.le_refl _) (fun _ => ⟨r.length, hk, by rw [hlen]; omega⟩)
    exact ⟨_, _, _, hrun, h1, h2, by rw [hlen] at h3 ⊢; exact h3⟩
end
end Go.Ab
namespace Go.Ab
set_option linter.unusedVariables false
set_option linter.unusedSimpArgs false
section
variable {ι : Pl} {m : Mem} {w w' : World} {P : Program}
theorem buf_run {t tx ty : TypeId} {k gn n sz : Nat} {x v : Value} {rows q rq : Rows} {ax : AV} (hM : MemOk ι m w) (hv : Ra ι m w v (.buf k gn 0 n)) (hk : lk m k = some (gn, .buf sz rows)) (hx : Ra ι m w x ax) (hq : rowsB ax = some q)
   (hs : sliceOf P t = some sz) (htx : notIntT P tx = true) (hrq : app (rows.take n) q = some rq) (hok : rowsOk sz rq = true) :
   ∃ cv w' ι', (Builtin.append_ #[t, tx] ty #[v, x]).run P w = .ok cv w' ∧ MemOk ι' (mset m k (gn + 1, .buf sz rq)) w' ∧ Ext ι m w ι' (mset m k (gn + 1, .buf sz rq)) w' ∧ Ra ι' (mset m k (gn + 1, .buf sz rq)) w' cv (.buf k (gn + 1) 0 rq.length) := by
  obtain ⟨rfl, hlim⟩ := app_some hrq
  rw [rowsOk_app, Bool.and_eq_true] at hok
  obtain ⟨e, i, z, hu, hi, hsize, hbytes, hz, hzs⟩ := sliceOf_more hs
  have hrs := rowsOk_spec hok.1
  have hqs := rowsOk_spec hok.2
  have hall : ∀ row ∈ rows.take n ++ q, row.length = sz := fun row h => (List.mem_append.mp h).elim (hrs row) (hqs row)
  obtain ⟨news, hn⟩ := src_of (P := P) hx hq hok.2
  obtain ⟨hsz, hcap, hnone, hrl, hbuf⟩ := hM.ok k gn _ hk
  obtain ⟨h2, A, hve, hA⟩ := hv.bufv (.inl hk)
  rw [Nat.zero_add] at h2
  have htl : (rows.take n).length = n := by simp; omega
  have hlen : (rows.take n ++ q).length = n + q.length := by rw [List.length_append, htl]
  rw [htl] at hlim
  have hent := ent_of_lk hk
  have hA' : 0 < (ι k).cap → A = (ι k).base := fun h => by
    rw [hA h]; cases (ι k).base with
    | none => rfl
    | some ad => show some (Addr.add ad (0 * _)) = _; rw [Nat.zero_mul]; rfl
  rw [hve, Nat.sub_zero]
  by_cases hroom : n + q.length ≤ (ι k).cap
  · have hbase : 0 < news.length → ∃ ad vs ty', A = some ad ∧ (ι k).base = some ad ∧ ad.off = 0 ∧ ad.spot = none ∧ w.heap[ad.block]? = some (.cells vs ty' (0, 0)) ∧ vs.size = (ι k).cap * sz ∧ RowsAt (Own ι m) w rows sz (vs[·]?) := fun h0 => by
      rw [hn.len] at h0
      have hq0 : 0 < q.length := Nat.pos_of_ne_zero fun h => by rw [h] at h0; simp at h0
      have hc0 : 0 < (ι k).cap := by omega
      cases hb : (ι k).base with
      | none => have := hnone hb; omega
      | some ad =>
        obtain ⟨h3, h4, vs, ty', h5, h6, h7⟩ := hbuf ad hb
        exact ⟨ad, vs, ty', by rw [hA' hc0, hb], rfl, h3, h4, h5, by rw [← hsz]; exact h6, by rw [← hsz]; exact h7⟩
    have hfit : (n + q.length) * sz ≤ (ι k).cap * sz := Nat.mul_le_mul_right _ hroom
    rw [Nat.add_mul] at hfit
    by_cases h0 : 0 < news.length
    · obtain ⟨ad, vs, ty', h1, hb, h3, h4, h5, h6, h7⟩ := hbase h0
      obtain ⟨bl, of, sp⟩ := ad
      simp only at h3 h4 h5
      subst h3; subst h4
      have hl : n * sz + news.length ≤ vs.size := by rw [hn.len, h6]; exact hfit
      have hrunS := run_storeCells_at P bl (n * sz) ty' news 0 vs w h5 (by simpa using hl) hn.one
      simp only [Nat.add_zero] at hrunS
      have hrun := app_room (ty := ty) (base := A) (sLen := n) (sCap := (ι k).cap) hu hi htx (by rw [hsize]; exact hn) hroom _ (fun a ha => by
        rw [h1] at ha; cases ha; rw [add_mk, Nat.zero_add, hsize]; exact hrunS) (fun h => by rw [h1] at h; cases h)
      have hown0 : ∀ o, OwnK (ι k) (.buf sz rows) bl o := fun o => ⟨_, hb, rfl⟩
      obtain ⟨hM', he⟩ := upd (k := k) (e := (gn + 1, .buf sz (rows.take n ++ q))) (ι' := ι) (w' := w.setRow bl (vs.toList.take (n * sz) ++ news ++ vs.toList.drop (n * sz + news.length)).toArray) hM (fun _ _ => rfl) rfl (by rw [hent]; exact Nat.le_succ _) (fun h => by rw [hent] at h; simp at h) (fun b o ho => by
          rw [hent]; exact .inl ho) rfl rfl rfl (by simp) (fun b _ hn => setRow_other w _ _ _ fun e => hn 0 (by rw [hent, e]; exact hown0 0)) (fun a _ hn => cell_setRow_other w _ _ _ fun e => hn (by rw [hent, e]; exact hown0 _)) (fun he => by
          refine ⟨hsz, by rw [hlen]; exact hroom, hnone, fun row hrow => by rw [hsz]; exact hall row hrow, fun ad' had' => ?_⟩
          rw [hb] at had'; cases had'
          refine ⟨rfl, rfl, _, ty', setRow_heap w _ vs _ ty' _ h5, by rw [hsz, ← h6]; simp; omega, fun i' j row pv hr hj => ?_⟩
          rw [hsz, List.getElem?_toArray, seg_get _ _ _ (by simpa using hl)]
          by_cases hil : i' < n
          · rw [List.getElem?_append_left (by omega), List.getElem?_take_of_lt hil] at hr
            obtain ⟨v', h8, h9, h10⟩ := h7 i' j row pv hr hj
            have hjs : j < sz := by rw [← hsz, ← hrl row (List.mem_of_getElem? hr)]; exact (List.getElem?_eq_some_iff.1 hj).1
            have := row_lt hil hjs
            rw [if_neg (by omega)]
            exact ⟨v', by simpa using h8, h9.mono he.evoX, h10⟩
          · rw [List.getElem?_append_right (by omega), htl] at hr
            obtain ⟨v', h8, h9⟩ := hn.rel _ j row pv hr hj
            have hql : i' - n < q.length := (List.getElem?_eq_some_iff.1 hr).1
            have hjs : j < sz := by rw [← hqs row (List.mem_of_getElem? hr)]; exact (List.getElem?_eq_some_iff.1 hj).1
            have hlt : (i' - n) * sz + j < news.length := by rw [hn.len]; exact row_lt hql hjs
            have e1 : i' * sz + j = n * sz + ((i' - n) * sz + j) := by
              have : i' = n + (i' - n) := by omega
              conv => lhs; rw [this, Nat.add_mul]
              omega
            rw [if_pos ⟨by omega, by omega⟩, e1, Nat.add_sub_cancel_left]
            exact ⟨v', h8, h9.mono he.evoX, h9.one⟩)
      refine ⟨_, _, ι, hrun, hM', he, .buf _ k _ 0 _ rfl (by rw [ent_mset]; exact Nat.le_refl _) fun s' rows' hk' => ?_⟩
      rcases hk' with hk' | hk' <;> (rw [lk_mset, if_pos rfl] at hk'; cases hk')
      exact ⟨by rw [Nat.zero_add]; exact Nat.le_refl _, A, by rw [hlen]; rfl, fun hc => by rw [hA' hc, hb]; show _ = some (Addr.add _ (0 * _)); rw [Nat.zero_mul]; rfl⟩
    · have hnil : news = [] := List.eq_nil_of_length_eq_zero (by omega)
      subst hnil
      have hrun := app_room (ty := ty) (base := A) (sLen := n) (sCap := (ι k).cap) hu hi htx (by rw [hsize]; exact hn) hroom w (fun a ha => rfl) (fun _ => rfl)
      obtain ⟨hM', he⟩ := upd (k := k) (e := (gn + 1, .buf sz (rows.take n ++ q))) (ι' := ι) (w' := w) hM (fun _ _ => rfl) rfl (by rw [hent]; exact Nat.le_succ _) (fun h => by rw [hent] at h; simp at h) (fun b o ho => by
          rw [hent]; exact .inl ho) rfl rfl rfl (Nat.le_refl _) (fun _ _ _ => rfl) (fun _ _ _ => rfl) (fun he => by
          refine ⟨hsz, by rw [hlen]; exact hroom, hnone, fun row hrow => by rw [hsz]; exact hall row hrow, fun ad' had' => ?_⟩
          obtain ⟨h3, h4, vs, ty', h5, h6, h7⟩ := hbuf ad' had'
          refine ⟨h3, h4, vs, ty', h5, h6, fun i' j row pv hr hj => ?_⟩
          by_cases hil : i' < n
          · rw [List.getElem?_append_left (by omega), List.getElem?_take_of_lt hil] at hr
            obtain ⟨v', h8, h9, h10⟩ := h7 i' j row pv hr hj
            exact ⟨v', h8, h9.mono he.evoX, h10⟩
          · rw [List.getElem?_append_right (by omega), htl] at hr
            obtain ⟨v', h8, h9⟩ := hn.rel _ j row pv hr hj
            simp at h8)
      refine ⟨_, _, ι, hrun, hM', he, .buf _ k _ 0 _ rfl (by rw [ent_mset]; exact Nat.le_refl _) fun s' rows' hk' => ?_⟩
      rcases hk' with hk' | hk' <;> (rw [lk_mset, if_pos rfl] at hk'; cases hk')
      exact ⟨by rw [Nat.zero_add]; exact Nat.le_refl _, A, by rw [hlen]; rfl, fun hc => by rw [hA' hc]; cases (ι k).base with
        | none => rfl
        | some ad => show _ = some (Addr.add _ (0 * _)); rw [Nat.zero_mul]; rfl⟩
  · -- grown
    have hold : ∃ olds : List Value, olds.length = (rows.take n).length * sz ∧ (∀ w2 : World, w2.heap = w.heap → (Builtin.firstCells sz n (.slice A n (ι k).cap)).run P w2 = .ok olds.toArray w2) ∧ RowsAt (Own ι m) w (rows.take n) sz (olds[·]?) := by
      by_cases hc0 : n * sz = 0
      · refine ⟨[], by rw [htl, hc0]; rfl, fun w2 _ => ?_, fun i' j row pv hr hj => ?_⟩
        · cases A with
          | none => simp [Builtin.firstCells]
          | some a => simp only [Builtin.firstCells, hc0]; rfl
        · exfalso
          have hil : i' < n := by have := (List.getElem?_eq_some_iff.1 hr).1; omega
          have hjs : j < sz := by rw [← hrs row (List.mem_of_getElem? hr)]; exact (List.getElem?_eq_some_iff.1 hj).1
          have := row_lt hil hjs; omega
      · have hn0 : 0 < n := Nat.pos_of_ne_zero fun h => hc0 (by rw [h]; simp)
        have hcp : 0 < (ι k).cap := by omega
        cases hb : (ι k).base with
        | none => have := hnone hb; omega
        | some ad =>
          obtain ⟨h3, h4, vs, ty', h5, h6, h7⟩ := hbuf ad hb
          obtain ⟨bl, of, sp⟩ := ad
          simp only at h3 h4 h5
          subst h3; subst h4
          rw [hA' hcp, hb]
          have hvs : n * sz ≤ vs.size := by rw [h6, hsz]; exact Nat.mul_le_mul_right _ (by omega)
          have hlt : (vs.toList.take (n * sz)).length = n * sz := by simp; omega
          refine ⟨vs.toList.take (n * sz), by rw [hlt, htl], fun w2 hw => ?_, fun i' j row pv hr hj => ?_⟩
          · have := run_loadCells_list (P := P) w2 ⟨bl, 0, none⟩ (vs.toList.take (n * sz)) (fun j v hj => by
              rw [cell_heap hw, add_mk, Nat.zero_add]
              have hjl : j < n * sz := by rw [← hlt]; exact (List.getElem?_eq_some_iff.1 hj).1
              rw [List.getElem?_take_of_lt hjl] at hj
              simp only [World.cell?, h5]; simpa using hj)
            rw [hlt] at this
            exact this
          · have hil : i' < n := by have := (List.getElem?_eq_some_iff.1 hr).1; omega
            have hjs : j < sz := by rw [← hrs row (List.mem_of_getElem? hr)]; exact (List.getElem?_eq_some_iff.1 hj).1
            rw [List.getElem?_take_of_lt hil] at hr
            obtain ⟨v', h8, h9, h10⟩ := h7 i' j row pv hr hj
            rw [hsz] at h8
            exact ⟨v', by show (vs.toList.take (n * sz))[i' * sz + j]? = _; rw [List.getElem?_take_of_lt (row_lt hil hjs)]; simpa using h8, h9, h10⟩
    obtain ⟨olds, ho1, ho2, ho3⟩ := hold
    have hrun := app_grow (ty := ty) (sLen := n) (sCap := (ι k).cap) (base := A) hu hi hz hbytes htx (by rw [hsize]; exact hn) (by omega) hlim (by rw [hsize]; exact ho2)
    have hge := grownCap_ge w (n + q.length) (ι k).cap e
    generalize hcapd : grownCap w (n + q.length) (ι k).cap e = cap at hrun hge
    let vs : Array Value := olds.toArray ++ news.toArray ++ Builtin.zeroCells z.cells (cap - (n + q.length))
    have hvs : vs.size = cap * sz := by
      simp only [vs, Array.size_append, List.size_toArray, ho1, htl, hn.len, zc_size, hzs, ← Nat.add_mul]
      congr 1; omega
    have hvl : vs.toList = olds ++ news ++ (Builtin.zeroCells z.cells (cap - (n + q.length))).toList := by simp [vs]
    have hat : RowsAt (Own ι m) w (rows.take n ++ q) sz (vs.toList[·]?) := by rw [hvl]; exact rows_append ho1 ho3 hn.rowsAt hqs hn.len hrs
    have hblk : ∀ b, b < w.heap.size → (w.drew.alloc (.cells vs e)).heap[b]? = w.heap[b]? := fun b hb => (Array.getElem?_push_lt hb).trans (Array.getElem?_eq_getElem hb).symm
    have hszw : w.heap.size ≤ (w.drew.alloc (.cells vs e)).heap.size := by show w.heap.size ≤ (w.heap.push _).size; simp
    have hnew : (w.drew.alloc (.cells vs e)).heap[w.heap.size]? = some (.cells vs e (0, 0)) := _root_.Go.heap_alloc_new w.drew _
    obtain ⟨h1, h2, h3⟩ := fresh_buf (k := k) (w' := w.drew.alloc (.cells vs e)) (cap := cap) (s := sz) (rq := rows.take n ++ q) hM rfl rfl rfl hszw hblk hnew (by rw [hlen]; exact hge) hvs hall hat
    rw [hent] at h1 h2 h3
    exact ⟨_, _, _, hrun, h1, h2, by rw [hlen] at h3 ⊢; exact h3⟩
/-- Own rows become rows that stand: what a value says of them. -/
theorem freeze_ra {v : Value} {k g lo n z : Nat} {rows : Rows} (hM0 : MemOk ι m w) (hv : Ra ι m w v (.buf k g lo n)) (hk : lk m k = some (g, .buf z rows)) :
  MemOk ι (mset m k (g, .gone)) w ∧ Ext ι m w ι (mset m k (g, .gone)) w ∧ Ra ι (mset m k (g, .gone)) w v (.p (.lst false ((rows.drop lo).take n))) := by
  obtain ⟨hle, A, e, hA⟩ := hv.bufv (.inl hk)
  have hO := hM0.ok _ _ _ hk
  obtain ⟨h4, h5, h6, h7, h8⟩ := hO
  have hent := ent_of_lk hk
  obtain ⟨hM, hE⟩ := upd (w' := w) (ι' := ι) (k := k) (e := (g, .gone)) hM0 (fun _ _ => rfl) rfl (by rw [hent]; exact Nat.le_refl _) (fun _ => .inl rfl) (fun b o h => h.elim) rfl rfl rfl (Nat.le_refl _) (fun _ _ _ => rfl) (fun _ _ _ => rfl) (fun _ => trivial)
  refine ⟨hM, hE, ?_⟩
  rw [e]
  have hlen : ((rows.drop lo).take n).length = n := by rw [List.length_take, List.length_drop]; omega
  have hrow : ∀ (i : Nat) (row : List PV), ((rows.drop lo).take n)[i]? = some row → i < n ∧ rows[lo + i]? = some row := fun i row hi => by
    have hlt : i < n := by
      have := (List.getElem?_eq_some_iff.1 hi).1
      omega
    rw [List.getElem?_take_of_lt hlt, List.getElem?_drop] at hi
    exact ⟨hlt, hi⟩
  have hsz : ∀ (i : Nat) (row : List PV), ((rows.drop lo).take n)[i]? = some row → row.length = (ι k).sz := fun i row hi => h7 row (List.mem_of_getElem? (hrow i row hi).2)
  have hat : ∀ (i : Nat) (row : List PV) (j : Nat) (c : PV), ((rows.drop lo).take n)[i]? = some row → row[j]? = some c → ∃ ad vs t v, A = some (ad.add (lo * (ι k).sz)) ∧ (ι k).base = some ad ∧ ad.off = 0 ∧ ad.spot = none ∧ w.heap[ad.block]? = some (.cells vs t (0, 0)) ∧ vs[(lo + i) * (ι k).sz + j]? = some v ∧ Rp (Own ι m) w v c ∧ v.oneCell' = true := fun i row j c hi hj => by
    obtain ⟨hlt, hi'⟩ := hrow i row hi
    have hlo : lo + i < rows.length := (List.getElem?_eq_some_iff.1 hi').1
    have hcap : 0 < (ι k).cap := by omega
    cases hb : (ι k).base with
    | none => have := h6 hb; omega
    | some ad =>
      obtain ⟨g1, g2, vs, t, g3, g4, g5⟩ := h8 ad hb
      obtain ⟨v, g6, g7, g8⟩ := g5 (lo + i) j row c hi' hj
      exact ⟨ad, vs, t, v, by rw [hA (by omega), hb]; rfl, rfl, g1, g2, g3, g6, g7, g8⟩
  have hn : ∀ b o, (∃ ad, (ι k).base = some ad ∧ ad.block = b) → ¬ Own ι (mset m k (g, .gone)) b o := fun b o hb ho => by
    rcases ho with ho | ⟨j, gj, obj, hj, ho⟩
    · exact hM0.xapart k g _ b o o hk hb ho
    · rw [lk_mset] at hj
      split at hj
      · cases hj; exact ho
      · rename_i hne
        exact hne (hM0.apart k j g gj _ obj b o o hk hj hb ho)
  refine .p _ _ ?_
  have := Rp.lst (Ow := Own ι (mset m k (g, .gone))) (w := w) A ((ι k).cap - lo) (ι k).sz false ((rows.drop lo).take n)
    (fun i j => match (ι k).base with | some ad => (w.cell? (ad.add ((lo + i) * (ι k).sz + j))).getD undef | none => undef) (by rw [hlen]; omega) (by simp) hsz
    (fun i row j c hi hj => by
      obtain ⟨ad, vs, t, v, q1, q2, q3, q4, q5, q6, q7, q8⟩ := hat i row j c hi hj
      have hoff : lo * (ι k).sz + (i * (ι k).sz + j) = (lo + i) * (ι k).sz + j := by rw [Nat.add_mul]; omega
      refine ⟨_, q1, ?_, ?_⟩
      · rw [add_add, hoff, q2]
        simp only
        have : w.cell? (ad.add ((lo + i) * (ι k).sz + j)) = some v := by
          simp only [World.cell?, add_block, add_off, q5, add_spot _ _ q4, q3, Nat.zero_add]
          simpa using q6
        rw [this]; rfl
      · rw [add_block]
        exact hn _ _ ⟨ad, q2, rfl⟩)
    (fun i row j c hi hj => by
      obtain ⟨ad, vs, t, v, q1, q2, q3, q4, q5, q6, q7, q8⟩ := hat i row j c hi hj
      rw [q2]
      simp only
      have : w.cell? (ad.add ((lo + i) * (ι k).sz + j)) = some v := by
        simp only [World.cell?, add_block, add_off, q5, add_spot _ _ q4, q3, Nat.zero_add]
        simpa using q6
      rw [this]
      exact q7.mono hE.evoX)
  rwa [hlen] at this
/-- Own rows, as what is appended. -/
theorem src_buf {x : Value} {k gn lo n sz : Nat} {rows : Rows} (hM : MemOk ι m w) (hv : Ra ι m w x (.buf k gn lo n)) (hk : lk m k = some (gn, .buf sz rows)) : ∃ news, Src P ι m w x ((rows.drop lo).take n) sz news := by
  obtain ⟨h4, h5, h6, h7, h8⟩ := hM.ok k gn _ hk
  obtain ⟨hle, A0, hve, hA0⟩ := hv.bufv (.inl hk)
  have hrow : ∀ row ∈ (rows.drop lo).take n, row.length = sz := fun row h => by rw [← h4]; exact h7 row (List.mem_of_mem_drop (List.mem_of_mem_take h))
  have hok : ∀ l : Rows, (∀ row ∈ l, row.length = sz) → rowsOk sz l = true := fun l => by
    induction l with
    | nil => intro _; rfl
    | cons a l ih => intro h; simp [rowsOk, h a (List.mem_cons_self ..), ih fun r hr => h r (List.mem_cons_of_mem _ hr)]
  obtain ⟨_, hE, hx⟩ := freeze_ra hM hv hk
  have hRp : Rp (Own ι (mset m k (gn, .gone))) w x (.lst false ((rows.drop lo).take n)) := by cases hx with | p _ _ h => exact h
  obtain ⟨news, hn⟩ := src_rows (P := P) hRp (hok _ hrow)
  refine ⟨news, hn.len, hn.lenOf, hn.cells, hn.one, fun i j row pv hi hj => ?_⟩
  obtain ⟨v, hv1, hv2⟩ := hn.rel i j row pv hi hj
  refine ⟨v, hv1, ?_⟩
  -- what the cells hold is told by the object itself
  have hil : i < ((rows.drop lo).take n).length := (List.getElem?_eq_some_iff.1 hi).1
  have hlen : ((rows.drop lo).take n).length = n := by rw [List.length_take, List.length_drop]; omega
  have hi' : rows[lo + i]? = some row := by
    rw [List.getElem?_take_of_lt (by omega), List.getElem?_drop] at hi; exact hi
  have hjs : j < sz := by rw [← hrow row (List.mem_of_getElem? hi)]; exact (List.getElem?_eq_some_iff.1 hj).1
  cases hb : (ι k).base with
  | none => have := h6 hb; omega
  | some ad =>
    obtain ⟨g1, g2, vs, t, g3, g4, g5⟩ := h8 ad hb
    obtain ⟨u, g6, g7, g8⟩ := g5 (lo + i) j row pv hi' hj
    have hc := hn.cells w rfl
    have hA : A0 = some (ad.add (lo * (ι k).sz)) := by rw [hA0 (by omega), hb]; rfl
    have hcell : w.cell? ((ad.add (lo * (ι k).sz)).add (i * sz + j)) = some u := by
      have hoff : lo * (ι k).sz + (i * sz + j) = (lo + i) * (ι k).sz + j := by rw [h4, Nat.add_mul]; omega
      rw [add_add, hoff]
      simp only [World.cell?, add_block, add_off, g1, add_spot _ _ g2, g3, Nat.zero_add]
      simpa using g6
    rw [hlen] at hc
    have hlt : i * sz + j < n * sz := row_lt (by omega) hjs
    have hx0 : x = .slice (some (ad.add (lo * (ι k).sz))) n ((ι k).cap - lo) := by rw [hve, hA]
    have hcell2 : ∀ q, q < n * sz → ∃ y, w.cell? ((ad.add (lo * (ι k).sz)).add q) = some y ∧ news[q]? = some y := fun q hq => by
      rw [hx0] at hc
      have h0 : 0 < sz := Nat.pos_of_ne_zero fun h => by subst h; simp at hq
      have hall : ∀ q, q < n * sz → ∃ y, w.cell? ((ad.add (lo * (ι k).sz)).add q) = some y := fun q hq => by
        have hqd : q / sz < n := Nat.div_lt_of_lt_mul (by rwa [Nat.mul_comm])
        have hqm : q % sz < sz := Nat.mod_lt _ h0
        have hr' : rows[lo + q / sz]? = some (rows[lo + q / sz]'(by omega)) := List.getElem?_eq_getElem _
        have hlr := h7 _ (List.getElem_mem (show lo + q / sz < rows.length by omega))
        rw [h4] at hlr
        obtain ⟨y, y1, _⟩ := g5 (lo + q / sz) (q % sz) _ _ hr' (List.getElem?_eq_getElem (by rw [hlr]; exact hqm))
        refine ⟨y, ?_⟩
        have hq' : lo * (ι k).sz + q = (lo + q / sz) * (ι k).sz + q % sz := by
          rw [h4, Nat.add_mul, Nat.add_assoc, Nat.mul_comm (q / sz), Nat.div_add_mod]
        rw [add_add, hq']
        simp only [World.cell?, add_block, add_off, g1, add_spot _ _ g2, g3, Nat.zero_add]
        simpa using y1
      obtain ⟨fy, hfy⟩ := Classical.axiomOfChoice (fun q => (Classical.em (q < n * sz)).elim (fun h => (hall q h).imp fun y hy => (fun _ : q < n * sz => hy)) (fun h => ⟨undef, fun h' => absurd h' h⟩) : ∀ q, ∃ y, q < n * sz → w.cell? ((ad.add (lo * (ι k).sz)).add q) = some y)
      have hl := run_loadCells (P := P) w (ad.add (lo * (ι k).sz)) (n * sz) fy (fun q hq => hfy q hq)
      simp only [Builtin.firstCells] at hc
      rw [hl] at hc
      simp only [Result.ok.injEq, Array.mk.injEq, and_true] at hc
      refine ⟨fy q, hfy q hq, ?_⟩
      rw [← hc]; simp [hq]
    obtain ⟨y, y1, y2⟩ := hcell2 _ hlt
    rw [hcell] at y1; cases y1
    rw [hv1] at y2; cases y2
    exact g7
/-- append of own rows to rows whose room is used up: a copy. -/
theorem appB_run {t tx ty : TypeId} {sz : Nat} {s x : Value} {as : AV} {k gn lo n : Nat} {rows r rq : Rows} (hM : MemOk ι m w) (hs0 : Ra ι m w s as) (hr0 : fullR as = some r) (hv : Ra ι m w x (.buf k gn lo n)) (hk : lk m k = some (gn, .buf sz rows))
   (hs : sliceOf P t = some sz) (htx : notIntT P tx = true) (hokr : rowsOk sz r = true) (hrq : app r ((rows.drop lo).take n) = some rq) :
   ∃ cv w', (Builtin.append_ #[t, tx] ty #[s, x]).run P w = .ok cv w' ∧ MemOk ι m w' ∧ Ext ι m w ι m w' ∧ Ra ι m w' cv (.p (.lst false rq)) := by
  obtain ⟨rfl, hlim⟩ := app_some hrq
  obtain ⟨e, i, z, hu, hi, hsize, hbytes, hz, hzs⟩ := sliceOf_more hs
  obtain ⟨A, rfl, hR⟩ : ∃ A, s = .slice A r.length r.length ∧ Rp (Own ι m) w (.slice A r.length r.length) (.lst false r) := by
    unfold fullR at hr0
    split at hr0
    · cases hr0; cases hs0 with | p _ _ h => cases h; exact ⟨none, rfl, Rp.nil _ none 0⟩
    · cases hr0
      cases hs0 with
      | p _ _ h =>
        cases h with
        | lst A cap sz0 full rows u hcap hfull hsz hc hr =>
          have := hfull rfl
          subst this
          exact ⟨A, rfl, .lst A _ sz0 false r u hcap (by simp) hsz hc hr⟩
    · cases hr0
  obtain ⟨olds, ho⟩ := src_rows (P := P) hR hokr
  obtain ⟨news, hn⟩ := src_buf (P := P) hM hv hk
  have hO := hM.ok k gn _ hk
  have hrs := rowsOk_spec hokr
  have hqs : ∀ row ∈ (rows.drop lo).take n, row.length = sz := fun row h => by rw [← hO.1]; exact hO.2.2.2.1 row (List.mem_of_mem_drop (List.mem_of_mem_take h))
  generalize (rows.drop lo).take n = q at hn hlim hqs ⊢
  have hall : ∀ row ∈ r ++ q, row.length = sz := fun row h => (List.mem_append.mp h).elim (hrs row) (hqs row)
  by_cases hq0 : q.length = 0
  · have hnil : q = [] := List.eq_nil_of_length_eq_zero hq0
    subst hnil
    have hnews : news = [] := List.eq_nil_of_length_eq_zero (by simpa using hn.len)
    subst hnews
    have hrun := app_room (ty := ty) (sCap := r.length) (base := A) (w' := w) hu hi htx (by rw [hsize]; exact hn) (Nat.le_refl _) (fun a _ => rfl) (fun _ => rfl)
    simp only [List.length_nil, Nat.add_zero, List.append_nil] at hrun ⊢
    exact ⟨_, w, hrun, hM, .refl _ _ _, .p _ _ hR⟩
  · have hrun := app_grow (ty := ty) (sCap := r.length) (base := A) hu hi hz hbytes htx (by rw [hsize]; exact hn) (by omega) hlim (by rw [hsize]; exact ho.cells)
    have hge := grownCap_ge w (r.length + q.length) r.length e
    generalize hcapd : grownCap w (r.length + q.length) r.length e = cap at hrun hge
    let vs : Array Value := olds.toArray ++ news.toArray ++ Builtin.zeroCells z.cells (cap - (r.length + q.length))
    have hvl : vs.toList = olds ++ news ++ (Builtin.zeroCells z.cells (cap - (r.length + q.length))).toList := by simp [vs]
    have hat : RowsAt (Own ι m) w (r ++ q) sz (vs.toList[·]?) := by rw [hvl]; exact rows_append ho.len ho.rowsAt hn.rowsAt hqs hn.len hrs
    have hblk : ∀ b, b < w.heap.size → (w.drew.alloc (.cells vs e)).heap[b]? = w.heap[b]? := fun b hb => (Array.getElem?_push_lt hb).trans (Array.getElem?_eq_getElem hb).symm
    have hsz : w.heap.size ≤ (w.drew.alloc (.cells vs e)).heap.size := by show w.heap.size ≤ (w.heap.push _).size; simp
    have hnew : (w.drew.alloc (.cells vs e)).heap[w.heap.size]? = some (.cells vs e (0, 0)) := _root_.Go.heap_alloc_new w.drew _
    have hlen : (r ++ q).length = r.length + q.length := List.length_append
    obtain ⟨hM', he⟩ := quiet (w' := w.drew.alloc (.cells vs e)) hM rfl rfl rfl hsz hblk
    refine ⟨_, _, hrun, hM', he, .p _ _ (fresh_rows (s := sz) he hM hnew hlen hge (by simp) (fun i row hi => hall row (List.mem_of_getElem? hi)) (fun i j row pv hi hj => ?_))⟩
    obtain ⟨v, h1, h2, _⟩ := hat i j row pv hi hj
    exact ⟨v, by simpa using h1, h2⟩
end
end Go.Ab
