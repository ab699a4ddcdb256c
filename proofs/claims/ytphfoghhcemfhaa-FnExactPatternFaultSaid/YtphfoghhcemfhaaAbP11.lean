/- append: what becomes of own rows. -/
import Derived.Test.YtphfoghhcemfhaaAbP10
namespace Go.Ab
set_option linter.unusedVariables false
set_option linter.unusedSimpArgs false
theorem Rp.inv {Ow : Nat → Nat → Prop} {w : World} {v : Value} {full : Bool} {rows : Rows} (h : Rp Ow w v (.lst full rows)) : ∃ A cap sz, ∃ u : Nat → Nat → Value, v = .slice A rows.length cap ∧ rows.length ≤ cap ∧ (∀ (i : Nat) (row : List PV), rows[i]? = some row → row.length = sz) ∧
   (∀ (i : Nat) (row : List PV) (j : Nat) (c : PV), rows[i]? = some row → row[j]? = some c → ∃ ad, A = some ad ∧ w.cell? (ad.add (i * sz + j)) = some (u i j) ∧ ¬ Ow ad.block (ad.off + (i * sz + j))) ∧
   (∀ (i : Nat) (row : List PV) (j : Nat) (c : PV), rows[i]? = some row → row[j]? = some c → Rp Ow w (u i j) c) := by
  cases h with | lst A cap sz full rows u hcap hfull hsz hc hr => exact ⟨A, cap, sz, u, rfl, hcap, hsz, hc, hr⟩
section
variable {ι : Pl} {m : Mem} {w w' : World} {P : Program}
theorem app_some {α : Type} {a b c : List α} (h : app a b = some c) : c = a ++ b ∧ a.length + b.length ≤ 68719476736 := by
  unfold app at h; split at h
  · rename_i hb; cases h; exact ⟨rfl, hb⟩
  · cases h
/-- Rows, and the cells in which they lie one behind the other. -/
def RowsAt (Ow : Nat → Nat → Prop) (w : World) (rows : Rows) (s : Nat) (get : Nat → Option Value) : Prop :=
  ∀ (i j : Nat) (row : List PV) (pv : PV), rows[i]? = some row → row[j]? = some pv → ∃ v, get (i * s + j) = some v ∧ Rp Ow w v pv ∧ v.oneCell' = true
theorem rows_append {Ow : Nat → Nat → Prop} {r q : Rows} {s : Nat} {olds news rest : List Value} (hl : olds.length = r.length * s) (hr : RowsAt Ow w r s (olds[·]?)) (hq : RowsAt Ow w q s (news[·]?)) (hqs : ∀ row ∈ q, row.length = s) (hnl : news.length = q.length * s) (hrs : ∀ row ∈ r, row.length = s) :
    RowsAt Ow w (r ++ q) s ((olds ++ news ++ rest)[·]?) := by
  intro i j row pv hi hj
  by_cases h : i < r.length
  · rw [List.getElem?_append_left h] at hi
    obtain ⟨v, h1, h2, h3⟩ := hr i j row pv hi hj
    have hjs : j < s := by rw [← hrs row (List.mem_of_getElem? hi)]; exact (List.getElem?_eq_some_iff.1 hj).1
    have hlt : i * s + j < olds.length := by rw [hl]; exact row_lt h hjs
    exact ⟨v, by show ((olds ++ news) ++ rest)[i * s + j]? = _; rw [List.append_assoc, List.getElem?_append_left hlt]; exact h1, h2, h3⟩
  · rw [List.getElem?_append_right (by omega)] at hi
    obtain ⟨v, h1, h2, h3⟩ := hq _ j row pv hi hj
    have hil : i - r.length < q.length := (List.getElem?_eq_some_iff.1 hi).1
    have hjs : j < s := by rw [← hqs row (List.mem_of_getElem? hi)]; exact (List.getElem?_eq_some_iff.1 hj).1
    have e : i * s + j = r.length * s + ((i - r.length) * s + j) := by
      have : i = r.length + (i - r.length) := by omega
      conv => lhs; rw [this, Nat.add_mul]
      omega
    have hlt : (i - r.length) * s + j < news.length := by rw [hnl]; exact row_lt hil hjs
    refine ⟨v, ?_, h2, h3⟩
    show ((olds ++ news) ++ rest)[i * s + j]? = _
    rw [e, List.append_assoc, List.getElem?_append_right (by omega), hl, Nat.add_sub_cancel_left, List.getElem?_append_left hlt]; exact h1
theorem Src.rowsAt {x : Value} {q : Rows} {s : Nat} {news : List Value} (h : Src P ι m w x q s news) : RowsAt (Own ι m) w q s (news[·]?) := fun i j row pv hi hj => by
  obtain ⟨v, h1, h2⟩ := h.rel i j row pv hi hj
  exact ⟨v, h1, h2, h2.one⟩
/-- A tip in a block that has just been made. -/
theorem fresh_tip (hM : MemOk ι m w) {k g n' cap s : Nat} {rq : Rows} {vs : Array Value} {t : TypeId} {w' : World} {ob : Ob} (hos : w'.os = w.os) (htape : w'.tape = w.tape) (hout : w'.output = w.output) (hsize : w.heap.size ≤ w'.heap.size) (hblk : ∀ b, b < w.heap.size → w'.heap[b]? = w.heap[b]?)
   (hg : w'.heap[w.heap.size]? = some (.cells vs t (0, 0))) (hcap : rq.length ≤ cap) (hvs : vs.size = cap * s) (hrs : ∀ row ∈ rq, row.length = s) (hr : RowsAt (Own ι m) w rq s (vs.toList[·]?)) (hgen : (ent m k).1 ≤ g)
   (hcomp : g = (ent m k).1 → ∃ n, lk m k = some (g, .tip s n) ∧ n < rq.length) :
   let ca : CA := { blk := w.heap.size, base := some ⟨w.heap.size, 0, none⟩, cap := cap, sz := s }
   MemOk (setι ι k ca) (mset m k (g, .tip s rq.length)) w' ∧ Ext ι m w (setι ι k ca) (mset m k (g, .tip s rq.length)) w' ∧ Ra (setι ι k ca) (mset m k (g, .tip s rq.length)) w' (.slice (some ⟨w.heap.size, 0, none⟩) rq.length cap) (.tip k g rq) := by
  intro ca
  obtain ⟨h1, h2⟩ := upd (k := k) (e := (g, .tip s rq.length)) (ι' := setι ι k ca) hM (setι_other ι k ca) rfl hgen (fun e => by
      obtain ⟨n, hk, hn⟩ := hcomp e
      exact .inr ⟨_, hk, n, rfl, Nat.le_of_lt hn, fun e => absurd e (Nat.ne_of_lt hn)⟩) (fun b o ho => by
      rw [setι_same] at ho
      obtain ⟨ad, h3, h4, _⟩ := ho; cases h3; exact .inr (Nat.le_of_eq h4)) hos htape hout hsize (fun b hb _ => hblk b hb) (fun a ha _ => World.cell?_of_block (w := w) (hblk a.block ha)) (fun he => by
      rw [setι_same]
      exact ⟨rfl, hcap, fun _ => ⟨_, vs, t, rfl, rfl, hg, by show 0 + cap * s ≤ vs.size; omega⟩⟩)
  refine ⟨h1, h2, .tip _ k g rq (by rw [ent_mset]; exact Nat.le_refl _) ?_ fun s' n hk => ?_⟩
  · refine .lst _ cap s false rq (fun i j => vs.toList.getD (i * s + j) undef) hcap (by simp) (fun i row hi => hrs row (List.mem_of_getElem? hi)) (fun i row j c hi hj => ?_) (fun i row j c hi hj => ?_)
    · obtain ⟨v, hv0, h3, h4⟩ := hr i j row c hi hj
      have hv : vs.toList[i * s + j]? = some v := hv0
      refine ⟨_, rfl, ?_, ?_⟩
      · rw [add_mk, Nat.zero_add]
        simp only [World.cell?, hg]
        have : vs[i * s + j]? = some v := by simpa using hv
        rw [List.getD_eq_getElem?_getD, hv]; simpa using this
      · rintro (hx | ⟨k', g', ob', hk', ho⟩)
        · have := hM.xlt _ _ hx; simp at this
        rw [lk_mset] at hk'
        split at hk'
        · rename_i e; subst e; cases hk'
          rw [setι_same] at ho
          obtain ⟨ad, h5, h6, h7, h8⟩ := ho
          cases h5
          have hil : i < rq.length := (List.getElem?_eq_some_iff.1 hi).1
          have hjs : j < s := by rw [← hrs row (List.mem_of_getElem? hi)]; exact (List.getElem?_eq_some_iff.1 hj).1
          have := row_lt hil hjs
          simp only [ca] at h7
          omega
        · rename_i hne
          rw [setι_other _ _ _ _ (Ne.symm hne)] at ho
          have := own_lt (hM.ok k' g' ob' hk') ho
          simp at this
    · obtain ⟨v, hv0, h3, h4⟩ := hr i j row c hi hj
      have hv : vs.toList[i * s + j]? = some v := hv0
      show Rp _ _ (vs.toList.getD (i * s + j) undef) c
      rw [List.getD_eq_getElem?_getD, hv]; exact h3.mono h2.evoX
  · rw [lk_mset, if_pos rfl] at hk; cases hk
    refine ⟨Nat.le_refl _, fun _ => ⟨by rw [setι_same], fun row hrow => by rw [setι_same]; exact hrs row hrow⟩⟩
/-- Own rows in a block that has just been made. -/
theorem fresh_buf (hM : MemOk ι m w) {k cap s : Nat} {rq : Rows} {vs : Array Value} {t : TypeId} {w' : World} (hos : w'.os = w.os) (htape : w'.tape = w.tape) (hout : w'.output = w.output) (hsize : w.heap.size ≤ w'.heap.size) (hblk : ∀ b, b < w.heap.size → w'.heap[b]? = w.heap[b]?)
   (hg : w'.heap[w.heap.size]? = some (.cells vs t (0, 0))) (hcap : rq.length ≤ cap) (hvs : vs.size = cap * s) (hrs : ∀ row ∈ rq, row.length = s) (hr : RowsAt (Own ι m) w rq s (vs.toList[·]?)) :
   let ca : CA := { blk := w.heap.size, base := some ⟨w.heap.size, 0, none⟩, cap := cap, sz := s }
   MemOk (setι ι k ca) (mset m k ((ent m k).1 + 1, .buf s rq)) w' ∧ Ext ι m w (setι ι k ca) (mset m k ((ent m k).1 + 1, .buf s rq)) w' ∧ Ra (setι ι k ca) (mset m k ((ent m k).1 + 1, .buf s rq)) w' (.slice (some ⟨w.heap.size, 0, none⟩) rq.length cap) (.buf k ((ent m k).1 + 1) 0 rq.length) := by
  intro ca
  obtain ⟨h1, h2⟩ := upd_fresh (w' := w') hM k ca (.buf s rq) hos htape hout hsize hblk (fun b o ho => by
      obtain ⟨ad, h3, h4⟩ := ho; cases h3; exact Nat.le_of_eq h4) (fun he => by
      refine ⟨rfl, hcap, by simp [ca], hrs, fun ad had => ?_⟩
      cases had
      refine ⟨rfl, rfl, vs, t, hg, hvs, fun i j row pv hi hj => ?_⟩
      obtain ⟨v, hv, h3, h4⟩ := hr i j row pv hi hj
      exact ⟨v, by simpa using hv, h3.mono he.evoX, h4⟩)
  refine ⟨h1, h2, .buf _ k _ 0 _ rfl (by rw [ent_mset]; exact Nat.le_refl _) fun s' rows' hk => ?_⟩
  rw [lk_mset, if_pos rfl] at hk; cases hk
  exact ⟨by simp, _, by rw [setι_same]; rfl, fun _ => by rw [setι_same]; show _ = some (Addr.add _ (0 * s)); rw [Nat.zero_mul]; rfl⟩
theorem zc_size (z : Array Value) (n : Nat) : (Builtin.zeroCells z n).size = n * z.size := by simp [Builtin.zeroCells]
/-- append to rows that stand, and whose room is used up. -/
theorem appN_run {t tx ty : TypeId} {d sz : Nat} {hb : Bool} {A : Option Addr} {x : Value} {r q : Rows} {ax av : AV} {ob : Option (Nat × Ob)} (hM : MemOk ι m w) (hv : Rp (Own ι m) w (.slice A r.length r.length) (.lst false r)) (hx : Ra ι m w x ax) (hq : rowsB ax = some q)
   (hs : sliceOf P t = some sz) (htx : notIntT P tx = true) (h : appN hb sz d r (ent m d).1 q = some (av, ob)) :
   ∃ e' cv w' ι', ob = some e' ∧ (Builtin.append_ #[t, tx] ty #[.slice A r.length r.length, x]).run P w = .ok cv w' ∧ MemOk ι' (mset m d e') w' ∧ Ext ι m w ι' (mset m d e') w' ∧ Ra ι' (mset m d e') w' cv av := by
  unfold appN at h
  obtain ⟨rq, hrq, h⟩ := Option.bind_eq_some_iff.mp h
  obtain ⟨hok, h⟩ := bif_none h
  obtain ⟨rfl, hlim⟩ := app_some hrq
  rw [rowsOk_app, Bool.and_eq_true] at hok
  obtain ⟨e, i, z, hu, hi, hsize, hbytes, hz, hzs⟩ := sliceOf_more hs
  obtain ⟨olds, ho⟩ := src_rows (P := P) hv hok.1
  obtain ⟨news, hn⟩ := src_of (P := P) hx hq hok.2
  have hrs := rowsOk_spec hok.1
  have hqs := rowsOk_spec hok.2
  have hall : ∀ row ∈ r ++ q, row.length = sz := fun row h => (List.mem_append.mp h).elim (hrs row) (hqs row)
  by_cases hq0 : q.length = 0
  · have hnil : q = [] := List.eq_nil_of_length_eq_zero hq0
    subst hnil
    have hnews : news = [] := List.eq_nil_of_length_eq_zero (by simpa using hn.len)
    subst hnews
    have hrun := app_room (ty := ty) (sCap := r.length) (base := A) (w' := w) hu hi htx (by rw [hsize]; exact hn) (Nat.le_refl _) (fun a _ => rfl) (fun _ => rfl)
    simp only [List.length_nil, Nat.add_zero, List.append_nil] at hrun h
    cases hh : (hb && r.isEmpty) <;> rw [hh] at h
    · cases h
      let ca : CA := { blk := 0, base := A, cap := r.length, sz := sz }
      obtain ⟨h1, h2⟩ := upd_fresh (w' := w) hM d ca (.tip sz r.length) rfl rfl rfl (Nat.le_refl _) (fun _ _ => rfl) (fun b o ho => by
        obtain ⟨ad, _, _, h3, h4⟩ := ho; simp only [ca] at h3 h4; omega) (fun he => ⟨rfl, Nat.le_refl _, fun hlt => absurd hlt (Nat.lt_irrefl _)⟩)
      refine ⟨_, _, w, _, rfl, hrun, h1, h2, .tip _ d _ r (by rw [ent_mset]; exact Nat.le_refl _) (hv.mono h2.evoX) fun s' n hk => ?_⟩
      rw [lk_mset, if_pos rfl] at hk; cases hk
      exact ⟨Nat.le_refl _, fun _ => ⟨by rw [setι_same], fun row hrow => by rw [setι_same]; exact hrs row hrow⟩⟩
    · cases h
      rw [Bool.and_eq_true] at hh
      have hr0 : r = [] := by simpa using hh.2
      subst hr0
      let ca : CA := { blk := 0, base := none, cap := 0, sz := sz }
      obtain ⟨h1, h2⟩ := upd_fresh (w' := w) hM d ca (.buf sz []) rfl rfl rfl (Nat.le_refl _) (fun _ _ => rfl) (fun b o ho => by
        obtain ⟨ad, h3, _⟩ := ho; cases h3) (fun he => ⟨rfl, Nat.zero_le _, fun _ => rfl, by simp, fun ad had => by cases had⟩)
      refine ⟨_, _, w, _, rfl, hrun, h1, h2, .buf _ d _ 0 _ rfl (by rw [ent_mset]; exact Nat.le_refl _) fun s' rows' hk => ?_⟩
      rw [lk_mset, if_pos rfl] at hk; cases hk
      exact ⟨Nat.le_refl _, A, by rw [setι_same]; rfl, fun hlt => by rw [setι_same] at hlt; exact absurd hlt (Nat.lt_irrefl _)⟩
  · have hrun := app_grow (ty := ty) (sCap := r.length) (base := A) hu hi hz hbytes htx (by rw [hsize]; exact hn) (by omega) hlim (by rw [hsize]; exact ho.cells)
    have hge := grownCap_ge w (r.length + q.length) r.length e
    generalize hcapd : grownCap w (r.length + q.length) r.length e = cap at hrun hge
    let vs : Array Value := olds.toArray ++ news.toArray ++ Builtin.zeroCells z.cells (cap - (r.length + q.length))
    have hvs : vs.size = cap * sz := by
      simp only [vs, Array.size_append, List.size_toArray, ho.len, hn.len, zc_size, hzs, ← Nat.add_mul]
      congr 1; omega
    have hvl : vs.toList = olds ++ news ++ (Builtin.zeroCells z.cells (cap - (r.length + q.length))).toList := by simp [vs]
    have hat : RowsAt (Own ι m) w (r ++ q) sz (vs.toList[·]?) := by rw [hvl]; exact rows_append ho.len ho.rowsAt hn.rowsAt hqs hn.len hrs
    have hblk : ∀ b, b < w.heap.size → (w.drew.alloc (.cells vs e)).heap[b]? = w.heap[b]? := fun b hb => (Array.getElem?_push_lt hb).trans (Array.getElem?_eq_getElem hb).symm
    have hsz : w.heap.size ≤ (w.drew.alloc (.cells vs e)).heap.size := by show w.heap.size ≤ (w.heap.push _).size; simp
    have hnew : (w.drew.alloc (.cells vs e)).heap[w.heap.size]? = some (.cells vs e (0, 0)) := _root_.Go.heap_alloc_new w.drew _
    have hlen : (r ++ q).length = r.length + q.length := List.length_append
    cases hh : (hb && r.isEmpty) <;> rw [hh] at h
    · cases h
      obtain ⟨h1, h2, h3⟩ := fresh_tip (k := d) (g := (ent m d).1 + 1) (ob := .gone) (n' := 0) (w' := w.drew.alloc (.cells vs e)) (cap := cap) (s := sz) (rq := r ++ q) hM rfl rfl rfl hsz hblk hnew (by rw [hlen]; exact hge) hvs hall hat (Nat.le_succ _) (fun h => absurd h (by simp))
      exact ⟨_, _, _, _, rfl, hrun, h1, h2, by rw [hlen] at h3 ⊢; exact h3⟩
    · cases h
      obtain ⟨h1, h2, h3⟩ := fresh_buf (k := d) (w' := w.drew.alloc (.cells vs e)) (cap := cap) (s := sz) (rq := r ++ q) hM rfl rfl rfl hsz hblk hnew (by rw [hlen]; exact hge) hvs hall hat
      exact ⟨_, _, _, _, rfl, hrun, h1, h2, by rw [hlen] at h3 ⊢; exact h3⟩
theorem cell_row_out {b o l : Nat} {vs : Array Value} {t : TypeId} {news : List Value} (hg : w.heap[b]? = some (.cells vs t (0, 0))) (hl : o + news.length ≤ vs.size) (a : Addr) (hn : a.block = b → ¬ (o ≤ a.off ∧ a.off < o + news.length)) :
    (w.setRow b (vs.toList.take o ++ news ++ vs.toList.drop (o + news.length)).toArray).cell? a = w.cell? a := by
  by_cases h : a.block = b
  · simp only [World.cell?, h, setRow_heap w b vs _ t _ hg, hg]
    rw [List.getElem?_toArray, seg_get _ _ _ (by simpa using hl), if_neg (hn h)]; simp
  · exact cell_setRow_other w _ _ a h
theorem cell_row_in {b o : Nat} {vs : Array Value} {t : TypeId} {news : List Value} (hg : w.heap[b]? = some (.cells vs t (0, 0))) (hl : o + news.length ≤ vs.size) (j : Nat) (hj : j < news.length) :
    (w.setRow b (vs.toList.take o ++ news ++ vs.toList.drop (o + news.length)).toArray).cell? ⟨b, o + j, none⟩ = news[j]? := by
  simp only [World.cell?, setRow_heap w b vs _ t _ hg]
  rw [noSpot, List.getElem?_toArray, seg_get _ _ _ (by simpa using hl), if_pos ⟨by omega, by omega⟩, Nat.add_sub_cancel_left]
/-- append to rows of which the function holds the end. -/
theorem tip_run {t tx ty : TypeId} {k gn sz : Nat} {x v : Value} {r q rq : Rows} {ax : AV} (hM : MemOk ι m w) (hv : Ra ι m w v (.tip k gn r)) (hk : lk m k = some (gn, .tip sz r.length)) (hx : Ra ι m w x ax) (hq : rowsB ax = some q)
   (hs : sliceOf P t = some sz) (htx : notIntT P tx = true) (hrq : app r q = some rq) (hok : rowsOk sz rq = true) :
   ∃ cv w' ι', (Builtin.append_ #[t, tx] ty #[v, x]).run P w = .ok cv w' ∧ MemOk ι' (mset m k (gn, .tip sz rq.length)) w' ∧ Ext ι m w ι' (mset m k (gn, .tip sz rq.length)) w' ∧ Ra ι' (mset m k (gn, .tip sz rq.length)) w' cv (.tip k gn rq) := by
  obtain ⟨rfl, hlim⟩ := app_some hrq
  rw [rowsOk_app, Bool.and_eq_true] at hok
  obtain ⟨e, i, z, hu, hi, hsize, hbytes, hz, hzs⟩ := sliceOf_more hs
  have hrs := rowsOk_spec hok.1
  have hqs := rowsOk_spec hok.2
  have hall : ∀ row ∈ r ++ q, row.length = sz := fun row h => (List.mem_append.mp h).elim (hrs row) (hqs row)
  obtain ⟨news, hn⟩ := src_of (P := P) hx hq hok.2
  obtain ⟨hsz, hcap, hblkt⟩ := hM.ok k gn _ hk
  have hlen : (r ++ q).length = r.length + q.length := List.length_append
  cases hv with
  | tip _ _ _ _ hg hp hclaim =>
  obtain ⟨_, hcl⟩ := hclaim sz r.length hk
  obtain ⟨hveq, hrsz⟩ := hcl rfl
  have hent := ent_of_lk hk
  obtain ⟨olds, ho⟩ := src_rows (P := P) hp hok.1
  rw [hveq] at ho hp ⊢
  by_cases hroom : r.length + q.length ≤ (ι k).cap
  · -- in place
    have hbase : 0 < news.length → ∃ ad vs ty', (ι k).base = some ad ∧ ad.spot = none ∧ w.heap[ad.block]? = some (.cells vs ty' (0, 0)) ∧ ad.off + (ι k).cap * sz ≤ vs.size := fun h0 => by
      rw [hn.len] at h0
      have : 0 < sz := Nat.pos_of_ne_zero fun h => by subst h; simp at h0
      have hq0 : 0 < q.length := Nat.pos_of_ne_zero fun h => by rw [h] at h0; simp at h0
      obtain ⟨ad, vs, ty', h1, h2, h3, h4⟩ := hblkt (Nat.mul_lt_mul_of_pos_right (by omega) (by rw [hsz]; exact this))
      exact ⟨ad, vs, ty', h1, h2, h3, by rw [← hsz]; exact h4⟩
    have hfit : (r.length + q.length) * sz ≤ (ι k).cap * sz := Nat.mul_le_mul_right _ hroom
    rw [Nat.add_mul] at hfit
    -- the world behind it
    have hex : ∃ w', (∀ a, (ι k).base = some a → (storeCells (a.add (r.length * i.size)) news).run P w = .ok () w') ∧ ((ι k).base = none → w' = w) ∧ w'.os = w.os ∧ w'.tape = w.tape ∧ w'.output = w.output ∧ w'.heap.size = w.heap.size ∧
        (∀ b, (∀ o, ¬ OwnK (ι k) (.tip sz r.length) b o) → w'.heap[b]? = w.heap[b]?) ∧ (∀ a : Addr, ¬ OwnK (ι k) (.tip sz r.length) a.block a.off → w'.cell? a = w.cell? a) ∧
        (∀ ad j, (ι k).base = some ad → j < news.length → w'.cell? (ad.add (r.length * sz + j)) = news[j]?) ∧
        (∀ ad vs ty', (ι k).base = some ad → w.heap[ad.block]? = some (.cells vs ty' (0, 0)) → ∃ vs', w'.heap[ad.block]? = some (.cells vs' ty' (0, 0)) ∧ vs'.size = vs.size) := by
      by_cases h0 : 0 < news.length
      · obtain ⟨ad, vs, ty', h1, h2, h3, h4⟩ := hbase h0
        have hl : ad.off + r.length * sz + news.length ≤ vs.size := by rw [hn.len]; omega
        have hown : OwnK (ι k) (.tip sz r.length) ad.block (ad.off + r.length * sz) := ⟨ad, h1, rfl, by rw [hsz]; exact Nat.le_refl _, by rw [hsz]; rw [hn.len] at h0; omega⟩
        have hadd : ad.add (r.length * i.size) = ⟨ad.block, ad.off + r.length * sz, none⟩ := by
          obtain ⟨bl, of, sp⟩ := ad
          simp only at h2; subst h2
          rw [add_mk, hsize]
        have hrunS := run_storeCells_at P ad.block (ad.off + r.length * sz) ty' news 0 vs w h3 (by simpa using hl) hn.one
        simp only [Nat.add_zero] at hrunS
        refine ⟨w.setRow ad.block (vs.toList.take (ad.off + r.length * sz) ++ news ++ vs.toList.drop (ad.off + r.length * sz + news.length)).toArray, fun a ha => ?_, (fun hb => by rw [h1] at hb; cases hb), rfl, rfl, rfl, by simp, fun b hb => setRow_other w _ _ _ fun e => hb (ad.off + r.length * sz) (by rw [e]; exact hown), fun a ha => cell_row_out (l := 0) h3 hl a fun e hin => ha ⟨ad, h1, e.symm, by rw [hsz]; omega, by rw [hsz]; rw [hn.len] at hin; omega⟩, fun ad' j had hj => ?_, fun ad' vs' t' had hh => ?_⟩
        · rw [h1] at ha; cases ha; rw [hadd]; exact hrunS
        · rw [h1] at had; cases had
          have : ad.add (r.length * sz + j) = ⟨ad.block, ad.off + r.length * sz + j, none⟩ := by
            obtain ⟨bl, of, sp⟩ := ad
            simp only at h2; subst h2
            rw [add_mk, Nat.add_assoc]
          rw [this]; exact cell_row_in h3 hl j hj
        · rw [h1] at had; cases had
          rw [h3] at hh; cases hh
          exact ⟨_, setRow_heap w _ vs _ ty' _ h3, by simp; omega⟩
      · have hnil : news = [] := List.eq_nil_of_length_eq_zero (by omega)
        subst hnil
        exact ⟨w, fun a _ => rfl, fun _ => rfl, rfl, rfl, rfl, rfl, fun _ _ => rfl, fun _ _ => rfl, fun _ j _ hj => absurd hj (by simp), fun ad vs ty' _ h => ⟨vs, h, rfl⟩⟩
    obtain ⟨w', hst, hno, hos, htape, hout, hsz', hblk, hcell, hin, hrow⟩ := hex
    have hrun := app_room (ty := ty) hu hi htx (by rw [hsize]; exact hn) hroom w' hst hno
    obtain ⟨hM', he⟩ := upd (k := k) (e := (gn, .tip sz (r ++ q).length)) (ι' := ι) (w' := w') hM (fun _ _ => rfl) rfl (by rw [hent]; exact Nat.le_refl _) (fun _ => .inr ⟨_, hk, r.length, rfl, by rw [hlen]; omega, fun _ => rfl⟩) (fun b o ho => by
        rw [hent]
        obtain ⟨ad, h1, h2, h3, h4⟩ := ho
        refine .inl ⟨ad, h1, h2, ?_, h4⟩
        rw [hlen, Nat.add_mul] at h3; omega) hos htape hout (by omega) (fun b _ hn => hblk b (by rw [hent] at hn; exact hn)) (fun a _ hn => hcell a (by rw [hent] at hn; exact hn)) (fun he => by
        refine ⟨hsz, by rw [hlen]; exact hroom, fun hlt => ?_⟩
        rw [hlen, hsz] at hlt
        obtain ⟨ad, vs, ty', h1, h2, h3, h4⟩ := hblkt (by rw [hsz]; rw [Nat.add_mul] at hlt; omega)
        obtain ⟨vs', h5, h6⟩ := hrow ad vs ty' h1 h3
        exact ⟨ad, vs', ty', h1, h2, h5, by omega⟩)
    refine ⟨_, w', ι, hrun, hM', he, .tip _ k gn _ (by rw [ent_mset]; exact Nat.le_refl _) ?_ fun s' n hk' => ?_⟩
    · rw [← hlen]
      obtain ⟨A, cap0, sz0, u, hA, hcap0, hsz0, hc0, hr0⟩ := hp.inv
      obtain ⟨hA1, _, hA2⟩ := Value.slice.inj hA
      subst hA1
      · refine .lst _ _ sz false _ (fun i j => if i < r.length then u i j else news.getD ((i - r.length) * sz + j) undef) (by rw [hlen]; exact hroom) (by simp) (fun i row hi => hall row (List.mem_of_getElem? hi)) (fun i row j c hi hj => ?_) (fun i row j c hi hj => ?_)
        · by_cases hil : i < r.length
          · rw [List.getElem?_append_left hil] at hi
            obtain ⟨ad, h1, h2, h3⟩ := hc0 i row j c hi hj
            have e1 := hsz0 i row hi
            have e2 := hrs row (List.mem_of_getElem? hi)
            have : sz0 = sz := by omega
            subst this
            rw [if_pos hil]
            have hlt := cell_lt h2
            rw [add_block] at hlt
            refine ⟨ad, h1, ?_, fun hown => ?_⟩
            · rw [he.evoX.cell _ (by rw [add_block]; exact hlt) (by rw [add_block, add_off]; exact h3)]; exact h2
            · rcases he.evoX.own _ _ hown with h | h
              · exact h3 h
              · omega
          · rw [List.getElem?_append_right (by omega)] at hi
            have hql : i - r.length < q.length := (List.getElem?_eq_some_iff.1 hi).1
            have hjs : j < sz := by rw [← hqs row (List.mem_of_getElem? hi)]; exact (List.getElem?_eq_some_iff.1 hj).1
            have hlt : (i - r.length) * sz + j < news.length := by rw [hn.len]; exact row_lt hql hjs
            obtain ⟨ad, vs, ty', h1, h2, h3, h4⟩ := hbase (by omega)
            have e : i * sz + j = r.length * sz + ((i - r.length) * sz + j) := by
              have : i = r.length + (i - r.length) := by omega
              conv => lhs; rw [this, Nat.add_mul]
              omega
            rw [if_neg hil]
            refine ⟨ad, h1, ?_, fun hown => ?_⟩
            · rw [e, hin ad _ h1 hlt, List.getD_eq_getElem?_getD, List.getElem?_eq_getElem hlt]; rfl
            · have hown1 : OwnK (ι k) (.tip sz r.length) ad.block (ad.off + r.length * sz) := ⟨ad, h1, rfl, by rw [hsz]; exact Nat.le_refl _, by rw [hsz]; rw [hn.len] at hlt; omega⟩
              rcases hown with hx | ⟨k', g', ob', hk', ho'⟩
              · exact hM.xapart k gn _ ad.block _ _ hk hown1 hx
              rw [lk_mset] at hk'
              split at hk'
              · rename_i e'; subst e'; cases hk'
                obtain ⟨ad', h5, h6, h7, h8⟩ := ho'
                rw [h1] at h5; cases h5
                rw [hlen, hsz] at h7
                have h9 := row_lt hql hjs
                rw [Nat.add_mul] at h7
                omega
              · rename_i hne
                have hown1 : OwnK (ι k) (.tip sz r.length) ad.block (ad.off + r.length * sz) := ⟨ad, h1, rfl, by rw [hsz]; exact Nat.le_refl _, by rw [hsz]; rw [hn.len] at hlt; omega⟩
                exact hne (hM.apart k k' gn g' _ ob' ad.block _ _ hk hk' hown1 ho')
        · by_cases hil : i < r.length
          · rw [List.getElem?_append_left hil] at hi
            show Rp _ _ (if i < r.length then u i j else _) c
            rw [if_pos hil]; exact (hr0 i row j c hi hj).mono he.evoX
          · rw [List.getElem?_append_right (by omega)] at hi
            obtain ⟨v', h1, h2⟩ := hn.rel _ j row c hi hj
            show Rp _ _ (if i < r.length then u i j else _) c
            rw [if_neg hil, List.getD_eq_getElem?_getD, h1]; exact h2.mono he.evoX
    · rw [lk_mset, if_pos rfl] at hk'; cases hk'
      refine ⟨Nat.le_refl _, fun _ => ⟨by rw [hlen], fun row hrow => by rw [hsz]; exact hall row hrow⟩⟩
  · -- grown
    have hrun := app_grow (ty := ty) (sCap := (ι k).cap) (base := (ι k).base) hu hi hz hbytes htx (by rw [hsize]; exact hn) (by omega) hlim (by rw [hsize]; exact ho.cells)
    have hge := grownCap_ge w (r.length + q.length) (ι k).cap e
    generalize hcapd : grownCap w (r.length + q.length) (ι k).cap e = cap at hrun hge
    let vs : Array Value := olds.toArray ++ news.toArray ++ Builtin.zeroCells z.cells (cap - (r.length + q.length))
    have hvs : vs.size = cap * sz := by
      simp only [vs, Array.size_append, List.size_toArray, ho.len, hn.len, zc_size, hzs, ← Nat.add_mul]
      congr 1; omega
    have hvl : vs.toList = olds ++ news ++ (Builtin.zeroCells z.cells (cap - (r.length + q.length))).toList := by simp [vs]
    have hat : RowsAt (Own ι m) w (r ++ q) sz (vs.toList[·]?) := by rw [hvl]; exact rows_append ho.len ho.rowsAt hn.rowsAt hqs hn.len hrs
    have hblk : ∀ b, b < w.heap.size → (w.drew.alloc (.cells vs e)).heap[b]? = w.heap[b]? := fun b hb => (Array.getElem?_push_lt hb).trans (Array.getElem?_eq_getElem hb).symm
    have hszw : w.heap.size ≤ (w.drew.alloc (.cells vs e)).heap.size := by show w.heap.size ≤ (w.heap.push _).size; simp
    have hnew : (w.drew.alloc (.cells vs e)).heap[w.heap.size]? = some (.cells vs e (0, 0)) := _root_.Go.heap_alloc_new w.drew _
    obtain ⟨h1, h2, h3⟩ := fresh_tip (k := k) (g := gn) (ob := .gone) (n' := 0) (w' := w.drew.alloc (.cells vs e)) (cap := cap) (s := sz) (rq := r ++ q) hM rfl rfl rfl hszw hblk hnew (by rw [hlen]; exact hge) hvs hall hat (by rw [hent]; exact Nat.le_refl _) (fun _ => ⟨r.length, hk, by rw [hlen]; omega⟩)
    exact ⟨_, _, _, hrun, h1, h2, by rw [hlen] at h3 ⊢; exact h3⟩
end
end Go.Ab
