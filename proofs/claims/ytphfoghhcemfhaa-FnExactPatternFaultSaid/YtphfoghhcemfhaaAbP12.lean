/- append to rows of the function's own; every operation. -/
import Derived.Test.YtphfoghhcemfhaaAbP11
namespace Go.Ab
set_option linter.unusedVariables false
set_option linter.unusedSimpArgs false
section
variable {ι : Pl} {m : Mem} {w w' : World} {P : Program}
theorem buf_run {t tx ty : TypeId} {k gn n sz : Nat} {x v : Value} {rows q rq : Rows} {ax : AV} (hM : MemOk ι m w) (hv : Ra ι m w v (.buf k gn 0 n)) (hk : lk m k = some (gn, .buf sz rows)) (hx : Ra ι m w x ax) (hq : rowsB ax = some q)
   (hs : sliceOf P t = some sz) (htx : notIntT P tx = true) (hrq : app (rows.take n) q = some rq) (hok : rowsOk sz rq = true) :
   ∃ cv w' ι', (Builtin.append_ #[t, tx] ty #[v, x]).run P w = .ok cv w' ∧ MemOk ι' (mset m k (gn + 1, .buf sz rq)) w' ∧ Ext ι m w ι' (mset m k (gn + 1, .buf sz rq)) w' ∧ Ra ι' (mset m k (gn + 1, .buf sz rq)) w' cv (.buf k (gn + 1) 0 rq.length) := by
  obtain ⟨rfl, hlim⟩ := app_some hrq
  rw [rowsOk_app, Bool.and_eq_true] at hok
  obtain ⟨e, i, z, hu, hi, hsize, hbytes, hz, hzs⟩ := sliceOf_more hs
  have hrs := rowsOk_spec hok.1
  have hqs := rowsOk_spec hok.2
  have hall : ∀ row ∈ rows.take n ++ q, row.length = sz := fun row h => (List.mem_append.mp h).elim (hrs row) (hqs row)
  obtain ⟨news, hn⟩ := src_of (P := P) hx hq hok.2
  obtain ⟨hsz, hcap, hnone, hrl, hbuf⟩ := hM.ok k gn _ hk
  obtain ⟨h2, A, hve, hA⟩ := hv.bufv hk
  rw [Nat.zero_add] at h2
  have htl : (rows.take n).length = n := by simp; omega
  have hlen : (rows.take n ++ q).length = n + q.length := by rw [List.length_append, htl]
  rw [htl] at hlim
  have hent := ent_of_lk hk
  have hA' : 0 < (ι k).cap → A = (ι k).base := fun h => by
    rw [hA h]; cases (ι k).base with
    | none => rfl
    | some ad => show some (Addr.add ad (0 * _)) = _; rw [Nat.zero_mul]; rfl
  rw [hve, Nat.sub_zero]
  by_cases hroom : n + q.length ≤ (ι k).cap
  · have hbase : 0 < news.length → ∃ ad vs ty', A = some ad ∧ (ι k).base = some ad ∧ ad.off = 0 ∧ ad.spot = none ∧ w.heap[ad.block]? = some (.cells vs ty' (0, 0)) ∧ vs.size = (ι k).cap * sz ∧ RowsAt (Own ι m) w rows sz (vs[·]?) := fun h0 => by
      rw [hn.len] at h0
      have hq0 : 0 < q.length := Nat.pos_of_ne_zero fun h => by rw [h] at h0; simp at h0
      have hc0 : 0 < (ι k).cap := by omega
      cases hb : (ι k).base with
      | none => have := hnone hb; omega
      | some ad =>
        obtain ⟨h3, h4, vs, ty', h5, h6, h7⟩ := hbuf ad hb
        exact ⟨ad, vs, ty', by rw [hA' hc0, hb], rfl, h3, h4, h5, by rw [← hsz]; exact h6, by rw [← hsz]; exact h7⟩
    have hfit : (n + q.length) * sz ≤ (ι k).cap * sz := Nat.mul_le_mul_right _ hroom
    rw [Nat.add_mul] at hfit
    by_cases h0 : 0 < news.length
    · obtain ⟨ad, vs, ty', h1, hb, h3, h4, h5, h6, h7⟩ := hbase h0
      obtain ⟨bl, of, sp⟩ := ad
      simp only at h3 h4 h5
      subst h3; subst h4
      have hl : n * sz + news.length ≤ vs.size := by rw [hn.len, h6]; exact hfit
      have hrunS := run_storeCells_at P bl (n * sz) ty' news 0 vs w h5 (by simpa using hl) hn.one
      simp only [Nat.add_zero] at hrunS
      have hrun := app_room (ty := ty) (base := A) (sLen := n) (sCap := (ι k).cap) hu hi htx (by rw [hsize]; exact hn) hroom _ (fun a ha => by
        rw [h1] at ha; cases ha; rw [add_mk, Nat.zero_add, hsize]; exact hrunS) (fun h => by rw [h1] at h; cases h)
      have hown0 : ∀ o, OwnK (ι k) (.buf sz rows) bl o := fun o => ⟨_, hb, rfl⟩
      obtain ⟨hM', he⟩ := upd (k := k) (e := (gn + 1, .buf sz (rows.take n ++ q))) (ι' := ι) (w' := w.setRow bl (vs.toList.take (n * sz) ++ news ++ vs.toList.drop (n * sz + news.length)).toArray) hM (fun _ _ => rfl) rfl (by rw [hent]; exact Nat.le_succ _) (fun h => by rw [hent] at h; simp at h) (fun b o ho => by
          rw [hent]; exact .inl ho) rfl rfl rfl (by simp) (fun b _ hn => setRow_other w _ _ _ fun e => hn 0 (by rw [hent, e]; exact hown0 0)) (fun a _ hn => cell_setRow_other w _ _ _ fun e => hn (by rw [hent, e]; exact hown0 _)) (fun he => by
          refine ⟨hsz, by rw [hlen]; exact hroom, hnone, fun row hrow => by rw [hsz]; exact hall row hrow, fun ad' had' => ?_⟩
          rw [hb] at had'; cases had'
          refine ⟨rfl, rfl, _, ty', setRow_heap w _ vs _ ty' _ h5, by rw [hsz, ← h6]; simp; omega, fun i' j row pv hr hj => ?_⟩
          rw [hsz, List.getElem?_toArray, seg_get _ _ _ (by simpa using hl)]
          by_cases hil : i' < n
          · rw [List.getElem?_append_left (by omega), List.getElem?_take_of_lt hil] at hr
            obtain ⟨v', h8, h9, h10⟩ := h7 i' j row pv hr hj
            have hjs : j < sz := by rw [← hsz, ← hrl row (List.mem_of_getElem? hr)]; exact (List.getElem?_eq_some_iff.1 hj).1
            have := row_lt hil hjs
            rw [if_neg (by omega)]
            exact ⟨v', by simpa using h8, h9.mono he.evoX, h10⟩
          · rw [List.getElem?_append_right (by omega), htl] at hr
            obtain ⟨v', h8, h9⟩ := hn.rel _ j row pv hr hj
            have hql : i' - n < q.length := (List.getElem?_eq_some_iff.1 hr).1
            have hjs : j < sz := by rw [← hqs row (List.mem_of_getElem? hr)]; exact (List.getElem?_eq_some_iff.1 hj).1
            have hlt : (i' - n) * sz + j < news.length := by rw [hn.len]; exact row_lt hql hjs
            have e1 : i' * sz + j = n * sz + ((i' - n) * sz + j) := by
              have : i' = n + (i' - n) := by omega
              conv => lhs; rw [this, Nat.add_mul]
              omega
            rw [if_pos ⟨by omega, by omega⟩, e1, Nat.add_sub_cancel_left]
            exact ⟨v', h8, h9.mono he.evoX, h9.one⟩)
      refine ⟨_, _, ι, hrun, hM', he, .buf _ k _ 0 _ rfl (by rw [ent_mset]; exact Nat.le_refl _) fun s' rows' hk' => ?_⟩
      rw [lk_mset, if_pos rfl] at hk'; cases hk'
      exact ⟨by rw [Nat.zero_add]; exact Nat.le_refl _, A, by rw [hlen]; rfl, fun hc => by rw [hA' hc, hb]; show _ = some (Addr.add _ (0 * _)); rw [Nat.zero_mul]; rfl⟩
    · have hnil : news = [] := List.eq_nil_of_length_eq_zero (by omega)
      subst hnil
      have hrun := app_room (ty := ty) (base := A) (sLen := n) (sCap := (ι k).cap) hu hi htx (by rw [hsize]; exact hn) hroom w (fun a ha => rfl) (fun _ => rfl)
      obtain ⟨hM', he⟩ := upd (k := k) (e := (gn + 1, .buf sz (rows.take n ++ q))) (ι' := ι) (w' := w) hM (fun _ _ => rfl) rfl (by rw [hent]; exact Nat.le_succ _) (fun h => by rw [hent] at h; simp at h) (fun b o ho => by
          rw [hent]; exact .inl ho) rfl rfl rfl (Nat.le_refl _) (fun _ _ _ => rfl) (fun _ _ _ => rfl) (fun he => by
          refine ⟨hsz, by rw [hlen]; exact hroom, hnone, fun row hrow => by rw [hsz]; exact hall row hrow, fun ad' had' => ?_⟩
          obtain ⟨h3, h4, vs, ty', h5, h6, h7⟩ := hbuf ad' had'
          refine ⟨h3, h4, vs, ty', h5, h6, fun i' j row pv hr hj => ?_⟩
          by_cases hil : i' < n
          · rw [List.getElem?_append_left (by omega), List.getElem?_take_of_lt hil] at hr
            obtain ⟨v', h8, h9, h10⟩ := h7 i' j row pv hr hj
            exact ⟨v', h8, h9.mono he.evoX, h10⟩
          · rw [List.getElem?_append_right (by omega), htl] at hr
            obtain ⟨v', h8, h9⟩ := hn.rel _ j row pv hr hj
            simp at h8)
      refine ⟨_, _, ι, hrun, hM', he, .buf _ k _ 0 _ rfl (by rw [ent_mset]; exact Nat.le_refl _) fun s' rows' hk' => ?_⟩
      rw [lk_mset, if_pos rfl] at hk'; cases hk'
      exact ⟨by rw [Nat.zero_add]; exact Nat.le_refl _, A, by rw [hlen]; rfl, fun hc => by rw [hA' hc]; cases (ι k).base with
        | none => rfl
        | some ad => show _ = some (Addr.add _ (0 * _)); rw [Nat.zero_mul]; rfl⟩
  · -- grown
    have hold : ∃ olds : List Value, olds.length = (rows.take n).length * sz ∧ (∀ w2 : World, w2.heap = w.heap → (Builtin.firstCells sz n (.slice A n (ι k).cap)).run P w2 = .ok olds.toArray w2) ∧ RowsAt (Own ι m) w (rows.take n) sz (olds[·]?) := by
      by_cases hc0 : n * sz = 0
      · refine ⟨[], by rw [htl, hc0]; rfl, fun w2 _ => ?_, fun i' j row pv hr hj => ?_⟩
        · cases A with
          | none => simp [Builtin.firstCells]
          | some a => simp only [Builtin.firstCells, hc0]; rfl
        · exfalso
          have hil : i' < n := by have := (List.getElem?_eq_some_iff.1 hr).1; omega
          have hjs : j < sz := by rw [← hrs row (List.mem_of_getElem? hr)]; exact (List.getElem?_eq_some_iff.1 hj).1
          have := row_lt hil hjs; omega
      · have hn0 : 0 < n := Nat.pos_of_ne_zero fun h => hc0 (by rw [h]; simp)
        have hcp : 0 < (ι k).cap := by omega
        cases hb : (ι k).base with
        | none => have := hnone hb; omega
        | some ad =>
          obtain ⟨h3, h4, vs, ty', h5, h6, h7⟩ := hbuf ad hb
          obtain ⟨bl, of, sp⟩ := ad
          simp only at h3 h4 h5
          subst h3; subst h4
          rw [hA' hcp, hb]
          have hvs : n * sz ≤ vs.size := by rw [h6, hsz]; exact Nat.mul_le_mul_right _ (by omega)
          have hlt : (vs.toList.take (n * sz)).length = n * sz := by simp; omega
          refine ⟨vs.toList.take (n * sz), by rw [hlt, htl], fun w2 hw => ?_, fun i' j row pv hr hj => ?_⟩
          · have := run_loadCells_list (P := P) w2 ⟨bl, 0, none⟩ (vs.toList.take (n * sz)) (fun j v hj => by
              rw [cell_heap hw, add_mk, Nat.zero_add]
              have hjl : j < n * sz := by rw [← hlt]; exact (List.getElem?_eq_some_iff.1 hj).1
              rw [List.getElem?_take_of_lt hjl] at hj
              simp only [World.cell?, h5]; simpa using hj)
            rw [hlt] at this
            exact this
          · have hil : i' < n := by have := (List.getElem?_eq_some_iff.1 hr).1; omega
            have hjs : j < sz := by rw [← hrs row (List.mem_of_getElem? hr)]; exact (List.getElem?_eq_some_iff.1 hj).1
            rw [List.getElem?_take_of_lt hil] at hr
            obtain ⟨v', h8, h9, h10⟩ := h7 i' j row pv hr hj
            rw [hsz] at h8
            exact ⟨v', by show (vs.toList.take (n * sz))[i' * sz + j]? = _; rw [List.getElem?_take_of_lt (row_lt hil hjs)]; simpa using h8, h9, h10⟩
    obtain ⟨olds, ho1, ho2, ho3⟩ := hold
    have hrun := app_grow (ty := ty) (sLen := n) (sCap := (ι k).cap) (base := A) hu hi hz hbytes htx (by rw [hsize]; exact hn) (by omega) hlim (by rw [hsize]; exact ho2)
    have hge := grownCap_ge w (n + q.length) (ι k).cap e
    generalize hcapd : grownCap w (n + q.length) (ι k).cap e = cap at hrun hge
    let vs : Array Value := olds.toArray ++ news.toArray ++ Builtin.zeroCells z.cells (cap - (n + q.length))
    have hvs : vs.size = cap * sz := by
      simp only [vs, Array.size_append, List.size_toArray, ho1, htl, hn.len, zc_size, hzs, ← Nat.add_mul]
      congr 1; omega
    have hvl : vs.toList = olds ++ news ++ (Builtin.zeroCells z.cells (cap - (n + q.length))).toList := by simp [vs]
    have hat : RowsAt (Own ι m) w (rows.take n ++ q) sz (vs.toList[·]?) := by rw [hvl]; exact rows_append ho1 ho3 hn.rowsAt hqs hn.len hrs
    have hblk : ∀ b, b < w.heap.size → (w.drew.alloc (.cells vs e)).heap[b]? = w.heap[b]? := fun b hb => (Array.getElem?_push_lt hb).trans (Array.getElem?_eq_getElem hb).symm
    have hszw : w.heap.size ≤ (w.drew.alloc (.cells vs e)).heap.size := by show w.heap.size ≤ (w.heap.push _).size; simp
    have hnew : (w.drew.alloc (.cells vs e)).heap[w.heap.size]? = some (.cells vs e (0, 0)) := _root_.Go.heap_alloc_new w.drew _
    obtain ⟨h1, h2, h3⟩ := fresh_buf (k := k) (w' := w.drew.alloc (.cells vs e)) (cap := cap) (s := sz) (rq := rows.take n ++ q) hM rfl rfl rfl hszw hblk hnew (by rw [hlen]; exact hge) hvs hall hat
    rw [hent] at h1 h2 h3
    exact ⟨_, _, _, hrun, h1, h2, by rw [hlen] at h3 ⊢; exact h3⟩
end
end Go.Ab
