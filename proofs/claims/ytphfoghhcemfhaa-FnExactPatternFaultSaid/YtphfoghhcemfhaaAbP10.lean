/- append. -/
import Derived.Test.YtphfoghhcemfhaaAbP9
namespace Go.Ab
set_option linter.unusedVariables false
set_option linter.unusedSimpArgs false
section
variable {ι : Pl} {m : Mem} {w w' : World} {P : Program}
theorem rowsOk_app (s : Nat) (a b : Rows) : rowsOk s (a ++ b) = (rowsOk s a && rowsOk s b) := by induction a <;> simp_all [rowsOk, Bool.and_assoc]
theorem noSpot (x : Option Value) : (if (none : Option Nat).isSome = true then none else x) = x := rfl
theorem cell_heap {w w2 : World} (h : w2.heap = w.heap) (a : Addr) : w2.cell? a = w.cell? a := by simp only [World.cell?, h]
theorem rowsOk_spec {s : Nat} : ∀ {r : Rows}, rowsOk s r = true → ∀ row ∈ r, row.length = s
  | [], _ => by simp
  | a :: b, h => by
    simp [rowsOk] at h
    intro row hrow
    rcases List.mem_cons.mp hrow with rfl | h'
    · exact h.1
    · exact rowsOk_spec h.2 _ h'
/-- What is appended. -/
structure Src (P : Program) (ι : Pl) (m : Mem) (w : World) (x : Value) (q : Rows) (s : Nat) (news : List Value) : Prop where
  len : news.length = q.length * s
  lenOf : (Builtin.lenOf x).run P w = .ok q.length w
  cells : ∀ w2 : World, w2.heap = w.heap → (Builtin.firstCells s q.length x).run P w2 = .ok news.toArray w2
  one : ∀ u ∈ news, u.oneCell' = true
  rel : ∀ (i j : Nat) (row : List PV) (pv : PV), q[i]? = some row → row[j]? = some pv → ∃ v, news[i * s + j]? = some v ∧ Rp (Own ι m) w v pv
theorem src_rows {x : Value} {q : Rows} {s : Nat} (h : Rp (Own ι m) w x (.lst false q)) (hok : rowsOk s q = true) : ∃ news, Src P ι m w x q s news := by
  have hs := rowsOk_spec hok
  cases h with
  | lst A cap sz full rows u hcap hfull hsz hc hr =>
    have hcell : ∀ (i j : Nat), i < q.length → j < s → ∃ ad, A = some ad ∧ w.cell? (ad.add (i * s + j)) = some (u i j) ∧ (u i j).oneCell' = true := fun i j hi hj => by
      have hrow : q[i]? = some q[i] := List.getElem?_eq_getElem hi
      have e1 := hsz i _ hrow
      have e2 := hs q[i] (List.getElem_mem hi)
      have e : sz = s := by omega
      subst e
      have hp : q[i][j]? = some (q[i][j]'(by omega)) := List.getElem?_eq_getElem _
      obtain ⟨ad, h1, h2, _⟩ := hc i _ j _ hrow hp
      exact ⟨ad, h1, h2, (hr i _ j _ hrow hp).one⟩
    have hdm : ∀ k, k < q.length * s → k / s < q.length ∧ k % s < s ∧ k / s * s + k % s = k := fun k hk => by
      have h0 : 0 < s := Nat.pos_of_ne_zero fun h => by subst h; simp at hk
      exact ⟨Nat.div_lt_of_lt_mul (by rwa [Nat.mul_comm]), Nat.mod_lt _ h0, by rw [Nat.mul_comm]; exact Nat.div_add_mod k s⟩
    refine ⟨(List.range (q.length * s)).map fun k => u (k / s) (k % s), by simp, rfl, fun w2 hw => ?_, fun v hv => ?_, fun i j row pv hi hj => ?_⟩
    · cases A with
      | none =>
        have h0 : q.length * s = 0 := Nat.eq_zero_of_not_pos fun h => by
          obtain ⟨h1, h2, _⟩ := hdm 0 h
          obtain ⟨ad, e, _⟩ := hcell _ _ h1 h2; cases e
        simp [Builtin.firstCells, h0]
      | some ad =>
        simp only [Builtin.firstCells]
        rw [run_loadCells w2 ad (q.length * s) (fun k => u (k / s) (k % s)) fun k hk => ?_]
        obtain ⟨h1, h2, h3⟩ := hdm k hk
        obtain ⟨ad', e, h4, _⟩ := hcell _ _ h1 h2
        cases e
        rw [cell_heap hw]; rwa [h3] at h4
    · simp at hv
      obtain ⟨k, hk, rfl⟩ := hv
      obtain ⟨h1, h2, _⟩ := hdm k hk
      exact (hcell _ _ h1 h2).choose_spec.2.2
    · have hil : i < q.length := (List.getElem?_eq_some_iff.1 hi).1
      have hjs : j < s := by rw [← hs row (List.mem_of_getElem? hi)]; exact (List.getElem?_eq_some_iff.1 hj).1
      have hlt : i * s + j < q.length * s := row_lt hil hjs
      refine ⟨u i j, ?_, hr i row j pv hi hj⟩
      have e1 : (i * s + j) / s = i := by
        rw [Nat.mul_comm, Nat.mul_add_div (by omega), Nat.div_eq_of_lt hjs, Nat.add_zero]
      have e2 : (i * s + j) % s = j := by rw [Nat.mul_comm, Nat.mul_add_mod, Nat.mod_eq_of_lt hjs]
      simp [hlt, e1, e2]
theorem src_str {b : ByteArray} {s : Nat} (hok : rowsOk s (bytesOf b) = true) : ∃ news, Src P ι m w (.string b) (bytesOf b) s news := by
  have hs := rowsOk_spec hok
  have hl : (bytesOf b).length = b.size := by simp [bytesOf]
  have h1 : b.size ≠ 0 → s = 1 := fun h => by
    cases hb : b.data.toList with
    | nil => exact absurd (by have := congrArg List.length hb; simpa using this) h
    | cons x r => exact (hs (brow x) (by simp [bytesOf, hb])).symm
  refine ⟨b.data.toList.map fun c => .int .u8 c.toNat, ?_, ?_, fun w2 hw => ?_, fun u hu => ?_, fun i j row pv hi hj => ?_⟩
  · rw [hl]
    by_cases h : b.size = 0
    · have h2 : b.data.size = 0 := h
      simp [h, h2]
    · rw [h1 h]; simp
  · rw [hl]; rfl
  · rw [hl]
    simp only [Builtin.firstCells, Sem.run_pure]
    congr 1
    apply Array.ext'
    have e : b.extract 0 b.size = b := by
      cases b; apply ByteArray.ext; simp [ByteArray.extract, ByteArray.copySlice, ByteArray.size]
    rw [e]; simp
  · simp at hu; obtain ⟨c, _, rfl⟩ := hu; rfl
  · simp only [bytesOf, List.getElem?_map] at hi
    obtain ⟨c, hc, rfl⟩ := Option.map_eq_some_iff.mp hi
    have hne : b.size ≠ 0 := fun h => by
      have : b.data.toList = [] := by
        have h2 : b.data.size = 0 := h
        exact List.eq_nil_of_length_eq_zero (by simpa using h2)
      rw [this] at hc; cases hc
    have e := h1 hne
    subst e
    cases j with
    | zero =>
      simp [brow] at hj; subst hj
      refine ⟨.int .u8 c.toNat, ?_, .int _ _⟩
      rw [Nat.mul_one, Nat.add_zero, List.getElem?_map, hc]; rfl
    | succ j => simp [brow] at hj
theorem src_of {x : Value} {a : AV} {q : Rows} {s : Nat} (h : Ra ι m w x a) (hq : rowsB a = some q) (hok : rowsOk s q = true) : ∃ news, Src P ι m w x q s news := by
  unfold rowsB at hq
  split at hq
  · cases hq; rw [h.str]; exact src_str hok
  · exact src_rows (h.rows hq) hok
theorem notIntT_spec {t : TypeId} (h : notIntT P t = true) : ∃ d, P.underlying t = some d ∧ ∀ k, d ≠ .int k := by
  unfold notIntT at h
  split at h
  · cases h
  · rename_i d h1 h2; exact ⟨d, h2, fun k e => h1 k e⟩
  · cases h
variable {t tx ty e : TypeId} {i : TypeInfo} {z : Value}
theorem zeros_run {d : TypeDesc} (h2 : ∀ k, d ≠ .int k) : (match d with | .int _ => true | _ => false) = false := by
  cases d <;> first | rfl | exact absurd rfl (h2 _)
theorem app_room (ht : P.underlying t = some (.slice e)) (hi : P.info? e = some i) (htx : notIntT P tx = true) {base : Option Addr} {sLen sCap : Nat} {x : Value} {q : Rows} {news : List Value} (hs : Src P ι m w x q i.size news) (hr : sLen + q.length ≤ sCap)
   (w' : World) (hst : ∀ a, base = some a → (storeCells (a.add (sLen * i.size)) news).run P w = .ok () w') (hno : base = none → w' = w) :
    (Builtin.append_ #[t, tx] ty #[.slice base sLen sCap, x]).run P w = .ok (.slice base (sLen + q.length) sCap) w' := by
  obtain ⟨d, h1, h2⟩ := notIntT_spec htx
  have hz := zeros_run h2
  have hse : (Go.sizeOf e).run P w = .ok i.size w := by simp [Go.sizeOf, typeInfo, hi]
  have hc := hs.cells w rfl
  unfold Builtin.append_
  simp only [List.getElem?_toArray, List.getElem?_cons_zero, List.getElem?_cons_succ, Sem.run_bind, run_underlying ht, Result.andThen_ok, hse, run_underlying h1, Sem.run_pure]
  simp only [Bool.false_eq_true, if_false, Bool.not_false, if_true]
  rw [Sem.run_bind, hs.lenOf]
  simp only [Result.andThen_ok]
  rw [if_pos hr, Sem.run_bind, hc]
  simp only [Result.andThen_ok]
  cases base with
  | none => rw [hno rfl]; rfl
  | some a => simp only [Sem.run_bind, List.toList_toArray, hst a rfl, Result.andThen_ok]; rfl
theorem app_grow (ht : P.underlying t = some (.slice e)) (hi : P.info? e = some i) (hz0 : i.zero = some z) (hbytes : i.bytes ≤ 2048) (htx : notIntT P tx = true) {base : Option Addr} {sLen sCap : Nat} {x : Value} {q : Rows} {news olds : List Value} (hs : Src P ι m w x q i.size news) (hr : sCap < sLen + q.length) (hlim : sLen + q.length ≤ 68719476736)
   (hold : ∀ w2 : World, w2.heap = w.heap → (Builtin.firstCells i.size sLen (.slice base sLen sCap)).run P w2 = .ok olds.toArray w2) :
    (Builtin.append_ #[t, tx] ty #[.slice base sLen sCap, x]).run P w =
      .ok (.slice (some ⟨w.heap.size, 0, none⟩) (sLen + q.length) (grownCap w (sLen + q.length) sCap e)) (w.drew.alloc (.cells (olds.toArray ++ news.toArray ++ Builtin.zeroCells z.cells (grownCap w (sLen + q.length) sCap e - (sLen + q.length))) e)) := by
  obtain ⟨d, h1, h2⟩ := notIntT_spec htx
  have hz := zeros_run h2
  have hse : (Go.sizeOf e).run P w = .ok i.size w := by simp [Go.sizeOf, typeInfo, hi]
  have hti : ∀ w : World, (typeInfo e).run P w = .ok i w := fun w => by simp [typeInfo, hi]
  have hzv : ∀ w : World, (zeroValue e).run P w = .ok z w := fun w => by simp [zeroValue, typeInfo, hi, hz0]
  have hc := hs.cells w.drew rfl
  have ho := hold w.drew rfl
  have hn : ¬ (sLen + q.length ≤ sCap) := by omega
  have hfit : ¬ (Builtin.nextslicecap (sLen + q.length) sCap * i.bytes > 2 ^ 48) := by
    have h3 : (sLen + q.length) * i.bytes ≤ 68719476736 * 2048 := Nat.mul_le_mul hlim hbytes
    have := growslice_fits (need := sLen + q.length) (old := sCap) (bytes := i.bytes) hr (by omega)
    have h6 : (2 : Nat) ^ 48 = 281474976710656 := rfl
    omega
  have h63 : ¬ (((sLen + q.length : Nat) : Int) > IntKind.i64.max ∧ (False ∨ i.bytes = 0)) := by
    have : IntKind.i64.max = 9223372036854775807 := rfl
    rw [this]; omega
  unfold Builtin.append_
  simp only [List.getElem?_toArray, List.getElem?_cons_zero, List.getElem?_cons_succ, Sem.run_bind, run_underlying ht, Result.andThen_ok, hse, run_underlying h1, Sem.run_pure]
  simp only [Bool.false_eq_true, if_false, Bool.not_false, if_true]
  rw [Sem.run_bind, hs.lenOf]
  simp only [Result.andThen_ok]
  rw [if_neg hn, Sem.run_bind, hti]
  simp only [Result.andThen_ok]
  rw [if_neg h63, Sem.run_bind, hti]
  simp only [Result.andThen_ok]
  rw [if_neg hfit]
  simp only [Sem.run_bind, run_choose, Question.forced, Bool.false_eq_true, if_false, Result.andThen_ok, World.drew_eq, hti, run_askRoom, ho, hc, hzv, newRow, run_newObj, Sem.run_pure, World.alloc_eq]
  rfl
end
end Go.Ab
