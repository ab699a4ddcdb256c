/- Atoms that make a tree, the reference's side: a walk that must meet nothing twice. The law. No condition beyond the argument's shape. -/
import Derived.Test.YtfeieigajdekhaaAbIST
namespace Go.Ab
open Go.Proofs
set_option linter.unusedVariables false
set_option linter.unusedSimpArgs false
theorem inr_ix {α β : Type} (l : List α) (i : Int) (f : α → Option β) : ((inr i l.length).bind fun _ => (l[i.toNat]?).bind f) = (ix l i).bind f := by
  unfold inr ix
  by_cases h : 0 ≤ i ∧ i < (l.length : Int)
  · rw [if_pos h, if_pos h.1]; rfl
  · rw [if_neg h]
    by_cases h0 : 0 ≤ i
    · rw [if_pos h0, List.getElem?_eq_none (by omega)]; rfl
    · rw [if_neg h0]; rfl
theorem smem_b {l : List ByteArray} (hs : l.length ≤ 2000000) (a : ByteArray) : Ev (fun k => spec_l01InTexts_bv.f k l.length a l) (has l a) := by
  have L : ∀ (n i : Nat), l.length - i ≤ n → Ev (fun k => spec_l01InTexts_bv.l0 k l.length a (i : Int) l) (has (l.drop i) a) := by
    intro n
    induction n with
    | zero =>
      intro i h
      rw [List.drop_of_length_le (by omega)]
      refine Ev.step ?_
      simp only [spec_l01InTexts_bv.l0, ltn (show ¬ i < l.length by omega), cond_false]
      exact Ev.ret _
    | succ n ih =>
      intro i h
      by_cases hi : i < l.length
      · refine Ev.step ?_
        simp only [spec_l01InTexts_bv.l0, ltd hi, cond_true, inr_ix, ixg hi, Option.bind_some, w1 (i := i) (by omega)]
        rw [List.drop_eq_getElem_cons hi]
        by_cases e : l[i] = a
        · simp only [decide_eq_true e, cond_true, has, List.any_cons, Bool.true_or]; exact Ev.ret _
        · simp only [decide_eq_false e, cond_false, has, List.any_cons, Bool.false_or]; exact ih (i + 1) (by omega)
      · rw [List.drop_of_length_le (by omega)]
        refine Ev.step ?_
        simp only [spec_l01InTexts_bv.l0, ltn hi, cond_false]
        exact Ev.ret _
  refine Ev.step ?_
  simp only [spec_l01InTexts_bv.f]
  exact L _ 0 (Nat.le_refl _)
/-! What lies beside one -/
section
variable {A : List S64} (h6 : A.length ≤ 6)
theorem adj_take {i : Nat} (hi : i < A.length) {v u : ByteArray} : Adj (A.take (i + 1)) v u ↔ Adj (A.take i) v u ∨ (v ≠ u ∧ nrm A[i].f1 A[i].f2 = nrm v u) := by
  unfold Adj
  rw [List.take_succ_eq_append_getElem hi]
  constructor
  · rintro ⟨hne, a, ha, e⟩
    rcases List.mem_append.1 ha with ha | ha
    · exact .inl ⟨hne, a, ha, e⟩
    · rw [List.mem_singleton.1 ha] at e; exact .inr ⟨hne, e⟩
  · rintro (⟨hne, a, ha, e⟩ | ⟨hne, e⟩)
    · exact ⟨hne, a, List.mem_append.2 (.inl ha), e⟩
    · exact ⟨hne, A[i], List.mem_append.2 (.inr (List.mem_singleton.2 rfl)), e⟩
include h6 in
theorem beside (v : ByteArray) : ∃ l, Ev (fun k => spec_l12Beside.f k A v) l ∧ (∀ u, u ∈ l ↔ Adj A v u) ∧ l.length ≤ 6 ∧ RsN l := by
  have L : ∀ (n i : Nat) (o : List ByteArray), A.length - i ≤ n → i ≤ A.length → o.length ≤ i → (∀ u, u ∈ o ↔ Adj (A.take i) v u) → ∃ l, Ev (fun k => spec_l12Beside.l0 k A v o (i : Int)) l ∧ (∀ u, u ∈ l ↔ Adj A v u) ∧ l.length ≤ 6 ∧ RsN l := by
    have fin : ∀ (i : Nat) (o : List ByteArray), ¬ i < A.length → i ≤ A.length → o.length ≤ i → (∀ u, u ∈ o ↔ Adj (A.take i) v u) → ∃ l, Ev (fun k => spec_l12Beside.l0 k A v o (i : Int)) l ∧ (∀ u, u ∈ l ↔ Adj A v u) ∧ l.length ≤ 6 ∧ RsN l := fun i o hi hle ho hm => by
      rw [List.take_of_length_le (by omega)] at hm
      obtain ⟨r, g1, g2, g3, g4⟩ := sortR (l := o) (by omega)
      refine ⟨r, Ev.step ?_, fun u => (g2 u).trans (hm u), by omega, g4⟩
      simp only [spec_l12Beside.l0, ltn hi, cond_false]
      exact Ev.bind g1 (Ev.ret _)
    intro n
    induction n with
    | zero => intro i o hn hle ho hm; exact fin i o (by omega) hle ho hm
    | succ n ih =>
      intro i o hn hle ho hm
      by_cases hi : i < A.length
      case neg => exact fin i o hi hle ho hm
      by_cases e1 : A[i].f1 = v
      · by_cases e2 : A[i].f2 = v
        · obtain ⟨l, g1, g2⟩ := ih (i + 1) o (by omega) (by omega) (by omega) (fun u => by
            rw [adj_take hi, hm]
            exact ⟨.inl, fun h => h.elim id fun g => absurd (nrm_self (by rw [e1, e2] at g; exact g.2)) g.1⟩)
          refine ⟨l, Ev.step ?_, g2⟩
          simp only [spec_l12Beside.l0, ltd hi, cond_true, ixg hi, Option.bind_some, decide_eq_true e1, decide_eq_true e2]
          refine Ev.step ?_
          simp only [spec_l12Beside.j0, ixg hi, Option.bind_some, decide_eq_true e1, decide_eq_true e2, cond_true, w1 (i := i) (by omega)]
          exact g1
        · obtain ⟨l, g1, g2⟩ := ih (i + 1) (o ++ [A[i].f2]) (by omega) (by omega) (by simp; omega) (fun u => by
            rw [adj_take hi, List.mem_append, hm, List.mem_singleton]
            refine or_congr Iff.rfl ⟨fun h => ?_, fun h => ?_⟩
            · rw [h, e1]; exact ⟨fun e => e2 e.symm, rfl⟩
            · rcases nrm_inj h.2 with ⟨_, g⟩ | ⟨g, g'⟩
              · exact g.symm
              · exact absurd g' e2)
          refine ⟨l, Ev.step ?_, g2⟩
          simp only [spec_l12Beside.l0, ltd hi, cond_true, ixg hi, Option.bind_some, decide_eq_true e1, decide_eq_false e2, cond_false, app_one (l := o) _ (by omega), w1 (i := i) (by omega)]
          exact g1
      · by_cases e2 : A[i].f2 = v
        · obtain ⟨l, g1, g2⟩ := ih (i + 1) (o ++ [A[i].f1]) (by omega) (by omega) (by simp; omega) (fun u => by
            rw [adj_take hi, List.mem_append, hm, List.mem_singleton]
            refine or_congr Iff.rfl ⟨fun h => ?_, fun h => ?_⟩
            · rw [h, e2]; exact ⟨fun e => e1 e.symm, nrm_comm _ _⟩
            · rcases nrm_inj h.2 with ⟨g, _⟩ | ⟨g, g'⟩
              · exact absurd g e1
              · exact g.symm)
          refine ⟨l, Ev.step ?_, g2⟩
          simp only [spec_l12Beside.l0, ltd hi, cond_true, ixg hi, Option.bind_some, decide_eq_false e1, cond_false]
          refine Ev.step ?_
          simp only [spec_l12Beside.j0, ixg hi, Option.bind_some, decide_eq_true e2, decide_eq_false e1, cond_true, cond_false, app_one (l := o) _ (by omega), w1 (i := i) (by omega)]
          exact g1
        · obtain ⟨l, g1, g2⟩ := ih (i + 1) o (by omega) (by omega) (by omega) (fun u => by
            rw [adj_take hi, hm]
            exact ⟨.inl, fun h => h.elim id fun g => by
              rcases nrm_inj g.2 with ⟨g1, _⟩ | ⟨_, g1⟩
              · exact absurd g1 e1
              · exact absurd g1 e2⟩)
          refine ⟨l, Ev.step ?_, g2⟩
          simp only [spec_l12Beside.l0, ltd hi, cond_true, ixg hi, Option.bind_some, decide_eq_false e1, cond_false]
          refine Ev.step ?_
          simp only [spec_l12Beside.j0, ixg hi, Option.bind_some, decide_eq_false e2, cond_false, w1 (i := i) (by omega)]
          exact g1
  obtain ⟨l, g1, g2⟩ := L A.length 0 [] (by omega) (by omega) (by simp) (fun u => by simp [Adj])
  exact ⟨l, Ev.step (by simp only [spec_l12Beside.f]; exact g1), g2⟩
end
/-! The walk -/
theorem filter_lt {α : Type} {p q : α → Bool} : ∀ {l : List α}, (∀ x ∈ l, q x = true → p x = true) → (∃ x ∈ l, p x = true ∧ q x = false) → (l.filter q).length < (l.filter p).length
 | [], _, ⟨x, hx, _⟩ => by simp at hx
 | a :: l, h, hx => by
   have hle : ∀ {l : List α}, (∀ x ∈ l, q x = true → p x = true) → (l.filter q).length ≤ (l.filter p).length := by
     intro l
     induction l with
     | nil => intro _; simp
     | cons b l ih =>
       intro h
       have := ih (fun x hx => h x (by simp [hx]))
       by_cases hq : q b = true
       · rw [List.filter_cons_of_pos hq, List.filter_cons_of_pos (h b (by simp) hq)]; simp; exact this
       · rw [List.filter_cons_of_neg hq]
         by_cases hp : p b = true
         · rw [List.filter_cons_of_pos hp]; simp; omega
         · rw [List.filter_cons_of_neg hp]; exact this
   have ht : ∀ x ∈ l, q x = true → p x = true := fun x hx => h x (by simp [hx])
   by_cases ha : p a = true ∧ q a = false
   · rw [List.filter_cons_of_pos ha.1, List.filter_cons_of_neg (by simp [ha.2])]
     have := hle ht
     simp only [List.length_cons]; omega
   · have hl : ∃ x ∈ l, p x = true ∧ q x = false := by
       obtain ⟨x, hx, g⟩ := hx
       rcases List.mem_cons.1 hx with rfl | hx
       · exact absurd g ha
       · exact ⟨x, hx, g⟩
     have := filter_lt ht hl
     by_cases hq : q a = true
     · rw [List.filter_cons_of_pos hq, List.filter_cons_of_pos (h a (by simp) hq)]; simp only [List.length_cons]; omega
     · rw [List.filter_cons_of_neg hq]
       by_cases hp : p a = true
       · rw [List.filter_cons_of_pos hp]; simp only [List.length_cons]; omega
       · rw [List.filter_cons_of_neg hp]; exact this
/-- How many are not met yet. -/
def ms (V seen : List ByteArray) : Nat := (V.filter fun x => !has seen x).length
theorem ms_lt {V seen sc : List ByteArray} {v : ByteArray} (hv : v ∈ V) (hn : v ∉ seen) (hs : ∀ x ∈ seen, x ∈ sc) (hc : v ∈ sc) : ms V sc < ms V seen := by
  refine filter_lt (fun x _ h => ?_) ⟨v, hv, ?_, ?_⟩
  · have h' : has sc x = false := by simpa using h
    have : has seen x = false := has_no.2 fun hx => has_no.1 h' (hs x hx)
    simp [this]
  · simp [has_no.2 hn]
  · simp [has_iff.2 hc]
section
variable {A : List S64} (h6 : A.length ≤ 6) {V : List ByteArray} (hV : ∀ a ∈ A, a.f1 ∈ V ∧ a.f2 ∈ V) (hVl : V.length ≤ 2000)
include hV in
theorem adj_in {u v : ByteArray} (h : Adj A u v) : v ∈ V := by
  obtain ⟨_, a, ha, e⟩ := h
  obtain ⟨h1, h2⟩ := hV a ha
  rcases nrm_inj e with ⟨_, e⟩ | ⟨e, _⟩
  · exact e ▸ h2
  · exact e ▸ h1
/-- All that is laid beside one is told. -/
def Cpl (A : List S64) (T : List BA2) (u : ByteArray) : Prop := ∀ w, Adj A u w → nrm u w ∈ T
/-- What a walk from one tells. -/
def Wk (A : List S64) (V : List ByteArray) (v : ByteArray) (seen : List ByteArray) (T : List BA2) (seen' : List ByteArray) : Prop :=
  (∀ x ∈ seen, x ∈ seen') ∧ v ∈ seen' ∧ seen'.length + ms V seen' ≤ V.length ∧ ∃ T', Ind T' ∧ (∀ e ∈ T', EK A e) ∧ (∀ e ∈ T, e ∈ T') ∧ (∀ e ∈ T', e ∈ T ∨ ((e.1 ∈ seen' ∧ e.1 ∉ seen) ∧ (e.2 ∈ seen' ∧ e.2 ∉ seen))) ∧ (∀ u ∈ seen', u ∉ seen → Cpl A T' u ∧ Conn T' u v)
theorem nrm_mem {x y : ByteArray} {P : ByteArray → Prop} : (P (nrm x y).1 ∧ P (nrm x y).2) ↔ (P x ∧ P y) := by
  rcases nrm_cases x y with e | e <;> rw [e]
  exact And.comm
theorem nrm_has {x y z : ByteArray} : ((nrm x y).1 = z ∨ (nrm x y).2 = z) ↔ (x = z ∨ y = z) := by
  rcases nrm_cases x y with e | e <;> rw [e]
  exact Or.comm
include h6 hV hVl in
theorem reach_ : ∀ (n : Nat) (v frm : ByteArray) (seen : List ByteArray) (T : List BA2), ms V seen ≤ n → v ∈ V → v ∉ seen → seen.length + ms V seen ≤ V.length → Ind T → (∀ e ∈ T, EK A e) → (∀ e ∈ T, (e.1 ∈ seen ∨ e.1 = v) ∧ (e.2 ∈ seen ∨ e.2 = v)) → (∀ e ∈ T, e.1 = v ∨ e.2 = v → e = nrm frm v) → (Adj A v frm → nrm v frm ∈ T) → (∀ u ∈ seen, Cpl A T u ∨ Conn T u v) →
    ∃ seen' ok, Ev (fun k => spec_l12Reach_vvvb_O.f k A v frm seen) (seen', ok) ∧ (ok = true → Wk A V v seen T seen') ∧ (ok = false → ¬ Ind (Dn A)) := by
  intro n
  induction n with
  | zero =>
    intro v frm seen T hn hv hvs
    have := ms_lt (sc := seen ++ [v]) hv hvs (fun x hx => by simp [hx]) (by simp)
    omega
  | succ n ih =>
    intro v frm seen T hn hv hvs hlen hI hE hP hF hF2 hC
    obtain ⟨l, b1, b2, b3, b4⟩ := beside h6 v
    have lnd : l.Nodup := b4.imp (fun {a b} hab e => by subst e; rw [slt_irr] at hab; cases hab)
    have hm1 := ms_lt (sc := seen ++ [v]) hv hvs (fun x hx => by simp [hx]) (by simp)
    -- the neighbours, one after the other
    have L : ∀ (q j : Nat) (sc : List ByteArray) (Tc : List BA2), l.length - j ≤ q → j ≤ l.length → (∀ x ∈ seen, x ∈ sc) → v ∈ sc → sc.length + ms V sc ≤ V.length → ms V sc ≤ n → Ind Tc → (∀ e ∈ Tc, EK A e) → (∀ e ∈ T, e ∈ Tc) →
        (∀ e ∈ Tc, e ∈ T ∨ ((e.1 ∈ sc ∧ e.1 ∉ seen) ∧ (e.2 ∈ sc ∧ e.2 ∉ seen))) → (∀ u ∈ sc, u ∉ seen → u ≠ v → Cpl A Tc u ∧ Conn Tc u v) → (∀ u ∈ l.take j, u = frm ∨ nrm v u ∈ Tc) → (∀ e ∈ Tc, e.1 = v ∨ e.2 = v → e = nrm frm v ∨ ∃ u ∈ l.take j, e = nrm v u) →
        ∃ seen' ok, Ev (fun k => spec_l12Reach_vvvb_O.l0 k A v frm sc l (j : Int)) (seen', ok) ∧ (ok = true → Wk A V v seen T seen') ∧ (ok = false → ¬ Ind (Dn A)) := by
      have fin : ∀ (j : Nat) (sc : List ByteArray) (Tc : List BA2), ¬ j < l.length → (∀ x ∈ seen, x ∈ sc) → v ∈ sc → sc.length + ms V sc ≤ V.length → Ind Tc → (∀ e ∈ Tc, EK A e) → (∀ e ∈ T, e ∈ Tc) →
        (∀ e ∈ Tc, e ∈ T ∨ ((e.1 ∈ sc ∧ e.1 ∉ seen) ∧ (e.2 ∈ sc ∧ e.2 ∉ seen))) → (∀ u ∈ sc, u ∉ seen → u ≠ v → Cpl A Tc u ∧ Conn Tc u v) → (∀ u ∈ l.take j, u = frm ∨ nrm v u ∈ Tc) →
        ∃ seen' ok, Ev (fun k => spec_l12Reach_vvvb_O.l0 k A v frm sc l (j : Int)) (seen', ok) ∧ (ok = true → Wk A V v seen T seen') ∧ (ok = false → ¬ Ind (Dn A)) := by
        intro j sc Tc hj c1 c2 c3 c4 c5 c6 c7 c8 c9
        rw [List.take_of_length_le (by omega)] at c9
        refine ⟨sc, true, Ev.step ?_, fun _ => ⟨c1, c2, c3, Tc, c4, c5, c6, c7, fun u hu hus => ?_⟩, fun h => by cases h⟩
        · simp only [spec_l12Reach_vvvb_O.l0, ltn hj, cond_false]
          exact Ev.ret _
        · by_cases e : u = v
          · subst e
            refine ⟨fun w hw => ?_, .refl _⟩
            rcases c9 w ((b2 w).2 hw) with rfl | h
            · exact c6 _ (hF2 hw)
            · exact h
          · exact c8 u hu hus e
      intro q
      induction q with
      | zero => intro j sc Tc hq hj c1 c2 c3 _ c4 c5 c6 c7 c8 c9 _; exact fin j sc Tc (by omega) c1 c2 c3 c4 c5 c6 c7 c8 c9
      | succ q ihq =>
        intro j sc Tc hq hj c1 c2 c3 cn c4 c5 c6 c7 c8 c9 c10
        by_cases hjl : j < l.length
        case neg => exact fin j sc Tc hjl c1 c2 c3 c4 c5 c6 c7 c8 c9
        have hadj : Adj A v l[j] := (b2 _).1 (List.getElem_mem hjl)
        have htake : l.take (j + 1) = l.take j ++ [l[j]] := List.take_succ_eq_append_getElem hjl
        have hnew : l[j] ∉ l.take j := fun h => by
          have := lnd
          rw [← List.take_append_drop j l, List.drop_eq_getElem_cons hjl] at this
          exact (List.nodup_append.1 this).2.2 _ h _ (List.mem_cons_self) rfl
        by_cases hfrm : l[j] = frm
        · obtain ⟨s', ok, g1, g2⟩ := ihq (j + 1) sc Tc (by omega) (by omega) c1 c2 c3 cn c4 c5 c6 c7 c8 (fun u hu => by
            rw [htake] at hu
            rcases List.mem_append.1 hu with hu | hu
            · exact c9 u hu
            · rw [List.mem_singleton.1 hu]; exact .inl hfrm) (fun e he h => (c10 e he h).imp id fun ⟨u, hu, g⟩ => ⟨u, by rw [htake]; exact List.mem_append.2 (.inl hu), g⟩)
          refine ⟨s', ok, Ev.step ?_, g2⟩
          simp only [spec_l12Reach_vvvb_O.l0, ltd hjl, cond_true, ixg hjl, Option.bind_some, decide_eq_true hfrm, w1 (i := j) (by omega)]
          exact g1
        have hsc : sc.length ≤ 2000000 := by omega
        have hnot : nrm v l[j] ∉ Tc := fun h => by
          rcases c10 _ h (nrm_has.2 (.inl rfl)) with e | ⟨u, hu, e⟩
          · rcases nrm_inj e with ⟨e1, e2⟩ | ⟨_, e2⟩
            · exact hadj.1 e2.symm
            · exact hfrm e2
          · rcases nrm_inj e with ⟨_, e2⟩ | ⟨e1, e2⟩
            · exact hnew (by rw [e2]; exact hu)
            · exact hadj.1 e2.symm
        by_cases hin : l[j] ∈ sc
        · refine ⟨sc, false, Ev.step ?_, fun h => (by cases h), fun _ hD => ?_⟩
          · simp only [spec_l12Reach_vvvb_O.l0, ltd hjl, cond_true, ixg hjl, Option.bind_some, decide_eq_false hfrm, cond_false]
            refine Ev.bind (smem_b hsc _) ?_
            rw [has_iff.2 hin]
            simp only [cond_true]
            exact Ev.ret _
          · have hconn : Conn Tc v l[j] := by
              by_cases hs : l[j] ∈ seen
              · rcases hC _ hs with h | h
                · have := c6 _ (h v (adj_symm hadj))
                  rw [nrm_comm] at this
                  exact absurd this hnot
                · exact (h.mono c6).symm
              · exact (c8 _ hin hs (fun e => hadj.1 e.symm)).2.symm
            have hsub : Ind (nrm v l[j] :: Tc) := ind_sub (List.nodup_cons.2 ⟨hnot, ind_nodup c4⟩) (fun e he => by
              rw [dn_mem]
              rcases List.mem_cons.1 he with rfl | he
              · exact adj_ek hadj
              · exact c5 e he) hD
            exact hsub.2 (conn_nrm.2 hconn)
        · -- one step further
          have ends : ∀ e ∈ Tc, e.1 ∈ sc ∧ e.2 ∈ sc := fun e he => by
            rcases c7 e he with h | ⟨h1, h2⟩
            · obtain ⟨p1, p2⟩ := hP e h
              exact ⟨p1.elim (c1 _) (fun e => e ▸ c2), p2.elim (c1 _) (fun e => e ▸ c2)⟩
            · exact ⟨h1.1, h2.1⟩
          have hvl : Conn (nrm v l[j] :: Tc) v l[j] := conn_edge (by simp)
          obtain ⟨s2, ok2, g1, g2, g3⟩ := ih l[j] v sc (nrm v l[j] :: Tc) cn (adj_in hV hadj) hin c3
            ⟨c4, fun h => by
              have h' := conn_nrm.1 h
              have := h'.lone (fun e he => ⟨fun q => hin (q ▸ (ends e he).1), fun q => hin (q ▸ (ends e he).2)⟩)
              exact hadj.1 this⟩
            (fun e he => by
              rcases List.mem_cons.1 he with rfl | he
              · exact adj_ek hadj
              · exact c5 e he)
            (fun e he => by
              rcases List.mem_cons.1 he with rfl | he
              · exact nrm_mem (P := fun z => z ∈ sc ∨ z = l[j]) |>.2 ⟨.inl c2, .inr rfl⟩
              · exact ⟨.inl (ends e he).1, .inl (ends e he).2⟩)
            (fun e he h => by
              rcases List.mem_cons.1 he with rfl | he
              · rfl
              · rcases h with h | h
                · exact absurd (h ▸ (ends e he).1) hin
                · exact absurd (h ▸ (ends e he).2) hin)
            (fun _ => by rw [nrm_comm]; simp)
            (fun u hu => by
              by_cases hus : u ∈ seen
              · rcases hC u hus with h | h
                · exact .inl fun w hw => List.mem_cons_of_mem _ (c6 _ (h w hw))
                · exact .inr ((h.mono c6).up.trans hvl)
              · by_cases e : u = v
                · subst e; exact .inr hvl
                · exact .inr ((c8 u hu hus e).2.up.trans hvl))
          have hpre : ∀ k, spec_l12Reach_vvvb_O.l0 (k + 1) A v frm sc l (j : Int) = ((spec_l01InTexts_bv.f k sc.length l[j] sc).bind fun v12 => (bif v12 then (some (sc, false)) else ((spec_l12Reach_vvvb_O.f k A l[j] v sc).bind fun v14 => (bif v14.2 then (spec_l12Reach_vvvb_O.l0 k A v frm v14.1 l (IntKind.i64.wrap ((j : Int) + 1))) else (some (v14.1, false)))))) := fun k => by
            simp only [spec_l12Reach_vvvb_O.l0, ltd hjl, cond_true, ixg hjl, Option.bind_some, decide_eq_false hfrm, cond_false]
          cases ok2 with
          | false =>
            refine ⟨s2, false, Ev.step ?_, fun h => (by cases h), fun _ => g3 rfl⟩
            simp only [hpre]
            refine Ev.bind (smem_b hsc _) ?_
            rw [has_no.2 hin]
            simp only [cond_false]
            refine Ev.bind g1 ?_
            simp only [cond_false]
            exact Ev.ret _
          | true =>
            obtain ⟨w1', w2, w3, T2, t1, t2, t3, t4, t5⟩ := g2 rfl
            have up : ∀ e ∈ Tc, e ∈ T2 := fun e he => t3 e (by simp [he])
            have hedge : nrm v l[j] ∈ T2 := t3 _ (by simp)
            have hvs2 : v ∈ s2 := w1' v c2
            have hms : ms V s2 ≤ n := by
              have := ms_lt (adj_in hV hadj) hin w1' w2
              omega
            obtain ⟨s3, ok3, f1, f2⟩ := ihq (j + 1) s2 T2 (by omega) (by omega) (fun x hx => w1' x (c1 x hx)) hvs2 w3 hms t1 t2 (fun e he => up e (c6 e he))
              (fun e he => by
                rcases t4 e he with h | ⟨h1, h2⟩
                · rcases List.mem_cons.1 h with rfl | h
                  · exact .inr (nrm_mem (P := fun z => z ∈ s2 ∧ z ∉ seen) |>.2 ⟨⟨hvs2, hvs⟩, ⟨w2, fun h => hin (c1 _ h)⟩⟩)
                  · rcases c7 e h with h | ⟨h1, h2⟩
                    · exact .inl h
                    · exact .inr ⟨⟨w1' _ h1.1, h1.2⟩, ⟨w1' _ h2.1, h2.2⟩⟩
                · exact .inr ⟨⟨h1.1, fun h => h1.2 (c1 _ h)⟩, ⟨h2.1, fun h => h2.2 (c1 _ h)⟩⟩)
              (fun u hu hus huv => by
                by_cases husc : u ∈ sc
                · obtain ⟨h1, h2⟩ := c8 u husc hus huv
                  exact ⟨fun w hw => up _ (h1 w hw), h2.mono up⟩
                · obtain ⟨h1, h2⟩ := t5 u hu husc
                  exact ⟨h1, h2.trans (conn_edge hedge).symm⟩)
              (fun u hu => by
                rw [htake] at hu
                rcases List.mem_append.1 hu with hu | hu
                · exact (c9 u hu).imp id (up _)
                · rw [List.mem_singleton.1 hu]; exact .inr hedge)
              (fun e he h => by
                rcases t4 e he with g | ⟨h1, h2⟩
                · rcases List.mem_cons.1 g with rfl | g
                  · exact .inr ⟨l[j], by rw [htake]; exact List.mem_append.2 (.inr (List.mem_singleton.2 rfl)), rfl⟩
                  · exact (c10 e g h).imp id fun ⟨u, hu, q⟩ => ⟨u, by rw [htake]; exact List.mem_append.2 (.inl hu), q⟩
                · rcases h with h | h
                  · exact absurd (h ▸ c2) h1.2
                  · exact absurd (h ▸ c2) h2.2)
            refine ⟨s3, ok3, Ev.step ?_, f2⟩
            simp only [hpre]
            refine Ev.bind (smem_b hsc _) ?_
            rw [has_no.2 hin]
            simp only [cond_false]
            refine Ev.bind g1 ?_
            simp only [cond_true, w1 (i := j) (by omega)]
            exact f1
    obtain ⟨s', ok, g1, g2⟩ := L l.length 0 (seen ++ [v]) T (by omega) (by omega) (fun x hx => by simp [hx]) (by simp) (by rw [List.length_append, List.length_singleton]; omega) (by omega) hI hE (fun e he => he) (fun e he => .inl he)
      (fun u hu hus huv => by
        rcases List.mem_append.1 hu with hu | hu
        · exact absurd hu hus
        · exact absurd (List.mem_singleton.1 hu) huv) (fun u hu => by simp at hu) (fun e he h => .inl (hF e he h))
    refine ⟨s', ok, Ev.step ?_, g2⟩
    simp only [spec_l12Reach_vvvb_O.f, app_one (l := seen) v (by omega), Option.bind_some]
    exact Ev.bind b1 g1
include h6 hV hVl in
theorem stree_l0 (hne : ∀ v, ¬ Adj A v ⟨#[]⟩) : ∃ b : Bool, (b = true ↔ Ind (Dn A)) ∧ ∀ (n i : Nat) (seen : List ByteArray) (T : List BA2), V.length - i ≤ n → i ≤ V.length → seen.length + ms V seen ≤ V.length → Ind T → (∀ e ∈ T, EK A e) → (∀ e ∈ T, e.1 ∈ seen ∧ e.2 ∈ seen) → (∀ u ∈ seen, Cpl A T u) → (∀ u ∈ V.take i, u ∈ seen) → Ev (fun k => spec_IsTree.l0 k A V seen (i : Int)) b := by
  obtain ⟨b, hb⟩ : ∃ b : Bool, b = true ↔ Ind (Dn A) := by
    by_cases h : Ind (Dn A)
    · exact ⟨true, by simp [h]⟩
    · exact ⟨false, by simp [h]⟩
  refine ⟨b, hb, ?_⟩
  have fin : ∀ (i : Nat) (seen : List ByteArray) (T : List BA2), ¬ i < V.length → Ind T → (∀ e ∈ T, EK A e) → (∀ u ∈ seen, Cpl A T u) → (∀ u ∈ V.take i, u ∈ seen) → Ev (fun k => spec_IsTree.l0 k A V seen (i : Int)) b := fun i seen T hi hI hE hC hS => by
    rw [List.take_of_length_le (by omega)] at hS
    have : Ind (Dn A) := ind_same hI (dn_nodup A) (fun e => by
      rw [dn_mem]
      refine ⟨hE e, fun h => ?_⟩
      obtain ⟨u, v, hadj, rfl⟩ := ek_adj h
      exact hC u (hS u (adj_in hV (adj_symm hadj))) v hadj)
    rw [hb.2 this]
    refine Ev.step ?_
    simp only [spec_IsTree.l0, ltn hi, cond_false]
    exact Ev.ret _
  intro n
  induction n with
  | zero => intro i seen T hn hle _ hI hE _ hC hS; exact fin i seen T (by omega) hI hE hC hS
  | succ n ih =>
    intro i seen T hn hle hlen hI hE hP hC hS
    by_cases hi : i < V.length
    case neg => exact fin i seen T hi hI hE hC hS
    have htake : V.take (i + 1) = V.take i ++ [V[i]] := List.take_succ_eq_append_getElem hi
    refine Ev.step ?_
    simp only [spec_IsTree.l0, ltd hi, cond_true, ixg hi, Option.bind_some, w1 (i := i) (by omega)]
    refine Ev.bind (smem_b (by omega) _) ?_
    by_cases hin : V[i] ∈ seen
    · rw [has_iff.2 hin]
      simp only [cond_true]
      refine ih (i + 1) seen T (by omega) (by omega) hlen hI hE hP hC (fun u hu => ?_)
      rw [htake] at hu
      rcases List.mem_append.1 hu with hu | hu
      · exact hS u hu
      · rw [List.mem_singleton.1 hu]; exact hin
    · rw [has_no.2 hin]
      simp only [cond_false]
      obtain ⟨s2, ok, g1, g2, g3⟩ := reach_ h6 hV hVl _ V[i] ⟨#[]⟩ seen T (Nat.le_refl _) (List.getElem_mem hi) hin hlen hI hE (fun e he => ⟨.inl (hP e he).1, .inl (hP e he).2⟩)
        (fun e he h => by
          rcases h with h | h
          · exact absurd (h ▸ (hP e he).1) hin
          · exact absurd (h ▸ (hP e he).2) hin) (fun h => absurd h (hne _)) (fun u hu => .inl (hC u hu))
      refine Ev.bind g1 ?_
      cases ok with
      | false =>
        have : b = false := by
          rw [Bool.eq_false_iff]
          exact fun h => g3 rfl (hb.1 h)
        rw [this]
        simp only [cond_false]
        exact Ev.ret _
      | true =>
        obtain ⟨w1', w2, w3, T2, t1, t2, t3, t4, t5⟩ := g2 rfl
        simp only [cond_true]
        refine ih (i + 1) s2 T2 (by omega) (by omega) w3 t1 t2 (fun e he => ?_) (fun u hu => ?_) (fun u hu => ?_)
        · rcases t4 e he with h | ⟨h1, h2⟩
          · exact ⟨w1' _ (hP e h).1, w1' _ (hP e h).2⟩
          · exact ⟨h1.1, h2.1⟩
        · by_cases hus : u ∈ seen
          · exact fun w hw => t3 _ (hC u hus w hw)
          · exact (t5 u hu hus).1
        · rw [htake] at hu
          rcases List.mem_append.1 hu with hu | hu
          · exact w1' u (hS u hu)
          · rw [List.mem_singleton.1 hu]; exact w2
end
theorem vars_s {A : List S64} (h6 : A.length ≤ 6) : ∃ V, Ev (fun k => spec_l12Vars.f k A) V ∧ (∀ a ∈ A, a.f1 ∈ V ∧ a.f2 ∈ V) ∧ V.length ≤ 12 := by
  have L : ∀ (n i : Nat) (o : List ByteArray), A.length - i ≤ n → i ≤ A.length → o.length ≤ 2 * i → (∀ a ∈ A.take i, a.f1 ∈ o ∧ a.f2 ∈ o) → ∃ V, Ev (fun k => spec_l12Vars.l0 k A o (i : Int)) V ∧ (∀ a ∈ A, a.f1 ∈ V ∧ a.f2 ∈ V) ∧ V.length ≤ 12 := by
    have fin : ∀ (i : Nat) (o : List ByteArray), ¬ i < A.length → i ≤ A.length → o.length ≤ 2 * i → (∀ a ∈ A.take i, a.f1 ∈ o ∧ a.f2 ∈ o) → ∃ V, Ev (fun k => spec_l12Vars.l0 k A o (i : Int)) V ∧ (∀ a ∈ A, a.f1 ∈ V ∧ a.f2 ∈ V) ∧ V.length ≤ 12 := fun i o hi hle ho hm => by
      rw [List.take_of_length_le (by omega)] at hm
      obtain ⟨r, g1, g2, g3, g4⟩ := sortR (l := o) (by omega)
      refine ⟨r, Ev.step ?_, fun a ha => ⟨(g2 _).2 (hm a ha).1, (g2 _).2 (hm a ha).2⟩, by omega⟩
      simp only [spec_l12Vars.l0, ltn hi, cond_false]
      exact Ev.bind g1 (Ev.ret _)
    intro n
    induction n with
    | zero => intro i o hn hle ho hm; exact fin i o (by omega) hle ho hm
    | succ n ih =>
      intro i o hn hle ho hm
      by_cases hi : i < A.length
      case neg => exact fin i o hi hle ho hm
      obtain ⟨W, g1, g2⟩ := ih (i + 1) (o ++ [A[i].f1, A[i].f2]) (by omega) (by omega) (by simp; omega) (fun a ha => by
        rw [List.take_succ_eq_append_getElem hi] at ha
        rcases List.mem_append.1 ha with ha | ha
        · exact ⟨List.mem_append.2 (.inl (hm a ha).1), List.mem_append.2 (.inl (hm a ha).2)⟩
        · rw [List.mem_singleton.1 ha]; exact ⟨by simp, by simp⟩)
      refine ⟨W, Ev.step ?_, g2⟩
      have ea : app o [A[i].f1, A[i].f2] = some (o ++ [A[i].f1, A[i].f2]) := by unfold app; rw [if_pos (by simp; omega)]
      simp only [spec_l12Vars.l0, ltd hi, cond_true, ixg hi, Option.bind_some, w1 (i := i) (by omega), ea]
      exact g1
  obtain ⟨V, h1, h2⟩ := L A.length 0 [] (by omega) (by omega) (by simp) (fun a ha => by simp at ha)
  exact ⟨V, Ev.step (by simp only [spec_l12Vars.f]; exact h1), h2⟩
/-! Whether atoms are right -/
def aB (a : S64) : Bool := nmB a.f0 && (freeB a.f1 && freeB a.f2)
def asB (A : List S64) : Bool := decide (1 ≤ A.length) && (decide (A.length ≤ 6) && A.all aB)
theorem atoms_s (A : List S64) : Ev (fun k => spec_AtomsFault.f k A) (if asB A then 0 else 1) := by
  have L : A.length ≤ 6 → ∀ (n i : Nat), A.length - i ≤ n → Ev (fun k => spec_AtomsFault.l0 k A (i : Int)) (if (A.drop i).all aB then 0 else 1) := by
    intro h6 n
    induction n with
    | zero =>
      intro i h
      rw [List.drop_of_length_le (by omega)]
      refine Ev.step ?_
      simp only [spec_AtomsFault.l0, ltn (show ¬ i < A.length by omega), cond_false]
      exact Ev.ret _
    | succ n ih =>
      intro i h
      by_cases hi : i < A.length
      · rw [List.drop_eq_getElem_cons hi, List.all_cons]
        refine Ev.step ?_
        simp only [spec_AtomsFault.l0, ltd hi, cond_true, ixg hi, Option.bind_some, w1 (i := i) (by omega)]
        refine Ev.bind (lnm _) ?_
        unfold aB
        cases nmB A[i].f0
        · exact Ev.ret _
        · refine Ev.bind (free_s _) ?_
          cases freeB A[i].f1
          · exact Ev.ret _
          · refine Ev.bind (free_s _) ?_
            cases freeB A[i].f2
            · exact Ev.ret _
            · exact ih (i + 1) (by omega)
      · rw [List.drop_of_length_le (by omega)]
        refine Ev.step ?_
        simp only [spec_AtomsFault.l0, ltn hi, cond_false]
        exact Ev.ret _
  refine Ev.step ?_
  unfold asB
  by_cases h1 : (A.length : Int) < 1
  · simp only [spec_AtomsFault.f, decide_eq_true h1, cond_true, decide_eq_false (show ¬ 1 ≤ A.length by omega), Bool.false_and]
    exact Ev.ret _
  · by_cases h6 : 6 < (A.length : Int)
    · simp only [spec_AtomsFault.f, decide_eq_false h1, decide_eq_true h6, cond_true, cond_false, decide_eq_false (show ¬ A.length ≤ 6 by omega), Bool.false_and, Bool.and_false]
      exact Ev.ret _
    · simp only [spec_AtomsFault.f, decide_eq_false h1, decide_eq_false h6, cond_false, decide_eq_true (show 1 ≤ A.length by omega), decide_eq_true (show A.length ≤ 6 by omega), Bool.true_and]
      exact L (by omega) _ 0 (Nat.le_refl _)
theorem atoms_i (A : List S64) : Ev (fun k => impl_atomsOk.f k A) (asB A) := by
  have L : A.length ≤ 6 → ∀ (n i : Nat), A.length - i ≤ n → Ev (fun k => impl_atomsOk.l0 k A (i : Int)) ((A.drop i).all aB) := by
    intro h6 n
    induction n with
    | zero =>
      intro i h
      rw [List.drop_of_length_le (by omega)]
      refine Ev.step ?_
      simp only [impl_atomsOk.l0, ltn (show ¬ i < A.length by omega), cond_false]
      exact Ev.ret _
    | succ n ih =>
      intro i h
      by_cases hi : i < A.length
      · rw [List.drop_eq_getElem_cons hi, List.all_cons]
        refine Ev.step ?_
        simp only [impl_atomsOk.l0, ltd hi, cond_true, ixg hi, Option.bind_some, w1 (i := i) (by omega)]
        refine Ev.bind (inm _) ?_
        unfold aB
        cases nmB A[i].f0
        · exact Ev.ret _
        · refine Ev.bind (free_i _) ?_
          cases freeB A[i].f1
          · exact Ev.ret _
          · refine Ev.bind (free_i _) ?_
            cases freeB A[i].f2
            · exact Ev.ret _
            · exact ih (i + 1) (by omega)
      · rw [List.drop_of_length_le (by omega)]
        refine Ev.step ?_
        simp only [impl_atomsOk.l0, ltn hi, cond_false]
        exact Ev.ret _
  refine Ev.step ?_
  unfold asB
  by_cases h1 : (A.length : Int) < 1
  · simp only [impl_atomsOk.f, decide_eq_true h1, cond_true, decide_eq_false (show ¬ 1 ≤ A.length by omega), Bool.false_and]
    exact Ev.ret _
  · by_cases h6 : 6 < (A.length : Int)
    · simp only [impl_atomsOk.f, decide_eq_false h1, decide_eq_true h6, cond_true, cond_false, decide_eq_false (show ¬ A.length ≤ 6 by omega), Bool.false_and, Bool.and_false]
      exact Ev.ret _
    · simp only [impl_atomsOk.f, decide_eq_false h1, decide_eq_false h6, cond_false, decide_eq_true (show 1 ≤ A.length by omega), decide_eq_true (show A.length ≤ 6 by omega), Bool.true_and]
      exact L (by omega) _ 0 (Nat.le_refl _)
theorem istree2 (A : List S64) : ∃ b, Ev (fun k => spec_IsTree.f k A) b ∧ Ev (fun k => impl_IsTree.f k A) b := by
  have hs := atoms_s A
  have hi := atoms_i A
  cases hok : asB A with
  | false =>
    rw [hok] at hs hi
    refine ⟨false, Ev.step ?_, ?_⟩
    · simp only [spec_IsTree.f]
      refine Ev.bind hs ?_
      simp only [Bool.false_eq_true, if_false, show ((1 : Int) == 0) = false from rfl, cond_false]
      exact Ev.ret _
    · unfold impl_IsTree.f
      refine Ev.bind hi ?_
      simp only [cond_false]
      exact Ev.ret _
  | true =>
    rw [hok] at hs hi
    unfold asB at hok
    simp only [Bool.and_eq_true, decide_eq_true_eq, List.all_eq_true] at hok
    obtain ⟨h1, h6, hall⟩ := hok
    obtain ⟨V, v1, v2, v3⟩ := vars_s h6
    have hne : ∀ v, ¬ Adj A v ⟨#[]⟩ := fun v hv => by
      obtain ⟨_, a, ha, e⟩ := hv
      have := hall a ha
      unfold aB at this
      simp only [Bool.and_eq_true] at this
      have hno : ∀ s : ByteArray, freeB s = true → s ≠ ⟨#[]⟩ := fun s hs e => by subst e; simp [freeB, nmB, nameOk] at hs
      rcases nrm_inj e with ⟨_, e⟩ | ⟨e, _⟩
      · exact hno _ this.2.2 e
      · exact hno _ this.2.1 e
    obtain ⟨b, hb, g⟩ := stree_l0 h6 v2 (by omega) hne
    refine ⟨b, Ev.step ?_, ?_⟩
    · simp only [spec_IsTree.f]
      refine Ev.bind hs ?_
      simp only [if_true, show ((0 : Int) == 0) = true from rfl, cond_true]
      refine Ev.bind v1 ?_
      refine g _ 0 [] [] (Nat.le_refl _) (Nat.zero_le _) ?_ trivial (fun e he => by simp at he) (fun e he => by simp at he) (fun u hu => by simp at hu) (fun u hu => by simp at hu)
      have : ms V [] ≤ V.length := List.length_filter_le _ _
      simpa using this
    · unfold impl_IsTree.f
      refine Ev.bind hi ?_
      simp only [cond_true]
      exact Ev.bind (itree h6 hb) (Ev.ret _)
theorem lftT : Lft 1048576 := by unfold Lft; omega
theorem said_FnExactIsTree (l : List S64) (h : Lst wf64 l) : ∃ k, laws_FnExactIsTree.f k l = some true := by
  refine Ev.at_ (f := fun k => laws_FnExactIsTree.f k l) ?_
  unfold laws_FnExactIsTree.f
  obtain ⟨r, h1, h2, h3⟩ := sz_AtomS l h lftT
  refine Ev.bind h1 ?_
  by_cases hr : r < 0
  · simp only [decide_eq_true hr, cond_true]; exact Ev.ret _
  simp only [decide_eq_false hr, cond_false]
  have hb := h3 (by omega)
  obtain ⟨b, s1, s2⟩ := istree2 (l.map trAtom)
  refine Ev.bind (to_AtomS l hb) (Ev.bind s1 (Ev.bind (to_AtomS l hb) (Ev.bind s2 ?_)))
  simp only [beq_self_eq_true, cond_true]
  refine Ev.bind (to_AtomS l hb) (Ev.bind (eq_AtomS l hb) ?_)
  simp only [cond_true]; exact Ev.ret _
end Go.Ab
