/- Atoms that make a tree: parts that are joined, and a walk that meets nothing twice, tell the same. No condition beyond the argument's shape. -/
import Derived.Test.YtfeieigajdekhaaAbN1
import Derived.Test.YtfeieigajdekhaaAbFRE
import Derived.Test.YtfeieigajdekhaaAbH0
namespace Go.Ab
open Go.Proofs
set_option linter.unusedVariables false
set_option linter.unusedSimpArgs false
abbrev BA2 := ByteArray × ByteArray
/-- Two texts, the lesser one first. -/
def nrm (x y : ByteArray) : BA2 := ((bif slt y x then y else x), (bif slt x y then y else x))
theorem nrm_cases (x y : ByteArray) : nrm x y = (x, y) ∨ nrm x y = (y, x) := by
  unfold nrm
  cases h : slt x y with
  | true => rw [slt_asymm h]; exact .inl rfl
  | false =>
    cases h' : slt y x with
    | true => exact .inr rfl
    | false => have := slt_tri h h'; subst this; exact .inl rfl
theorem nrm_comm (x y : ByteArray) : nrm x y = nrm y x := by
  unfold nrm
  cases h : slt x y with
  | true => rw [slt_asymm h]; rfl
  | false =>
    cases h' : slt y x with
    | true => rfl
    | false => have := slt_tri h h'; subst this; rfl
theorem nrm_inj {x y u v : ByteArray} (h : nrm x y = nrm u v) : (x = u ∧ y = v) ∨ (x = v ∧ y = u) := by
  rcases nrm_cases x y with e | e <;> rcases nrm_cases u v with e' | e' <;> rw [e, e'] at h <;> simp only [Prod.mk.injEq] at h
  · exact .inl h
  · exact .inr h
  · exact .inr ⟨h.2, h.1⟩
  · exact .inl ⟨h.2, h.1⟩
theorem nrm_self {x u v : ByteArray} (h : nrm x x = nrm u v) : u = v := by
  rcases nrm_inj h with ⟨rfl, rfl⟩ | ⟨rfl, rfl⟩ <;> rfl
theorem conn_nrm {S : List BA2} {x y : ByteArray} : Conn S (nrm x y).1 (nrm x y).2 ↔ Conn S x y := by
  rcases nrm_cases x y with e | e <;> rw [e]
  exact ⟨Conn.symm, Conn.symm⟩
theorem conn_edge {S : List BA2} {x y : ByteArray} (h : nrm x y ∈ S) : Conn S x y := conn_nrm.1 (Conn.edge h)
/-- What the atoms lay between two. -/
def EK (A : List S64) (e : BA2) : Prop := ∃ a ∈ A, a.f1 ≠ a.f2 ∧ nrm a.f1 a.f2 = e
def Adj (A : List S64) (u v : ByteArray) : Prop := u ≠ v ∧ ∃ a ∈ A, nrm a.f1 a.f2 = nrm u v
theorem adj_ek {A : List S64} {u v : ByteArray} (h : Adj A u v) : EK A (nrm u v) := by
  obtain ⟨hne, a, ha, e⟩ := h
  exact ⟨a, ha, fun e' => hne (by rw [e'] at e; exact nrm_self e), e⟩
theorem adj_symm {A : List S64} {u v : ByteArray} (h : Adj A u v) : Adj A v u := by
  obtain ⟨hne, a, ha, e⟩ := h
  exact ⟨hne.symm, a, ha, by rw [e, nrm_comm]⟩
theorem ek_adj {A : List S64} {e : BA2} (h : EK A e) : ∃ u v, Adj A u v ∧ nrm u v = e := by
  obtain ⟨a, ha, hne, he⟩ := h
  exact ⟨a.f1, a.f2, ⟨hne, a, ha, rfl⟩, he⟩
open Classical in
noncomputable def dst (S : List BA2) (a : S64) : List BA2 := if a.f1 = a.f2 ∨ nrm a.f1 a.f2 ∈ S then S else nrm a.f1 a.f2 :: S
noncomputable def Dn (A : List S64) : List BA2 := A.foldl dst []
theorem dst_mem (S : List BA2) (a : S64) (e : BA2) : e ∈ dst S a ↔ e ∈ S ∨ (a.f1 ≠ a.f2 ∧ nrm a.f1 a.f2 = e) := by
  unfold dst
  by_cases h1 : a.f1 = a.f2
  · rw [if_pos (.inl h1)]; exact ⟨.inl, fun h => h.elim id fun g => absurd h1 g.1⟩
  · by_cases h2 : nrm a.f1 a.f2 ∈ S
    · rw [if_pos (.inr h2)]; exact ⟨.inl, fun h => h.elim id fun g => g.2 ▸ h2⟩
    · rw [if_neg (by simp [h1, h2]), List.mem_cons]
      exact ⟨fun h => h.elim (fun e => .inr ⟨h1, e.symm⟩) .inl, fun h => h.elim .inr fun g => .inl g.2.symm⟩
theorem fold_mem (e : BA2) : ∀ (A : List S64) (S : List BA2), e ∈ A.foldl dst S ↔ e ∈ S ∨ EK A e
 | [], S => by simp [EK]
 | a :: A, S => by
   rw [List.foldl_cons, fold_mem e A, dst_mem]
   constructor
   · rintro ((h | h) | ⟨b, hb, h⟩)
     · exact .inl h
     · exact .inr ⟨a, by simp, h⟩
     · exact .inr ⟨b, by simp [hb], h⟩
   · rintro (h | ⟨b, hb, h⟩)
     · exact .inl (.inl h)
     · rcases List.mem_cons.1 hb with rfl | hb
       · exact .inl (.inr h)
       · exact .inr ⟨b, hb, h⟩
theorem fold_tail : ∀ (A : List S64) (S : List BA2), ∃ R, A.foldl dst S = R ++ S
 | [], S => ⟨[], rfl⟩
 | a :: A, S => by
   rw [List.foldl_cons]
   obtain ⟨R, hR⟩ := fold_tail A (dst S a)
   rw [hR]
   unfold dst
   split
   · exact ⟨R, rfl⟩
   · exact ⟨R ++ [nrm a.f1 a.f2], by simp⟩
theorem fold_nodup : ∀ (A : List S64) (S : List BA2), S.Nodup → (A.foldl dst S).Nodup
 | [], S, h => h
 | a :: A, S, h => by
   rw [List.foldl_cons]
   refine fold_nodup A _ ?_
   unfold dst
   split
   · exact h
   · rename_i hn
     exact List.nodup_cons.2 ⟨fun hm => hn (.inr hm), h⟩
theorem dn_mem (A : List S64) (e : BA2) : e ∈ Dn A ↔ EK A e := by
  unfold Dn; rw [fold_mem]; simp
theorem dn_nodup (A : List S64) : (Dn A).Nodup := fold_nodup A [] List.nodup_nil
/-! Parts that are joined -/
/-- The root of one's part. -/
inductive Rt (p : List BA2) : ByteArray → ByteArray → Prop
 | base (x : ByteArray) (h : tget p x ⟨#[]⟩ = x) : Rt p x x
 | up (x r : ByteArray) (h : tget p x ⟨#[]⟩ ≠ x) (h' : Rt p (tget p x ⟨#[]⟩) r) : Rt p x r
theorem rt_ev {p : List BA2} {x r : ByteArray} (h : Rt p x r) : Ev (fun k => impl_isTree_1.f k x p) (r, p) := by
  induction h with
  | base x h =>
    refine Ev.step ?_
    simp only [impl_isTree_1.f, decide_eq_true h, cond_true]
    exact Ev.ret _
  | up x r h h' ih =>
    refine Ev.step ?_
    simp only [impl_isTree_1.f, decide_eq_false h, cond_false]
    exact Ev.bind ih (Ev.ret _)
theorem rt_root {p : List BA2} {x r : ByteArray} (h : Rt p x r) : tget p r ⟨#[]⟩ = r := by
  induction h with
  | base x h => exact h
  | up x r h h' ih => exact ih
theorem rt_fun {p : List BA2} {x r : ByteArray} (h : Rt p x r) : ∀ {r' : ByteArray}, Rt p x r' → r = r' := by
  induction h with
  | base x h =>
    intro r' h2
    cases h2 with
    | base _ _ => rfl
    | up _ _ g _ => exact absurd h g
  | up x r h h' ih =>
    intro r' h2
    cases h2 with
    | base _ g => exact absurd g h
    | up _ _ _ g => exact ih g
theorem rt_put {p : List BA2} {a b : ByteArray} (ha : tget p a ⟨#[]⟩ = a) (hb : tget p b ⟨#[]⟩ = b) (hab : a ≠ b) {x r : ByteArray} (h : Rt p x r) : Rt (tput p a b) x (if r = a then b else r) := by
  have hget : ∀ y, tget (tput p a b) y ⟨#[]⟩ = if y = a then b else tget p y ⟨#[]⟩ := fun y => tget_tput a y b _ p
  have hbb : Rt (tput p a b) b b := .base b (by rw [hget, if_neg hab.symm, hb])
  induction h with
  | base x h =>
    by_cases e : x = a
    · rw [if_pos e]
      subst e
      refine .up x b (by rw [hget, if_pos rfl]; exact hab.symm) ?_
      rw [hget, if_pos rfl]; exact hbb
    · rw [if_neg e]; exact .base x (by rw [hget, if_neg e, h])
  | up x r h h' ih =>
    have e : x ≠ a := by rintro rfl; exact h ha
    refine .up x _ (by rw [hget, if_neg e]; exact h) ?_
    rw [hget, if_neg e]; exact ih
/-- Parts, told by roots, are what the edges join. -/
structure UF (V : List ByteArray) (p : List BA2) (S : List BA2) : Prop where
  rt : ∀ x ∈ V, ∃ r, Rt p x r
  eq : ∀ x ∈ V, ∀ y ∈ V, ∀ rx ry, Rt p x rx → Rt p y ry → (rx = ry ↔ Conn S x y)
theorem uf_put {V : List ByteArray} {p S : List BA2} (h : UF V p S) {u v a b : ByteArray} (hu : u ∈ V) (hv : v ∈ V) (ra : Rt p u a) (rb : Rt p v b) (hab : a ≠ b) : UF V (tput p a b) (nrm u v :: S) where
  rt x hx := by
    obtain ⟨r, hr⟩ := h.rt x hx
    exact ⟨_, rt_put (rt_root ra) (rt_root rb) hab hr⟩
  eq x hx y hy rx' ry' h1 h2 := by
    obtain ⟨rx, hrx⟩ := h.rt x hx
    obtain ⟨ry, hry⟩ := h.rt y hy
    have ex := rt_fun h1 (rt_put (rt_root ra) (rt_root rb) hab hrx)
    have ey := rt_fun h2 (rt_put (rt_root ra) (rt_root rb) hab hry)
    subst ex; subst ey
    have huv : Conn (nrm u v :: S) u v := conn_edge (by simp)
    have cx : rx = a ↔ Conn S x u := h.eq x hx u hu rx a hrx ra
    have cy : ry = a ↔ Conn S y u := h.eq y hy u hu ry a hry ra
    have dx : rx = b ↔ Conn S x v := h.eq x hx v hv rx b hrx rb
    have dy : ry = b ↔ Conn S y v := h.eq y hy v hv ry b hry rb
    constructor
    · intro e
      by_cases e1 : rx = a
      · by_cases e2 : ry = a
        · exact ((h.eq x hx y hy rx ry hrx hry).1 (e1.trans e2.symm)).up
        · rw [if_pos e1, if_neg e2] at e
          exact ((cx.1 e1).up.trans huv).trans (dy.1 e.symm).up.symm
      · by_cases e2 : ry = a
        · rw [if_neg e1, if_pos e2] at e
          exact ((dx.1 e).up.trans huv.symm).trans (cy.1 e2).up.symm
        · rw [if_neg e1, if_neg e2] at e
          exact ((h.eq x hx y hy rx ry hrx hry).1 e).up
    · intro hc
      have two : (Conn S x u ∧ Conn S y v) ∨ (Conn S x v ∧ Conn S y u) → (if rx = a then b else rx) = (if ry = a then b else ry) := by
        rintro (⟨g1, g2⟩ | ⟨g1, g2⟩)
        · have f1 := cx.2 g1
          have f2 := dy.2 g2
          rw [if_pos f1, if_neg (by rw [f2]; exact hab.symm), f2]
        · have f1 := dx.2 g1
          have f2 := cy.2 g2
          rw [if_pos f2, if_neg (by rw [f1]; exact hab.symm), f1]
      rcases hc.cons with g | ⟨g1, g2⟩ | ⟨g1, g2⟩
      · rw [(h.eq x hx y hy rx ry hrx hry).2 g]
      · rcases nrm_cases u v with e | e <;> rw [e] at g1 g2
        · exact two (.inl ⟨g1, g2.symm⟩)
        · exact two (.inr ⟨g1, g2.symm⟩)
      · rcases nrm_cases u v with e | e <;> rw [e] at g1 g2
        · exact two (.inr ⟨g1, g2.symm⟩)
        · exact two (.inl ⟨g1, g2.symm⟩)
/-! Counts of pairs -/
section
variable {κ β : Type} [DecidableEq κ]
theorem tfind_lt (K : κ) : ∀ (l : List (κ × β)) (j i : Nat) (v : β), tfind K l j = some (i, v) → j ≤ i ∧ i < j + l.length
 | [], j, i, v, h => by simp [tfind] at h
 | (a, b) :: r, j, i, v, h => by
   unfold tfind at h
   cases hd : decide (K = a) with
   | true => rw [hd] at h; simp at h; simp only [List.length_cons]; omega
   | false =>
     rw [hd] at h
     have := tfind_lt K r (j + 1) i v h
     simp only [List.length_cons]; omega
omit [DecidableEq κ] in
theorem modify_end (a : κ × β) (f : κ × β → κ × β) : ∀ l : List (κ × β), (l ++ [a]).modify l.length f = l ++ [f a]
 | [] => rfl
 | b :: l => by simp only [List.cons_append, List.length_cons, List.modify_succ_cons, modify_end a f l]
theorem inc_put (l : List (κ × β)) (K : κ) (z v : β) : tset1 (tent l K z) (tidx l K) v = tput l K v := by
  unfold tset1 tent tidx tput thas
  cases h : tfind K l 0 with
  | none => simp [modify_end]
  | some q => simp [tset1]
theorem inc_tst (l : List (κ × β)) (K : κ) (z : β) : tst (tent l K z) ((tidx l K : Nat) : Int) = some () := by
  unfold tst
  rw [if_pos]
  unfold tent tidx thas
  cases h : tfind K l 0 with
  | none => simp; omega
  | some q =>
    obtain ⟨i, v⟩ := q
    have := tfind_lt K l 0 i v h
    simp; omega
end
def Cnt (s : List (BA2 × Int)) (A : List S64) : Prop := ∀ K, 0 ≤ tget s K 0 ∧ tget s K 0 ≤ A.length ∧ (1 ≤ tget s K 0 ↔ ∃ a ∈ A, nrm a.f1 a.f2 = K)
theorem cnt_step {s : List (BA2 × Int)} {A : List S64} {i : Nat} (h : Cnt s (A.take i)) (hi : i < A.length) (h6 : A.length ≤ 6) : Cnt (tput s (nrm A[i].f1 A[i].f2) (IntKind.i64.wrap (tget s (nrm A[i].f1 A[i].f2) 0 + 1))) (A.take (i + 1)) := by
  intro K
  have hg := tget_tput (nrm A[i].f1 A[i].f2) K (IntKind.i64.wrap (tget s (nrm A[i].f1 A[i].f2) 0 + 1)) 0 s
  obtain ⟨a1, a2, a3⟩ := h (nrm A[i].f1 A[i].f2)
  obtain ⟨b1, b2, b3⟩ := h K
  have ht : (A.take i).length = i := by simp; omega
  have ht1 : (A.take (i + 1)).length = i + 1 := by simp; omega
  rw [hg, ht1]
  rw [ht] at a2 b2
  rw [List.take_succ_eq_append_getElem hi]
  by_cases e : K = nrm A[i].f1 A[i].f2
  · rw [if_pos e, w64 (by omega) (by omega)]
    refine ⟨by omega, by omega, ⟨fun _ => ⟨A[i], List.mem_append.2 (.inr (List.mem_singleton.2 rfl)), e.symm⟩, fun _ => by omega⟩⟩
  · rw [if_neg e]
    refine ⟨b1, by omega, b3.trans ⟨fun ⟨a, ha, g⟩ => ⟨a, List.mem_append.2 (.inl ha), g⟩, fun ⟨a, ha, g⟩ => ?_⟩⟩
    rcases List.mem_append.1 ha with ha | ha
    · exact ⟨a, ha, g⟩
    · rw [List.mem_singleton.1 ha] at g; exact absurd g.symm e
section
variable {A : List S64} (h6 : A.length ≤ 6) {V : List ByteArray} (hV : ∀ a ∈ A, a.f1 ∈ V ∧ a.f2 ∈ V)
include h6 hV
theorem itree_l1 {b : Bool} (hb : b = true ↔ Ind (Dn A)) : ∀ (n i : Nat) (p : List BA2) (s : List (BA2 × Int)), A.length - i ≤ n → i ≤ A.length → UF V p ((A.take i).foldl dst []) → Cnt s (A.take i) → Ind ((A.take i).foldl dst []) → Ev (fun k => impl_isTree.l1 k A (i : Int) p s) b := by
  have fin : ∀ (i : Nat) (p : List BA2) (s : List (BA2 × Int)), ¬ i < A.length → Ind ((A.take i).foldl dst []) → Ev (fun k => impl_isTree.l1 k A (i : Int) p s) b := fun i p s hi hI => by
    rw [List.take_of_length_le (by omega)] at hI
    rw [hb.2 hI]
    refine Ev.step ?_
    simp only [impl_isTree.l1, ltn hi, cond_false]
    exact Ev.ret _
  intro n
  induction n with
  | zero => intro i p s hn hle _ _ hI; exact fin i p s (by omega) hI
  | succ n ih =>
    intro i p s hn hle hU hC hI
    by_cases hi : i < A.length
    case neg => exact fin i p s hi hI
    have hC' := cnt_step hC hi h6
    obtain ⟨c1, c2, c3⟩ := hC (nrm A[i].f1 A[i].f2)
    have ht : (A.take i).length = i := by simp; omega
    rw [ht] at c2
    have hfold : (A.take (i + 1)).foldl dst [] = dst ((A.take i).foldl dst []) A[i] := by rw [List.take_succ_eq_append_getElem hi, List.foldl_append]; rfl
    have hw : IntKind.i64.wrap (tget s (nrm A[i].f1 A[i].f2) 0 + 1) = tget s (nrm A[i].f1 A[i].f2) 0 + 1 := w64 (by omega) (by omega)
    have key : ((bif slt A[i].f2 A[i].f1 then A[i].f2 else A[i].f1), (bif slt A[i].f1 A[i].f2 then A[i].f2 else A[i].f1)) = nrm A[i].f1 A[i].f2 := rfl
    -- the pair is there already, or is none: nothing is joined
    have skip : dst ((A.take i).foldl dst []) A[i] = (A.take i).foldl dst [] → Ev (fun k => impl_isTree.j0 k A (i : Int) p s A[i]) b := fun e => by
      refine Ev.step ?_
      simp only [impl_isTree.j0, key, inc_put, w1 (i := i) (by omega)]
      exact ih (i + 1) p _ (by omega) (by omega) (by rw [hfold, e]; exact hU) hC' (by rw [hfold, e]; exact hI)
    refine Ev.step ?_
    simp only [impl_isTree.l1, ltd hi, cond_true, ixg hi, Option.bind_some, key, inc_tst, inc_put, w1 (i := i) (by omega)]
    by_cases hl : A[i].f1 = A[i].f2
    · simp only [decide_eq_true hl, cond_true]
      exact skip (by unfold dst; rw [if_pos (.inl hl)])
    simp only [decide_eq_false hl, cond_false]
    have hg : tget (tput s (nrm A[i].f1 A[i].f2) (IntKind.i64.wrap (tget s (nrm A[i].f1 A[i].f2) 0 + 1))) (nrm A[i].f1 A[i].f2) 0 = tget s (nrm A[i].f1 A[i].f2) 0 + 1 := by rw [tget_tput, if_pos rfl, hw]
    rw [hg]
    have hin : nrm A[i].f1 A[i].f2 ∈ (A.take i).foldl dst [] ↔ 1 ≤ tget s (nrm A[i].f1 A[i].f2) 0 := by
      rw [fold_mem, c3]
      constructor
      · rintro (h | ⟨a, ha, _, g⟩)
        · simp at h
        · exact ⟨a, ha, g⟩
      · rintro ⟨a, ha, g⟩
        exact .inr ⟨a, ha, fun e => hl (by rw [e] at g; exact nrm_self g), g⟩
    by_cases hm : 1 < tget s (nrm A[i].f1 A[i].f2) 0 + 1
    · simp only [decide_eq_true hm, cond_true]
      exact skip (by unfold dst; rw [if_pos (.inr (hin.2 (by omega)))])
    simp only [decide_eq_false hm, cond_false]
    have hnot : nrm A[i].f1 A[i].f2 ∉ (A.take i).foldl dst [] := fun h => by have := hin.1 h; omega
    have hd : dst ((A.take i).foldl dst []) A[i] = nrm A[i].f1 A[i].f2 :: (A.take i).foldl dst [] := by unfold dst; rw [if_neg (fun h => h.elim hl hnot)]
    obtain ⟨hv1, hv2⟩ := hV A[i] (List.getElem_mem hi)
    obtain ⟨ra, hra⟩ := hU.rt _ hv1
    obtain ⟨rb, hrb⟩ := hU.rt _ hv2
    refine Ev.bind (rt_ev hra) (Ev.bind (rt_ev hrb) ?_)
    have hc := hU.eq _ hv1 _ hv2 ra rb hra hrb
    by_cases hab : ra = rb
    · simp only [decide_eq_true hab, cond_true]
      have : b = false := by
        rw [Bool.eq_false_iff]
        intro h
        have hD := hb.1 h
        obtain ⟨R, hR⟩ := fold_tail (A.drop (i + 1)) (nrm A[i].f1 A[i].f2 :: (A.take i).foldl dst [])
        have e : Dn A = R ++ (nrm A[i].f1 A[i].f2 :: (A.take i).foldl dst []) := by
          rw [← hR, ← hd, ← hfold]
          unfold Dn
          rw [← List.foldl_append, List.take_append_drop]
        rw [e] at hD
        exact (ind_tail hD).2 (conn_nrm.2 (hc.1 hab))
      rw [this]; exact Ev.ret _
    · simp only [decide_eq_false hab, cond_false]
      refine ih (i + 1) _ _ (by omega) (by omega) ?_ hC' ?_
      · rw [hfold, hd]; exact uf_put hU hv1 hv2 hra hrb hab
      · rw [hfold, hd]; exact ⟨hI, fun h => hab (hc.2 (conn_nrm.1 h))⟩
end
theorem itree_l0 {A : List S64} {V : List ByteArray} {b : Bool} (hl : V.length ≤ 2000000) (h : ∀ p, (∀ x ∈ V, tget p x ⟨#[]⟩ = x) → Ev (fun k => impl_isTree.l1 k A 0 p []) b) : ∀ (n i : Nat) (p : List BA2), V.length - i ≤ n → i ≤ V.length → (∀ x ∈ V.take i, tget p x ⟨#[]⟩ = x) → Ev (fun k => impl_isTree.l0 k A V (i : Int) p) b := by
  intro n
  induction n with
  | zero =>
    intro i p hn hi hp
    rw [List.take_of_length_le (by omega)] at hp
    refine Ev.step ?_
    simp only [impl_isTree.l0, ltn (show ¬ i < V.length by omega), cond_false]
    exact h p hp
  | succ n ih =>
    intro i p hn hi hp
    by_cases hlt : i < V.length
    · refine Ev.step ?_
      simp only [impl_isTree.l0, ltd hlt, cond_true, ixg hlt, Option.bind_some, w1 (i := i) (by omega)]
      refine ih (i + 1) _ (by omega) (by omega) (fun x hx => ?_)
      rw [tget_tput]
      by_cases e : x = V[i]
      · rw [if_pos e, e]
      · rw [if_neg e]
        rw [List.take_succ_eq_append_getElem hlt] at hx
        rcases List.mem_append.1 hx with hx | hx
        · exact hp x hx
        · exact absurd (List.mem_singleton.1 hx) e
    · rw [List.take_of_length_le (by omega)] at hp
      refine Ev.step ?_
      simp only [impl_isTree.l0, ltn hlt, cond_false]
      exact h p hp
theorem vars_i {A : List S64} (h6 : A.length ≤ 6) : ∃ V, Ev (fun k => impl_variables.f k A) V ∧ (∀ a ∈ A, a.f1 ∈ V ∧ a.f2 ∈ V) ∧ V.length ≤ 12 := by
  have L : ∀ (n i : Nat) (o : List ByteArray), A.length - i ≤ n → i ≤ A.length → RsN o → o.length ≤ 2 * i → (∀ a ∈ A.take i, a.f1 ∈ o ∧ a.f2 ∈ o) → ∃ V, Ev (fun k => impl_variables.l0 k o A (i : Int)) V ∧ (∀ a ∈ A, a.f1 ∈ V ∧ a.f2 ∈ V) ∧ V.length ≤ 12 := by
    have fin : ∀ (i : Nat) (o : List ByteArray), ¬ i < A.length → i ≤ A.length → o.length ≤ 2 * i → (∀ a ∈ A.take i, a.f1 ∈ o ∧ a.f2 ∈ o) → ∃ V, Ev (fun k => impl_variables.l0 k o A (i : Int)) V ∧ (∀ a ∈ A, a.f1 ∈ V ∧ a.f2 ∈ V) ∧ V.length ≤ 12 := fun i o hi hle ho hm => by
      rw [List.take_of_length_le (by omega)] at hm
      refine ⟨o, Ev.step ?_, hm, by omega⟩
      simp only [impl_variables.l0, ltn hi, cond_false]
      exact Ev.ret _
    intro n
    induction n with
    | zero => intro i o hn hle hr ho hm; exact fin i o (by omega) hle ho hm
    | succ n ih =>
      intro i o hn hle hr ho hm
      by_cases hi : i < A.length
      case neg => exact fin i o hi hle ho hm
      obtain ⟨o1, a1, a2, a3, a4⟩ := insert_3 A[i].f1 (o := o) (by omega) hr
      obtain ⟨o2, b1, b2, b3, b4⟩ := insert_3 A[i].f2 (o := o1) (by omega) a4
      obtain ⟨W, g1, g2⟩ := ih (i + 1) o2 (by omega) (by omega) b4 (by omega) (fun a ha => by
        rw [List.take_succ_eq_append_getElem hi] at ha
        rcases List.mem_append.1 ha with ha | ha
        · obtain ⟨q1, q2⟩ := hm a ha
          exact ⟨(b2 _).2 (.inl ((a2 _).2 (.inl q1))), (b2 _).2 (.inl ((a2 _).2 (.inl q2)))⟩
        · rw [List.mem_singleton.1 ha]
          exact ⟨(b2 _).2 (.inl ((a2 _).2 (.inr rfl))), (b2 _).2 (.inr rfl)⟩)
      refine ⟨W, Ev.step ?_, g2⟩
      simp only [impl_variables.l0, ltd hi, cond_true, ixg hi, Option.bind_some, w1 (i := i) (by omega)]
      exact Ev.bind a1 (Ev.bind b1 g1)
  obtain ⟨V, h1, h2⟩ := L A.length 0 [] (by omega) (by omega) List.Pairwise.nil (by simp) (fun a ha => by simp at ha)
  exact ⟨V, Ev.step (by simp only [impl_variables.f]; exact h1), h2⟩
theorem itree {A : List S64} (h6 : A.length ≤ 6) {b : Bool} (hb : b = true ↔ Ind (Dn A)) : Ev (fun k => impl_isTree.f k A) b := by
  obtain ⟨V, h1, h2, h3⟩ := vars_i h6
  refine Ev.step ?_
  simp only [impl_isTree.f]
  refine Ev.bind h1 (itree_l0 (by omega) (fun p hp => ?_) _ 0 [] (Nat.le_refl _) (Nat.zero_le _) (fun x hx => by simp at hx))
  refine itree_l1 h6 h2 hb _ 0 p [] (Nat.le_refl _) (Nat.zero_le _) ⟨fun x hx => ⟨x, .base x (hp x hx)⟩, fun x hx y hy rx ry h1 h2 => ?_⟩ (fun K => ⟨by simp [tget, tfind], by simp [tget, tfind], by simp [tget, tfind]⟩) trivial
  have e1 := rt_fun h1 (.base x (hp x hx))
  have e2 := rt_fun h2 (.base y (hp y hy))
  subst e1; subst e2
  exact ⟨fun e => e ▸ Conn.refl _, fun h => h (fun a b => a = b) (fun a => rfl) (fun a b e => e.symm) (fun a b c e e' => e.trans e') (fun e he => by simp at he)⟩
end Go.Ab
