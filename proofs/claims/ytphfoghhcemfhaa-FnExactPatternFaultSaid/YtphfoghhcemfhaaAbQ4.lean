/- Patterns: the program's test tells what the reference's tells. No condition. -/
import Derived.Test.YtphfoghhcemfhaaAbQ3
namespace Go.Ab
open Go.Proofs
set_option linter.unusedVariables false
set_option linter.unusedSimpArgs false
def cnt (x : ByteArray) (S : List ByteArray) : Nat := (S.filter (fun y => decide (y = x))).length
theorem cnt_snoc (x s : ByteArray) (S : List ByteArray) : cnt x (S ++ [s]) = cnt x S + if s = x then 1 else 0 := by
  unfold cnt
  rw [List.filter_append, List.length_append]
  by_cases h : s = x <;> simp [h]
theorem cnt_pos {x : ByteArray} {S : List ByteArray} : 0 < cnt x S ↔ x ∈ S := by
  unfold cnt
  rw [List.length_pos_iff_exists_mem]
  constructor
  · rintro ⟨y, hy⟩
    obtain ⟨h1, h2⟩ := List.mem_filter.1 hy
    rw [← of_decide_eq_true h2]; exact h1
  · intro h
    exact ⟨x, List.mem_filter.2 ⟨h, decide_eq_true rfl⟩⟩
theorem cnt_le (x : ByteArray) (S : List ByteArray) : cnt x S ≤ S.length := List.length_filter_le _ _
def Cnt (tb : List (ByteArray × Int)) (S : List ByteArray) : Prop := ∀ x, tget tb x 0 = (cnt x S : Int)
theorem own_i {tb : List (ByteArray × Int)} {S : List ByteArray} (s : ByteArray) (h : Cnt tb S) (hS : S.length ≤ 1000) : ∃ tb', Cnt tb' (S ++ [s]) ∧ ∃ c : Bool, (c = true ↔ NmOk s ∧ (s = e0 ∨ s ∉ S)) ∧ Ev (fun k => impl_patternOk_1.f k s tb) (c, tb') := by
  have hle := cnt_le s S
  have e1 : IntKind.i64.wrap (tget tb s 0 + 1) = ((cnt s S + 1 : Nat) : Int) := by rw [h s, wI (by omega) (by omega)]; omega
  have hC : Cnt (tput tb s (IntKind.i64.wrap (tget tb s 0 + 1))) (S ++ [s]) := fun x => by
    rw [tget_tput, e1, cnt_snoc]
    by_cases e : x = s
    · subst e; rw [if_pos rfl, if_pos rfl]
    · rw [if_neg e, h x, if_neg (fun h => e h.symm)]; rfl
  refine ⟨_, hC, ?_⟩
  unfold impl_patternOk_1.f
  by_cases h0 : s = e0
  · refine ⟨true, ⟨fun _ => ⟨.inl h0, .inl h0⟩, fun _ => rfl⟩, ?_⟩
    simp only [decide_eq_true h0, cond_true]; exact Ev.ret _
  · simp only [decide_eq_false h0, cond_false]
    cases hf : freeB s with
    | false =>
      refine ⟨false, ⟨fun e => (by cases e), fun x => x.1.elim (fun y => absurd y h0) (fun y => by rw [hf] at y; cases y)⟩, Ev.bind (free_i s) ?_⟩
      rw [hf]; exact Ev.ret _
    | true =>
      have hm : cnt s S = 0 ↔ s ∉ S := by rw [← cnt_pos]; omega
      refine ⟨decide (cnt s S = 0), ?_, Ev.bind (free_i s) ?_⟩
      · rw [decide_eq_true_eq, hm]
        exact ⟨fun x => ⟨.inr hf, .inr x⟩, fun x => x.2.elim (fun y => absurd y h0) id⟩
      · rw [hf]
        simp only [cond_true]
        refine (Ev.ret _).eq ?_
        congr 1
        rw [hC s, cnt_snoc, if_pos rfl]
        by_cases hm : cnt s S = 0
        · rw [decide_eq_true hm, hm]; rfl
        · rw [decide_eq_false hm]; simp; omega
theorem lab_arm_i {t : ByteArray} {f : Nat → Option Bool} {P : Prop} (h : Tl id f P) : Tl id (fun k => bif decide (t = e0) then f k else ((impl_LabelsFault.f k t).bind fun v5 => (bif (v5 == 0) then f k else (some false)))) (LbOk t ∧ P) := by
  refine Tl.cond (fun h0 => h.iff ⟨fun x => x.2, fun x => ⟨.inl (of_decide_eq_true h0), x⟩⟩) (fun h0 => ?_)
  have hne := of_decide_eq_false h0
  refine Tl.bind (labi t) (fun q => h.iff ⟨fun x => x.2, fun x => ⟨.inr q, x⟩⟩) (fun q => Tl.no (v := id) (fun x => x.1.elim hne q))
theorem nodes_i {p : S78} {tb : List (ByteArray × Int)} {S : List ByteArray} (hC : Cnt tb S) (h3 : p.f3.length ≤ 1000) : ∀ (n i : Nat), p.f3.length - i ≤ n → Tl id (fun k => impl_patternOk.l1 k p (i : Int) tb) (∀ e ∈ p.f3.drop i, NdOk e ∧ (e.f0 = e0 ∨ e.f0 ∉ S)) := by
  have fin : ∀ i : Nat, ¬ i < p.f3.length → Tl id (fun k => impl_patternOk.l1 k p (i : Int) tb) (∀ e ∈ p.f3.drop i, NdOk e ∧ (e.f0 = e0 ∨ e.f0 ∉ S)) := fun i h => by
    refine Tl.step ?_
    rw [List.drop_of_length_le (by omega)]
    simp only [impl_patternOk.l1, ltn h, cond_false]
    exact Tl.yes (v := id) (fun e he => by cases he)
  intro n
  induction n with
  | zero => intro i h; exact fin i (by omega)
  | succ n ih =>
    intro i h
    by_cases hi : i < p.f3.length
    case neg => exact fin i hi
    refine Tl.step ?_
    rw [List.drop_eq_getElem_cons hi]
    simp only [impl_patternOk.l1, ltd hi, cond_true, ixg hi, Option.bind_some, wup hi (show p.f3.length ≤ 2000000 by omega)]
    have nx := ih (i + 1) (by omega)
    have sp : NmOk p.f3[i].f0 → (p.f3[i].f0 = e0 ∨ p.f3[i].f0 ∉ S) → ((∀ e ∈ p.f3[i] :: p.f3.drop (i + 1), NdOk e ∧ (e.f0 = e0 ∨ e.f0 ∉ S)) ↔ LbOk p.f3[i].f1 ∧ (∀ e ∈ p.f3.drop (i + 1), NdOk e ∧ (e.f0 = e0 ∨ e.f0 ∉ S))) := fun hn hs => by
      constructor
      · exact fun h => ⟨(h _ (List.mem_cons_self ..)).1.2, fun e he => h e (List.mem_cons_of_mem _ he)⟩
      · exact fun h => fun e he => by
          rcases List.mem_cons.1 he with rfl | he
          · exact ⟨⟨hn, h.1⟩, hs⟩
          · exact h.2 e he
    refine Tl.cond (fun h0 => ?_) (fun h0 => ?_)
    · exact (lab_arm_i nx).iff (sp (.inl (of_decide_eq_true h0)) (.inl (of_decide_eq_true h0)))
    · have hne := of_decide_eq_false h0
      refine Tl.bindE (free_i _) ?_
      cases hf : freeB p.f3[i].f0 with
      | false => exact Tl.no (v := id) (fun x => (x _ (List.mem_cons_self ..)).1.1.elim hne (fun y => by rw [hf] at y; cases y))
      | true =>
        simp only [cond_true]
        refine Tl.cond (fun hc => Tl.no (v := id) (fun x => ?_)) (fun hc => ?_)
        · have := of_decide_eq_true hc
          exact (x _ (List.mem_cons_self ..)).2.elim hne (fun y => y (cnt_pos.1 (by rw [hC] at this; omega)))
        · have := of_decide_eq_false hc
          have hm : p.f3[i].f0 ∉ S := fun m => by have := cnt_pos.2 m; rw [hC] at *; omega
          exact (lab_arm_i nx).iff (sp (.inr hf) (.inr hm))
def FrE : List ByteArray → List S183 → Prop
 | _, [] => True
 | S, e :: r => (NmOk e.f0 ∧ (e.f0 = e0 ∨ e.f0 ∉ S) ∧ EdOk e) ∧ FrE (S ++ [e.f0]) r
theorem edge_back {e : S183} {f : Nat → Option Bool} {P : Prop} (h : Tl id f P) : Tl id (fun k => (impl_risingNames.f k e.f1 10).bind fun v7 => (bif v7 then (bif decide (e.f2 < 1) then (some false) else (bif decide (3 < e.f2) then (some false) else (bif e.f3 then (bif decide (e.f4 < 0) then (some false) else (bif decide (e.f5 < e.f4) then (some false) else (bif decide (e.f5 < 1) then (some false) else (bif decide (10 < e.f5) then (some false) else (f k))))) else (bif (e.f4 == 0) then (bif (e.f5 == 0) then (f k) else (some false)) else (some false))))) else (some false))) (EdOk e ∧ P) := by
  unfold EdOk
  refine Tl.bindE (ilab e.f1 (m := 10) (by omega)) ?_
  cases labB 10 e.f1 with
  | false => exact Tl.no (v := id) (by simp)
  | true =>
    simp only [cond_true]
    refine Tl.cond (fun h1 => Tl.no (v := id) (by rw [decide_eq_true_eq] at h1; omega)) (fun h1 => ?_)
    refine Tl.cond (fun h2 => Tl.no (v := id) (by rw [decide_eq_true_eq] at h2; omega)) (fun h2 => ?_)
    rw [decide_eq_false_iff_not] at h1 h2
    refine Tl.cond (fun h3 => ?_) (fun h3 => ?_)
    · simp only [h3, if_true]
      refine Tl.cond (fun h4 => Tl.no (v := id) (by rw [decide_eq_true_eq] at h4; omega)) (fun h4 => ?_)
      refine Tl.cond (fun h5 => Tl.no (v := id) (by rw [decide_eq_true_eq] at h5; omega)) (fun h5 => ?_)
      refine Tl.cond (fun h6 => Tl.no (v := id) (by rw [decide_eq_true_eq] at h6; omega)) (fun h6 => ?_)
      refine Tl.cond (fun h7 => Tl.no (v := id) (by rw [decide_eq_true_eq] at h7; omega)) (fun h7 => ?_)
      rw [decide_eq_false_iff_not] at h4 h5 h6 h7
      exact h.iff ⟨fun x => x.2, fun x => ⟨⟨trivial, by omega, by omega, by omega, by omega, by omega, by omega⟩, x⟩⟩
    · simp only [h3, Bool.false_eq_true, if_false]
      refine Tl.cond (fun h4 => ?_) (fun h4 => Tl.no (v := id) (by rw [beq_eq_false_iff_ne] at h4; exact fun x => h4 x.1.2.2.2.1))
      refine Tl.cond (fun h5 => ?_) (fun h5 => Tl.no (v := id) (by rw [beq_eq_false_iff_ne] at h5; exact fun x => h5 x.1.2.2.2.2))
      rw [beq_iff_eq] at h4 h5
      exact h.iff ⟨fun x => x.2, fun x => ⟨⟨trivial, by omega, by omega, h4, h5⟩, x⟩⟩
theorem edges_i {p : S78} (h3 : p.f3.length ≤ 1000) (h4 : p.f4.length ≤ 100) : ∀ (n i : Nat) (tb : List (ByteArray × Int)) (S : List ByteArray), p.f4.length - i ≤ n → Cnt tb S → S.length ≤ i + 1 → Tl id (fun k => impl_patternOk.l0 k p (i : Int) tb) (FrE S (p.f4.drop i) ∧ ∀ e ∈ p.f3, NdOk e ∧ (e.f0 = e0 ∨ e.f0 ∉ S ++ (p.f4.drop i).map (·.f0))) := by
  have fin : ∀ (i : Nat) (tb : List (ByteArray × Int)) (S : List ByteArray), ¬ i < p.f4.length → Cnt tb S → Tl id (fun k => impl_patternOk.l0 k p (i : Int) tb) (FrE S (p.f4.drop i) ∧ ∀ e ∈ p.f3, NdOk e ∧ (e.f0 = e0 ∨ e.f0 ∉ S ++ (p.f4.drop i).map (·.f0))) := fun i tb S h hC => by
    refine Tl.step ?_
    rw [List.drop_of_length_le (by omega)]
    simp only [impl_patternOk.l0, ltn h, cond_false]
    refine (nodes_i hC h3 _ 0 (Nat.le_refl _)).iff ?_
    simp [FrE]
  intro n
  induction n with
  | zero => intro i tb S h hC _; exact fin i tb S (by omega) hC
  | succ n ih =>
    intro i tb S h hC hS
    by_cases hi : i < p.f4.length
    case neg => exact fin i tb S hi hC
    refine Tl.step ?_
    rw [List.drop_eq_getElem_cons hi, FrE, List.map_cons, show S ++ p.f4[i].f0 :: (p.f4.drop (i + 1)).map (·.f0) = (S ++ [p.f4[i].f0]) ++ (p.f4.drop (i + 1)).map (·.f0) by simp]
    simp only [impl_patternOk.l0, ltd hi, cond_true, ixg hi, Option.bind_some]
    obtain ⟨tb', hC', c, c1, c2⟩ := own_i p.f4[i].f0 hC (by omega)
    refine Tl.bindE c2 ?_
    cases c with
    | false => exact Tl.no (v := id) (fun x => by have := c1.2 ⟨x.1.1.1, x.1.1.2.1⟩; cases this)
    | true =>
      obtain ⟨q1, q2⟩ := c1.1 rfl
      have nx : Tl id (fun k => impl_patternOk.j0 k p (i : Int) (true, tb')) (FrE (S ++ [p.f4[i].f0]) (p.f4.drop (i + 1)) ∧ ∀ e ∈ p.f3, NdOk e ∧ (e.f0 = e0 ∨ e.f0 ∉ (S ++ [p.f4[i].f0]) ++ (p.f4.drop (i + 1)).map (·.f0))) := by
        refine Tl.step ?_
        simp only [impl_patternOk.j0, wup hi (show p.f4.length ≤ 2000000 by omega)]
        exact ih (i + 1) tb' _ (by omega) hC' (by simp; omega)
      exact (edge_back nx).iff ⟨fun x => ⟨x.1.1.2.2, x.1.2, x.2⟩, fun x => ⟨⟨⟨q1, q2, x.1⟩, x.2.1⟩, x.2.2⟩⟩
def PatI (p : S78) : Prop := PSize p ∧ NmOk p.f0 ∧ FrE [p.f0] p.f4 ∧ ∀ e ∈ p.f3, NdOk e ∧ (e.f0 = e0 ∨ e.f0 ∉ p.f0 :: p.f4.map (·.f0))
theorem pat_i (p : S78) (hb : p.f3.length ≤ 1048576 ∧ p.f4.length ≤ 1048576) : Tl id (fun k => impl_patternOk.f k p) (PatI p) := by
  unfold PatI PSize
  refine Tl.step ?_
  simp only [impl_patternOk.f]
  refine Tl.cond (fun h => Tl.no (v := id) (by rw [decide_eq_true_eq] at h; omega)) (fun h1 => ?_)
  refine Tl.cond (fun h => Tl.no (v := id) (by rw [decide_eq_true_eq] at h; omega)) (fun h2 => ?_)
  rw [decide_eq_false_iff_not] at h1 h2
  rw [show IntKind.i64.wrap ((p.f3.length : Int) - 1) = (p.f3.length : Int) - 1 from wI (by omega) (by omega)]
  refine Tl.cond (fun h3 => ?_) (fun h => Tl.no (v := id) (by rw [beq_eq_false_iff_ne] at h; omega))
  rw [beq_iff_eq] at h3
  refine Tl.cond (fun h => Tl.no (v := id) (by rw [decide_eq_true_eq] at h; omega)) (fun h4 => ?_)
  refine Tl.cond (fun h => Tl.no (v := id) (by rw [decide_eq_true_eq] at h; omega)) (fun h5 => ?_)
  rw [decide_eq_false_iff_not] at h4 h5
  have sz : 1 ≤ p.f3.length ∧ p.f3.length ≤ 10 ∧ p.f4.length + 1 = p.f3.length ∧ 0 ≤ p.f1 ∧ p.f1 ≤ 2 := by omega
  obtain ⟨tb', hC', c, c1, c2⟩ := own_i (S := []) (tb := []) p.f0 (fun x => by simp [tget, tfind, cnt]) (by simp)
  refine Tl.bindE c2 ?_
  cases c with
  | false => exact Tl.no (v := id) (fun x => by have := c1.2 ⟨x.2.1, .inr (by simp)⟩; cases this)
  | true =>
    simp only [cond_true]
    have := edges_i (p := p) (by omega) (by omega) _ 0 tb' _ (Nat.le_refl _) hC' (by simp)
    exact this.iff ⟨fun x => by simpa using x.2.2, fun x => ⟨sz, (c1.1 rfl).1, by simpa using x⟩⟩
theorem mem_nms {γ : Type} {f : γ → ByteArray} {l : List γ} {x : ByteArray} : x ∈ nms f l ↔ x ≠ e0 ∧ ∃ e ∈ l, f e = x := by
  unfold nms
  rw [List.mem_filter, List.mem_map]
  simp only [Bool.not_eq_true', decide_eq_false_iff_not]
  exact ⟨fun h => ⟨h.2, h.1⟩, fun h => ⟨h.2, h.1⟩⟩
theorem fr2_iff (N : List ByteArray) : ∀ (O S : List ByteArray), Fr2 N S O ↔ O.Nodup ∧ ∀ x ∈ O, x ∉ N ∧ x ∉ S
  | [], S => by simp [Fr2]
  | a :: r, S => by
    rw [Fr2, fr2_iff N r (S ++ [a]), List.nodup_cons]
    constructor
    · rintro ⟨h1, h2, h3⟩
      refine ⟨⟨fun m => (h3 a m).2 (by simp), h2⟩, fun x hx => ?_⟩
      rcases List.mem_cons.1 hx with rfl | hx
      · exact h1
      · exact ⟨(h3 x hx).1, fun m => (h3 x hx).2 (List.mem_append_left _ m)⟩
    · rintro ⟨⟨h1, h2⟩, h3⟩
      refine ⟨h3 a (List.mem_cons_self ..), h2, fun x hx => ⟨(h3 x (List.mem_cons_of_mem _ hx)).1, fun m => ?_⟩⟩
      rcases List.mem_append.1 m with m | m
      · exact (h3 x (List.mem_cons_of_mem _ hx)).2 m
      · rw [List.mem_singleton] at m
        subst m; exact h1 hx
theorem nms_cons {γ : Type} (f : γ → ByteArray) (a : γ) (r : List γ) : nms f (a :: r) = if f a = e0 then nms f r else f a :: nms f r := by
  unfold nms
  by_cases h : f a = e0
  · rw [if_pos h]; simp [h]
  · rw [if_neg h]; simp [h]
theorem fre_iff : ∀ (l : List S183) (S : List ByteArray), FrE S l ↔ (∀ e ∈ l, NmOk e.f0 ∧ EdOk e) ∧ (nms (·.f0) l).Nodup ∧ ∀ x ∈ nms (·.f0) l, x ∉ S
  | [], S => by simp [FrE, nms]
  | a :: r, S => by
    rw [FrE, fre_iff r (S ++ [a.f0]), nms_cons]
    by_cases h0 : a.f0 = e0
    · simp only [if_pos h0]
      constructor
      · rintro ⟨⟨h1, h2, h3⟩, h4, h5, h6⟩
        refine ⟨fun e he => ?_, h5, fun x hx m => h6 x hx (List.mem_append_left _ m)⟩
        rcases List.mem_cons.1 he with rfl | he
        · exact ⟨h1, h3⟩
        · exact h4 e he
      · rintro ⟨h1, h2, h3⟩
        refine ⟨⟨(h1 a (List.mem_cons_self ..)).1, .inl h0, (h1 a (List.mem_cons_self ..)).2⟩, fun e he => h1 e (List.mem_cons_of_mem _ he), h2, fun x hx m => ?_⟩
        rcases List.mem_append.1 m with m | m
        · exact h3 x hx m
        · rw [List.mem_singleton] at m
          exact (mem_nms.1 hx).1 (m.trans h0)
    · simp only [if_neg h0, List.nodup_cons]
      constructor
      · rintro ⟨⟨h1, h2, h3⟩, h4, h5, h6⟩
        refine ⟨fun e he => ?_, ⟨fun m => h6 _ m (by simp), h5⟩, fun x hx => ?_⟩
        · rcases List.mem_cons.1 he with rfl | he
          · exact ⟨h1, h3⟩
          · exact h4 e he
        · rcases List.mem_cons.1 hx with rfl | hx
          · exact h2.elim (fun e => absurd e h0) id
          · exact fun m => h6 x hx (List.mem_append_left _ m)
      · rintro ⟨h1, ⟨h2, h3⟩, h4⟩
        refine ⟨⟨(h1 a (List.mem_cons_self ..)).1, .inr (h4 _ (List.mem_cons_self ..)), (h1 a (List.mem_cons_self ..)).2⟩, fun e he => h1 e (List.mem_cons_of_mem _ he), h3, fun x hx m => ?_⟩
        rcases List.mem_append.1 m with m | m
        · exact h4 x (List.mem_cons_of_mem _ hx) m
        · rw [List.mem_singleton] at m
          subst m; exact h2 hx
theorem pat_iff (p : S78) : PatS p ↔ PatI p := by
  unfold PatS PatI
  rw [fr2_iff, fre_iff]
  refine and_congr_right fun _ => and_congr_right fun hn => ?_
  unfold Ot
  have ex : ∀ x, x ∈ (if p.f0 = e0 then [] else [p.f0]) ↔ x ≠ e0 ∧ x = p.f0 := fun x => by
    by_cases h : p.f0 = e0
    · simp only [if_pos h]
      exact ⟨fun q => (by cases q), fun h' => absurd (h'.2.trans h) h'.1⟩
    · simp only [if_neg h, List.mem_singleton]
      exact ⟨fun e => ⟨fun e' => h (e.symm.trans e'), e⟩, fun e => e.2⟩
  have nd : (if p.f0 = e0 then [] else [p.f0] : List ByteArray).Nodup := by split <;> simp
  rw [List.nodup_append]
  constructor
  · rintro ⟨h1, h2, ⟨h3, h4, h5⟩, h6⟩
    refine ⟨⟨h2, h3, fun x hx m => ?_⟩, fun e he => ⟨h1 e he, ?_⟩⟩
    · rw [List.mem_singleton] at m
      exact h5 x hx p.f0 ((ex _).2 ⟨fun e => (mem_nms.1 hx).1 (m.trans e), rfl⟩) m
    · by_cases h0 : e.f0 = e0
      · exact .inl h0
      · refine .inr fun m => ?_
        have hN : e.f0 ∈ nms (·.f0) p.f3 := mem_nms.2 ⟨h0, e, he, rfl⟩
        rcases List.mem_cons.1 m with m | m
        · exact (h6 _ (List.mem_append_right _ ((ex _).2 ⟨h0, m⟩))).1 hN
        · obtain ⟨d, hd, hde⟩ := List.mem_map.1 m
          exact (h6 _ (List.mem_append_left _ (mem_nms.2 ⟨h0, d, hd, hde⟩))).1 hN
  · rintro ⟨⟨h1, h2, h3⟩, h4⟩
    refine ⟨fun e he => (h4 e he).1, h1, ⟨h2, nd, fun x hx y hy e => ?_⟩, fun x hx => ⟨fun m => ?_, by simp⟩⟩
    · exact h3 x hx (by rw [List.mem_singleton]; exact e.trans ((ex _).1 hy).2)
    · obtain ⟨h0, n, hn', hne⟩ := mem_nms.1 m
      rcases (h4 n hn').2 with e | e
      · exact h0 (hne.symm.trans e)
      · rcases List.mem_append.1 hx with hx | hx
        · obtain ⟨-, d, hd, hde⟩ := mem_nms.1 hx
          exact e (by rw [hne]; exact List.mem_cons_of_mem _ (List.mem_map.2 ⟨d, hd, hde⟩))
        · exact e (by rw [hne, ((ex _).1 hx).2]; exact List.mem_cons_self ..)
/-- Both tell the same of a pattern. -/
theorem pattern2 (p : S78) (hb : p.f3.length ≤ 1048576 ∧ p.f4.length ≤ 1048576) : ∃ c : Bool, (c = true → PatS p) ∧ Ev (fun k => spec_PatternFault.f k p) (if c then 0 else 1) ∧ Ev (fun k => impl_patternOk.f k p) c := by
  obtain ⟨c, c1, c2⟩ := pat_s p hb
  obtain ⟨d, d1, d2⟩ := pat_i p hb
  have e : c = d := by rw [Bool.eq_iff_iff, c1, d1, pat_iff]
  subst e
  exact ⟨c, c1.1, c2, d2⟩
end Go.Ab
