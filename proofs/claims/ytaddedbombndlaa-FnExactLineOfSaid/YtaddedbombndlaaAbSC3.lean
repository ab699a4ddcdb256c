/- Schemas, part 3: the types of nodes. No condition. -/
import Derived.Test.YtaddedbombndlaaAbSC2
namespace Go.Ab
open Go.Proofs
set_option linter.unusedVariables false
set_option linter.unusedSimpArgs false
theorem less_trans : ∀ (a b c : List UInt8), Op.bytesLess a b = true → Op.bytesLess b c = true → Op.bytesLess a c = true
 | _, _, [], _, h => by rename_i b _; cases b <;> simp [Op.bytesLess] at h
 | [], _, _ :: _, _, _ => by simp [Op.bytesLess]
 | _ :: _, [], _ :: _, h, _ => by simp [Op.bytesLess] at h
 | x :: a, y :: b, z :: c, h, h' => by
   simp only [Op.bytesLess, Bool.or_eq_true, Bool.and_eq_true, decide_eq_true_eq, beq_iff_eq] at h h' ⊢
   rcases h with h | ⟨rfl, h⟩
   · rcases h' with h' | ⟨rfl, h'⟩
     · left; simp only [UInt8.lt_iff_toNat_lt] at h h' ⊢; omega
     · exact .inl h
   · rcases h' with h' | ⟨rfl, h'⟩
     · exact .inl h'
     · exact .inr ⟨rfl, less_trans a b c h h'⟩
theorem less_irr : ∀ (a : List UInt8), Op.bytesLess a a = false
 | [] => rfl
 | x :: a => by
   simp only [Op.bytesLess, less_irr a, Bool.and_false, Bool.or_false, decide_eq_false_iff_not, UInt8.lt_iff_toNat_lt]; omega
theorem slt_irr (a : ByteArray) : slt a a = false := less_irr _
theorem slt_trans {a b c : ByteArray} (h : slt a b = true) (h' : slt b c = true) : slt a c = true := less_trans _ _ _ h h'
theorem rising_lt : ∀ (r : List ByteArray) (a : ByteArray), risingB (a :: r) = true → ∀ x ∈ r, slt a x = true
 | [], _, _, x, hx => by cases hx
 | b :: r, a, h, x, hx => by
   simp only [risingB, Bool.and_eq_true] at h
   rcases List.mem_cons.1 hx with rfl | hx
   · exact h.1
   · exact slt_trans h.1 (rising_lt r b h.2 x hx)
theorem rising_tail {a : ByteArray} {r : List ByteArray} (h : risingB (a :: r) = true) : risingB r = true := by
  cases r with
  | nil => rfl
  | cons b r => simp only [risingB, Bool.and_eq_true] at h; exact h.2
theorem find_self : ∀ (N : List S96), risingB (N.map (·.f0)) = true → ∀ t ∈ N, N.find? (isAt t.f0) = some t
 | [], _, t, ht => by cases ht
 | u :: N, h, t, ht => by
   rw [List.find?_cons]
   rcases List.mem_cons.1 ht with rfl | ht
   · have : isAt t.f0 t = true := by unfold isAt; simp
     rw [this]
   · have h1 : slt u.f0 t.f0 = true := rising_lt _ _ h t.f0 (List.mem_map.2 ⟨t, ht, rfl⟩)
     have h2 : isAt t.f0 u = false := by
       unfold isAt
       refine decide_eq_false fun e => ?_
       rw [e, slt_irr] at h1; cases h1
     rw [h2]
     exact find_self N (rising_tail h) t ht
/-- A walk through rows, each of which is asked alone and with the one before. -/
theorem walk {α R : Type} {l : List α} (hl : l.length ≤ 2000000) {f0 : α → ByteArray} {v : α → Bool} {F : Nat → Int → Option R} {bad r : R}
  (hend : (∀ x ∈ l, v x = true) → ∀ i : Nat, ¬ i < l.length → Ev (fun k => F k (i : Int)) r)
  (hstep : ∀ (i : Nat) (hi : i < l.length) (q : R), (v l[i] = true → Ev (fun k => F k ((i + 1 : Nat) : Int)) q) → ∀ b, (b = true ↔ v l[i] = true ∧ ∀ (h0 : 0 < i), slt (f0 (l[i - 1]'(by omega))) (f0 l[i]) = true) → Ev (fun k => F k (i : Int)) (if b then q else bad)) :
  ∀ n i : Nat, l.length - i ≤ n → (∀ x ∈ l.take i, v x = true) → Ev (fun k => F k (i : Int)) (if (l.drop i).all v && risingB ((l.map f0).drop (i - 1)) then r else bad) := by
  intro n
  have fin : ∀ i : Nat, ¬ i < l.length → (∀ x ∈ l.take i, v x = true) → Ev (fun k => F k (i : Int)) (if (l.drop i).all v && risingB ((l.map f0).drop (i - 1)) then r else bad) := fun i hi ht => by
    have h1 : (l.drop i).all v = true := by rw [List.drop_of_length_le (by omega)]; rfl
    have h2 : risingB ((l.map f0).drop (i - 1)) = true := rising_short _ (by rw [List.length_drop, List.length_map]; omega)
    rw [h1, h2]
    rw [List.take_of_length_le (by omega)] at ht
    exact hend ht i hi
  induction n with
  | zero => intro i h ht; exact fin i (by omega) ht
  | succ n ih =>
    intro i h ht
    by_cases hi : i < l.length
    case neg => exact fin i hi ht
    have g := fun hv : v l[i] = true => ih (i + 1) (by omega) (fun x hx => by
      have e : l.take (i + 1) = l.take i ++ [l[i]] := by rw [List.take_add_one, List.getElem?_eq_getElem hi]; rfl
      rw [e] at hx
      rcases List.mem_append.1 hx with hx | hx
      · exact ht x hx
      · rw [List.mem_singleton.1 hx]; exact hv)
    have e1 : (l.drop i).all v = (v l[i] && (l.drop (i + 1)).all v) := by rw [List.drop_eq_getElem_cons hi, List.all_cons]
    by_cases h0 : 0 < i
    · have hm : i < (l.map f0).length := by simpa using hi
      have hm1 : i - 1 < (l.map f0).length := by omega
      have e2 : risingB ((l.map f0).drop (i - 1)) = (slt (f0 (l[i - 1]'(by omega))) (f0 l[i]) && risingB ((l.map f0).drop i)) := by
        rw [List.drop_eq_getElem_cons hm1, show i - 1 + 1 = i by omega, List.drop_eq_getElem_cons hm]
        simp [risingB]
      rw [show i + 1 - 1 = i by omega] at g
      have := hstep i hi _ g (v l[i] && slt (f0 (l[i - 1]'(by omega))) (f0 l[i])) (by
        simp only [Bool.and_eq_true]
        exact ⟨fun h => ⟨h.1, fun _ => h.2⟩, fun h => ⟨h.1, h.2 h0⟩⟩)
      refine this.eq ?_
      rw [e1, e2]
      cases v l[i] <;> cases slt (f0 (l[i - 1]'(by omega))) (f0 l[i]) <;> cases (l.drop (i + 1)).all v <;> simp
    · obtain rfl : i = 0 := by omega
      have := hstep 0 hi _ g (v l[0]) ⟨fun h => ⟨h, fun h0 => absurd h0 (by omega)⟩, fun h => h.1⟩
      refine this.eq ?_
      rw [e1]
      cases v l[0] <;> simp
def rulesAt (N : List S96) (x : ByteArray) : List S113 := match N.find? (isAt x) with | some t => t.f2 | none => []
section
variable {N : List S96} {E : List S99} {K : List S92} {c : Bool}
/-- Bounds -/
structure Bd (N : List S96) : Prop where
 n : N.length ≤ 2000000
 p : ∀ t ∈ N, t.f1.length ≤ 2000000
 r : ∀ t ∈ N, t.f2.length ≤ 2000000
def Stat (N : List S96) (rv : List S113 → Bool) (t : S96) : Prop := nmB t.f0 = true ∧ t.f1.length ≤ 5 ∧ risingB t.f1 = true ∧ rv t.f2 = true ∧ ∀ p ∈ t.f1, kn N p = true
def Dyn (N : List S96) (t : S96) : Prop := (∀ p ∈ t.f1, ¬ Reach N p t.f0) ∧ ∀ x, Reach N t.f0 x → x ≠ t.f0 → t.f2.all (rfn (rulesAt N x)) = true
theorem snode_l1 (hb : Bd N) {t : S96} (ht : t.f2.length ≤ 2000000) {l : List ByteArray} (hl : l.length ≤ 42000001) :
  ∀ n i : Nat, l.length - i ≤ n → ∃ b, Ev (fun k => spec_l03NodeType.l1 k l (i : Int) ⟨N, E, K, c⟩ t) b ∧ (b = true ↔ ∀ x ∈ l.drop i, kn N x = true ∧ (x ≠ t.f0 → t.f2.all (rfn (rulesAt N x)) = true)) := by
  intro n
  have fin : ∀ i : Nat, ¬ i < l.length → ∃ b, Ev (fun k => spec_l03NodeType.l1 k l (i : Int) ⟨N, E, K, c⟩ t) b ∧ (b = true ↔ ∀ x ∈ l.drop i, kn N x = true ∧ (x ≠ t.f0 → t.f2.all (rfn (rulesAt N x)) = true)) := fun i hi => by
    refine ⟨true, Ev.step ?_, ?_⟩
    · simp only [spec_l03NodeType.l1, ltn hi, cond_false]; exact Ev.ret _
    · rw [List.drop_of_length_le (by omega)]; simp
  induction n with
  | zero => intro i h; exact fin i (by omega)
  | succ n ih =>
    intro i h
    by_cases hi : i < l.length
    case neg => exact fin i hi
    obtain ⟨b, g1, g2⟩ := ih (i + 1) (by omega)
    rcases fnd_cases (isAt l[i]) N with ⟨e1, e2, _⟩ | ⟨j, hj, e1, e2, e3⟩
    · refine ⟨false, Ev.step ?_, ?_⟩
      · simp only [spec_l03NodeType.l1, ltd hi, cond_true, ixg hi, Option.bind_some]
        refine Ev.bind (stype (s := ⟨N, E, K, c⟩) (by have := hb.n; simpa using (by omega)) _) ?_
        simp only [e1, show decide ((-1 : Int) < 0) = true from rfl, cond_true]; exact Ev.ret _
      · refine ⟨fun h => (by cases h), fun h => ?_⟩
        have := (h l[i] (by rw [List.drop_eq_getElem_cons hi]; exact List.mem_cons_self ..)).1
        unfold kn at this; rw [e2] at this; cases this
    · have hk : kn N l[i] = true := by unfold kn; rw [e2]; rfl
      have hru : rulesAt N l[i] = N[j].f2 := by unfold rulesAt; rw [e2]
      by_cases he : l[i] = t.f0
      · refine ⟨b, Ev.step ?_, ?_⟩
        · simp only [spec_l03NodeType.l1, ltd hi, cond_true, ixg hi, Option.bind_some]
          refine Ev.bind (stype (s := ⟨N, E, K, c⟩) (by have := hb.n; simpa using (by omega)) _) ?_
          simp only [e1, show decide ((j : Int) < 0) = false by simp, cond_false]
          simp only [decide_eq_true he, cond_true, w1b hi (show l.length ≤ 60000000000 by omega)]
          exact g1
        · rw [g2, List.drop_eq_getElem_cons hi]
          exact ⟨fun h x hx => by
            rcases List.mem_cons.1 hx with rfl | hx
            · exact ⟨hk, fun hne => absurd he hne⟩
            · exact h x hx, fun h x hx => h x (List.mem_cons_of_mem _ hx)⟩
      · have hsr := sref ht (hb.r _ (List.getElem_mem hj))
        cases hv : t.f2.all (rfn N[j].f2) with
        | false =>
          refine ⟨false, Ev.step ?_, ⟨fun h => (by cases h), fun h => ?_⟩⟩
          · simp only [spec_l03NodeType.l1, ltd hi, cond_true, ixg hi, Option.bind_some]
            refine Ev.bind (stype (s := ⟨N, E, K, c⟩) (by have := hb.n; simpa using (by omega)) _) ?_
            simp only [e1, show decide ((j : Int) < 0) = false by simp, cond_false, decide_eq_false he, ixg hj, Option.bind_some]
            refine Ev.bind hsr ?_
            simp only [hv, cond_false]; exact Ev.ret _
          · have := (h l[i] (by rw [List.drop_eq_getElem_cons hi]; exact List.mem_cons_self ..)).2 he
            rw [hru, hv] at this; cases this
        | true =>
          refine ⟨b, Ev.step ?_, ?_⟩
          · simp only [spec_l03NodeType.l1, ltd hi, cond_true, ixg hi, Option.bind_some]
            refine Ev.bind (stype (s := ⟨N, E, K, c⟩) (by have := hb.n; simpa using (by omega)) _) ?_
            simp only [e1, show decide ((j : Int) < 0) = false by simp, cond_false, decide_eq_false he, ixg hj, Option.bind_some]
            refine Ev.bind hsr ?_
            simp only [hv, cond_true, w1b hi (show l.length ≤ 60000000000 by omega)]
            exact g1
          · rw [g2, List.drop_eq_getElem_cons hi]
            exact ⟨fun h x hx => by
              rcases List.mem_cons.1 hx with rfl | hx
              · exact ⟨hk, fun _ => by rw [hru, hv]⟩
              · exact h x hx, fun h x hx => h x (List.mem_cons_of_mem _ hx)⟩
theorem snode_l0 (hb : Bd N) {t : S96} (ht : t.f2.length ≤ 2000000) (hp : t.f1.length ≤ 2000000) :
  ∀ n i : Nat, t.f1.length - i ≤ n → ∃ b, Ev (fun k => spec_l03NodeType.l0 k (i : Int) ⟨N, E, K, c⟩ t) b ∧ (b = true → ∀ p ∈ t.f1.drop i, kn N p = true) ∧ (Ok N → (b = true ↔ (∀ p ∈ t.f1.drop i, kn N p = true ∧ ¬ Reach N p t.f0) ∧ ∀ x, Reach N t.f0 x → x ≠ t.f0 → t.f2.all (rfn (rulesAt N x)) = true)) := by
  intro n
  have fin : ∀ i : Nat, ¬ i < t.f1.length → ∃ b, Ev (fun k => spec_l03NodeType.l0 k (i : Int) ⟨N, E, K, c⟩ t) b ∧ (b = true → ∀ p ∈ t.f1.drop i, kn N p = true) ∧ (Ok N → (b = true ↔ (∀ p ∈ t.f1.drop i, kn N p = true ∧ ¬ Reach N p t.f0) ∧ ∀ x, Reach N t.f0 x → x ≠ t.f0 → t.f2.all (rfn (rulesAt N x)) = true)) := fun i hi => by
    obtain ⟨l, s1, s2, s3⟩ := sline (E := E) (K := K) (c := c) hb.n hb.p t.f0
    obtain ⟨b, g1, g2⟩ := snode_l1 (E := E) (K := K) (c := c) hb ht s2 _ 0 (Nat.le_refl _)
    rw [List.drop_zero] at g2
    refine ⟨b, Ev.step ?_, ?_, fun hok => ?_⟩
    · simp only [spec_l03NodeType.l0, ltn hi, cond_false]
      exact Ev.bind s1 g1
    · rw [List.drop_of_length_le (by omega)]; simp
    · rw [g2, List.drop_of_length_le (by omega)]
      have hm := (s3 hok).1
      exact ⟨fun h => ⟨by simp, fun x hx hne => (h x ((hm x).2 hx)).2 hne⟩, fun h x hx => ⟨((hm x).1 hx).kn, fun hne => h.2 x ((hm x).1 hx) hne⟩⟩
  induction n with
  | zero => intro i h; exact fin i (by omega)
  | succ n ih =>
    intro i h
    by_cases hi : i < t.f1.length
    case neg => exact fin i hi
    obtain ⟨b, g1, g2, g3⟩ := ih (i + 1) (by omega)
    obtain ⟨l, s1, s2, s3⟩ := sline (E := E) (K := K) (c := c) hb.n hb.p t.f1[i]
    rw [List.drop_eq_getElem_cons hi]
    rcases fnd_cases (isAt t.f1[i]) N with ⟨e1, e2, _⟩ | ⟨j, hj, e1, e2, e3⟩
    · have hk : kn N t.f1[i] = false := by unfold kn; rw [e2]; rfl
      refine ⟨false, Ev.step ?_, fun h => (by cases h), fun _ => ⟨fun h => (by cases h), fun h => ?_⟩⟩
      · simp only [spec_l03NodeType.l0, ltd hi, cond_true, ixg hi, Option.bind_some]
        refine Ev.bind (stype (s := ⟨N, E, K, c⟩) (by have := hb.n; simpa using (by omega)) _) ?_
        simp only [e1, show decide ((-1 : Int) < 0) = true from rfl, cond_true]; exact Ev.ret _
      · have := (h.1 _ (List.mem_cons_self ..)).1
        rw [hk] at this; cases this
    · have hk : kn N t.f1[i] = true := by unfold kn; rw [e2]; rfl
      cases hh : has l t.f0 with
      | true =>
        refine ⟨false, Ev.step ?_, fun h => (by cases h), fun hok => ⟨fun h => (by cases h), fun h => ?_⟩⟩
        · simp only [spec_l03NodeType.l0, ltd hi, cond_true, ixg hi, Option.bind_some]
          refine Ev.bind (stype (s := ⟨N, E, K, c⟩) (by have := hb.n; simpa using (by omega)) _) ?_
          simp only [e1, show decide ((j : Int) < 0) = false by simp, cond_false]
          refine Ev.bind s1 ?_
          refine Ev.bind (smem (by omega) _) ?_
          simp only [hh, cond_true]; exact Ev.ret _
        · exact absurd (((s3 hok).1 _).1 (has_iff.1 hh)) (h.1 _ (List.mem_cons_self ..)).2
      | false =>
        refine ⟨b, Ev.step ?_, fun h p hp => ?_, fun hok => ?_⟩
        · simp only [spec_l03NodeType.l0, ltd hi, cond_true, ixg hi, Option.bind_some]
          refine Ev.bind (stype (s := ⟨N, E, K, c⟩) (by have := hb.n; simpa using (by omega)) _) ?_
          simp only [e1, show decide ((j : Int) < 0) = false by simp, cond_false]
          refine Ev.bind s1 ?_
          refine Ev.bind (smem (by omega) _) ?_
          simp only [hh, cond_false, wup hi hp]; exact g1
        · rcases List.mem_cons.1 hp with rfl | hp
          · exact hk
          · exact g2 h p hp
        · rw [g3 hok]
          have hno : ¬ Reach N t.f1[i] t.f0 := fun hr => has_no.1 hh (((s3 hok).1 _).2 hr)
          exact ⟨fun h => ⟨fun p hp => by
            rcases List.mem_cons.1 hp with rfl | hp
            · exact ⟨hk, hno⟩
            · exact h.1 p hp, h.2⟩, fun h => ⟨fun p hp => h.1 p (List.mem_cons_of_mem _ hp), h.2⟩⟩
theorem snode (hb : Bd N) {rv : List S113 → Bool} (hrv : ∀ l, l.length ≤ 2000000 → Ev (fun k => spec_l03Rules.f k l) (rv l)) {t : S96} (ht : t.f2.length ≤ 2000000) (hp : t.f1.length ≤ 2000000) :
  ∃ b, Ev (fun k => spec_l03NodeType.f k ⟨N, E, K, c⟩ t) b ∧ (b = true → Stat N rv t) ∧ (Ok N → Stat N rv t → (b = true ↔ Dyn N t)) := by
  obtain ⟨b, g1, g2, g3⟩ := snode_l0 (E := E) (K := K) (c := c) hb ht hp _ 0 (Nat.le_refl _)
  rw [List.drop_zero] at g2 g3
  cases h1 : nmB t.f0 with
  | false =>
    refine ⟨false, Ev.step ?_, fun h => (by cases h), fun _ h => absurd h.1 (by rw [h1]; simp)⟩
    simp only [spec_l03NodeType.f]
    exact Ev.bind (lnm _) (by simp only [h1, cond_false]; exact Ev.ret _)
  | true =>
    by_cases h2 : t.f1.length ≤ 5
    case neg =>
      refine ⟨false, Ev.step ?_, fun h => (by cases h), fun _ h => absurd h.2.1 h2⟩
      simp only [spec_l03NodeType.f]
      refine Ev.bind (lnm _) ?_
      simp only [h1, cond_true, show decide ((5 : Int) < (t.f1.length : Int)) = true by simp; omega]
      exact Ev.ret _
    case pos =>
      cases h3 : risingB t.f1 with
      | false =>
        refine ⟨false, Ev.step ?_, fun h => (by cases h), fun _ h => absurd h.2.2.1 (by rw [h3]; simp)⟩
        simp only [spec_l03NodeType.f]
        refine Ev.bind (lnm _) ?_
        simp only [h1, cond_true, show decide ((5 : Int) < (t.f1.length : Int)) = false by simp; omega, cond_false]
        exact Ev.bind (rising_ hp) (by simp only [h3, cond_false]; exact Ev.ret _)
      | true =>
        cases h4 : rv t.f2 with
        | false =>
          refine ⟨false, Ev.step ?_, fun h => (by cases h), fun _ h => absurd h.2.2.2.1 (by rw [h4]; simp)⟩
          simp only [spec_l03NodeType.f]
          refine Ev.bind (lnm _) ?_
          simp only [h1, cond_true, show decide ((5 : Int) < (t.f1.length : Int)) = false by simp; omega, cond_false]
          refine Ev.bind (rising_ hp) ?_
          simp only [h3, cond_true]
          exact Ev.bind (hrv _ ht) (by simp only [h4, cond_false]; exact Ev.ret _)
        | true =>
          refine ⟨b, Ev.step ?_, fun h => ⟨h1, h2, h3, h4, g2 h⟩, fun hok hs => ?_⟩
          · simp only [spec_l03NodeType.f]
            refine Ev.bind (lnm _) ?_
            simp only [h1, cond_true, show decide ((5 : Int) < (t.f1.length : Int)) = false by simp; omega, cond_false]
            refine Ev.bind (rising_ hp) ?_
            simp only [h3, cond_true]
            refine Ev.bind (hrv _ ht) ?_
            simp only [h4, cond_true]
            exact g1
          · rw [g3 hok]
            exact ⟨fun h => ⟨fun p hp => (h.1 p hp).2, h.2⟩, fun h => ⟨fun p hp => ⟨hs.2.2.2.2 p hp, h.1 p hp⟩, h.2⟩⟩
end
end Go.Ab
namespace Go.Ab
open Go.Proofs
set_option linter.unusedVariables false
set_option linter.unusedSimpArgs false
section
variable {N : List S96} {E : List S99} {K : List S92} {c : Bool}
theorem snodes (hb : Bd N) {v : S96 → Bool} (hv : ∀ t ∈ N, Ev (fun k => spec_l03NodeType.f k ⟨N, E, K, c⟩ t) (v t)) {r : Int} (hr : Ev (fun k => spec_SchemaFault.l1 k 0 ⟨N, E, K, c⟩) r) :
  Ev (fun k => spec_SchemaFault.l0 k 0 ⟨N, E, K, c⟩) (if N.all v && risingB (N.map (·.f0)) then r else 1) := by
  have := walk (l := N) hb.n (f0 := fun t : S96 => t.f0) (v := v) (F := fun k i => spec_SchemaFault.l0 k i ⟨N, E, K, c⟩) (bad := 1) (r := r) (fun _ i hi => Ev.step (by
      simp only [spec_SchemaFault.l0, ltn hi, cond_false]; exact hr)) (fun i hi q hq b hbb => by
    refine Ev.step ?_
    simp only [spec_SchemaFault.l0, ltd hi, cond_true, ixg hi, Option.bind_some]
    refine Ev.bind (hv _ (List.getElem_mem hi)) ?_
    cases hvi : v N[i] with
    | false =>
      have : b = false := by cases b with | false => rfl | true => have := (hbb.1 rfl).1; rw [hvi] at this; cases this
      subst this
      simp only [cond_false]; exact Ev.ret _
    | true =>
      have hj : Ev (fun k => spec_SchemaFault.j0 k (i : Int) ⟨N, E, K, c⟩) q := Ev.step (by
        simp only [spec_SchemaFault.j0, wup hi hb.n]; exact hq hvi)
      simp only [cond_true]
      by_cases h0 : 0 < i
      · simp only [show decide ((0 : Int) < (i : Int)) = true by simpa using h0, cond_true, wdn h0 hi hb.n, ixg (show i - 1 < N.length by omega), Option.bind_some]
        cases hs : slt (N[i - 1]'(by omega)).f0 N[i].f0 with
        | true =>
          obtain rfl : b = true := hbb.2 ⟨hvi, fun _ => hs⟩
          exact hj
        | false =>
          have : b = false := by cases b with | false => rfl | true => have := (hbb.1 rfl).2 h0; rw [hs] at this; cases this
          subst this
          exact Ev.ret _
      · obtain rfl : b = true := hbb.2 ⟨hvi, fun h => absurd h h0⟩
        simp only [show decide ((0 : Int) < (i : Int)) = false by simp; omega, cond_false]
        exact hj) _ 0 (Nat.le_refl _) (by simp)
  simpa using this
def statV (N : List S96) (rv : List S113 → Bool) (t : S96) : Bool := nmB t.f0 && (labB 5 t.f1 && (rv t.f2 && t.f1.all (kn N)))
theorem ipar (hb : Bd N) {t : S96} (hp : t.f1.length ≤ 2000000) (i : Int) {q : Bool} (hq : Ev (fun k => impl_schemaOk.l0 k ⟨N, E, K, c⟩ (IntKind.i64.wrap (i + 1))) q) :
  ∀ n m : Nat, t.f1.length - m ≤ n → Ev (fun k => impl_schemaOk.l1 k ⟨N, E, K, c⟩ i t (m : Int)) (if (t.f1.drop m).all (kn N) then q else false) := by
  intro n
  have fin : ∀ m : Nat, ¬ m < t.f1.length → Ev (fun k => impl_schemaOk.l1 k ⟨N, E, K, c⟩ i t (m : Int)) (if (t.f1.drop m).all (kn N) then q else false) := fun m hm => by
    refine Ev.step ?_
    rw [List.drop_of_length_le (by omega)]
    simp only [impl_schemaOk.l1, ltn hm, cond_false]
    exact hq
  induction n with
  | zero => intro m h; exact fin m (by omega)
  | succ n ih =>
    intro m h
    by_cases hm : m < t.f1.length
    case neg => exact fin m hm
    refine Ev.step ?_
    rw [List.drop_eq_getElem_cons hm, List.all_cons]
    simp only [impl_schemaOk.l1, ltd hm, cond_true, ixg hm, Option.bind_some]
    refine Ev.bind (itype (s := ⟨N, E, K, c⟩) (by have := hb.n; simpa using (by omega)) _) ?_
    rcases fnd_cases (isAt t.f1[m]) N with ⟨e1, e2, _⟩ | ⟨j, hj, e1, e2, _⟩
    · have hk : kn N t.f1[m] = false := by unfold kn; rw [e2]; rfl
      simp only [e1, show decide ((-1 : Int) < 0) = true from rfl, cond_true, hk, Bool.false_and]
      exact Ev.ret _
    · have hk : kn N t.f1[m] = true := by unfold kn; rw [e2]; rfl
      simp only [e1, show decide ((j : Int) < 0) = false by simp, cond_false, hk, Bool.true_and, wup hm hp]
      exact ih (m + 1) (by omega)
theorem ipar_no_ (hb : Bd N) {t : S96} (hp : t.f1.length ≤ 2000000) (i : Int) :
  ∀ n m : Nat, t.f1.length - m ≤ n → (t.f1.drop m).all (kn N) = false → Ev (fun k => impl_schemaOk.l1 k ⟨N, E, K, c⟩ i t (m : Int)) false := by
  intro n
  induction n with
  | zero => intro m h hf; rw [List.drop_of_length_le (by omega)] at hf; cases hf
  | succ n ih =>
    intro m h hf
    by_cases hm : m < t.f1.length
    case neg => rw [List.drop_of_length_le (by omega)] at hf; cases hf
    refine Ev.step ?_
    rw [List.drop_eq_getElem_cons hm, List.all_cons] at hf
    simp only [impl_schemaOk.l1, ltd hm, cond_true, ixg hm, Option.bind_some]
    refine Ev.bind (itype (s := ⟨N, E, K, c⟩) (by have := hb.n; simpa using (by omega)) _) ?_
    rcases fnd_cases (isAt t.f1[m]) N with ⟨e1, e2, _⟩ | ⟨j, hj, e1, e2, _⟩
    · simp only [e1, show decide ((-1 : Int) < 0) = true from rfl, cond_true]
      exact Ev.ret _
    · have hk : kn N t.f1[m] = true := by unfold kn; rw [e2]; rfl
      rw [hk, Bool.true_and] at hf
      simp only [e1, show decide ((j : Int) < 0) = false by simp, cond_false, wup hm hp]
      exact ih (m + 1) (by omega) hf
theorem ipar_no (hb : Bd N) {t : S96} (hp : t.f1.length ≤ 2000000) (i : Int) (h : t.f1.all (kn N) = false) : Ev (fun k => impl_schemaOk.l1 k ⟨N, E, K, c⟩ i t 0) false :=
  ipar_no_ hb hp i _ 0 (Nat.le_refl _) h
theorem inodes (hb : Bd N) {rv : List S113 → Bool} (hrv : ∀ l, l.length ≤ 2000000 → Ev (fun k => impl_rulesOk.f k l) (rv l)) {r : Bool} (hr : (∀ t ∈ N, statV N rv t = true) → Ev (fun k => impl_schemaOk.l2 k ⟨N, E, K, c⟩ 0) r) :
  Ev (fun k => impl_schemaOk.l0 k ⟨N, E, K, c⟩ 0) (if N.all (statV N rv) && risingB (N.map (·.f0)) then r else false) := by
  have := walk (l := N) hb.n (f0 := fun t : S96 => t.f0) (v := statV N rv) (F := fun k i => impl_schemaOk.l0 k ⟨N, E, K, c⟩ i) (bad := false) (r := r) (fun ha i hi => Ev.step (by
      simp only [impl_schemaOk.l0, ltn hi, cond_false]; exact hr ha)) (fun i hi q hq b hbb => by
    have hmem := List.getElem_mem hi
    refine Ev.step ?_
    simp only [impl_schemaOk.l0, ltd hi, cond_true, ixg hi, Option.bind_some]
    refine Ev.bind (inm _) ?_
    have no : statV N rv N[i] = false → b = false := fun h => by cases b with | false => rfl | true => have := (hbb.1 rfl).1; rw [h] at this; cases this
    -- what comes behind the order
    have rest : ∀ b', (statV N rv N[i] = true → b' = true) → (b' = true → statV N rv N[i] = true) → nmB N[i].f0 = true → Ev (fun k => (impl_risingNames.f k N[i].f1 5).bind fun v6 => (bif v6 then ((impl_rulesOk.f k N[i].f2).bind fun v7 => (bif v7 then (impl_schemaOk.j0 k ⟨N, E, K, c⟩ (i : Int) N[i]) else (some false))) else (some false))) (if b' then q else false) := fun b' hb1 hb2 h1 => by
      refine Ev.bind (ilab _ (m := 5) (by omega)) ?_
      cases h2 : labB 5 N[i].f1 with
      | false =>
        have : b' = false := by cases b' with | false => rfl | true => have := hb2 rfl; simp [statV, h2] at this
        subst this
        simp only [cond_false]; exact Ev.ret _
      | true =>
        simp only [cond_true]
        refine Ev.bind (hrv _ (hb.r _ hmem)) ?_
        cases h3 : rv N[i].f2 with
        | false =>
          have : b' = false := by cases b' with | false => rfl | true => have := hb2 rfl; simp [statV, h3] at this
          subst this
          simp only [cond_false]; exact Ev.ret _
        | true =>
          simp only [cond_true]
          refine Ev.step ?_
          simp only [impl_schemaOk.j0]
          by_cases h4 : N[i].f1.all (kn N) = true
          · have hs : statV N rv N[i] = true := by unfold statV; rw [h1, h2, h3, h4]; rfl
            have := ipar (E := E) (K := K) (c := c) hb (hb.p _ hmem) (i : Int) (q := q) (by rw [wup hi hb.n]; exact hq hs) _ 0 (Nat.le_refl _)
            rw [List.drop_zero, h4] at this
            rw [hb1 hs]
            exact this
          · have hs : statV N rv N[i] = false := by unfold statV; rw [Bool.not_eq_true] at h4; rw [h4]; simp
            have hb' : b' = false := by cases b' with | false => rfl | true => have := hb2 rfl; rw [hs] at this; cases this
            subst hb'
            -- the parents are asked before the next type is
            exact ipar_no (E := E) (K := K) (c := c) hb (hb.p _ hmem) (i : Int) (by rw [Bool.not_eq_true] at h4; exact h4)
    cases h1 : nmB N[i].f0 with
    | false =>
      obtain rfl := no (by unfold statV; rw [h1]; rfl)
      simp only [cond_false]; exact Ev.ret _
    | true =>
      simp only [cond_true]
      by_cases h0 : 0 < i
      · simp only [show decide ((0 : Int) < (i : Int)) = true by simpa using h0, cond_true, wdn h0 hi hb.n, ixg (show i - 1 < N.length by omega), Option.bind_some]
        cases hs : slt (N[i - 1]'(by omega)).f0 N[i].f0 with
        | true => exact rest b (fun h => hbb.2 ⟨h, fun _ => hs⟩) (fun h => (hbb.1 h).1) h1
        | false =>
          have : b = false := by cases b with | false => rfl | true => have := (hbb.1 rfl).2 h0; rw [hs] at this; cases this
          subst this
          exact Ev.ret _
      · simp only [show decide ((0 : Int) < (i : Int)) = false by simp; omega, cond_false]
        exact rest b (fun h => hbb.2 ⟨h, fun h' => absurd h' h0⟩) (fun h => (hbb.1 h).1) h1) _ 0 (Nat.le_refl _) (by simp)
  simpa using this
end
end Go.Ab
namespace Go.Ab
open Go.Proofs
set_option linter.unusedVariables false
set_option linter.unusedSimpArgs false
theorem Reach.split {N : List S96} {a x : ByteArray} (h : Reach N a x) : x = a ∨ ∃ p ∈ par N a, Reach N p x := by
  induction h with
  | refl _ => exact .inl rfl
  | step y p hy hp hk ih =>
    rcases ih with rfl | ⟨q, hq, hr⟩
    · exact .inr ⟨p, hp, .refl hk⟩
    · exact .inr ⟨q, hq, .step y p hr hp hk⟩
def DynI (N : List S96) (t : S96) : Prop := ∀ x, (∃ p ∈ t.f1, Reach N p x) → x ≠ t.f0 ∧ t.f2.all (rfn (rulesAt N x)) = true
theorem dyn_iff {N : List S96} {t : S96} (hf : N.find? (isAt t.f0) = some t) (hk : kn N t.f0 = true) : Dyn N t ↔ DynI N t := by
  have hp : par N t.f0 = t.f1 := by unfold par; rw [hf]
  constructor
  · rintro ⟨h1, h2⟩ x ⟨p, hp', hr⟩
    have hne : x ≠ t.f0 := fun e => h1 p hp' (e ▸ hr)
    exact ⟨hne, h2 x (Reach.trans (.step t.f0 p (.refl hk) (hp ▸ hp') hr.first) hr) hne⟩
  · intro h
    refine ⟨fun p hp' hr => (h _ ⟨p, hp', hr⟩).1 rfl, fun x hx hne => ?_⟩
    rcases hx.split with rfl | ⟨p, hp', hr⟩
    · exact absurd rfl hne
    · exact (h x ⟨p, hp ▸ hp', hr⟩).2
section
variable {N : List S96} {E : List S99} {K : List S92} {c : Bool}
theorem il6 (hb : Bd N) {t u : S96} (ht : t.f2.length ≤ 2000000) (hu : u.f2.length ≤ 2000000) (i m : Int) (ab : List ByteArray) {q : Bool} (hq : Ev (fun k => impl_schemaOk.l5 k ⟨N, E, K, c⟩ i ab (IntKind.i64.wrap (m + 1)) t) q) :
  ∀ n j : Nat, t.f2.length - j ≤ n → Ev (fun k => impl_schemaOk.l6 k ⟨N, E, K, c⟩ i ab m t (j : Int) u) (if (t.f2.drop j).all (rfn u.f2) then q else false) := by
  intro n
  have fin : ∀ j : Nat, ¬ j < t.f2.length → Ev (fun k => impl_schemaOk.l6 k ⟨N, E, K, c⟩ i ab m t (j : Int) u) (if (t.f2.drop j).all (rfn u.f2) then q else false) := fun j hj => by
    refine Ev.step ?_
    rw [List.drop_of_length_le (by omega)]
    simp only [impl_schemaOk.l6, ltn hj, cond_false]
    exact hq
  induction n with
  | zero => intro j h; exact fin j (by omega)
  | succ n ih =>
    intro j h
    by_cases hj : j < t.f2.length
    case neg => exact fin j hj
    have g : Ev (fun k => impl_schemaOk.j1 k ⟨N, E, K, c⟩ i ab m t (j : Int) u) (if (t.f2.drop (j + 1)).all (rfn u.f2) then q else false) := Ev.step (by
      simp only [impl_schemaOk.j1, wup hj ht]; exact ih (j + 1) (by omega))
    refine Ev.step ?_
    rw [List.drop_eq_getElem_cons hj, List.all_cons]
    simp only [impl_schemaOk.l6, ltd hj, cond_true, ixg hj, Option.bind_some]
    refine Ev.bind (irule (by omega) _) ?_
    rcases fnd_cases (isRl t.f2[j].f0) u.f2 with ⟨e1, e2, _⟩ | ⟨y, hy, e1, e2, _⟩
    · rw [e1]
      simp only [show decide ((0 : Int) ≤ -1) = false from rfl, cond_false]
      have : rfn u.f2 t.f2[j] = true := by simp only [rfn, e2]
      rw [this, Bool.true_and]
      exact g
    · rw [e1]
      simp only [show decide ((0 : Int) ≤ (y : Int)) = true by simp, cond_true, ixg hy, Option.bind_some]
      have : rfn u.f2 t.f2[j] = (((u.f2[y].f1 == 0) || (u.f2[y].f1 == t.f2[j].f1)) && (!u.f2[y].f2 || t.f2[j].f2)) := by simp only [rfn, e2]
      rw [this]
      cases h1 : (u.f2[y].f1 == 0) <;> cases h2 : (u.f2[y].f1 == t.f2[j].f1) <;> cases h3 : u.f2[y].f2 <;> cases h4 : t.f2[j].f2 <;>
        simp only [cond_true, cond_false, Bool.or_true, Bool.or_false, Bool.true_or, Bool.false_or, Bool.not_true, Bool.not_false, Bool.and_true, Bool.and_false, Bool.true_and, Bool.false_and] <;> first | exact g | exact Ev.ret _
theorem il5 (hb : Bd N) {t : S96} (ht : t.f2.length ≤ 2000000) (i : Int) {ab : List ByteArray} (hab : ab.length ≤ 1000000000) (hk : ∀ x ∈ ab, kn N x = true) {q : Bool} (hq : Ev (fun k => impl_schemaOk.l2 k ⟨N, E, K, c⟩ (IntKind.i64.wrap (i + 1))) q) :
  ∀ n m : Nat, ab.length - m ≤ n → Ev (fun k => impl_schemaOk.l5 k ⟨N, E, K, c⟩ i ab (m : Int) t) (if (ab.drop m).all (fun x => t.f2.all (rfn (rulesAt N x))) then q else false) := by
  intro n
  have fin : ∀ m : Nat, ¬ m < ab.length → Ev (fun k => impl_schemaOk.l5 k ⟨N, E, K, c⟩ i ab (m : Int) t) (if (ab.drop m).all (fun x => t.f2.all (rfn (rulesAt N x))) then q else false) := fun m hm => by
    refine Ev.step ?_
    rw [List.drop_of_length_le (by omega)]
    simp only [impl_schemaOk.l5, ltn hm, cond_false]
    exact hq
  induction n with
  | zero => intro m h; exact fin m (by omega)
  | succ n ih =>
    intro m h
    by_cases hm : m < ab.length
    case neg => exact fin m hm
    refine Ev.step ?_
    rw [List.drop_eq_getElem_cons hm, List.all_cons]
    simp only [impl_schemaOk.l5, ltd hm, cond_true, ixg hm, Option.bind_some]
    refine Ev.bind (itype (s := ⟨N, E, K, c⟩) (by have := hb.n; simpa using (by omega)) _) ?_
    have hkx := hk _ (List.getElem_mem hm)
    rcases fnd_cases (isAt ab[m]) N with ⟨e1, e2, _⟩ | ⟨j, hj, e1, e2, _⟩
    · unfold kn at hkx; rw [e2] at hkx; cases hkx
    · have hru : rulesAt N ab[m] = N[j].f2 := by unfold rulesAt; rw [e2]
      rw [hru]
      simp only [e1, ixg hj, Option.bind_some]
      have := il6 (E := E) (K := K) (c := c) hb ht (hb.r _ (List.getElem_mem hj)) i (m : Int) ab (by rw [w1b hm (show ab.length ≤ 60000000000 by omega)]; exact ih (m + 1) (by omega)) _ 0 (Nat.le_refl _)
      rw [List.drop_zero] at this
      refine this.eq ?_
      cases t.f2.all (rfn N[j].f2) <;> simp
theorem il4 (hb : Bd N) {t : S96} (i p : Int) {l : List ByteArray} (hl : l.length ≤ 2000000) : ∀ (n m : Nat) (o : List ByteArray), l.length - m ≤ n → o.length + (l.length - m) ≤ 1000000000 →
    ∃ o', (∀ x, x ∈ o' ↔ x ∈ o ∨ x ∈ l.drop m) ∧ o'.length ≤ o.length + (l.length - m) ∧ ∀ r, Ev (fun k => impl_schemaOk.l3 k o' ⟨N, E, K, c⟩ i t (IntKind.i64.wrap (p + 1))) r → Ev (fun k => impl_schemaOk.l4 k o ⟨N, E, K, c⟩ i t p l (m : Int)) r := by
  intro n
  have fin : ∀ (m : Nat) (o : List ByteArray), ¬ m < l.length → ∃ o', (∀ x, x ∈ o' ↔ x ∈ o ∨ x ∈ l.drop m) ∧ o'.length ≤ o.length + (l.length - m) ∧ ∀ r, Ev (fun k => impl_schemaOk.l3 k o' ⟨N, E, K, c⟩ i t (IntKind.i64.wrap (p + 1))) r → Ev (fun k => impl_schemaOk.l4 k o ⟨N, E, K, c⟩ i t p l (m : Int)) r := fun m o hm => by
    refine ⟨o, fun x => by rw [List.drop_of_length_le (by omega)]; simp, by omega, fun r hr => Ev.step ?_⟩
    simp only [impl_schemaOk.l4, ltn hm, cond_false]
    exact hr
  induction n with
  | zero => intro m o h _; exact fin m o (by omega)
  | succ n ih =>
    intro m o h ho
    by_cases hm : m < l.length
    case neg => exact fin m o hm
    obtain ⟨o1, g1, g2, g3⟩ := insert_ (o := o) l[m] (by omega)
    obtain ⟨o2, q1, q2, q3⟩ := ih (m + 1) o1 (by omega) (by omega)
    refine ⟨o2, fun x => ?_, by omega, fun r hr => Ev.step ?_⟩
    · rw [q1, g2, List.drop_eq_getElem_cons hm, List.mem_cons, or_assoc]
    · simp only [impl_schemaOk.l4, ltd hm, cond_true, ixg hm, Option.bind_some]
      refine Ev.bind g1 ?_
      rw [wup hm hl]
      exact q3 r hr
theorem il3 (hb : Bd N) {t : S96} (hp : t.f1.length ≤ 5) (i : Int) : ∀ (n m : Nat) (o : List ByteArray), t.f1.length - m ≤ n → o.length + (t.f1.length - m) * 2000000 ≤ 100000000 →
    ∃ o', (∀ x, x ∈ o' ↔ x ∈ o ∨ ∃ p ∈ t.f1.drop m, Reach N p x) ∧ o'.length ≤ 100000000 ∧ ∀ r, Ev (fun k => ((slices_Contains.f k o' t.f0).bind fun v26 => (bif v26 then (some false) else (impl_schemaOk.l5 k ⟨N, E, K, c⟩ i o' 0 t)))) r → Ev (fun k => impl_schemaOk.l3 k o ⟨N, E, K, c⟩ i t (m : Int)) r := by
  intro n
  have fin : ∀ (m : Nat) (o : List ByteArray), ¬ m < t.f1.length → o.length ≤ 100000000 → ∃ o', (∀ x, x ∈ o' ↔ x ∈ o ∨ ∃ p ∈ t.f1.drop m, Reach N p x) ∧ o'.length ≤ 100000000 ∧ ∀ r, Ev (fun k => ((slices_Contains.f k o' t.f0).bind fun v26 => (bif v26 then (some false) else (impl_schemaOk.l5 k ⟨N, E, K, c⟩ i o' 0 t)))) r → Ev (fun k => impl_schemaOk.l3 k o ⟨N, E, K, c⟩ i t (m : Int)) r := fun m o hm ho => by
    refine ⟨o, fun x => by rw [List.drop_of_length_le (by omega)]; simp, ho, fun r hr => Ev.step ?_⟩
    simp only [impl_schemaOk.l3, ltn hm, cond_false]
    exact hr
  induction n with
  | zero => intro m o h ho; exact fin m o (by omega) (by omega)
  | succ n ih =>
    intro m o h ho
    by_cases hm : m < t.f1.length
    case neg => exact fin m o hm (by omega)
    have hm1 : (t.f1.length - m) * 2000000 = (t.f1.length - (m + 1)) * 2000000 + 2000000 := by
      rw [show t.f1.length - m = (t.f1.length - (m + 1)) + 1 by omega]; exact Nat.succ_mul _ _
    obtain ⟨l, s1, s2, s3, _⟩ := iline (E := E) (K := K) (c := c) hb.n hb.p t.f1[m]
    have hn := hb.n
    obtain ⟨o1, g1, g2, g3⟩ := il4 (E := E) (K := K) (c := c) hb (t := t) i (m : Int) (l := l) (by omega) _ 0 o (Nat.le_refl _) (by omega)
    rw [List.drop_zero] at g1
    obtain ⟨o2, q1, q2, q3⟩ := ih (m + 1) o1 (by omega) (by omega)
    refine ⟨o2, fun x => ?_, q2, fun r hr => Ev.step ?_⟩
    · rw [q1, g1, s2, List.drop_eq_getElem_cons hm]
      constructor
      · rintro ((h | h) | ⟨p, hp', hr⟩)
        · exact .inl h
        · exact .inr ⟨_, List.mem_cons_self .., h⟩
        · exact .inr ⟨p, List.mem_cons_of_mem _ hp', hr⟩
      · rintro (h | ⟨p, hp', hr⟩)
        · exact .inl (.inl h)
        · rcases List.mem_cons.1 hp' with rfl | hp'
          · exact .inl (.inr hr)
          · exact .inr ⟨p, hp', hr⟩
    · simp only [impl_schemaOk.l3, ltd hm, cond_true, ixg hm, Option.bind_some]
      refine Ev.bind s1 ?_
      refine g3 r ?_
      rw [wup hm (show t.f1.length ≤ 2000000 by omega)]
      exact q3 r hr
open Classical in
theorem il2 (hb : Bd N) (hp : ∀ t ∈ N, t.f1.length ≤ 5) {r : Bool} (hr : Ev (fun k => impl_schemaOk.l7 k ⟨N, E, K, c⟩ 0) r) : ∀ n i : Nat, N.length - i ≤ n →
    Ev (fun k => impl_schemaOk.l2 k ⟨N, E, K, c⟩ (i : Int)) (if ∀ t ∈ N.drop i, DynI N t then r else false) := by
  intro n
  have fin : ∀ i : Nat, ¬ i < N.length → Ev (fun k => impl_schemaOk.l2 k ⟨N, E, K, c⟩ (i : Int)) (if ∀ t ∈ N.drop i, DynI N t then r else false) := fun i hi => by
    refine Ev.step ?_
    rw [if_pos (by rw [List.drop_of_length_le (by omega)]; simp)]
    simp only [impl_schemaOk.l2, ltn hi, cond_false]
    exact hr
  induction n with
  | zero => intro i h; exact fin i (by omega)
  | succ n ih =>
    intro i h
    by_cases hi : i < N.length
    case neg => exact fin i hi
    have hmem := List.getElem_mem hi
    have g := ih (i + 1) (by omega)
    obtain ⟨o, q1, q2, q3⟩ := il3 (E := E) (K := K) (c := c) hb (t := N[i]) (hp _ hmem) (i : Int) _ 0 [] (Nat.le_refl _) (by
      have := hp _ hmem
      have h2 : (N[i].f1.length - 0) * 2000000 ≤ 5 * 2000000 := Nat.mul_le_mul_right _ (by omega)
      simp only [List.length_nil]; omega)
    rw [List.drop_zero] at q1
    have q1 : ∀ x, x ∈ o ↔ ∃ p ∈ N[i].f1, Reach N p x := fun x => by rw [q1 x]; simp
    have hl5 := il5 (E := E) (K := K) (c := c) hb (hb.r _ hmem) (i : Int) (ab := o) (by omega) (fun x hx => by obtain ⟨p, _, h⟩ := (q1 x).1 hx; exact h.kn) (q := _) (by rw [wup hi hb.n]; exact g) _ 0 (Nat.le_refl _)
    rw [List.drop_zero] at hl5
    refine Ev.step ?_
    simp only [impl_schemaOk.l2, ltd hi, cond_true, ixg hi, Option.bind_some]
    refine q3 _ ?_
    refine Ev.bind (imem (by omega) _) ?_
    have hd : N.drop i = N[i] :: N.drop (i + 1) := List.drop_eq_getElem_cons hi
    cases hh : has o N[i].f0 with
    | true =>
      have hno : ¬ ∀ t ∈ N.drop i, DynI N t := fun h => (h N[i] (by rw [hd]; exact List.mem_cons_self ..) _ ((q1 _).1 (has_iff.1 hh))).1 rfl
      rw [if_neg hno]
      simp only [cond_true]; exact Ev.ret _
    | false =>
      simp only [cond_false]
      refine hl5.eq ?_
      cases ha : o.all (fun x => N[i].f2.all (rfn (rulesAt N x))) with
      | false =>
        have hno : ¬ ∀ t ∈ N.drop i, DynI N t := fun h => by
          have : o.all (fun x => N[i].f2.all (rfn (rulesAt N x))) = true := List.all_eq_true.2 fun x hx => (h N[i] (by rw [hd]; exact List.mem_cons_self ..) x ((q1 x).1 hx)).2
          rw [ha] at this; cases this
        rw [if_neg hno]; simp
      | true =>
        have hyes : DynI N N[i] := fun x hx => ⟨fun e => has_no.1 hh (e ▸ (q1 x).2 hx), List.all_eq_true.1 ha x ((q1 x).2 hx)⟩
        have : (∀ t ∈ N.drop i, DynI N t) ↔ ∀ t ∈ N.drop (i + 1), DynI N t := by
          rw [hd]
          exact ⟨fun h t ht => h t (List.mem_cons_of_mem _ ht), fun h t ht => by
            rcases List.mem_cons.1 ht with rfl | ht
            · exact hyes
            · exact h t ht⟩
        by_cases hc : ∀ t ∈ N.drop (i + 1), DynI N t
        · rw [if_pos hc, if_pos (this.2 hc)]; simp
        · rw [if_neg hc, if_neg (fun h => hc (this.1 h))]; simp
end
end Go.Ab
