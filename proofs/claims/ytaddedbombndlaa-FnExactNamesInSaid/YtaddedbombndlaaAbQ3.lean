/- Names that are no words, and patterns: both programs tell the same fault. No condition. -/
import Derived.Test.YtaddedbombndlaaAbN1
import Derived.Lib.IndexMore
namespace Go.Ab
open Go.Proofs
set_option linter.unusedVariables false
set_option linter.unusedSimpArgs false
def joinSp (ws : List (List UInt8)) : List UInt8 := 32 :: ws.flatMap (· ++ [32])
theorem joinSp_cons (w : List UInt8) (ws : List (List UInt8)) : joinSp (w :: ws) = 32 :: (w ++ joinSp ws) := by
  simp [joinSp]
theorem pre_eq : ∀ (t w : List UInt8) (r : List UInt8), 32 ∉ t → 32 ∉ w → (t ++ [32]) <+: (w ++ 32 :: r) → t = w
  | [], [], _, _, _, _ => rfl
  | [], c :: w, r, _, hw, h => by
    obtain ⟨z, hz⟩ := h
    simp at hz
    exact absurd (by simp [hz.1]) hw
  | c :: t, [], r, ht, _, h => by
    obtain ⟨z, hz⟩ := h
    simp at hz
    exact absurd (by simp [hz.1]) ht
  | c :: t, d :: w, r, ht, hw, h => by
    obtain ⟨z, hz⟩ := h
    simp at hz
    have := pre_eq t w r (by simp at ht; exact ht.2) (by simp at hw; exact hw.2) ⟨z, by simp [hz.2]⟩
    rw [this, hz.1]
theorem infix_skip : ∀ (w t r : List UInt8), 32 ∉ w → (32 :: t) <:+: (w ++ r) → (32 :: t) <:+: r
  | [], _, _, _, h => h
  | c :: w, t, r, hw, h => by
    rw [List.cons_append, List.infix_cons_iff] at h
    simp at hw
    rcases h with h | h
    · obtain ⟨z, hz⟩ := h
      simp at hz
      exact absurd hz.1 hw.1
    · exact infix_skip w t r hw.2 h
theorem infix_join : ∀ (ws : List (List UInt8)) (t : List UInt8), t ≠ [] → 32 ∉ t → (∀ w ∈ ws, 32 ∉ w) → ((32 :: (t ++ [32])) <:+: joinSp ws ↔ t ∈ ws)
  | [], t, hne, _, _ => by
    constructor
    · intro h
      have := h.length_le
      simp [joinSp] at this
    · intro h; cases h
  | w :: ws, t, hne, ht, hw => by
    have ih := infix_join ws t hne ht (fun x hx => hw x (List.mem_cons_of_mem _ hx))
    have h0 := hw w (List.mem_cons_self ..)
    rw [joinSp_cons, List.infix_cons_iff, List.mem_cons]
    constructor
    · rintro (h | h)
      · left
        obtain ⟨z, hz⟩ := h
        simp only [List.cons_append, List.cons.injEq, true_and] at hz
        exact pre_eq t w (ws.flatMap (· ++ [32])) ht h0 ⟨z, hz⟩
      · exact Or.inr (ih.1 (infix_skip w _ _ h0 h))
    · rintro (rfl | h)
      · left
        exact ⟨ws.flatMap (· ++ [32]), by simp [joinSp]⟩
      · right
        exact (ih.2 h).trans (List.suffix_append w (joinSp ws)).isInfix
theorem contains_iff (s sub : List UInt8) : Go.Lib.contains s sub = true ↔ sub <:+: s := by
  unfold Go.Lib.contains
  rw [decide_eq_true_iff]
  rcases Go.Lib.index_spec s sub with ⟨h, hn⟩ | ⟨i, h, hi, ho, _⟩
  · rw [h]
    constructor
    · intro h; omega
    · rintro ⟨a, b, hab⟩
      have h1 := hn a.length (by rw [← hab]; simp)
      have h2 : sub.isPrefixOf (sub ++ b) = true := List.isPrefixOf_iff_prefix.2 (List.prefix_append _ _)
      rw [Go.Lib.occAt, ← hab, List.append_assoc, List.drop_left, h2] at h1
      cases h1
  · rw [h]
    constructor
    · intro _
      simp only [Go.Lib.occAt, List.isPrefixOf_iff_prefix] at ho
      obtain ⟨z, hz⟩ := ho
      exact ⟨s.take i, z, by rw [List.append_assoc, hz, List.take_append_drop]⟩
    · intro _; omega

def wordsW : List (List UInt8) := [[110, 117, 108, 108], [116, 114, 117, 101], [102, 97, 108, 115, 101], [110, 111, 116], [111, 114], [120, 111, 114], [97, 110, 100], [105, 110], [105, 115], [99, 97, 115, 101], [119, 104, 101, 110], [116, 104, 101, 110], [101, 108, 115, 101], [101, 110, 100], [119, 104, 101, 114, 101], [97, 108, 108], [97, 110, 121], [109, 97, 116, 99, 104], [111, 112, 116, 105, 111, 110, 97, 108], [119, 105, 116, 104], [114, 101, 116, 117, 114, 110], [100, 105, 115, 116, 105, 110, 99, 116], [111, 114, 100, 101, 114], [98, 121], [100, 101, 115, 99], [115, 107, 105, 112], [108, 105, 109, 105, 116], [97, 115], [117, 110, 119, 105, 110, 100], [99, 114, 101, 97, 116, 101], [115, 101, 116], [114, 101, 109, 111, 118, 101], [100, 101, 108, 101, 116, 101], [100, 101, 116, 97, 99, 104], [109, 101, 114, 103, 101], [111, 110], [117, 110, 105, 111, 110], [115, 104, 111, 114, 116, 101, 115, 116], [116, 114, 97, 105, 108], [115, 105, 109, 112, 108, 101], [119, 97, 108, 107]]
theorem words_nosp : ∀ w ∈ wordsW, (32 : UInt8) ∉ w := by decide +kernel
theorem isN_nosp : isN 32 = false := by decide
theorem name_nosp {l : List UInt8} (h : nameOk l = true) : l ≠ [] ∧ (32 : UInt8) ∉ l ∧ l.length ≤ 20 := by
  unfold nameOk at h
  simp only [Bool.and_eq_true, decide_eq_true_eq] at h
  obtain ⟨⟨⟨h1, h2⟩, _⟩, h3⟩ := h
  refine ⟨fun e => (by rw [e] at h1; cases h1), fun hm => ?_, h2⟩
  have := List.all_eq_true.1 h3 _ hm
  rw [isN_nosp] at this; cases this
def freeB (s : ByteArray) : Bool := nmB s && !decide (s.data.toList ∈ wordsW)
def wordsB : List ByteArray := wordsW.map (fun w => ⟨w.toArray⟩)
theorem words_spec (k : Nat) : spec_l06Words.f k = some wordsB := by
  unfold spec_l06Words.f wordsB wordsW
  rfl
theorem mem_words (a : ByteArray) : a ∈ wordsB ↔ a.data.toList ∈ wordsW := by
  unfold wordsB
  constructor
  · intro h
    obtain ⟨w, hw, rfl⟩ := List.mem_map.1 h
    simpa using hw
  · intro h
    exact List.mem_map.2 ⟨_, h, by rw [← bs, ← bs_of]⟩
theorem free_s (s : ByteArray) : Ev (fun k => spec_l06Name.f k s) (freeB s) := by
  unfold spec_l06Name.f freeB
  refine Ev.bind (lnm s) ?_
  cases nmB s with
  | false => exact Ev.ret _
  | true =>
    simp only [cond_true, Bool.true_and, words_spec, Option.bind_some]
    obtain ⟨b, h1, h2⟩ := in_some (l := wordsB) (a := s) (by decide)
    refine Ev.bind h1 ((Ev.ret _).eq ?_)
    congr 1
    rw [Bool.eq_iff_iff, h2, mem_words, decide_eq_true_iff]
theorem words_text (a : ByteArray) (k : Nat) (h : nmB a = true) : impl_isWord.f k a = some (decide (a.data.toList ∈ wordsW)) := by
  obtain ⟨h1, h2, h3⟩ := name_nosp h
  have hs : a.size ≤ 20 := by rw [size_list]; exact h3
  unfold impl_isWord.f
  rw [cat_ (by rw [sz1]; omega)]
  simp only [Option.bind_some]
  rw [cat_ (by rw [ByteArray.size_append, sz1]; omega)]
  simp only [Option.bind_some]
  unfold strings_Contains.f
  rw [if_pos (by decide +kernel)]
  simp only [Option.bind_some]
  congr 1
  have e : ((⟨#[32]⟩ : ByteArray) ++ a ++ (⟨#[32]⟩ : ByteArray)).data.toList = 32 :: (a.data.toList ++ [32]) := by simp
  rw [e, Bool.eq_iff_iff, contains_iff, decide_eq_true_iff]
  refine Iff.trans ?_ (infix_join wordsW _ h1 h2 words_nosp)
  rw [show joinSp wordsW = _ from (by decide +kernel : joinSp wordsW = (⟨#[32, 110, 117, 108, 108, 32, 116, 114, 117, 101, 32, 102, 97, 108, 115, 101, 32, 110, 111, 116, 32, 111, 114, 32, 120, 111, 114, 32, 97, 110, 100, 32, 105, 110, 32, 105, 115, 32, 99, 97, 115, 101, 32, 119, 104, 101, 110, 32, 116, 104, 101, 110, 32, 101, 108, 115, 101, 32, 101, 110, 100, 32, 119, 104, 101, 114, 101, 32, 97, 108, 108, 32, 97, 110, 121, 32, 109, 97, 116, 99, 104, 32, 111, 112, 116, 105, 111, 110, 97, 108, 32, 119, 105, 116, 104, 32, 114, 101, 116, 117, 114, 110, 32, 100, 105, 115, 116, 105, 110, 99, 116, 32, 111, 114, 100, 101, 114, 32, 98, 121, 32, 100, 101, 115, 99, 32, 115, 107, 105, 112, 32, 108, 105, 109, 105, 116, 32, 97, 115, 32, 117, 110, 119, 105, 110, 100, 32, 99, 114, 101, 97, 116, 101, 32, 115, 101, 116, 32, 114, 101, 109, 111, 118, 101, 32, 100, 101, 108, 101, 116, 101, 32, 100, 101, 116, 97, 99, 104, 32, 109, 101, 114, 103, 101, 32, 111, 110, 32, 117, 110, 105, 111, 110, 32, 115, 104, 111, 114, 116, 101, 115, 116, 32, 116, 114, 97, 105, 108, 32, 115, 105, 109, 112, 108, 101, 32, 119, 97, 108, 107, 32]⟩ : ByteArray).data.toList)]
theorem free_i (s : ByteArray) : Ev (fun k => impl_free.f k s) (freeB s) := by
  unfold impl_free.f freeB
  refine Ev.bind (inm s) ?_
  cases h : nmB s with
  | false => exact Ev.ret _
  | true =>
    simp only [cond_true, Bool.true_and, words_text s _ h, Option.bind_some]
    exact Ev.ret _
/-! Tests that tell a fact -/
def Tl {α : Type} (v : Bool → α) (f : Nat → Option α) (P : Prop) : Prop := ∃ c : Bool, (c = true ↔ P) ∧ Ev f (v c)
def vS (c : Bool) : Int := if c then 0 else 1
section
variable {α : Type} {v : Bool → α} {f g : Nat → Option α} {P Q : Prop}
theorem Tl.step (h : Tl v (fun k => f (k + 1)) P) : Tl v f P := by
  obtain ⟨c, h1, h2⟩ := h; exact ⟨c, h1, h2.step⟩
theorem Tl.iff (h : Tl v f Q) (e : P ↔ Q) : Tl v f P := by
  obtain ⟨c, h1, h2⟩ := h; exact ⟨c, h1.trans e.symm, h2⟩
theorem Tl.no (h : ¬ P) : Tl v (fun _ => some (v false)) P := ⟨false, ⟨fun e => (by cases e), fun x => absurd x h⟩, Ev.ret _⟩
theorem Tl.yes (h : P) : Tl v (fun _ => some (v true)) P := ⟨true, ⟨fun _ => h, fun _ => rfl⟩, Ev.ret _⟩
theorem Tl.dec {b : Bool} (h : b = true ↔ P) : Tl v (fun _ => some (v b)) P := ⟨b, h, Ev.ret _⟩
theorem Tl.ev {b : Bool} (h : Ev f (v b)) (e : b = true ↔ P) : Tl v f P := ⟨b, e, h⟩
theorem Tl.cond {b : Bool} (h : b = true → Tl v f P) (h' : b = false → Tl v g P) : Tl v (fun k => bif b then f k else g k) P := by
  cases b with
  | true => exact h rfl
  | false => exact h' rfl
theorem Tl.bindE {β : Type} {a : β} {s : Nat → Option β} {h : Nat → β → Option α} (e : Ev s a) (t : Tl v (fun k => h k a) P) : Tl v (fun k => (s k).bind (h k)) P := by
  obtain ⟨c, h1, h2⟩ := t; exact ⟨c, h1, Ev.bind e h2⟩
theorem Tl.bind {β : Type} {u : Bool → β} {s : Nat → Option β} {h : Nat → β → Option α} (e : Tl u s Q) (t : Q → Tl v (fun k => h k (u true)) P) (t' : ¬ Q → Tl v (fun k => h k (u false)) P) : Tl v (fun k => (s k).bind (h k)) P := by
  obtain ⟨c, h1, h2⟩ := e
  cases c with
  | true => exact Tl.bindE h2 (t (h1.1 rfl))
  | false => exact Tl.bindE h2 (t' (fun q => by have := h1.2 q; cases this))
end
abbrev e0 : ByteArray := ⟨#[]⟩
def NmOk (s : ByteArray) : Prop := s = e0 ∨ freeB s = true
def LabOk (t : ByteArray) : Prop := Ev (fun k => spec_LabelsFault.f k t) 0
theorem labs (t : ByteArray) : Tl vS (fun k => spec_LabelsFault.f k t) (LabOk t) := by
  obtain ⟨c, h1, h2⟩ := labels2 t
  refine ⟨c, ?_, h1⟩
  unfold LabOk
  cases c with
  | true => exact ⟨fun _ => h1, fun _ => rfl⟩
  | false => exact ⟨fun e => (by cases e), fun h => absurd (Ev.uniq h h1) (by decide)⟩
theorem labi (t : ByteArray) : Tl vS (fun k => impl_LabelsFault.f k t) (LabOk t) := by
  obtain ⟨c, h1, h2⟩ := labels2 t
  refine ⟨c, ?_, h2⟩
  unfold LabOk
  cases c with
  | true => exact ⟨fun _ => h1, fun _ => rfl⟩
  | false => exact ⟨fun e => (by cases e), fun h => absurd (Ev.uniq h h1) (by decide)⟩
def LbOk (t : ByteArray) : Prop := t = e0 ∨ LabOk t
def EdOk (e : S127) : Prop := labB 10 e.f1 = true ∧ 1 ≤ e.f2 ∧ e.f2 ≤ 3 ∧ (if e.f3 then 0 ≤ e.f4 ∧ e.f4 ≤ e.f5 ∧ 1 ≤ e.f5 ∧ e.f5 ≤ 10 else e.f4 = 0 ∧ e.f5 = 0)
/-! The reference -/
theorem edge_l0 (e : S127) (hl : e.f1.length ≤ 10) (P : Prop) (hP : P ↔ (if e.f3 then 0 ≤ e.f4 ∧ e.f4 ≤ e.f5 ∧ 1 ≤ e.f5 ∧ e.f5 ≤ 10 else e.f4 = 0 ∧ e.f5 = 0)) : ∀ (n i : Nat), e.f1.length - i ≤ n → Tl id (fun k => spec_l08Edge.l0 k (i : Int) e) ((e.f1.drop i).all nmB = true ∧ P) := by
  have fin : ∀ i : Nat, ¬ i < e.f1.length → Tl id (fun k => spec_l08Edge.l0 k (i : Int) e) ((e.f1.drop i).all nmB = true ∧ P) := fun i h => by
    refine Tl.iff (Q := P) (Tl.step ?_) (by rw [List.drop_of_length_le (by omega)]; simp)
    rw [hP]
    simp only [spec_l08Edge.l0, ltn h, cond_false]
    refine Tl.cond (fun h3 => ?_) (fun h3 => ?_)
    · rw [if_pos h3]
      refine Tl.cond (fun h4 => ?_) (fun h4 => Tl.no ?_)
      · refine Tl.cond (fun h5 => ?_) (fun h5 => Tl.no ?_)
        · refine Tl.cond (fun h6 => ?_) (fun h6 => Tl.no ?_)
          · refine Tl.dec (v := id) (b := decide (e.f5 ≤ 10)) ?_
            have a4 := of_decide_eq_true h4
            have a5 := of_decide_eq_true h5
            have a6 := of_decide_eq_true h6
            rw [decide_eq_true_eq]
            clear hP
            exact ⟨fun x => ⟨a4, a5, a6, x⟩, fun x => x.2.2.2⟩
          · simp only [decide_eq_true_eq, decide_eq_false_iff_not] at *; omega
        · simp only [decide_eq_true_eq, decide_eq_false_iff_not] at *; omega
      · simp only [decide_eq_false_iff_not] at *; omega
    · rw [h3]
      refine Tl.cond (fun h4 => ?_) (fun h4 => Tl.no ?_)
      · refine Tl.dec (v := id) (b := e.f5 == 0) ?_
        simp only [beq_iff_eq, Bool.false_eq_true, if_false] at *
        exact ⟨fun h => ⟨h4, h⟩, fun h => h.2⟩
      · simp only [beq_eq_false_iff_ne, Bool.false_eq_true, if_false] at *
        exact fun h => h4 h.1
  intro n
  induction n with
  | zero => intro i h; exact fin i (by omega)
  | succ n ih =>
    intro i h
    by_cases hi : i < e.f1.length
    case neg => exact fin i hi
    refine Tl.step ?_
    rw [List.drop_eq_getElem_cons hi, List.all_cons]
    simp only [spec_l08Edge.l0, ltd hi, cond_true, ixg hi, Option.bind_some, wup hi (show e.f1.length ≤ 2000000 by omega)]
    refine Tl.bindE (lnm _) ?_
    cases nmB e.f1[i] with
    | true => simp only [cond_true, Bool.true_and]; exact ih (i + 1) (by omega)
    | false => exact Tl.no (v := id) (by simp)
theorem edge_s (e : S127) : Tl id (fun k => spec_l08Edge.f k e) (NmOk e.f0 ∧ EdOk e) := by
  have back : Tl id (fun k => bif decide (10 < (e.f1.length : Int)) then some false else ((spec_l01Rising.f k e.f1).bind fun v1 => (bif v1 then (bif decide (e.f2 < 1) then (some false) else (bif decide (3 < e.f2) then (some false) else (spec_l08Edge.j0 k e))) else (some false)))) (EdOk e) := by
    unfold EdOk labB
    refine Tl.cond (fun h => Tl.no (v := id) ?_) (fun h => ?_)
    · rw [decide_eq_true_eq] at h
      rw [show decide (e.f1.length ≤ 10) = false from decide_eq_false (by omega)]
      simp
    · rw [decide_eq_false_iff_not] at h
      have hl : e.f1.length ≤ 10 := by omega
      rw [decide_eq_true hl, Bool.true_and]
      refine Tl.bindE (rising_ (by omega)) ?_
      cases risingB e.f1 with
      | false => exact Tl.no (v := id) (by simp)
      | true =>
        simp only [cond_true, Bool.and_true]
        refine Tl.cond (fun h1 => Tl.no (v := id) (by rw [decide_eq_true_eq] at h1; omega)) (fun h1 => ?_)
        refine Tl.cond (fun h2 => Tl.no (v := id) (by rw [decide_eq_true_eq] at h2; omega)) (fun h2 => ?_)
        rw [decide_eq_false_iff_not] at h1 h2
        refine Tl.step ?_
        simp only [spec_l08Edge.j0]
        refine Tl.iff (edge_l0 e hl _ Iff.rfl _ 0 (Nat.le_refl _)) ?_
        rw [List.drop_zero]
        exact ⟨fun h => ⟨h.1, h.2.2.2⟩, fun h => ⟨h.1, by omega, by omega, h.2⟩⟩
  refine Tl.step ?_
  simp only [spec_l08Edge.f]
  refine Tl.cond (fun h => ?_) (fun h => ?_)
  · exact back.iff ⟨fun x => x.2, fun x => ⟨.inl (of_decide_eq_true h), x⟩⟩
  · have hne := of_decide_eq_false h
    refine Tl.bindE (free_s _) ?_
    cases hf : freeB e.f0 with
    | true => exact back.iff ⟨fun x => x.2, fun x => ⟨.inr hf, x⟩⟩
    | false => exact Tl.no (v := id) (fun x => x.1.elim hne (fun y => by rw [hf] at y; cases y))
/-- Names that stand. -/
def nms {γ : Type} (f : γ → ByteArray) (l : List γ) : List ByteArray := (l.map f).filter (fun s => !decide (s = e0))
theorem nms_snoc {γ : Type} (f : γ → ByteArray) {l : List γ} {i : Nat} (hi : i < l.length) : nms f (l.take (i + 1)) = if f l[i] = e0 then nms f (l.take i) else nms f (l.take i) ++ [f l[i]] := by
  unfold nms
  rw [List.take_succ_eq_append_getElem hi, List.map_append, List.filter_append]
  by_cases h : f l[i] = e0
  · rw [if_pos h]; simp [h]
  · rw [if_neg h]; simp [h]
theorem nms_len {γ : Type} (f : γ → ByteArray) (l : List γ) : (nms f l).length ≤ l.length := by
  unfold nms
  exact Nat.le_trans (List.length_filter_le _ _) (by simp)
def Ot (p : S49) : List ByteArray := nms (·.f0) p.f4 ++ (if p.f0 = e0 then [] else [p.f0])
theorem names_s (p : S49) (h3 : p.f3.length ≤ 1000) (h4 : p.f4.length ≤ 1000) : Ev (fun k => spec_l08Names.f k p) (nms (·.f0) p.f3, Ot p) := by
  have l1 : ∀ (n i : Nat), p.f4.length - i ≤ n → Ev (fun k => spec_l08Names.l1 k (nms (·.f0) p.f3) (nms (·.f0) (p.f4.take i)) (i : Int) p) (nms (·.f0) p.f3, Ot p) := by
    have fin : ∀ i : Nat, ¬ i < p.f4.length → Ev (fun k => spec_l08Names.l1 k (nms (·.f0) p.f3) (nms (·.f0) (p.f4.take i)) (i : Int) p) (nms (·.f0) p.f3, Ot p) := fun i h => by
      refine Ev.step ?_
      rw [List.take_of_length_le (by omega)]
      simp only [spec_l08Names.l1, ltn h, cond_false]
      unfold Ot
      by_cases h0 : p.f0 = e0
      · simp only [decide_eq_true h0, cond_true, if_pos h0, List.append_nil]; exact Ev.ret _
      · have := nms_len (·.f0) p.f4
        simp only [decide_eq_false h0, cond_false, if_neg h0, app_one p.f0 (show (nms (·.f0) p.f4).length ≤ 2000000 by omega), Option.bind_some]; exact Ev.ret _
    intro n
    induction n with
    | zero => intro i h; exact fin i (by omega)
    | succ n ih =>
      intro i h
      by_cases hi : i < p.f4.length
      case neg => exact fin i hi
      refine Ev.step ?_
      simp only [spec_l08Names.l1, ltd hi, cond_true, ixg hi, Option.bind_some]
      have g := ih (i + 1) (by omega)
      rw [nms_snoc _ hi] at g
      have len := nms_len (·.f0) (p.f4.take i)
      rw [List.length_take] at len
      by_cases h0 : p.f4[i].f0 = e0
      · simp only [if_pos h0] at g
        simp only [decide_eq_true h0, cond_true]
        refine Ev.step ?_
        simp only [spec_l08Names.j1, wup hi (show p.f4.length ≤ 2000000 by omega)]
        exact g
      · simp only [if_neg h0] at g
        simp only [decide_eq_false h0, cond_false, app_one p.f4[i].f0 (show (nms (·.f0) (p.f4.take i)).length ≤ 2000000 by omega), Option.bind_some]
        refine Ev.step ?_
        simp only [spec_l08Names.j1, wup hi (show p.f4.length ≤ 2000000 by omega)]
        exact g
  have l0 : ∀ (n i : Nat), p.f3.length - i ≤ n → Ev (fun k => spec_l08Names.l0 k (nms (·.f0) (p.f3.take i)) (i : Int) p) (nms (·.f0) p.f3, Ot p) := by
    have fin : ∀ i : Nat, ¬ i < p.f3.length → Ev (fun k => spec_l08Names.l0 k (nms (·.f0) (p.f3.take i)) (i : Int) p) (nms (·.f0) p.f3, Ot p) := fun i h => by
      refine Ev.step ?_
      rw [List.take_of_length_le (by omega)]
      simp only [spec_l08Names.l0, ltn h, cond_false]
      exact l1 _ 0 (Nat.le_refl _)
    intro n
    induction n with
    | zero => intro i h; exact fin i (by omega)
    | succ n ih =>
      intro i h
      by_cases hi : i < p.f3.length
      case neg => exact fin i hi
      refine Ev.step ?_
      simp only [spec_l08Names.l0, ltd hi, cond_true, ixg hi, Option.bind_some]
      have g := ih (i + 1) (by omega)
      rw [nms_snoc _ hi] at g
      have len := nms_len (·.f0) (p.f3.take i)
      rw [List.length_take] at len
      by_cases h0 : p.f3[i].f0 = e0
      · simp only [if_pos h0] at g
        simp only [decide_eq_true h0, cond_true]
        refine Ev.step ?_
        simp only [spec_l08Names.j0, wup hi (show p.f3.length ≤ 2000000 by omega)]
        exact g
      · simp only [if_neg h0] at g
        simp only [decide_eq_false h0, cond_false, app_one p.f3[i].f0 (show (nms (·.f0) (p.f3.take i)).length ≤ 2000000 by omega), Option.bind_some]
        refine Ev.step ?_
        simp only [spec_l08Names.j0, wup hi (show p.f3.length ≤ 2000000 by omega)]
        exact g
  refine Ev.step ?_
  simp only [spec_l08Names.f]
  exact l0 _ 0 (Nat.le_refl _)
/-- None of the names stands among the nodes' or ahead. -/
def Fr2 (N : List ByteArray) : List ByteArray → List ByteArray → Prop
 | _, [] => True
 | S, a :: r => (a ∉ N ∧ a ∉ S) ∧ Fr2 N (S ++ [a]) r
theorem dup_l2 {N O : List ByteArray} (hN : N.length ≤ 2000000) (hO : O.length ≤ 2000000) : ∀ (n i : Nat), O.length - i ≤ n → i ≤ O.length → Tl vS (fun k => spec_PatternFault.l2 k (N, O) (i : Int)) (Fr2 N (O.take i) (O.drop i)) := by
  have fin : ∀ i : Nat, ¬ i < O.length → Tl vS (fun k => spec_PatternFault.l2 k (N, O) (i : Int)) (Fr2 N (O.take i) (O.drop i)) := fun i h => by
    refine Tl.step ?_
    rw [List.drop_of_length_le (by omega)]
    simp only [spec_PatternFault.l2, ltn h, cond_false]
    exact Tl.yes (v := vS) trivial
  intro n
  induction n with
  | zero => intro i h _; exact fin i (by omega)
  | succ n ih =>
    intro i h hiO
    by_cases hi : i < O.length
    case neg => exact fin i hi
    refine Tl.step ?_
    rw [List.drop_eq_getElem_cons hi, Fr2, ← List.take_succ_eq_append_getElem hi]
    simp only [spec_PatternFault.l2, ltd hi, cond_true, ixg hi, Option.bind_some]
    obtain ⟨b, b1, b2⟩ := in_some (l := N) (a := O[i]) hN
    obtain ⟨c, c1, c2⟩ := in_some (l := O.take i) (a := O[i]) (by rw [List.length_take]; omega)
    have hs : lsub O 0 (i : Int) = some (O.take i) := by
      unfold lsub
      rw [if_pos (by omega)]
      simp
    refine Tl.bindE b1 ?_
    cases b with
    | true => exact Tl.no (v := vS) (fun h => h.1.1 (b2.1 rfl))
    | false =>
      simp only [cond_false, hs, Option.bind_some]
      refine Tl.bindE c1 ?_
      cases c with
      | true => exact Tl.no (v := vS) (fun h => h.1.2 (c2.1 rfl))
      | false =>
        simp only [cond_false, wup hi hO]
        refine (ih (i + 1) (by omega) (by omega)).iff ⟨fun h => h.2, fun h => ⟨⟨fun x => (by have := b2.2 x; cases this), fun x => (by have := c2.2 x; cases this)⟩, h⟩⟩
def NdOk (n : S124) : Prop := NmOk n.f0 ∧ LbOk n.f1
theorem edges_s {p : S49} (h3 : p.f3.length ≤ 1000) (h4 : p.f4.length ≤ 1000) : ∀ (n i : Nat), p.f4.length - i ≤ n → Tl vS (fun k => spec_PatternFault.l1 k (i : Int) p) ((∀ e ∈ p.f4.drop i, NmOk e.f0 ∧ EdOk e) ∧ Fr2 (nms (·.f0) p.f3) [] (Ot p)) := by
  have fin : ∀ i : Nat, ¬ i < p.f4.length → Tl vS (fun k => spec_PatternFault.l1 k (i : Int) p) ((∀ e ∈ p.f4.drop i, NmOk e.f0 ∧ EdOk e) ∧ Fr2 (nms (·.f0) p.f3) [] (Ot p)) := fun i h => by
    refine Tl.step ?_
    rw [List.drop_of_length_le (by omega)]
    simp only [spec_PatternFault.l1, ltn h, cond_false]
    refine Tl.bindE (names_s p h3 h4) ?_
    have e1 := nms_len (·.f0) p.f3
    have e2 := nms_len (·.f0) p.f4
    have e3 : (Ot p).length ≤ 2000 := by unfold Ot; rw [List.length_append]; split <;> simp <;> omega
    refine (dup_l2 (by omega) (by omega) _ 0 (Nat.le_refl _) (Nat.zero_le _)).iff ?_
    simp
  intro n
  induction n with
  | zero => intro i h; exact fin i (by omega)
  | succ n ih =>
    intro i h
    by_cases hi : i < p.f4.length
    case neg => exact fin i hi
    refine Tl.step ?_
    rw [List.drop_eq_getElem_cons hi]
    simp only [spec_PatternFault.l1, ltd hi, cond_true, ixg hi, Option.bind_some, wup hi (show p.f4.length ≤ 2000000 by omega)]
    refine Tl.bind (edge_s p.f4[i]) (fun q => (ih (i + 1) (by omega)).iff ?_) (fun q => Tl.no (v := vS) ?_)
    · constructor
      · exact fun h => ⟨fun e he => h.1 e (List.mem_cons_of_mem _ he), h.2⟩
      · exact fun h => ⟨fun e he => by
          rcases List.mem_cons.1 he with rfl | he
          · exact q
          · exact h.1 e he, h.2⟩
    · exact fun h => q (h.1 _ (List.mem_cons_self ..))
theorem lab_arm {t : ByteArray} {f : Nat → Option Int} {P : Prop} (h : Tl vS f P) : Tl vS (fun k => bif decide (t = e0) then f k else ((spec_LabelsFault.f k t).bind fun v5 => (bif (v5 == 0) then f k else (some 1)))) (LbOk t ∧ P) := by
  refine Tl.cond (fun h0 => h.iff ⟨fun x => x.2, fun x => ⟨.inl (of_decide_eq_true h0), x⟩⟩) (fun h0 => ?_)
  have hne := of_decide_eq_false h0
  refine Tl.bind (labs t) (fun q => h.iff ⟨fun x => x.2, fun x => ⟨.inr q, x⟩⟩) (fun q => Tl.no (v := vS) (fun x => x.1.elim hne q))
theorem nodes_s {p : S49} (h3 : p.f3.length ≤ 1000) (h4 : p.f4.length ≤ 1000) : ∀ (n i : Nat), p.f3.length - i ≤ n → Tl vS (fun k => spec_PatternFault.l0 k (i : Int) p) ((∀ e ∈ p.f3.drop i, NdOk e) ∧ (∀ e ∈ p.f4, NmOk e.f0 ∧ EdOk e) ∧ Fr2 (nms (·.f0) p.f3) [] (Ot p)) := by
  have fin : ∀ i : Nat, ¬ i < p.f3.length → Tl vS (fun k => spec_PatternFault.l0 k (i : Int) p) ((∀ e ∈ p.f3.drop i, NdOk e) ∧ (∀ e ∈ p.f4, NmOk e.f0 ∧ EdOk e) ∧ Fr2 (nms (·.f0) p.f3) [] (Ot p)) := fun i h => by
    refine Tl.step ?_
    rw [List.drop_of_length_le (by omega)]
    simp only [spec_PatternFault.l0, ltn h, cond_false]
    refine (edges_s h3 h4 _ 0 (Nat.le_refl _)).iff ?_
    simp
  intro n
  induction n with
  | zero => intro i h; exact fin i (by omega)
  | succ n ih =>
    intro i h
    by_cases hi : i < p.f3.length
    case neg => exact fin i hi
    refine Tl.step ?_
    rw [List.drop_eq_getElem_cons hi]
    simp only [spec_PatternFault.l0, ltd hi, cond_true, ixg hi, Option.bind_some]
    have nx : Tl vS (fun k => spec_PatternFault.j1 k (i : Int) p) ((∀ e ∈ p.f3.drop (i + 1), NdOk e) ∧ (∀ e ∈ p.f4, NmOk e.f0 ∧ EdOk e) ∧ Fr2 (nms (·.f0) p.f3) [] (Ot p)) := by
      refine Tl.step ?_
      simp only [spec_PatternFault.j1, wup hi (show p.f3.length ≤ 2000000 by omega)]
      exact ih (i + 1) (by omega)
    have sp : ∀ {R : Prop}, NmOk p.f3[i].f0 → (((∀ e ∈ p.f3[i] :: p.f3.drop (i + 1), NdOk e) ∧ R) ↔ LbOk p.f3[i].f1 ∧ (∀ e ∈ p.f3.drop (i + 1), NdOk e) ∧ R) := fun hn => by
      constructor
      · exact fun h => ⟨(h.1 _ (List.mem_cons_self ..)).2, fun e he => h.1 e (List.mem_cons_of_mem _ he), h.2⟩
      · exact fun h => ⟨fun e he => by
          rcases List.mem_cons.1 he with rfl | he
          · exact ⟨hn, h.1⟩
          · exact h.2.1 e he, h.2.2⟩
    refine Tl.cond (fun h0 => ?_) (fun h0 => ?_)
    · exact (lab_arm nx).iff (sp (.inl (of_decide_eq_true h0)))
    · have hne := of_decide_eq_false h0
      refine Tl.bindE (free_s _) ?_
      cases hf : freeB p.f3[i].f0 with
      | true => exact (lab_arm nx).iff (sp (.inr hf))
      | false => exact Tl.no (v := vS) (fun x => (x.1 _ (List.mem_cons_self ..)).1.elim hne (fun y => by rw [hf] at y; cases y))
def PSize (p : S49) : Prop := 1 ≤ p.f3.length ∧ p.f3.length ≤ 10 ∧ p.f4.length + 1 = p.f3.length ∧ 0 ≤ p.f1 ∧ p.f1 ≤ 2
def PatS (p : S49) : Prop := PSize p ∧ NmOk p.f0 ∧ (∀ e ∈ p.f3, NdOk e) ∧ (∀ e ∈ p.f4, NmOk e.f0 ∧ EdOk e) ∧ Fr2 (nms (·.f0) p.f3) [] (Ot p)
theorem pat_s (p : S49) (hb : p.f3.length ≤ 1048576 ∧ p.f4.length ≤ 1048576) : Tl vS (fun k => spec_PatternFault.f k p) (PatS p) := by
  unfold PatS PSize
  refine Tl.step ?_
  simp only [spec_PatternFault.f]
  refine Tl.cond (fun h => Tl.no (v := vS) (by rw [decide_eq_true_eq] at h; omega)) (fun h1 => ?_)
  refine Tl.cond (fun h => Tl.no (v := vS) (by rw [decide_eq_true_eq] at h; omega)) (fun h2 => ?_)
  rw [decide_eq_false_iff_not] at h1 h2
  rw [show IntKind.i64.wrap ((p.f3.length : Int) - 1) = (p.f3.length : Int) - 1 from wI (by omega) (by omega)]
  refine Tl.cond (fun h3 => ?_) (fun h => Tl.no (v := vS) (by rw [beq_eq_false_iff_ne] at h; omega))
  rw [beq_iff_eq] at h3
  refine Tl.cond (fun h => Tl.no (v := vS) (by rw [decide_eq_true_eq] at h; omega)) (fun h4 => ?_)
  refine Tl.cond (fun h => Tl.no (v := vS) (by rw [decide_eq_true_eq] at h; omega)) (fun h5 => ?_)
  rw [decide_eq_false_iff_not] at h4 h5
  have go : Tl vS (fun k => spec_PatternFault.j0 k p) ((∀ e ∈ p.f3, NdOk e) ∧ (∀ e ∈ p.f4, NmOk e.f0 ∧ EdOk e) ∧ Fr2 (nms (·.f0) p.f3) [] (Ot p)) := by
    refine Tl.step ?_
    simp only [spec_PatternFault.j0]
    exact nodes_s (by omega) (by omega) _ 0 (Nat.le_refl _)
  have sz : 1 ≤ p.f3.length ∧ p.f3.length ≤ 10 ∧ p.f4.length + 1 = p.f3.length ∧ 0 ≤ p.f1 ∧ p.f1 ≤ 2 := by omega
  refine Tl.cond (fun h0 => ?_) (fun h0 => ?_)
  · exact go.iff ⟨fun x => x.2.2, fun x => ⟨sz, .inl (of_decide_eq_true h0), x⟩⟩
  · have hne := of_decide_eq_false h0
    refine Tl.bindE (free_s _) ?_
    cases hf : freeB p.f0 with
    | true => exact go.iff ⟨fun x => x.2.2, fun x => ⟨sz, .inr hf, x⟩⟩
    | false => exact Tl.no (v := vS) (fun x => x.2.1.elim hne (fun y => by rw [hf] at y; cases y))
end Go.Ab
namespace Go.Ab
open Go.Proofs
set_option linter.unusedVariables false
set_option linter.unusedSimpArgs false
def cnt (x : ByteArray) (S : List ByteArray) : Nat := (S.filter (fun y => decide (y = x))).length
theorem cnt_snoc (x s : ByteArray) (S : List ByteArray) : cnt x (S ++ [s]) = cnt x S + if s = x then 1 else 0 := by
  unfold cnt
  rw [List.filter_append, List.length_append]
  by_cases h : s = x <;> simp [h]
theorem cnt_pos {x : ByteArray} {S : List ByteArray} : 0 < cnt x S ↔ x ∈ S := by
  unfold cnt
  rw [List.length_pos_iff_exists_mem]
  constructor
  · rintro ⟨y, hy⟩
    obtain ⟨h1, h2⟩ := List.mem_filter.1 hy
    rw [← of_decide_eq_true h2]; exact h1
  · intro h
    exact ⟨x, List.mem_filter.2 ⟨h, decide_eq_true rfl⟩⟩
theorem cnt_le (x : ByteArray) (S : List ByteArray) : cnt x S ≤ S.length := List.length_filter_le _ _
def Cnt (tb : List (ByteArray × Int)) (S : List ByteArray) : Prop := ∀ x, tget tb x 0 = (cnt x S : Int)
theorem own_i {tb : List (ByteArray × Int)} {S : List ByteArray} (s : ByteArray) (h : Cnt tb S) (hS : S.length ≤ 1000) : ∃ tb', Cnt tb' (S ++ [s]) ∧ ∃ c : Bool, (c = true ↔ NmOk s ∧ (s = e0 ∨ s ∉ S)) ∧ Ev (fun k => impl_patternOk_1.f k s tb) (c, tb') := by
  have hle := cnt_le s S
  have e1 : IntKind.i64.wrap (tget tb s 0 + 1) = ((cnt s S + 1 : Nat) : Int) := by rw [h s, wI (by omega) (by omega)]; omega
  have hC : Cnt (tput tb s (IntKind.i64.wrap (tget tb s 0 + 1))) (S ++ [s]) := fun x => by
    rw [tget_tput, e1, cnt_snoc]
    by_cases e : x = s
    · subst e; rw [if_pos rfl, if_pos rfl]
    · rw [if_neg e, h x, if_neg (fun h => e h.symm)]; rfl
  refine ⟨_, hC, ?_⟩
  unfold impl_patternOk_1.f
  by_cases h0 : s = e0
  · refine ⟨true, ⟨fun _ => ⟨.inl h0, .inl h0⟩, fun _ => rfl⟩, ?_⟩
    simp only [decide_eq_true h0, cond_true]; exact Ev.ret _
  · simp only [decide_eq_false h0, cond_false]
    cases hf : freeB s with
    | false =>
      refine ⟨false, ⟨fun e => (by cases e), fun x => x.1.elim (fun y => absurd y h0) (fun y => by rw [hf] at y; cases y)⟩, Ev.bind (free_i s) ?_⟩
      rw [hf]; exact Ev.ret _
    | true =>
      have hm : cnt s S = 0 ↔ s ∉ S := by rw [← cnt_pos]; omega
      refine ⟨decide (cnt s S = 0), ?_, Ev.bind (free_i s) ?_⟩
      · rw [decide_eq_true_eq, hm]
        exact ⟨fun x => ⟨.inr hf, .inr x⟩, fun x => x.2.elim (fun y => absurd y h0) id⟩
      · rw [hf]
        simp only [cond_true]
        refine (Ev.ret _).eq ?_
        congr 1
        rw [hC s, cnt_snoc, if_pos rfl]
        by_cases hm : cnt s S = 0
        · rw [decide_eq_true hm, hm]; rfl
        · rw [decide_eq_false hm]; simp; omega
theorem lab_arm_i {t : ByteArray} {f : Nat → Option Bool} {P : Prop} (h : Tl id f P) : Tl id (fun k => bif decide (t = e0) then f k else ((impl_LabelsFault.f k t).bind fun v5 => (bif (v5 == 0) then f k else (some false)))) (LbOk t ∧ P) := by
  refine Tl.cond (fun h0 => h.iff ⟨fun x => x.2, fun x => ⟨.inl (of_decide_eq_true h0), x⟩⟩) (fun h0 => ?_)
  have hne := of_decide_eq_false h0
  refine Tl.bind (labi t) (fun q => h.iff ⟨fun x => x.2, fun x => ⟨.inr q, x⟩⟩) (fun q => Tl.no (v := id) (fun x => x.1.elim hne q))
theorem nodes_i {p : S49} {tb : List (ByteArray × Int)} {S : List ByteArray} (hC : Cnt tb S) (h3 : p.f3.length ≤ 1000) : ∀ (n i : Nat), p.f3.length - i ≤ n → Tl id (fun k => impl_patternOk.l1 k p (i : Int) tb) (∀ e ∈ p.f3.drop i, NdOk e ∧ (e.f0 = e0 ∨ e.f0 ∉ S)) := by
  have fin : ∀ i : Nat, ¬ i < p.f3.length → Tl id (fun k => impl_patternOk.l1 k p (i : Int) tb) (∀ e ∈ p.f3.drop i, NdOk e ∧ (e.f0 = e0 ∨ e.f0 ∉ S)) := fun i h => by
    refine Tl.step ?_
    rw [List.drop_of_length_le (by omega)]
    simp only [impl_patternOk.l1, ltn h, cond_false]
    exact Tl.yes (v := id) (fun e he => by cases he)
  intro n
  induction n with
  | zero => intro i h; exact fin i (by omega)
  | succ n ih =>
    intro i h
    by_cases hi : i < p.f3.length
    case neg => exact fin i hi
    refine Tl.step ?_
    rw [List.drop_eq_getElem_cons hi]
    simp only [impl_patternOk.l1, ltd hi, cond_true, ixg hi, Option.bind_some, wup hi (show p.f3.length ≤ 2000000 by omega)]
    have nx := ih (i + 1) (by omega)
    have sp : NmOk p.f3[i].f0 → (p.f3[i].f0 = e0 ∨ p.f3[i].f0 ∉ S) → ((∀ e ∈ p.f3[i] :: p.f3.drop (i + 1), NdOk e ∧ (e.f0 = e0 ∨ e.f0 ∉ S)) ↔ LbOk p.f3[i].f1 ∧ (∀ e ∈ p.f3.drop (i + 1), NdOk e ∧ (e.f0 = e0 ∨ e.f0 ∉ S))) := fun hn hs => by
      constructor
      · exact fun h => ⟨(h _ (List.mem_cons_self ..)).1.2, fun e he => h e (List.mem_cons_of_mem _ he)⟩
      · exact fun h => fun e he => by
          rcases List.mem_cons.1 he with rfl | he
          · exact ⟨⟨hn, h.1⟩, hs⟩
          · exact h.2 e he
    refine Tl.cond (fun h0 => ?_) (fun h0 => ?_)
    · exact (lab_arm_i nx).iff (sp (.inl (of_decide_eq_true h0)) (.inl (of_decide_eq_true h0)))
    · have hne := of_decide_eq_false h0
      refine Tl.bindE (free_i _) ?_
      cases hf : freeB p.f3[i].f0 with
      | false => exact Tl.no (v := id) (fun x => (x _ (List.mem_cons_self ..)).1.1.elim hne (fun y => by rw [hf] at y; cases y))
      | true =>
        simp only [cond_true]
        refine Tl.cond (fun hc => Tl.no (v := id) (fun x => ?_)) (fun hc => ?_)
        · have := of_decide_eq_true hc
          exact (x _ (List.mem_cons_self ..)).2.elim hne (fun y => y (cnt_pos.1 (by rw [hC] at this; omega)))
        · have := of_decide_eq_false hc
          have hm : p.f3[i].f0 ∉ S := fun m => by have := cnt_pos.2 m; rw [hC] at *; omega
          exact (lab_arm_i nx).iff (sp (.inr hf) (.inr hm))
def FrE : List ByteArray → List S127 → Prop
 | _, [] => True
 | S, e :: r => (NmOk e.f0 ∧ (e.f0 = e0 ∨ e.f0 ∉ S) ∧ EdOk e) ∧ FrE (S ++ [e.f0]) r
theorem edge_back {e : S127} {f : Nat → Option Bool} {P : Prop} (h : Tl id f P) : Tl id (fun k => (impl_risingNames.f k e.f1 10).bind fun v7 => (bif v7 then (bif decide (e.f2 < 1) then (some false) else (bif decide (3 < e.f2) then (some false) else (bif e.f3 then (bif decide (e.f4 < 0) then (some false) else (bif decide (e.f5 < e.f4) then (some false) else (bif decide (e.f5 < 1) then (some false) else (bif decide (10 < e.f5) then (some false) else (f k))))) else (bif (e.f4 == 0) then (bif (e.f5 == 0) then (f k) else (some false)) else (some false))))) else (some false))) (EdOk e ∧ P) := by
  unfold EdOk
  refine Tl.bindE (ilab e.f1 (m := 10) (by omega)) ?_
  cases labB 10 e.f1 with
  | false => exact Tl.no (v := id) (by simp)
  | true =>
    simp only [cond_true]
    refine Tl.cond (fun h1 => Tl.no (v := id) (by rw [decide_eq_true_eq] at h1; omega)) (fun h1 => ?_)
    refine Tl.cond (fun h2 => Tl.no (v := id) (by rw [decide_eq_true_eq] at h2; omega)) (fun h2 => ?_)
    rw [decide_eq_false_iff_not] at h1 h2
    refine Tl.cond (fun h3 => ?_) (fun h3 => ?_)
    · simp only [h3, if_true]
      refine Tl.cond (fun h4 => Tl.no (v := id) (by rw [decide_eq_true_eq] at h4; omega)) (fun h4 => ?_)
      refine Tl.cond (fun h5 => Tl.no (v := id) (by rw [decide_eq_true_eq] at h5; omega)) (fun h5 => ?_)
      refine Tl.cond (fun h6 => Tl.no (v := id) (by rw [decide_eq_true_eq] at h6; omega)) (fun h6 => ?_)
      refine Tl.cond (fun h7 => Tl.no (v := id) (by rw [decide_eq_true_eq] at h7; omega)) (fun h7 => ?_)
      rw [decide_eq_false_iff_not] at h4 h5 h6 h7
      exact h.iff ⟨fun x => x.2, fun x => ⟨⟨trivial, by omega, by omega, by omega, by omega, by omega, by omega⟩, x⟩⟩
    · simp only [h3, Bool.false_eq_true, if_false]
      refine Tl.cond (fun h4 => ?_) (fun h4 => Tl.no (v := id) (by rw [beq_eq_false_iff_ne] at h4; exact fun x => h4 x.1.2.2.2.1))
      refine Tl.cond (fun h5 => ?_) (fun h5 => Tl.no (v := id) (by rw [beq_eq_false_iff_ne] at h5; exact fun x => h5 x.1.2.2.2.2))
      rw [beq_iff_eq] at h4 h5
      exact h.iff ⟨fun x => x.2, fun x => ⟨⟨trivial, by omega, by omega, h4, h5⟩, x⟩⟩
theorem edges_i {p : S49} (h3 : p.f3.length ≤ 1000) (h4 : p.f4.length ≤ 100) : ∀ (n i : Nat) (tb : List (ByteArray × Int)) (S : List ByteArray), p.f4.length - i ≤ n → Cnt tb S → S.length ≤ i + 1 → Tl id (fun k => impl_patternOk.l0 k p (i : Int) tb) (FrE S (p.f4.drop i) ∧ ∀ e ∈ p.f3, NdOk e ∧ (e.f0 = e0 ∨ e.f0 ∉ S ++ (p.f4.drop i).map (·.f0))) := by
  have fin : ∀ (i : Nat) (tb : List (ByteArray × Int)) (S : List ByteArray), ¬ i < p.f4.length → Cnt tb S → Tl id (fun k => impl_patternOk.l0 k p (i : Int) tb) (FrE S (p.f4.drop i) ∧ ∀ e ∈ p.f3, NdOk e ∧ (e.f0 = e0 ∨ e.f0 ∉ S ++ (p.f4.drop i).map (·.f0))) := fun i tb S h hC => by
    refine Tl.step ?_
    rw [List.drop_of_length_le (by omega)]
    simp only [impl_patternOk.l0, ltn h, cond_false]
    refine (nodes_i hC h3 _ 0 (Nat.le_refl _)).iff ?_
    simp [FrE]
  intro n
  induction n with
  | zero => intro i tb S h hC _; exact fin i tb S (by omega) hC
  | succ n ih =>
    intro i tb S h hC hS
    by_cases hi : i < p.f4.length
    case neg => exact fin i tb S hi hC
    refine Tl.step ?_
    rw [List.drop_eq_getElem_cons hi, FrE, List.map_cons, show S ++ p.f4[i].f0 :: (p.f4.drop (i + 1)).map (·.f0) = (S ++ [p.f4[i].f0]) ++ (p.f4.drop (i + 1)).map (·.f0) by simp]
    simp only [impl_patternOk.l0, ltd hi, cond_true, ixg hi, Option.bind_some]
    obtain ⟨tb', hC', c, c1, c2⟩ := own_i p.f4[i].f0 hC (by omega)
    refine Tl.bindE c2 ?_
    cases c with
    | false => exact Tl.no (v := id) (fun x => by have := c1.2 ⟨x.1.1.1, x.1.1.2.1⟩; cases this)
    | true =>
      obtain ⟨q1, q2⟩ := c1.1 rfl
      have nx : Tl id (fun k => impl_patternOk.j0 k p (i : Int) (true, tb')) (FrE (S ++ [p.f4[i].f0]) (p.f4.drop (i + 1)) ∧ ∀ e ∈ p.f3, NdOk e ∧ (e.f0 = e0 ∨ e.f0 ∉ (S ++ [p.f4[i].f0]) ++ (p.f4.drop (i + 1)).map (·.f0))) := by
        refine Tl.step ?_
        simp only [impl_patternOk.j0, wup hi (show p.f4.length ≤ 2000000 by omega)]
        exact ih (i + 1) tb' _ (by omega) hC' (by simp; omega)
      exact (edge_back nx).iff ⟨fun x => ⟨x.1.1.2.2, x.1.2, x.2⟩, fun x => ⟨⟨⟨q1, q2, x.1⟩, x.2.1⟩, x.2.2⟩⟩
def PatI (p : S49) : Prop := PSize p ∧ NmOk p.f0 ∧ FrE [p.f0] p.f4 ∧ ∀ e ∈ p.f3, NdOk e ∧ (e.f0 = e0 ∨ e.f0 ∉ p.f0 :: p.f4.map (·.f0))
theorem pat_i (p : S49) (hb : p.f3.length ≤ 1048576 ∧ p.f4.length ≤ 1048576) : Tl id (fun k => impl_patternOk.f k p) (PatI p) := by
  unfold PatI PSize
  refine Tl.step ?_
  simp only [impl_patternOk.f]
  refine Tl.cond (fun h => Tl.no (v := id) (by rw [decide_eq_true_eq] at h; omega)) (fun h1 => ?_)
  refine Tl.cond (fun h => Tl.no (v := id) (by rw [decide_eq_true_eq] at h; omega)) (fun h2 => ?_)
  rw [decide_eq_false_iff_not] at h1 h2
  rw [show IntKind.i64.wrap ((p.f3.length : Int) - 1) = (p.f3.length : Int) - 1 from wI (by omega) (by omega)]
  refine Tl.cond (fun h3 => ?_) (fun h => Tl.no (v := id) (by rw [beq_eq_false_iff_ne] at h; omega))
  rw [beq_iff_eq] at h3
  refine Tl.cond (fun h => Tl.no (v := id) (by rw [decide_eq_true_eq] at h; omega)) (fun h4 => ?_)
  refine Tl.cond (fun h => Tl.no (v := id) (by rw [decide_eq_true_eq] at h; omega)) (fun h5 => ?_)
  rw [decide_eq_false_iff_not] at h4 h5
  have sz : 1 ≤ p.f3.length ∧ p.f3.length ≤ 10 ∧ p.f4.length + 1 = p.f3.length ∧ 0 ≤ p.f1 ∧ p.f1 ≤ 2 := by omega
  obtain ⟨tb', hC', c, c1, c2⟩ := own_i (S := []) (tb := []) p.f0 (fun x => by simp [tget, tfind, cnt]) (by simp)
  refine Tl.bindE c2 ?_
  cases c with
  | false => exact Tl.no (v := id) (fun x => by have := c1.2 ⟨x.2.1, .inr (by simp)⟩; cases this)
  | true =>
    simp only [cond_true]
    have := edges_i (p := p) (by omega) (by omega) _ 0 tb' _ (Nat.le_refl _) hC' (by simp)
    exact this.iff ⟨fun x => by simpa using x.2.2, fun x => ⟨sz, (c1.1 rfl).1, by simpa using x⟩⟩
theorem mem_nms {γ : Type} {f : γ → ByteArray} {l : List γ} {x : ByteArray} : x ∈ nms f l ↔ x ≠ e0 ∧ ∃ e ∈ l, f e = x := by
  unfold nms
  rw [List.mem_filter, List.mem_map]
  simp only [Bool.not_eq_true', decide_eq_false_iff_not]
  exact ⟨fun h => ⟨h.2, h.1⟩, fun h => ⟨h.2, h.1⟩⟩
theorem fr2_iff (N : List ByteArray) : ∀ (O S : List ByteArray), Fr2 N S O ↔ O.Nodup ∧ ∀ x ∈ O, x ∉ N ∧ x ∉ S
  | [], S => by simp [Fr2]
  | a :: r, S => by
    rw [Fr2, fr2_iff N r (S ++ [a]), List.nodup_cons]
    constructor
    · rintro ⟨h1, h2, h3⟩
      refine ⟨⟨fun m => (h3 a m).2 (by simp), h2⟩, fun x hx => ?_⟩
      rcases List.mem_cons.1 hx with rfl | hx
      · exact h1
      · exact ⟨(h3 x hx).1, fun m => (h3 x hx).2 (List.mem_append_left _ m)⟩
    · rintro ⟨⟨h1, h2⟩, h3⟩
      refine ⟨h3 a (List.mem_cons_self ..), h2, fun x hx => ⟨(h3 x (List.mem_cons_of_mem _ hx)).1, fun m => ?_⟩⟩
      rcases List.mem_append.1 m with m | m
      · exact (h3 x (List.mem_cons_of_mem _ hx)).2 m
      · rw [List.mem_singleton] at m
        subst m; exact h1 hx
theorem nms_cons {γ : Type} (f : γ → ByteArray) (a : γ) (r : List γ) : nms f (a :: r) = if f a = e0 then nms f r else f a :: nms f r := by
  unfold nms
  by_cases h : f a = e0
  · rw [if_pos h]; simp [h]
  · rw [if_neg h]; simp [h]
theorem fre_iff : ∀ (l : List S127) (S : List ByteArray), FrE S l ↔ (∀ e ∈ l, NmOk e.f0 ∧ EdOk e) ∧ (nms (·.f0) l).Nodup ∧ ∀ x ∈ nms (·.f0) l, x ∉ S
  | [], S => by simp [FrE, nms]
  | a :: r, S => by
    rw [FrE, fre_iff r (S ++ [a.f0]), nms_cons]
    by_cases h0 : a.f0 = e0
    · simp only [if_pos h0]
      constructor
      · rintro ⟨⟨h1, h2, h3⟩, h4, h5, h6⟩
        refine ⟨fun e he => ?_, h5, fun x hx m => h6 x hx (List.mem_append_left _ m)⟩
        rcases List.mem_cons.1 he with rfl | he
        · exact ⟨h1, h3⟩
        · exact h4 e he
      · rintro ⟨h1, h2, h3⟩
        refine ⟨⟨(h1 a (List.mem_cons_self ..)).1, .inl h0, (h1 a (List.mem_cons_self ..)).2⟩, fun e he => h1 e (List.mem_cons_of_mem _ he), h2, fun x hx m => ?_⟩
        rcases List.mem_append.1 m with m | m
        · exact h3 x hx m
        · rw [List.mem_singleton] at m
          exact (mem_nms.1 hx).1 (m.trans h0)
    · simp only [if_neg h0, List.nodup_cons]
      constructor
      · rintro ⟨⟨h1, h2, h3⟩, h4, h5, h6⟩
        refine ⟨fun e he => ?_, ⟨fun m => h6 _ m (by simp), h5⟩, fun x hx => ?_⟩
        · rcases List.mem_cons.1 he with rfl | he
          · exact ⟨h1, h3⟩
          · exact h4 e he
        · rcases List.mem_cons.1 hx with rfl | hx
          · exact h2.elim (fun e => absurd e h0) id
          · exact fun m => h6 x hx (List.mem_append_left _ m)
      · rintro ⟨h1, ⟨h2, h3⟩, h4⟩
        refine ⟨⟨(h1 a (List.mem_cons_self ..)).1, .inr (h4 _ (List.mem_cons_self ..)), (h1 a (List.mem_cons_self ..)).2⟩, fun e he => h1 e (List.mem_cons_of_mem _ he), h3, fun x hx m => ?_⟩
        rcases List.mem_append.1 m with m | m
        · exact h4 x (List.mem_cons_of_mem _ hx) m
        · rw [List.mem_singleton] at m
          subst m; exact h2 hx
theorem pat_iff (p : S49) : PatS p ↔ PatI p := by
  unfold PatS PatI
  rw [fr2_iff, fre_iff]
  refine and_congr_right fun _ => and_congr_right fun hn => ?_
  unfold Ot
  have ex : ∀ x, x ∈ (if p.f0 = e0 then [] else [p.f0]) ↔ x ≠ e0 ∧ x = p.f0 := fun x => by
    by_cases h : p.f0 = e0
    · simp only [if_pos h]
      exact ⟨fun q => (by cases q), fun h' => absurd (h'.2.trans h) h'.1⟩
    · simp only [if_neg h, List.mem_singleton]
      exact ⟨fun e => ⟨fun e' => h (e.symm.trans e'), e⟩, fun e => e.2⟩
  have nd : (if p.f0 = e0 then [] else [p.f0] : List ByteArray).Nodup := by split <;> simp
  rw [List.nodup_append]
  constructor
  · rintro ⟨h1, h2, ⟨h3, h4, h5⟩, h6⟩
    refine ⟨⟨h2, h3, fun x hx m => ?_⟩, fun e he => ⟨h1 e he, ?_⟩⟩
    · rw [List.mem_singleton] at m
      exact h5 x hx p.f0 ((ex _).2 ⟨fun e => (mem_nms.1 hx).1 (m.trans e), rfl⟩) m
    · by_cases h0 : e.f0 = e0
      · exact .inl h0
      · refine .inr fun m => ?_
        have hN : e.f0 ∈ nms (·.f0) p.f3 := mem_nms.2 ⟨h0, e, he, rfl⟩
        rcases List.mem_cons.1 m with m | m
        · exact (h6 _ (List.mem_append_right _ ((ex _).2 ⟨h0, m⟩))).1 hN
        · obtain ⟨d, hd, hde⟩ := List.mem_map.1 m
          exact (h6 _ (List.mem_append_left _ (mem_nms.2 ⟨h0, d, hd, hde⟩))).1 hN
  · rintro ⟨⟨h1, h2, h3⟩, h4⟩
    refine ⟨fun e he => (h4 e he).1, h1, ⟨h2, nd, fun x hx y hy e => ?_⟩, fun x hx => ⟨fun m => ?_, by simp⟩⟩
    · exact h3 x hx (by rw [List.mem_singleton]; exact e.trans ((ex _).1 hy).2)
    · obtain ⟨h0, n, hn', hne⟩ := mem_nms.1 m
      rcases (h4 n hn').2 with e | e
      · exact h0 (hne.symm.trans e)
      · rcases List.mem_append.1 hx with hx | hx
        · obtain ⟨-, d, hd, hde⟩ := mem_nms.1 hx
          exact e (by rw [hne]; exact List.mem_cons_of_mem _ (List.mem_map.2 ⟨d, hd, hde⟩))
        · exact e (by rw [hne, ((ex _).1 hx).2]; exact List.mem_cons_self ..)
/-- Both tell the same of a pattern. -/
theorem pattern2 (p : S49) (hb : p.f3.length ≤ 1048576 ∧ p.f4.length ≤ 1048576) : ∃ c : Bool, (c = true → PatS p) ∧ Ev (fun k => spec_PatternFault.f k p) (if c then 0 else 1) ∧ Ev (fun k => impl_patternOk.f k p) c := by
  obtain ⟨c, c1, c2⟩ := pat_s p hb
  obtain ⟨d, d1, d2⟩ := pat_i p hb
  have e : c = d := by rw [Bool.eq_iff_iff, c1, d1, pat_iff]
  subst e
  exact ⟨c, c1.1, c2, d2⟩
end Go.Ab
