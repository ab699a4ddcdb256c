/- Names that are no words: both programs tell the same. No condition. -/
import Derived.Test.YtfeieigajdekhaaAbN1
import Derived.Lib.IndexMore
import Derived.Test.YtfeieigajdekhaaAbF
namespace Go.Ab
open Go.Proofs
set_option linter.unusedVariables false
set_option linter.unusedSimpArgs false
theorem cat_ {a b : ByteArray} (h : a.size + b.size ≤ 9223372036854775807) : cat a b = some (a ++ b) := by unfold cat; rw [if_pos h]
theorem sz1 (c : UInt8) : (⟨#[c]⟩ : ByteArray).size = 1 := rfl
def joinSp (ws : List (List UInt8)) : List UInt8 := 32 :: ws.flatMap (· ++ [32])
theorem joinSp_cons (w : List UInt8) (ws : List (List UInt8)) : joinSp (w :: ws) = 32 :: (w ++ joinSp ws) := by
  simp [joinSp]
theorem pre_eq : ∀ (t w : List UInt8) (r : List UInt8), 32 ∉ t → 32 ∉ w → (t ++ [32]) <+: (w ++ 32 :: r) → t = w
  | [], [], _, _, _, _ => rfl
  | [], c :: w, r, _, hw, h => by
    obtain ⟨z, hz⟩ := h
    simp at hz
    exact absurd (by simp [hz.1]) hw
  | c :: t, [], r, ht, _, h => by
    obtain ⟨z, hz⟩ := h
    simp at hz
    exact absurd (by simp [hz.1]) ht
  | c :: t, d :: w, r, ht, hw, h => by
    obtain ⟨z, hz⟩ := h
    simp at hz
    have := pre_eq t w r (by simp at ht; exact ht.2) (by simp at hw; exact hw.2) ⟨z, by simp [hz.2]⟩
    rw [this, hz.1]
theorem infix_skip : ∀ (w t r : List UInt8), 32 ∉ w → (32 :: t) <:+: (w ++ r) → (32 :: t) <:+: r
  | [], _, _, _, h => h
  | c :: w, t, r, hw, h => by
    rw [List.cons_append, List.infix_cons_iff] at h
    simp at hw
    rcases h with h | h
    · obtain ⟨z, hz⟩ := h
      simp at hz
      exact absurd hz.1 hw.1
    · exact infix_skip w t r hw.2 h
theorem infix_join : ∀ (ws : List (List UInt8)) (t : List UInt8), t ≠ [] → 32 ∉ t → (∀ w ∈ ws, 32 ∉ w) → ((32 :: (t ++ [32])) <:+: joinSp ws ↔ t ∈ ws)
  | [], t, hne, _, _ => by
    constructor
    · intro h
      have := h.length_le
      simp [joinSp] at this
    · intro h; cases h
  | w :: ws, t, hne, ht, hw => by
    have ih := infix_join ws t hne ht (fun x hx => hw x (List.mem_cons_of_mem _ hx))
    have h0 := hw w (List.mem_cons_self ..)
    rw [joinSp_cons, List.infix_cons_iff, List.mem_cons]
    constructor
    · rintro (h | h)
      · left
        obtain ⟨z, hz⟩ := h
        simp only [List.cons_append, List.cons.injEq, true_and] at hz
        exact pre_eq t w (ws.flatMap (· ++ [32])) ht h0 ⟨z, hz⟩
      · exact Or.inr (ih.1 (infix_skip w _ _ h0 h))
    · rintro (rfl | h)
      · left
        exact ⟨ws.flatMap (· ++ [32]), by simp [joinSp]⟩
      · right
        exact (ih.2 h).trans (List.suffix_append w (joinSp ws)).isInfix
theorem contains_iff (s sub : List UInt8) : Go.Lib.contains s sub = true ↔ sub <:+: s := by
  unfold Go.Lib.contains
  rw [decide_eq_true_iff]
  rcases Go.Lib.index_spec s sub with ⟨h, hn⟩ | ⟨i, h, hi, ho, _⟩
  · rw [h]
    constructor
    · intro h; omega
    · rintro ⟨a, b, hab⟩
      have h1 := hn a.length (by rw [← hab]; simp)
      have h2 : sub.isPrefixOf (sub ++ b) = true := List.isPrefixOf_iff_prefix.2 (List.prefix_append _ _)
      rw [Go.Lib.occAt, ← hab, List.append_assoc, List.drop_left, h2] at h1
      cases h1
  · rw [h]
    constructor
    · intro _
      simp only [Go.Lib.occAt, List.isPrefixOf_iff_prefix] at ho
      obtain ⟨z, hz⟩ := ho
      exact ⟨s.take i, z, by rw [List.append_assoc, hz, List.take_append_drop]⟩
    · intro _; omega

def wordsW : List (List UInt8) := [[110, 117, 108, 108], [116, 114, 117, 101], [102, 97, 108, 115, 101], [110, 111, 116], [111, 114], [120, 111, 114], [97, 110, 100], [105, 110], [105, 115], [99, 97, 115, 101], [119, 104, 101, 110], [116, 104, 101, 110], [101, 108, 115, 101], [101, 110, 100], [119, 104, 101, 114, 101], [97, 108, 108], [97, 110, 121], [109, 97, 116, 99, 104], [111, 112, 116, 105, 111, 110, 97, 108], [119, 105, 116, 104], [114, 101, 116, 117, 114, 110], [100, 105, 115, 116, 105, 110, 99, 116], [111, 114, 100, 101, 114], [98, 121], [100, 101, 115, 99], [115, 107, 105, 112], [108, 105, 109, 105, 116], [97, 115], [117, 110, 119, 105, 110, 100], [99, 114, 101, 97, 116, 101], [115, 101, 116], [114, 101, 109, 111, 118, 101], [100, 101, 108, 101, 116, 101], [100, 101, 116, 97, 99, 104], [109, 101, 114, 103, 101], [111, 110], [117, 110, 105, 111, 110], [115, 104, 111, 114, 116, 101, 115, 116], [116, 114, 97, 105, 108], [115, 105, 109, 112, 108, 101], [119, 97, 108, 107]]
theorem words_nosp : ∀ w ∈ wordsW, (32 : UInt8) ∉ w := by decide +kernel
theorem isN_nosp : isN 32 = false := by decide
theorem name_nosp {l : List UInt8} (h : nameOk l = true) : l ≠ [] ∧ (32 : UInt8) ∉ l ∧ l.length ≤ 20 := by
  unfold nameOk at h
  simp only [Bool.and_eq_true, decide_eq_true_eq] at h
  obtain ⟨⟨⟨h1, h2⟩, _⟩, h3⟩ := h
  refine ⟨fun e => (by rw [e] at h1; cases h1), fun hm => ?_, h2⟩
  have := List.all_eq_true.1 h3 _ hm
  rw [isN_nosp] at this; cases this
def freeB (s : ByteArray) : Bool := nmB s && !decide (s.data.toList ∈ wordsW)
def wordsB : List ByteArray := wordsW.map (fun w => ⟨w.toArray⟩)
theorem words_spec (k : Nat) : spec_l06Words.f k = some wordsB := by
  unfold spec_l06Words.f wordsB wordsW
  rfl
theorem mem_words (a : ByteArray) : a ∈ wordsB ↔ a.data.toList ∈ wordsW := by
  unfold wordsB
  constructor
  · intro h
    obtain ⟨w, hw, rfl⟩ := List.mem_map.1 h
    simpa using hw
  · intro h
    exact List.mem_map.2 ⟨_, h, by rw [← bs, ← bs_of]⟩
theorem free_s (s : ByteArray) : Ev (fun k => spec_l06Name.f k s) (freeB s) := by
  unfold spec_l06Name.f freeB
  refine Ev.bind (lnm s) ?_
  cases nmB s with
  | false => exact Ev.ret _
  | true =>
    simp only [cond_true, Bool.true_and, words_spec, Option.bind_some]
    refine Ev.bind (smem (l := wordsB) (by decide) s) ((Ev.ret _).eq ?_)
    congr 1
    rw [Bool.eq_iff_iff, has_iff, mem_words, decide_eq_true_iff]
theorem words_text (a : ByteArray) (k : Nat) (h : nmB a = true) : impl_isWord.f k a = some (decide (a.data.toList ∈ wordsW)) := by
  obtain ⟨h1, h2, h3⟩ := name_nosp h
  have hs : a.size ≤ 20 := by rw [size_list]; exact h3
  unfold impl_isWord.f
  rw [cat_ (by rw [sz1]; omega)]
  simp only [Option.bind_some]
  rw [cat_ (by rw [ByteArray.size_append, sz1]; omega)]
  simp only [Option.bind_some]
  unfold strings_Contains.f
  rw [if_pos (by decide +kernel)]
  simp only [Option.bind_some]
  congr 1
  have e : ((⟨#[32]⟩ : ByteArray) ++ a ++ (⟨#[32]⟩ : ByteArray)).data.toList = 32 :: (a.data.toList ++ [32]) := by simp
  rw [e, Bool.eq_iff_iff, contains_iff, decide_eq_true_iff]
  refine Iff.trans ?_ (infix_join wordsW _ h1 h2 words_nosp)
  rw [show joinSp wordsW = _ from (by decide +kernel : joinSp wordsW = (⟨#[32, 110, 117, 108, 108, 32, 116, 114, 117, 101, 32, 102, 97, 108, 115, 101, 32, 110, 111, 116, 32, 111, 114, 32, 120, 111, 114, 32, 97, 110, 100, 32, 105, 110, 32, 105, 115, 32, 99, 97, 115, 101, 32, 119, 104, 101, 110, 32, 116, 104, 101, 110, 32, 101, 108, 115, 101, 32, 101, 110, 100, 32, 119, 104, 101, 114, 101, 32, 97, 108, 108, 32, 97, 110, 121, 32, 109, 97, 116, 99, 104, 32, 111, 112, 116, 105, 111, 110, 97, 108, 32, 119, 105, 116, 104, 32, 114, 101, 116, 117, 114, 110, 32, 100, 105, 115, 116, 105, 110, 99, 116, 32, 111, 114, 100, 101, 114, 32, 98, 121, 32, 100, 101, 115, 99, 32, 115, 107, 105, 112, 32, 108, 105, 109, 105, 116, 32, 97, 115, 32, 117, 110, 119, 105, 110, 100, 32, 99, 114, 101, 97, 116, 101, 32, 115, 101, 116, 32, 114, 101, 109, 111, 118, 101, 32, 100, 101, 108, 101, 116, 101, 32, 100, 101, 116, 97, 99, 104, 32, 109, 101, 114, 103, 101, 32, 111, 110, 32, 117, 110, 105, 111, 110, 32, 115, 104, 111, 114, 116, 101, 115, 116, 32, 116, 114, 97, 105, 108, 32, 115, 105, 109, 112, 108, 101, 32, 119, 97, 108, 107, 32]⟩ : ByteArray).data.toList)]
theorem free_i (s : ByteArray) : Ev (fun k => impl_free.f k s) (freeB s) := by
  unfold impl_free.f freeB
  refine Ev.bind (inm s) ?_
  cases h : nmB s with
  | false => exact Ev.ret _
  | true =>
    simp only [cond_true, Bool.true_and, words_text s _ h, Option.bind_some]
    exact Ev.ret _
end Go.Ab
namespace Go.Ab
set_option linter.unusedVariables false
set_option linter.unusedSimpArgs false
section
variable {α : Type}
/-- Joined by these edges. -/
def Conn (S : List (α × α)) (x y : α) : Prop := ∀ r : α → α → Prop, (∀ a, r a a) → (∀ a b, r a b → r b a) → (∀ a b c, r a b → r b c → r a c) → (∀ e ∈ S, r e.1 e.2) → r x y
variable {S T : List (α × α)} {x y z : α}
theorem Conn.refl (x : α) : Conn S x x := fun r h1 _ _ _ => h1 x
theorem Conn.symm (h : Conn S x y) : Conn S y x := fun r h1 h2 h3 h4 => h2 _ _ (h r h1 h2 h3 h4)
theorem Conn.trans (h : Conn S x y) (h' : Conn S y z) : Conn S x z := fun r h1 h2 h3 h4 => h3 _ _ _ (h r h1 h2 h3 h4) (h' r h1 h2 h3 h4)
theorem Conn.edge {e : α × α} (h : e ∈ S) : Conn S e.1 e.2 := fun r h1 h2 h3 h4 => h4 e h
theorem Conn.mono (hs : ∀ e ∈ S, e ∈ T) (h : Conn S x y) : Conn T x y := fun r h1 h2 h3 h4 => h r h1 h2 h3 (fun e he => h4 e (hs e he))
theorem Conn.up {e : α × α} (h : Conn S x y) : Conn (e :: S) x y := h.mono fun f hf => by simp [hf]
theorem Conn.cons {e : α × α} (h : Conn (e :: S) x y) : Conn S x y ∨ (Conn S x e.1 ∧ Conn S e.2 y) ∨ (Conn S x e.2 ∧ Conn S e.1 y) := by
  refine h (fun a b => Conn S a b ∨ (Conn S a e.1 ∧ Conn S e.2 b) ∨ (Conn S a e.2 ∧ Conn S e.1 b)) (fun a => .inl (.refl a)) ?_ ?_ ?_
  · rintro a b (h | ⟨h, g⟩ | ⟨h, g⟩)
    · exact .inl h.symm
    · exact .inr (.inr ⟨g.symm, h.symm⟩)
    · exact .inr (.inl ⟨g.symm, h.symm⟩)
  · rintro a b c (h | ⟨h, g⟩ | ⟨h, g⟩) (h' | ⟨h', g'⟩ | ⟨h', g'⟩)
    · exact .inl (h.trans h')
    · exact .inr (.inl ⟨h.trans h', g'⟩)
    · exact .inr (.inr ⟨h.trans h', g'⟩)
    · exact .inr (.inl ⟨h, g.trans h'⟩)
    · exact .inl (h.trans ((h'.symm.trans g.symm).trans g'))
    · exact .inl (h.trans g')
    · exact .inr (.inr ⟨h, g.trans h'⟩)
    · exact .inl (h.trans g')
    · exact .inl (h.trans ((h'.symm.trans g.symm).trans g'))
  · intro f hf
    rcases List.mem_cons.1 hf with rfl | hf
    · exact .inr (.inl ⟨.refl _, .refl _⟩)
    · exact .inl (.edge hf)
theorem Conn.lone (h : Conn S x y) (hy : ∀ e ∈ S, e.1 ≠ y ∧ e.2 ≠ y) : x = y := by
  have := h (fun a b => a = b ∨ (a ≠ y ∧ b ≠ y)) (fun a => .inl rfl) (fun a b h => h.elim (fun e => .inl e.symm) (fun e => .inr ⟨e.2, e.1⟩)) (fun a b c h h' => by
    rcases h with rfl | ⟨h1, h2⟩
    · exact h'
    · rcases h' with rfl | ⟨h3, h4⟩
      · exact .inr ⟨h1, h2⟩
      · exact .inr ⟨h1, h4⟩) (fun e he => .inr (hy e he))
  rcases this with e | ⟨_, h2⟩
  · exact e
  · exact absurd rfl h2
/-- None joins what those behind it join. -/
def Ind : List (α × α) → Prop
 | [] => True
 | e :: S => Ind S ∧ ¬ Conn S e.1 e.2
theorem ind_swap {a b : α × α} (h : Ind (a :: b :: S)) : Ind (b :: a :: S) := by
  obtain ⟨⟨h1, h2⟩, h3⟩ := h
  refine ⟨⟨h1, fun hc => h3 hc.up⟩, fun hc => ?_⟩
  rcases hc.cons with g | ⟨g1, g2⟩ | ⟨g1, g2⟩
  · exact h2 g
  · -- b.1 ~ a.1, a.2 ~ b.2: so b joins a's ends
    exact h3 ((g1.symm.up.trans (Conn.edge (by simp))).trans g2.symm.up)
  · exact h3 ((g2.up.trans (Conn.edge (e := b) (by simp)).symm).trans g1.up)
theorem ind_perm {S T : List (α × α)} (h : S.Perm T) : Ind S → Ind T := by
  induction h with
  | nil => exact id
  | cons e h ih => exact fun g => ⟨ih g.1, fun c => g.2 (c.mono fun f hf => h.mem_iff.2 hf)⟩
  | swap a b l => exact ind_swap
  | trans _ _ h1 h2 => exact fun g => h2 (h1 g)
theorem ind_not_mem {e : α × α} (h : Ind (e :: S)) : e ∉ S := fun hm => h.2 (.edge hm)
theorem ind_nodup : ∀ {S : List (α × α)}, Ind S → S.Nodup
 | [], _ => List.nodup_nil
 | e :: S, h => List.nodup_cons.2 ⟨ind_not_mem h, ind_nodup h.1⟩
theorem ind_tail : ∀ {R : List (α × α)}, Ind (R ++ S) → Ind S
 | [], h => h
 | _ :: R, h => ind_tail (R := R) h.1
theorem perm_rest : ∀ {T D : List (α × α)}, T.Nodup → (∀ e ∈ T, e ∈ D) → ∃ R, D.Perm (R ++ T)
 | [], D, _, _ => ⟨D, by rw [List.append_nil]⟩
 | e :: T, D, hn, hs => by
   obtain ⟨h1, h2⟩ := List.nodup_cons.1 hn
   obtain ⟨R, hR⟩ := perm_rest h2 (fun f hf => hs f (by simp [hf]))
   have he : e ∈ R := by
     have := hR.mem_iff.1 (hs e (by simp))
     rcases List.mem_append.1 this with h | h
     · exact h
     · exact absurd h h1
   obtain ⟨A, B, rfl⟩ := List.append_of_mem he
   refine ⟨A ++ B, hR.trans ?_⟩
   have : (A ++ e :: B ++ T).Perm (e :: (A ++ B) ++ T) := List.Perm.append_right T List.perm_middle
   refine this.trans ?_
   show (e :: ((A ++ B) ++ T)).Perm _
   exact List.perm_middle.symm
theorem ind_sub {T D : List (α × α)} (hn : T.Nodup) (hs : ∀ e ∈ T, e ∈ D) (h : Ind D) : Ind T := by
  obtain ⟨R, hR⟩ := perm_rest hn hs
  exact ind_tail (ind_perm hR h)
theorem ind_same {T D : List (α × α)} (hT : Ind T) (hD : D.Nodup) (h : ∀ e, e ∈ T ↔ e ∈ D) : Ind D :=
  ind_sub hD (fun e he => (h e).2 he) hT
end
end Go.Ab
