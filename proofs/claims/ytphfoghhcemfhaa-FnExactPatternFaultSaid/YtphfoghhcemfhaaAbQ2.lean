/- Both readers of label tests tell the same; a label test's fault. No condition. -/
import Derived.Test.YtphfoghhcemfhaaAbQ1
namespace Go.Ab
open Go.Proofs
set_option linter.unusedVariables false
set_option linter.unusedSimpArgs false
section
variable {t : ByteArray} {i : Nat} {d : Int}
def RdN (t : ByteArray) (i : Nat) (d : Int) : Prop := Out t i d 3 (fun k => spec_l08Test_read.f k 3 [] ⟨t, (i : Int), d, false⟩) (fun k => impl_testReader_not.f k ⟨t, (i : Int), d, false⟩)
def RdA (t : ByteArray) (i : Nat) (d : Int) : Prop := Out t i d 2 (fun k => spec_l08Test_read.f k 2 [] ⟨t, (i : Int), d, false⟩) (fun k => impl_testReader_and.f k ⟨t, (i : Int), d, false⟩)
def RdO (t : ByteArray) (i : Nat) (d : Int) : Prop := Out t i d 1 (fun k => spec_l08Test_read.f k 1 [] ⟨t, (i : Int), d, false⟩) (fun k => impl_testReader_or.f k ⟨t, (i : Int), d, false⟩)
theorem not_step (ht : t.size ≤ 1000) (hi : i ≤ t.size) (hd0 : 0 ≤ d) (hdi : d ≤ i) (ihN : ∀ j e, i < j → j ≤ t.size → 0 ≤ e → e ≤ (j : Int) → RdN t j e) (ihO : ∀ j e, i < j → j ≤ t.size → 0 ≤ e → e ≤ (j : Int) → RdO t j e) : RdN t i d := by
  unfold RdN
  refine Out.step ?_
  simp only [spec_l08Test_read.f, impl_testReader_not.f, cond_false, show ((3 : Int) == 1) = false from rfl, show ((3 : Int) == 2) = false from rfl, takes_t _ _ hi ht (show (33 : Int) ≠ 0 by decide), peek_t _ _ hi, Option.bind_some]
  have h2000 : t.size ≤ 2000000 := by omega
  by_cases c1 : hd t i = 33
  · have hl := hd_lt c1 (by decide)
    simp only [if_pos c1, Option.bind_some, cond_true, show (hd t i == 33) = true by simpa using c1, wup hl h2000]
    rcases ihN (i + 1) d (by omega) (by omega) hd0 (by omega) with ⟨T, s, l, f, j, k1, k2, k3, k4, k5, k6⟩ | ⟨T, s, l, f, x, e, y, q, k1, k2, k3, k4⟩
    · have hs := lin_size s l 3
      refine .inl ⟨_, (⟨#[33]⟩ : ByteArray) ++ lin s l 3, 3, !f, j, by omega, k2, Shw.bang k3, ?_, Ev.bind k5 ?_, Ev.bind k6 (Ev.ret _)⟩
      · rw [lin, if_neg (by omega), ByteArray.size_append, sz1]; omega
      · simp only [l08In_ _ s l f 3 (by omega), Option.bind_some]
        rw [cat_ (by rw [sz1]; omega)]
        exact Ev.ret _
    · have hs := lin_size s l 3
      refine .inr ⟨⟨33, ⟨#[]⟩, [T]⟩, (⟨#[33]⟩ : ByteArray) ++ lin s l 3, 3, !f, x, e, y, q, k1, ?_, Ev.bind k3 ?_, Ev.bind k4 (Ev.ret _)⟩
      · rw [lin, if_neg (by omega), ByteArray.size_append, sz1]; omega
      · simp only [l08In_ _ s l f 3 (by omega), Option.bind_some]
        rw [cat_ (by rw [sz1]; omega)]
        exact Ev.ret _
  simp only [if_neg c1, Option.bind_some, cond_false, show (hd t i == 33) = false by simpa using c1, takes_t _ _ hi ht (show (40 : Int) ≠ 0 by decide)]
  by_cases c2 : hd t i = 40
  case neg =>
    simp only [if_neg c2, Option.bind_some, cond_false, show (hd t i == 40) = false by simpa using c2]
    obtain ⟨f, hf⟩ := sword_l0 (b0 := false) (d := d) ht hi
    have hg := iword_l0 (x := hd t i) (d := d) ht hi
    have hw := wl_le (t := t) i
    cases hn : nmB (word t i) with
    | true =>
      rw [hn] at hf hg
      have hpos : 0 < wl t i := by
        rcases Nat.eq_zero_or_pos (wl t i) with h | h
        · unfold nmB word at hn
          rw [h] at hn
          cases hn
        · exact h
      exact .inl ⟨_, _, _, _, i + wl t i, by omega, by omega, Shw.name _, by rw [lin, if_neg (by omega), word_size]; omega, hf, hg⟩
    | false =>
      rw [hn] at hf hg
      exact .inr ⟨_, _, _, _, _, _, _, i + wl t i, by omega, by rw [lin, if_neg (by omega), word_size]; omega, hf, hg⟩
  have hl := hd_lt c2 (by decide)
  have e1 : IntKind.i64.wrap (d + 1) = d + 1 := wI (by omega) (by omega)
  simp only [if_pos c2, Option.bind_some, cond_true, show (hd t i == 40) = true by simpa using c2, wup hl h2000, e1]
  have e2 : IntKind.i64.wrap (d + 1 - 1) = d := by rw [wI (by omega) (by omega)]; omega
  -- the reference behind its reading
  have sbad : ∀ (s : ByteArray) (l : Int) (f : Bool) (j : Nat), j ≤ t.size → (hd t j = 41 → 10 < d + 1) → ∃ x, Ev (fun k => (spec_l08Test_takes.f k 41 ⟨t, (j : Int), d + 1, false⟩).bind fun v11 => (bif v11.1 then (bif decide (10 < v11.2.f2) then (spec_l08Test_read.j0 k v11 (⟨s, l, f⟩, ⟨t, (j : Int), d + 1, false⟩)) else (some ((⟨s, l, f⟩ : S290), (⟨v11.2.f0, v11.2.f1, (IntKind.i64.wrap (v11.2.f2 - 1)), v11.2.f3⟩ : S348)))) else (spec_l08Test_read.j0 k v11 (⟨s, l, f⟩, ⟨t, (j : Int), d + 1, false⟩)))) ((⟨s, l, f⟩, ⟨t, x, d, true⟩) : S290 × S348) := fun s l f j hj h => by
    by_cases c : hd t j = 41
    · refine ⟨((j + 1 : Nat) : Int), ?_⟩
      simp only [takes_t _ _ hj ht (show (41 : Int) ≠ 0 by decide), if_pos c, Option.bind_some, cond_true, decide_eq_true (h c)]
      refine Ev.step ?_
      simp only [spec_l08Test_read.j0, e2]; exact Ev.ret _
    · refine ⟨(j : Int), ?_⟩
      simp only [takes_t _ _ hj ht (show (41 : Int) ≠ 0 by decide), if_neg c, Option.bind_some, cond_false]
      refine Ev.step ?_
      simp only [spec_l08Test_read.j0, e2]; exact Ev.ret _
  have sbad2 : ∀ (s : ByteArray) (l : Int) (f : Bool) (x e : Int), ∃ e', Ev (fun k => (spec_l08Test_takes.f k 41 ⟨t, x, e, true⟩).bind fun v11 => (bif v11.1 then (bif decide (10 < v11.2.f2) then (spec_l08Test_read.j0 k v11 (⟨s, l, f⟩, ⟨t, x, e, true⟩)) else (some ((⟨s, l, f⟩ : S290), (⟨v11.2.f0, v11.2.f1, (IntKind.i64.wrap (v11.2.f2 - 1)), v11.2.f3⟩ : S348)))) else (spec_l08Test_read.j0 k v11 (⟨s, l, f⟩, ⟨t, x, e, true⟩)))) ((⟨s, l, f⟩, ⟨t, x, e', true⟩) : S290 × S348) := fun s l f x e => by
    refine ⟨IntKind.i64.wrap (e - 1), ?_⟩
    simp only [takes_b, Option.bind_some, cond_false]
    refine Ev.step ?_
    simp only [spec_l08Test_read.j0]; exact Ev.ret _
  have ih := ihO (i + 1) (d + 1) (by omega) (by omega) (by omega) (by omega)
  by_cases c10 : 10 < d + 1
  · simp only [decide_eq_true c10, cond_true]
    rcases ih with ⟨T, s, l, f, j, k1, k2, k3, k4, k5, k6⟩ | ⟨T, s, l, f, x, e, y, q, k1, k2, k3, k4⟩
    · obtain ⟨x, hx⟩ := sbad s l f j k2 (fun _ => c10)
      have hs := lin_size s l 1
      have hs3 := lin_size s l 3
      exact .inr ⟨_, s, l, f, x, d, d + 1, i + 1, by omega, by omega, Ev.bind k5 hx, Ev.ret _⟩
    · obtain ⟨e', hx⟩ := sbad2 s l f x e
      have hs := lin_size s l 1
      have hs3 := lin_size s l 3
      exact .inr ⟨_, s, l, f, x, e', d + 1, i + 1, by omega, by omega, Ev.bind k3 hx, Ev.ret _⟩
  simp only [decide_eq_false c10, cond_false]
  rcases ih with ⟨T, s, l, f, j, k1, k2, k3, k4, k5, k6⟩ | ⟨T, s, l, f, x, e, y, q, k1, k2, k3, k4⟩
  · have hs := lin_size s l 1
    have hs3 := lin_size s l 3
    by_cases c : hd t j = 41
    · have hjl := hd_lt c (by decide)
      refine .inl ⟨T, s, l, f, j + 1, by omega, by omega, k3, by omega, Ev.bind k5 ?_, Ev.bind k6 ?_⟩
      · simp only [takes_t _ _ k2 ht (show (41 : Int) ≠ 0 by decide), if_pos c, Option.bind_some, cond_true, decide_eq_false c10, cond_false, e2]; exact Ev.ret _
      · simp only [e2, peek_t _ _ k2, Option.bind_some, show (hd t j == 41) = true by simpa using c, cond_true, wup hjl h2000]; exact Ev.ret _
    · obtain ⟨x, hx⟩ := sbad s l f j k2 (fun h => absurd h c)
      refine .inr ⟨⟨0, ⟨#[]⟩, []⟩, s, l, f, x, d, d, j, k2, by omega, Ev.bind k5 hx, Ev.bind k6 ?_⟩
      simp only [e2, peek_t _ _ k2, Option.bind_some, show (hd t j == 41) = false by simpa using c, cond_false]; exact Ev.ret _
  · have hs := lin_size s l 1
    have hs3 := lin_size s l 3
    obtain ⟨e', hx⟩ := sbad2 s l f x e
    by_cases c : hd t q = 41
    · have hql := hd_lt c (by decide)
      refine .inr ⟨T, s, l, f, x, e', IntKind.i64.wrap (y - 1), q + 1, by omega, by omega, Ev.bind k3 hx, Ev.bind k4 ?_⟩
      simp only [peek_t _ _ k1, Option.bind_some, show (hd t q == 41) = true by simpa using c, cond_true, wup hql h2000]; exact Ev.ret _
    · refine .inr ⟨⟨0, ⟨#[]⟩, []⟩, s, l, f, x, e', IntKind.i64.wrap (y - 1), q, k1, by omega, Ev.bind k3 hx, Ev.bind k4 ?_⟩
      simp only [peek_t _ _ k1, Option.bind_some, show (hd t q == 41) = false by simpa using c, cond_false]; exact Ev.ret _
theorem row_step (ht : t.size ≤ 1000) (hi : i ≤ t.size) {lv : Int} (sg : UInt8) (hsg : (sg = 124 ∧ lv = 1) ∨ (sg = 38 ∧ lv = 2)) {nx : Nat → S386 → Option (S352 × S386)}
    {l0 : Nat → Int → ByteArray → Int → Int → Bool → List S352 → Option (S352 × S386)} {j0 : Nat → ByteArray → Int → Int → Bool → Int → List S352 → Option (S352 × S386)}
    (hl : ∀ k v0 v3 v4 v5 v6 v7, l0 (k + 1) v0 v3 v4 v5 v6 v7 = (bif v6 then (j0 k v3 v4 v5 true v0 v7) else ((impl_testReader_peek.f k (⟨v3, v4, v5, v6⟩ : S386)).bind fun v9 => (bif (v9.1 == v0) then ((nx k (⟨v9.2.f0, (IntKind.i64.wrap (v9.2.f1 + 1)), v9.2.f2, v9.2.f3⟩ : S386)).bind fun v15 => ((app v7 ([v15.1] : List S352)).bind fun v16 => (l0 k v0 v15.2.f0 v15.2.f1 v15.2.f2 v15.2.f3 v16))) else (j0 k v9.2.f0 v9.2.f1 v9.2.f2 v9.2.f3 v0 v7)))))
    (hj : ∀ k v10 v11 v12 v13 v0 v7, j0 (k + 1) v10 v11 v12 v13 v0 v7 = (bif ((v7.length : Int) == 1) then ((ix v7 0).bind fun v14 => (some (v14, (⟨v10, v11, v12, v13⟩ : S386)))) else (some ((⟨v0, (⟨#[]⟩ : ByteArray), v7⟩ : S352), (⟨v10, v11, v12, v13⟩ : S386)))))
    (hyp : ∀ j : Nat, i < j → j ≤ t.size → Out t j d (lv + 1) (fun k => spec_l08Test_read.f k (lv + 1) [] ⟨t, (j : Int), d, false⟩) (fun k => nx k ⟨t, (j : Int), d, false⟩))
    (h0 : Out t i d (lv + 1) (fun k => spec_l08Test_read.f k (lv + 1) [] ⟨t, (i : Int), d, false⟩) (fun k => nx k ⟨t, (i : Int), d, false⟩)) :
    Out t i d lv (fun k => spec_l08Test_row.f k lv (sg.toNat : Int) [] ⟨t, (i : Int), d, false⟩) (fun k => (nx k ⟨t, (i : Int), d, false⟩).bind fun v2 => l0 k (sg.toNat : Int) v2.2.f0 v2.2.f1 v2.2.f2 v2.2.f3 ([v2.1] : List S352)) := by
  refine Out.sstep ?_
  have hlv : IntKind.i64.wrap (lv + 1) = lv + 1 := wI (by omega) (by omega)
  simp only [spec_l08Test_row.f, hlv]
  rcases h0 with ⟨T, s, l, f, j, k1, k2, k3, k4, k5, k6⟩ | ⟨T, s, l, f, x, e, y, q, k1, k2, k3, k4⟩
  · have hm := lin_mono s l lv
    rcases row_loop ht (i := i) (d := d) sg hsg hl hj hyp _ j [T] (fun _ => s) (fun _ => l) s l f (Nat.lt_succ_self _) k1 k2 (by simp) (by simp; omega) (fun n hn => by
      have : n = 0 := by simpa using hn
      subst this; exact k3) rfl (fun _ => ⟨rfl, rfl⟩) (fun h => by simp at h) (by omega) with ⟨T', s', l', f', j', a1, a2, a3, a4, a5, a6⟩ | ⟨T', s', l', f', x', e', y', q', a1, a2, a3, a4⟩
    · exact .inl ⟨T', s', l', f', j', a1, a2, a3, a4, Ev.bind k5 a5, Ev.bind k6 a6⟩
    · exact .inr ⟨T', s', l', f', x', e', y', q', a1, a2, Ev.bind k5 a3, Ev.bind k6 a4⟩
  · have hm := lin_mono s l lv
    refine .inr ⟨T, s, l, f, x, e, y, q, k1, by omega, Ev.bind k3 (Ev.step ?_), Ev.bind k4 (Ev.step ?_)⟩
    · simp only [spec_l08Test_row.l0, takes_b, Option.bind_some, cond_false]; exact Ev.ret _
    · simp only [hl, cond_true]
      refine Ev.step ?_
      simp only [hj, List.length_cons, List.length_nil, show (((0 + 1 : Nat) : Int) == 1) = true from rfl, cond_true, show ix [T] 0 = some T from rfl, Option.bind_some]
      exact Ev.ret _
end
theorem read_all {t : ByteArray} (ht : t.size ≤ 1000) : ∀ (n i : Nat) (d : Int), t.size - i < n → i ≤ t.size → 0 ≤ d → d ≤ (i : Int) → RdN t i d ∧ RdA t i d ∧ RdO t i d := by
  intro n
  induction n with
  | zero => intro i d h; omega
  | succ n ih =>
    intro i d h hi h0 h1
    have hN : RdN t i d := not_step ht hi h0 h1 (fun j e hj hjt he he' => (ih j e (by omega) hjt he he').1) (fun j e hj hjt he he' => (ih j e (by omega) hjt he he').2.2)
    have hA : RdA t i d := by
      unfold RdA
      refine Out.step ?_
      simp only [spec_l08Test_read.f, impl_testReader_and.f, cond_false, show ((2 : Int) == 1) = false from rfl, show ((2 : Int) == 2) = true from rfl, cond_true]
      refine Out.pass (Out.istep ?_)
      simp only [impl_testReader_row_1.f]
      exact row_step ht hi (lv := 2) 38 (.inr ⟨rfl, rfl⟩) (nx := impl_testReader_not.f) (l0 := impl_testReader_row_1.l0) (j0 := impl_testReader_row_1.j0) (fun _ _ _ _ _ _ _ => by simp only [impl_testReader_row_1.l0]) (fun _ _ _ _ _ _ _ => by simp only [impl_testReader_row_1.j0]) (fun j hj hjt => (ih j d (by omega) hjt h0 (by omega)).1) hN
    have hO : RdO t i d := by
      unfold RdO
      refine Out.step ?_
      simp only [spec_l08Test_read.f, impl_testReader_or.f, cond_false, show ((1 : Int) == 1) = true from rfl, cond_true]
      refine Out.pass (Out.istep ?_)
      simp only [impl_testReader_row.f]
      exact row_step ht hi (lv := 1) 124 (.inl ⟨rfl, rfl⟩) (nx := impl_testReader_and.f) (l0 := impl_testReader_row.l0) (j0 := impl_testReader_row.j0) (fun _ _ _ _ _ _ _ => by simp only [impl_testReader_row.l0]) (fun _ _ _ _ _ _ _ => by simp only [impl_testReader_row.j0]) (fun j hj hjt => (ih j d (by omega) hjt h0 (by omega)).2.1) hA
    exact ⟨hN, hA, hO⟩
/-! Telling a test again -/
theorem join_snoc (sep : List UInt8) (y : List UInt8) : ∀ xs : List (List UInt8), xs ≠ [] → Lib.join (xs ++ [y]) sep = Lib.join xs sep ++ sep ++ y
  | [], h => absurd rfl h
  | x :: r, _ => by
    rw [List.cons_append, Lib.join_cons, Lib.join_cons]
    simp [Lib.joinTail]
theorem joinN_join (sg : UInt8) (h : Nat → ByteArray) : ∀ n, 1 ≤ n → (joinN sg h n).data.toList = Lib.join ((List.range n).map (fun i => (h i).data.toList)) [sg]
  | 0, hn => absurd hn (by omega)
  | 1, _ => by simp [joinN, Lib.join_one]
  | n + 2, _ => by
    have ih := joinN_join sg h (n + 1) (by omega)
    rw [List.range_succ, List.map_append, List.map_cons, List.map_nil, join_snoc _ _ _ (by simp), ← ih]
    simp [joinN]
theorem joinN_size (sg : UInt8) (h : Nat → ByteArray) : ∀ n i, i < n → (h i).size ≤ (joinN sg h n).size
  | 0, _, hi => absurd hi (Nat.not_lt_zero _)
  | 1, i, hi => by obtain rfl : i = 0 := by omega
                   exact Nat.le_refl _
  | n + 2, i, hi => by
    simp only [joinN, ByteArray.size_append, sz1]
    rcases Nat.lt_or_ge i (n + 1) with h1 | h1
    · have := joinN_size sg h (n + 1) i h1
      omega
    · obtain rfl : i = n + 1 := by omega
      omega
theorem joinN_len (sg : UInt8) (h : Nat → ByteArray) : ∀ n, 1 ≤ n → n ≤ (joinN sg h n).size + 1 := fun n => by
  induction n with
  | zero => intro h; omega
  | succ n ihn =>
    intro _
    rcases Nat.eq_zero_or_pos n with rfl | hp
    · omega
    · have := ihn hp
      rw [joinN_next _ _ hp, ByteArray.size_append, ByteArray.size_append, sz1]
      omega
theorem within_ {T : S352} {s : ByteArray} {l : Int} (hr : ∀ k, impl_test_rank.f k T = some l) (hs : s.size ≤ 10000000) (h : Ev (fun k => impl_test_show.f k T) s) (L : Int) : Ev (fun k => impl_test_within.f k T L) (lin s l L) := by
  refine Ev.step ?_
  simp only [impl_test_within.f, hr, Option.bind_some]
  by_cases c : L ≤ l
  · simp only [decide_eq_true c, cond_true]
    rw [lin, if_neg (by omega)]
    exact Ev.bind h (Ev.ret _)
  · simp only [decide_eq_false c, cond_false]
    rw [lin, if_pos (by omega)]
    refine Ev.bind h ?_
    rw [cat_ (by rw [sz1]; omega)]
    simp only [Option.bind_some]
    rw [cat_ (by rw [ByteArray.size_append, sz1, sz1]; omega)]
    exact Ev.ret _
theorem Shw.tells {T : S352} {s : ByteArray} {l : Int} (h : Shw T s l) : s.size ≤ 10000000 → (∀ k, impl_test_rank.f k T = some l) ∧ Ev (fun k => impl_test_show.f k T) s := by
  induction h with
  | name n =>
    intro _
    refine ⟨fun _ => rfl, Ev.step ?_⟩
    simp only [impl_test_show.f, show ((0 : Int) == 0) = true from rfl, cond_true]
    exact Ev.ret _
  | @bang T s l h ih =>
    intro hs
    rw [ByteArray.size_append, sz1] at hs
    have hi := lin_size s l 3
    obtain ⟨hr, he⟩ := ih (by omega)
    refine ⟨fun _ => rfl, Ev.step ?_⟩
    simp only [impl_test_show.f, show ((33 : Int) == 0) = false from rfl, cond_false, show ((33 : Int) == 33) = true from rfl, cond_true, show ix [T] 0 = some T from rfl, Option.bind_some]
    refine Ev.bind (within_ hr (by omega) he 3) ?_
    rw [cat_ (by rw [sz1]; omega)]
    exact Ev.ret _
  | @row sg lv ks fs gs hsg h2 h ih =>
    intro hz
    have hsz : ∀ i, i < ks.length → (lin (fs i) (gs i) lv).size ≤ 10000000 := fun i hi => Nat.le_trans (joinN_size sg (fun i => lin (fs i) (gs i) lv) ks.length i hi) hz
    have hk : ks.length ≤ 10000001 := by have := joinN_len sg (fun i => lin (fs i) (gs i) lv) ks.length (by omega); omega
    have hsg' : ((sg.toNat : Int) == 0) = false ∧ ((sg.toNat : Int) == 33) = false ∧ (∀ k, impl_test_rank.f k ⟨(sg.toNat : Int), ⟨#[]⟩, ks⟩ = some lv) ∧ istr (IntKind.i32.wrap (sg.toNat : Int)) = ⟨#[sg]⟩ := by
      rcases hsg with ⟨rfl, rfl⟩ | ⟨rfl, rfl⟩
      · exact ⟨by decide, by decide, fun _ => rfl, by decide +kernel⟩
      · exact ⟨by decide, by decide, fun _ => rfl, by decide +kernel⟩
    obtain ⟨h0, h33, hrank, henc⟩ := hsg'
    refine ⟨hrank, Ev.step ?_⟩
    simp only [impl_test_show.f, h0, h33, cond_false]
    have loop : ∀ (m j : Nat), ks.length - j < m → j ≤ ks.length → Ev (fun k => impl_test_show.l0 k ((List.range j).map (fun i => lin (fs i) (gs i) lv)) ⟨(sg.toNat : Int), ⟨#[]⟩, ks⟩ (j : Int)) (joinN sg (fun i => lin (fs i) (gs i) lv) ks.length) := by
      intro m
      induction m with
      | zero => intro j h; omega
      | succ m ihm =>
        intro j hm hj
        refine Ev.step ?_
        by_cases hlt : j < ks.length
        · simp only [impl_test_show.l0, ltd hlt, cond_true, ixg hlt, Option.bind_some, hrank, w1 (i := j) (by omega)]
          have hi := lin_size (fs j) (gs j) lv
          have hz' := hsz j hlt
          obtain ⟨hr, he⟩ := ih j hlt (by omega)
          refine Ev.bind (within_ hr (by omega) he lv) ?_
          have happ : app ((List.range j).map (fun i => lin (fs i) (gs i) lv)) ([lin (fs j) (gs j) lv] : List ByteArray) = some ((List.range (j + 1)).map (fun i => lin (fs i) (gs i) lv)) := by
            unfold app
            rw [if_pos (by simp; omega), List.range_succ, List.map_append]; rfl
          rw [happ]
          exact ihm (j + 1) (by omega) (by omega)
        · obtain rfl : j = ks.length := by omega
          simp only [impl_test_show.l0, ltn hlt, cond_false, henc]
          have e1 : ((List.range ks.length).map (fun i => lin (fs i) (gs i) lv)).map (fun x => x.data.toList) = (List.range ks.length).map (fun i => (lin (fs i) (gs i) lv).data.toList) := by simp
          have e2 := joinN_join sg (fun i => lin (fs i) (gs i) lv) ks.length (by omega)
          have e3 : ∀ k, strings_Join.f k ((List.range ks.length).map (fun i => lin (fs i) (gs i) lv)) ⟨#[sg]⟩ = some (joinN sg (fun i => lin (fs i) (gs i) lv) ks.length) := fun k => by
            unfold strings_Join.f
            rw [e1]
            have e4 : (⟨#[sg]⟩ : ByteArray).data.toList = [sg] := rfl
            rw [e4, ← e2]
            have e5 : (joinN sg (fun i => lin (fs i) (gs i) lv) ks.length).data.toList.length = (joinN sg (fun i => lin (fs i) (gs i) lv) ks.length).size := (size_list _).symm
            rw [if_pos ⟨by simp; omega, by omega⟩]
          simp only [e3, Option.bind_some]
          exact Ev.ret _
    exact loop (ks.length + 1) 0 (by omega) (by omega)
/-- Both tell of one text whether it is a test. -/
theorem labels2 (t : ByteArray) : ∃ c : Bool, Ev (fun k => spec_LabelsFault.f k t) (if c then 0 else 1) ∧ Ev (fun k => impl_LabelsFault.f k t) (if c then 0 else 1) := by
  unfold spec_LabelsFault.f impl_LabelsFault.f impl_readTest.f
  by_cases h2 : 200 < t.size
  · refine ⟨false, ?_, ?_⟩
    · simp only [decide_eq_true (show (200 : Int) < (t.size : Int) by omega), cond_true]; exact Ev.ret _
    · simp only [decide_eq_true (show (200 : Int) < (t.size : Int) by omega), cond_true, Option.bind_some, cond_false]; exact Ev.ret _
  simp only [decide_eq_false (show ¬ (200 : Int) < (t.size : Int) by omega), cond_false]
  unfold spec_l08Labels.f
  obtain ⟨-, -, hO⟩ := read_all (t := t) (by omega) (t.size + 1) 0 0 (by omega) (by omega) (by omega) (by omega)
  rcases hO with ⟨T, s, l, f, j, k1, k2, k3, k4, k5, k6⟩ | ⟨T, s, l, f, x, e, y, q, k1, k2, k3, k4⟩
  · have hs := lin_size s l 1
    obtain ⟨-, hshow⟩ := k3.tells (by omega)
    have hsub := sub_ij (t := t) (i := 0) (j := j) (by omega) k2
    rw [Nat.sub_zero] at hsub
    have hall : j = t.size → bs ((rest t 0).take j) = t := fun e => by
      rw [e, rest, List.drop_zero, List.take_of_length_le (by rw [size_list]; exact Nat.le_refl _)]
      exact (bs_of t).symm
    refine ⟨decide (j = t.size ∧ s = t), ?_, ?_⟩
    · refine Ev.bind (Ev.bind (a := (⟨s, l, f⟩, ⟨t, (j : Int), 0, false⟩)) k5 ?_) (a := (⟨s, l, f⟩, (j : Int), decide (s = bs ((rest t 0).take j)) && decide ((s.size : Int) ≤ 200))) ?_
      · simp only [cond_false]
        rw [show sub t 0 (j : Int) = some (bs ((rest t 0).take j)) from hsub]
        simp only [Option.bind_some]
        cases decide (s = bs ((rest t 0).take j)) <;> exact Ev.ret _
      · by_cases e : j = t.size
        · rw [hall e]
          have q0 : ((j : Int) == (t.size : Int)) = true := by rw [e]; exact beq_self_eq_true _
          by_cases e2 : s = t
          · have q1 : decide (s = t) = true := decide_eq_true e2
            have q2 : decide (j = t.size ∧ s = t) = true := decide_eq_true ⟨e, e2⟩
            have q3 : decide ((s.size : Int) ≤ 200) = true := by rw [e2]; exact decide_eq_true (by omega)
            simp only [q1, q2, q3, q0, Bool.and_self, cond_true]; exact Ev.ret _
          · have q1 : decide (s = t) = false := decide_eq_false e2
            have q2 : decide (j = t.size ∧ s = t) = false := decide_eq_false (fun h => e2 h.2)
            simp only [q1, q2, Bool.false_and, cond_false]; exact Ev.ret _
        · have q2 : decide (j = t.size ∧ s = t) = false := decide_eq_false (fun h => e h.1)
          have q0 : ((j : Int) == (t.size : Int)) = false := by simp; omega
          simp only [q0, q2, cond_false]
          cases (decide (s = bs ((rest t 0).take j)) && decide ((s.size : Int) ≤ 200)) <;> exact Ev.ret _
    · refine Ev.bind (a := (T, decide (j = t.size ∧ s = t))) (Ev.bind k6 ?_) ?_
      · simp only [cond_false]
        by_cases e : j = t.size
        · have q0 : ((j : Int) == (t.size : Int)) = true := by rw [e]; exact beq_self_eq_true _
          simp only [q0, cond_true]
          refine Ev.bind hshow ?_
          by_cases e2 : s = t
          · have q1 : decide (s = t) = true := decide_eq_true e2
            have q2 : decide (j = t.size ∧ s = t) = true := decide_eq_true ⟨e, e2⟩
            simp only [q1, q2, cond_true]; exact Ev.ret _
          · have q1 : decide (s = t) = false := decide_eq_false e2
            have q2 : decide (j = t.size ∧ s = t) = false := decide_eq_false (fun h => e2 h.2)
            simp only [q1, q2, cond_false]; exact Ev.ret _
        · have q2 : decide (j = t.size ∧ s = t) = false := decide_eq_false (fun h => e h.1)
          have q0 : ((j : Int) == (t.size : Int)) = false := by simp; omega
          simp only [q0, q2, cond_false]
          exact Ev.ret _
      · cases decide (j = t.size ∧ s = t) <;> exact Ev.ret _
  · refine ⟨false, ?_, ?_⟩
    · exact Ev.bind (Ev.bind k3 (Ev.ret _)) (Ev.ret _)
    · exact Ev.bind (Ev.bind k4 (Ev.ret _)) (Ev.ret _)
end Go.Ab
