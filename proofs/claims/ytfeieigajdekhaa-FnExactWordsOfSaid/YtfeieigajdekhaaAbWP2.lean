/- The reference's runs; sorting and striking doubles; the law. No condition. -/
import Derived.Test.YtfeieigajdekhaaAbWSO
import Derived.Test.YtfeieigajdekhaaAbMK0
namespace Go.Ab
open Go.Proofs Go.Lib
set_option linter.unusedVariables false
set_option linter.unusedSimpArgs false
def numsW (l : List UInt8) : List Int := l.map fun c => (c.toNat : Int)
theorem bstr_numsW (l : List UInt8) : bstr (numsW l) = bs l := by
  unfold bstr numsW bs
  congr 2
  rw [List.map_map]
  conv => rhs; rw [← List.map_id l]
  refine List.map_congr_left fun c _ => ?_
  simp
theorem lowL (t : ByteArray) : (lowB t).data.toList = t.data.toList.map lowC := by unfold lowB; simp
theorem low_up {c : UInt8} (h : 65 ≤ c.toNat ∧ c.toNat ≤ 90) : (lowC c).toNat = c.toNat + 32 ∧ IntKind.u8.wrap ((c.toNat : Int) + 32) = ((lowC c).toNat : Int) := by
  have e : (lowC c).toNat = c.toNat + 32 := by
    unfold lowC
    rw [if_pos h, UInt8.toNat_add]
    have : (32 : UInt8).toNat = 32 := rfl
    omega
  refine ⟨e, ?_⟩
  have h2 : IntKind.u8.wrap ((c.toNat : Int) + 32) = ((c.toNat : Int) + 32) % 256 := rfl
  rw [h2, e]; omega
theorem low_id {c : UInt8} (h : ¬ (65 ≤ c.toNat ∧ c.toNat ≤ 90)) : lowC c = c := by unfold lowC; rw [if_neg h]
theorem isW_iff (c : UInt8) : isW c = true ↔ (97 ≤ c.toNat ∧ c.toNat ≤ 122) ∨ (48 ≤ c.toNat ∧ c.toNat ≤ 57) := by
  unfold isW sepR
  simp only [Bool.not_not, Bool.or_eq_true, Bool.and_eq_true, decide_eq_true_eq]
section
variable {t : ByteArray} {out : List ByteArray} {b : List UInt8} {i : Nat} {c : UInt8}
theorem j2_ {r : List ByteArray} (hb : b.length ≤ 1000000) (hi : i ≤ 1000000) (x : UInt8) (h : Ev (fun k => spec_l05Runs.l0 k t out (numsW (b ++ [x])) ((i + 1 : Nat) : Int)) r) :
    Ev (fun k => spec_l05Runs.j2 k t out (numsW b) (i : Int) (x.toNat : Int)) r := by
  refine Ev.step ?_
  have ha : app (numsW b) [(x.toNat : Int)] = some (numsW (b ++ [x])) := by
    rw [app_b (by unfold numsW; simp; omega)]; unfold numsW; simp
  simp only [spec_l05Runs.j2, ha, Option.bind_some]
  rw [wI (by omega) (by omega)]
  exact h
theorem word_ {r : List ByteArray} (hc : bix t (i : Int) = some (c.toNat : Int)) (hlt : i < t.size) (hb : b.length ≤ 1000000) (hi : i ≤ 1000000) (hw : isW (lowC c) = true)
    (h : Ev (fun k => spec_l05Runs.l0 k t out (numsW (b ++ [lowC c])) ((i + 1 : Nat) : Int)) r) : Ev (fun k => spec_l05Runs.l0 k t out (numsW b) (i : Int)) r := by
  have h256 := c.toNat_lt
  have h0 : decide ((i : Int) ≤ (t.size : Int)) = true := decide_eq_true (by omega)
  have h1 : decide ((i : Int) < (t.size : Int)) = true := decide_eq_true (by omega)
  have J0 : Ev (fun k => spec_l05Runs.j0 k t out (numsW b) (i : Int)) r := by
    refine Ev.step ?_
    by_cases hu : 65 ≤ c.toNat ∧ c.toNat ≤ 90
    · simp only [spec_l05Runs.j0, hc, Option.bind_some, show decide ((65 : Int) ≤ (c.toNat : Int)) = true from decide_eq_true (by omega), show decide ((c.toNat : Int) ≤ 90) = true from decide_eq_true (by omega), cond_true, (low_up hu).2]
      exact j2_ hb hi _ h
    · have J1 : Ev (fun k => spec_l05Runs.j1 k t out (numsW b) (i : Int) (c.toNat : Int)) r := by
        refine Ev.step ?_
        simp only [spec_l05Runs.j1]
        rw [low_id hu] at h
        exact j2_ hb hi _ h
      by_cases h65 : 65 ≤ c.toNat
      · simp only [spec_l05Runs.j0, hc, Option.bind_some, show decide ((65 : Int) ≤ (c.toNat : Int)) = true from decide_eq_true (by omega), show decide ((c.toNat : Int) ≤ 90) = false from decide_eq_false (by omega), cond_true, cond_false]
        exact J1
      · simp only [spec_l05Runs.j0, hc, Option.bind_some, show decide ((65 : Int) ≤ (c.toNat : Int)) = false from decide_eq_false (by omega), cond_false]
        exact J1
  refine Ev.step ?_
  simp only [spec_l05Runs.l0, h0, h1, cond_true, hc, Option.bind_some]
  by_cases hl : (97 ≤ c.toNat ∧ c.toNat ≤ 122) ∨ (65 ≤ c.toNat ∧ c.toNat ≤ 90)
  · have el : ∀ k, spec_l01Letter.f k (c.toNat : Int) = some true := fun k => by
      unfold spec_l01Letter.f
      by_cases h97 : 97 ≤ c.toNat
      · simp only [show decide ((97 : Int) ≤ (c.toNat : Int)) = true from decide_eq_true (by omega), show decide ((c.toNat : Int) ≤ 122) = true from decide_eq_true (by omega), cond_true]
      · simp only [show decide ((97 : Int) ≤ (c.toNat : Int)) = false from decide_eq_false (by omega), show decide ((65 : Int) ≤ (c.toNat : Int)) = true from decide_eq_true (by omega), show decide ((c.toNat : Int) ≤ 90) = true from decide_eq_true (by omega), cond_true, cond_false]
    simp only [el, Option.bind_some, cond_true]
    exact J0
  · have hd : 48 ≤ c.toNat ∧ c.toNat ≤ 57 := by
      have := (isW_iff _).1 hw
      rw [low_id (by omega)] at this
      omega
    have el : ∀ k, spec_l01Letter.f k (c.toNat : Int) = some false := fun k => by
      unfold spec_l01Letter.f
      simp only [show decide ((97 : Int) ≤ (c.toNat : Int)) = false from decide_eq_false (by omega), show decide ((65 : Int) ≤ (c.toNat : Int)) = false from decide_eq_false (by omega), cond_false]
    have ed : ∀ k, spec_l01Digit.f k (c.toNat : Int) = some true := fun k => by
      unfold spec_l01Digit.f
      simp only [show decide ((48 : Int) ≤ (c.toNat : Int)) = true from decide_eq_true (by omega), show decide ((c.toNat : Int) ≤ 57) = true from decide_eq_true (by omega), cond_true]
    simp only [el, ed, Option.bind_some, cond_true, cond_false]
    exact J0
theorem part_ {r : List ByteArray} (hc : bix t (i : Int) = some (c.toNat : Int)) (hlt : i < t.size) (hw : isW (lowC c) = false) (h : Ev (fun k => spec_l05Runs.j3 k t out (numsW b) (i : Int)) r) :
    Ev (fun k => spec_l05Runs.l0 k t out (numsW b) (i : Int)) r := by
  have h0 : decide ((i : Int) ≤ (t.size : Int)) = true := decide_eq_true (by omega)
  have h1 : decide ((i : Int) < (t.size : Int)) = true := decide_eq_true (by omega)
  have hn : ¬ ((97 ≤ (lowC c).toNat ∧ (lowC c).toNat ≤ 122) ∨ (48 ≤ (lowC c).toNat ∧ (lowC c).toNat ≤ 57)) := fun h => by rw [(isW_iff _).2 h] at hw; cases hw
  have hu : ¬ (65 ≤ c.toNat ∧ c.toNat ≤ 90) := fun hu => by have := (low_up hu).1; omega
  rw [low_id hu] at hn
  have el : ∀ k, spec_l01Letter.f k (c.toNat : Int) = some false := fun k => by
    unfold spec_l01Letter.f
    by_cases h97 : 97 ≤ c.toNat
    · simp only [show decide ((97 : Int) ≤ (c.toNat : Int)) = true from decide_eq_true (by omega), show decide ((c.toNat : Int) ≤ 122) = false from decide_eq_false (by omega), show decide ((65 : Int) ≤ (c.toNat : Int)) = true from decide_eq_true (by omega), show decide ((c.toNat : Int) ≤ 90) = false from decide_eq_false (by omega), cond_true, cond_false]
    · by_cases h65 : 65 ≤ c.toNat
      · simp only [show decide ((97 : Int) ≤ (c.toNat : Int)) = false from decide_eq_false (by omega), show decide ((65 : Int) ≤ (c.toNat : Int)) = true from decide_eq_true (by omega), show decide ((c.toNat : Int) ≤ 90) = false from decide_eq_false (by omega), cond_true, cond_false]
      · simp only [show decide ((97 : Int) ≤ (c.toNat : Int)) = false from decide_eq_false (by omega), show decide ((65 : Int) ≤ (c.toNat : Int)) = false from decide_eq_false (by omega), cond_false]
  have ed : ∀ k, spec_l01Digit.f k (c.toNat : Int) = some false := fun k => by
    unfold spec_l01Digit.f
    by_cases h48 : 48 ≤ c.toNat
    · simp only [show decide ((48 : Int) ≤ (c.toNat : Int)) = true from decide_eq_true (by omega), show decide ((c.toNat : Int) ≤ 57) = false from decide_eq_false (by omega), cond_true]
    · simp only [show decide ((48 : Int) ≤ (c.toNat : Int)) = false from decide_eq_false (by omega), cond_false]
  refine Ev.step ?_
  simp only [spec_l05Runs.l0, h0, h1, cond_true, hc, Option.bind_some, el, ed, cond_false]
  exact h
theorem j3_ {r : List ByteArray} (ho : out.length ≤ 1000000) (hi : i ≤ 1000000) (h : Ev (fun k => spec_l05Runs.l0 k t (out ++ (if b = [] then [] else [bs b])) (numsW []) ((i + 1 : Nat) : Int)) r) :
    Ev (fun k => spec_l05Runs.j3 k t out (numsW b) (i : Int)) r := by
  refine Ev.step ?_
  have hw1 : IntKind.i64.wrap ((i : Int) + 1) = ((i + 1 : Nat) : Int) := by rw [wI (by omega) (by omega)]; omega
  cases b with
  | nil =>
    simp only [spec_l05Runs.j3, hw1, show decide ((0 : Int) < ((numsW []).length : Int)) = false from rfl, cond_false]
    simpa using h
  | cons x b =>
    have e0 : decide ((0 : Int) < ((numsW (x :: b)).length : Int)) = true := decide_eq_true (by unfold numsW; simp)
    simp only [spec_l05Runs.j3, hw1, e0, cond_true, bstr_numsW]
    rw [app_b (by simp; omega)]
    simp only [Option.bind_some]
    rw [if_neg (by simp)] at h
    exact h
end
theorem runs_s (t : ByteArray) (ht : t.size ≤ 65536) : ∀ (n i : Nat) (out : List ByteArray) (b : List UInt8), t.size - i ≤ n → i ≤ t.size → out.length ≤ i → b.length ≤ i →
    Ev (fun k => spec_l05Runs.l0 k t out (numsW b) (i : Int)) (out ++ (runsG ((lowB t).data.toList.drop i) b).map bs) := by
  have hL : (lowB t).data.toList.length = t.size := by rw [lowL]; simp
  have fin : ∀ (out : List ByteArray) (b : List UInt8), out.length ≤ t.size → Ev (fun k => spec_l05Runs.l0 k t out (numsW b) (t.size : Int)) (out ++ (runsG ((lowB t).data.toList.drop t.size) b).map bs) := fun out b ho => by
    refine Ev.step ?_
    simp only [spec_l05Runs.l0, show decide ((t.size : Int) ≤ (t.size : Int)) = true from decide_eq_true (by omega), show decide ((t.size : Int) < (t.size : Int)) = false from decide_eq_false (by omega), cond_true, cond_false]
    refine j3_ (by omega) (by omega) (Ev.step ?_)
    simp only [spec_l05Runs.l0, show decide (((t.size + 1 : Nat) : Int) ≤ (t.size : Int)) = false from decide_eq_false (by omega), cond_false]
    rw [List.drop_of_length_le (by omega)]
    refine (Ev.ret _).eq ?_
    cases b with
    | nil => simp [runsG]
    | cons x b => simp [runsG]
  intro n
  induction n with
  | zero =>
    intro i out b h1 h2 h3 h4
    have : i = t.size := by omega
    subst this
    exact fin out b h3
  | succ n ih =>
    intro i out b h1 h2 h3 h4
    by_cases hlt : i < t.size
    case neg =>
      have : i = t.size := by omega
      subst this
      exact fin out b h3
    have hd : i < t.data.size := hlt
    have hc : bix t (i : Int) = some ((t.data[i]).toNat : Int) := by
      unfold bix
      rw [if_pos (by omega), Int.toNat_natCast, Array.getElem?_eq_getElem hd]; rfl
    have hdr : (lowB t).data.toList.drop i = lowC t.data[i] :: (lowB t).data.toList.drop (i + 1) := by
      rw [List.drop_eq_getElem_cons (by omega)]
      simp [lowL]
    rw [hdr]
    cases hw : isW (lowC t.data[i]) with
    | true =>
      simp only [runsG, hw, if_true]
      exact word_ hc hlt (by omega) (by omega) hw (ih (i + 1) out (b ++ [lowC t.data[i]]) (by omega) (by omega) (by omega) (by simp; omega))
    | false =>
      refine part_ hc hlt hw (j3_ (by omega) (by omega) ?_)
      have h := ih (i + 1) (out ++ (if b = [] then [] else [bs b])) [] (by omega) (by omega) (by rw [List.length_append]; split <;> simp <;> omega) (by simp)
      refine h.eq ?_
      cases b with
      | nil => simp [runsG, hw]
      | cons x b => simp [runsG, hw]
theorem runs_ev (t : ByteArray) (ht : t.size ≤ 65536) : Ev (fun k => spec_l05Runs.f k t) (runsB t) := by
  refine Ev.step ?_
  simp only [spec_l05Runs.f]
  have h := runs_s t ht t.size 0 [] [] (by omega) (by omega) (by simp) (by simp)
  rw [runsB_runs]
  simpa [numsW] using h
end Go.Ab
namespace Go.Ab
open Go.Proofs Go.Lib
set_option linter.unusedVariables false
set_option linter.unusedSimpArgs false
theorem lt_or {x y : List UInt8} (h : x ≤ y) (hn : x ≠ y) : x < y := by
  have h1 : Op.bytesLess y x = false := by rw [bytesLess_eq]; exact decide_eq_false h
  cases h2 : Op.bytesLess x y with
  | true => rw [bytesLess_eq] at h2; exact of_decide_eq_true h2
  | false => exact absurd (less_tri x y h2 h1) hn
theorem cmp_mem (d : Array (List UInt8)) : ∀ (m : Nat), m ≤ d.size → ∀ x, x ∈ compactUpTo d m ↔ ∃ j, j < m ∧ d[j]! = x := by
  intro m
  induction m with
  | zero => intro _ x; simp [compactUpTo]
  | succ m ih =>
    intro hm x
    rw [compactUpTo_succ, List.mem_append, ih (by omega)]
    constructor
    · rintro (⟨j, hj, rfl⟩ | h)
      · exact ⟨j, by omega, rfl⟩
      · split at h
        · rw [List.mem_singleton.1 h]; exact ⟨m, by omega, rfl⟩
        · cases h
    · rintro ⟨j, hj, rfl⟩
      by_cases e : j < m
      · exact .inl ⟨j, e, rfl⟩
      · have : j = m := by omega
        subst this
        by_cases hk : keeps d j = true
        · right; rw [if_pos hk]; exact List.mem_singleton.2 rfl
        · left
          have hk' : ¬ (j = 0 ∨ d[j]! ≠ d[j - 1]!) := fun h => hk (by unfold keeps; exact decide_eq_true h)
          have h0 : j ≠ 0 := fun h => hk' (.inl h)
          have h1 : d[j]! = d[j - 1]! := Classical.byContradiction fun h => hk' (.inr h)
          exact ⟨j - 1, by omega, h1.symm⟩
theorem cmp_srt (d : Array (List UInt8)) (hs : ∀ i j, i < j → j < d.size → d[i]! ≤ d[j]!) : ∀ (m : Nat), m ≤ d.size → (compactUpTo d m).Pairwise (· < ·) := by
  intro m
  induction m with
  | zero => intro _; simp [compactUpTo]
  | succ m ih =>
    intro hm
    rw [compactUpTo_succ]
    refine List.pairwise_append.2 ⟨ih (by omega), ?_, fun x hx y hy => ?_⟩
    · split <;> simp
    · split at hy
      case isFalse => cases hy
      rename_i hk
      rw [List.mem_singleton.1 hy]
      obtain ⟨j, hj, rfl⟩ := (cmp_mem d m (by omega) x).1 hx
      have h1 := hs j m hj (by omega)
      refine lt_or h1 fun e => ?_
      have hk' : m = 0 ∨ d[m]! ≠ d[m - 1]! := of_decide_eq_true hk
      rcases hk' with h | h
      · omega
      · refine h ?_
        have h2 := hs (m - 1) m (by omega) (by omega)
        by_cases e2 : j = m - 1
        · subst e2; exact e.symm
        · have h3 := hs j (m - 1) (by omega) (by omega)
          rw [e] at h3
          exact List.le_antisymm h3 h2
theorem words_mem (t : ByteArray) (x : List UInt8) : x ∈ wordsL t ↔ x ∈ (runsB t).map (·.data.toList) := by
  unfold wordsL Lib.compact
  have h := cmp_mem (((runsB t).map (·.data.toList)).mergeSort fun x y => decide (x ≤ y)).toArray (((runsB t).map (·.data.toList)).mergeSort fun x y => decide (x ≤ y)).length (by simp) x
  rw [h, ← List.mem_mergeSort (le := fun x y => decide (x ≤ y))]
  constructor
  · rintro ⟨j, hj, rfl⟩
    rw [getElem!_pos _ j (by simpa using hj)]
    simp
  · intro hx
    obtain ⟨j, hj, rfl⟩ := List.getElem_of_mem hx
    exact ⟨j, hj, by rw [getElem!_pos _ j (by simpa using hj)]; simp⟩
theorem words_srt (t : ByteArray) : (wordsL t).Pairwise (· < ·) := by
  have tr : ∀ a b c : List UInt8, decide (a ≤ b) = true → decide (b ≤ c) = true → decide (a ≤ c) = true := fun a b c h1 h2 => by simp only [decide_eq_true_eq] at *; exact List.le_trans h1 h2
  have tot : ∀ a b : List UInt8, (decide (a ≤ b) || decide (b ≤ a)) = true := fun a b => by simp only [Bool.or_eq_true, decide_eq_true_eq]; exact List.le_total a b
  have hp := List.pairwise_mergeSort (le := fun x y => decide (x ≤ y)) tr tot ((runsB t).map (·.data.toList))
  unfold wordsL Lib.compact
  refine cmp_srt _ (fun i j hij hj => ?_) _ (by simp)
  have hj' : j < (((runsB t).map (·.data.toList)).mergeSort fun x y => decide (x ≤ y)).length := by simpa using hj
  have h := List.pairwise_iff_getElem.1 hp i j (by omega) hj' hij
  rw [getElem!_pos _ j hj, getElem!_pos _ i (by omega)]
  simpa using h
theorem words_rs (t : ByteArray) : RsN ((wordsL t).map bs) := by
  refine List.pairwise_map.2 ((words_srt t).imp fun {a b} h => ?_)
  unfold slt bs
  rw [ByteArray.toList_eq, ByteArray.toList_eq, bytesLess_eq]
  exact decide_eq_true (by simpa using h)
theorem twin_ev (l : List ByteArray) (h : l.length ≤ 1000) : Ev (fun k => impl_twinTexts_O.f k l) l := by
  unfold impl_twinTexts_O.f
  cases l with
  | nil => exact Ev.ret _
  | cons x l =>
    have e0 : (((x :: l).length : Int) == 0) = false := by simp; omega
    have e1 : mks (⟨#[]⟩ : ByteArray) 0 ((x :: l).length : Int) = some [] := by
      unfold mks
      rw [if_pos (by simp at h ⊢; omega)]; rfl
    simp only [e0, cond_false, e1, Option.bind_some]
    rw [app_b (by simp at h ⊢; omega)]
    exact Ev.ret _
theorem words2 (t : ByteArray) : ∃ R : List ByteArray, R.length ≤ 2000000 ∧ Ev (fun k => spec_WordsOf_O.f k t) R ∧ Ev (fun k => impl_WordsOf_O.f k t) R := by
  by_cases hs : (65536 : Int) < (t.size : Int)
  · refine ⟨[], by simp, ?_, ?_⟩
    · simp only [spec_WordsOf_O.f, decide_eq_true hs, cond_true]; exact Ev.ret _
    · simp only [impl_WordsOf_O.f, decide_eq_true hs, cond_true]; exact Ev.ret _
  have hn := runsB_len t
  obtain ⟨r, g1, g2, g3, g4⟩ := sortR (l := runsB t) (by omega)
  have e : r = (wordsL t).map bs := strict_ext _ _ g4 (words_rs t) fun x => by
    rw [g2]
    constructor
    · intro h
      refine List.mem_map.2 ⟨x.data.toList, (words_mem t _).2 (List.mem_map.2 ⟨x, h, rfl⟩), ?_⟩
      unfold bs; simp
    · intro h
      obtain ⟨y, hy, rfl⟩ := List.mem_map.1 h
      obtain ⟨z, hz, rfl⟩ := List.mem_map.1 ((words_mem t y).1 hy)
      have : bs z.data.toList = z := by unfold bs; simp
      rw [this]; exact hz
  have ew : wordsB t = r.take 100 := by
    rw [e, ← List.map_take]; rfl
  refine ⟨r.take 100, by rw [List.length_take]; omega, ?_, ?_⟩
  · simp only [spec_WordsOf_O.f, decide_eq_false hs, cond_false]
    refine Ev.bind (runs_ev t (by omega)) (Ev.bind g1 ?_)
    by_cases hr : (100 : Int) < (r.length : Int)
    · have hb : bnd 0 100 (r.length : Int) = some () := by unfold bnd; rw [if_pos (by omega)]
      simp only [decide_eq_true hr, cond_true, hb, Option.bind_some]
      exact Ev.ret _
    · simp only [decide_eq_false hr, cond_false]
      rw [List.take_of_length_le (by omega)]
      exact Ev.ret _
  · simp only [impl_WordsOf_O.f, decide_eq_false hs, cond_false]
    rw [ew]
    exact twin_ev _ (by rw [List.length_take]; omega)
theorem said_FnExactWordsOf (t : ByteArray) : ∃ k, laws_FnExactWordsOf.f k t = some true := by
  refine Ev.at_ (f := fun k => laws_FnExactWordsOf.f k t) ?_
  unfold laws_FnExactWordsOf.f
  by_cases hs : (1048576 : Int) < (t.size : Int)
  · simp only [decide_eq_true hs, cond_true]; exact Ev.ret _
  simp only [decide_eq_false hs, cond_false]
  obtain ⟨R, hR, s1, s2⟩ := words2 t
  obtain ⟨v', q, q1, q2, q3⟩ := mh_StringS R 1 hR (by omega) (by omega)
  have e := eqb_StringS R hR
  refine Ev.bind s1 (Ev.bind s2 (Ev.bind e ?_))
  simp only [cond_true]
  refine Ev.bind q2 (Ev.bind q3 ?_)
  simp only [decide_eq_false (show ¬ q < 0 by omega), cond_false, beq_self_eq_true, cond_true]
  refine Ev.bind s2 (Ev.bind e ?_)
  simp only [cond_true]
  refine Ev.bind q3 ?_
  simp only [decide_eq_false (show ¬ q < 0 by omega), cond_false, beq_self_eq_true, cond_true]
  exact Ev.ret _
end Go.Ab
