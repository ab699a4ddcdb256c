/- Sizes, copies and comparisons of the arguments of FnExactListOf. No condition. -/
import Derived.Test.YtldiipekkdaffaaGreatDoorAbH0
import Derived.Test.YtldiipekkdaffaaGreatDoorAbS6
namespace Go.Ab
open Go.Proofs
set_option linter.unusedVariables false
set_option linter.unusedSimpArgs false
def bdStringS (v : (List ByteArray)) : Prop := v.length ≤ 1048576 ∧ ∀ x ∈ v, x.size ≤ 1048576
theorem sz_StringS (v : (List ByteArray)) (h : Lst Str v) {a : Int} (ha : Lft a) : Sz (fun k => laws_szStringS.f k v a) a (bdStringS v) := Sz.slice (l := laws_szStringS.l0) h.1 (fun _ _ _ => by simp only [laws_szStringS.f]) (fun hl => Sz.strs (fun _ _ _ _ => by simp only [laws_szStringS.l0]) v h.2 hl) ha
theorem to_StringS (v : (List ByteArray)) (h : bdStringS v) : Ev (fun k => laws_toStringS.f k v) v := by
  have := to_f (f := laws_toStringS.f) (l := laws_toStringS.l0) (tr := id) h.1 (fun _ _ => by simp only [laws_toStringS.f]; rfl) (to_strs (fun _ _ _ _ _ => by simp only [laws_toStringS.l0]) v h.1)
  rwa [List.map_id] at this
theorem eq_StringS (v : (List ByteArray)) (h : bdStringS v) : Ev (fun k => laws_eqStringS.f k v v) true := eq_f (l := laws_eqStringS.l0) (fun _ _ _ => by simp only [laws_eqStringS.f]) (eq_strs (fun _ _ _ _ => by simp only [laws_eqStringS.l0]) _ h.1)
end Go.Ab
namespace Go.Ab
open Go.Proofs
set_option linter.unusedVariables false
set_option linter.unusedSimpArgs false
/-- A text that both read. -/
def VT (t : ByteArray) : Prop := ∃ sv, (Wf sv ∧ t.size ≤ 2000 ∧ Txt sv t.data.toList) ∧ Ev (fun k => spec_l01Read.f k t) sv ∧ Ev (fun k => impl_read.f k t) (toI sv, true)
theorem vt_no {t : ByteArray} (h : ¬ VT t) : ∃ iv, Ev (fun k => spec_l01Read.f k t) ⟨-1, 0, 0, ⟨#[]⟩, [], []⟩ ∧ Ev (fun k => impl_read.f k t) (iv, false) := (readT_ t).resolve_left h
theorem vt_kind {t : ByteArray} {sv : S40} (h : Wf sv) : ¬ sv.f0 < 0 := by
  cases h with | mk _ hk => omega
def parts (l : List ByteArray) : List (List UInt8) := l.map (·.data.toList)
def listT (l : List ByteArray) : List UInt8 := 91 :: (joinS [44] (parts l) ++ [93])
open Classical in
/-- What both tell. -/
noncomputable def listR (l : List ByteArray) : ByteArray := if (∀ s ∈ l, VT s) ∧ VT (bs (listT l)) then bs (listT l) else ⟨#[]⟩
theorem listR_no1 {l : List ByteArray} {s : ByteArray} (h : s ∈ l) (hn : ¬ VT s) : listR l = ⟨#[]⟩ := by
  unfold listR; rw [if_neg (fun h' => hn (h'.1 s h))]
theorem listR_no2 {l : List ByteArray} (hn : ¬ VT (bs (listT l))) : listR l = ⟨#[]⟩ := by
  unfold listR; rw [if_neg (fun h' => hn h'.2)]
section
variable {l : List ByteArray}
theorem parts_get {i : Nat} (h : i < l.length) : (parts l)[i]'(by simpa [parts] using h) = l[i].data.toList := by simp [parts]
theorem parts_len : (parts l).length = l.length := by simp [parts]
theorem list_s (hl : l.length ≤ 1000) : ∀ (n i : Nat), l.length - i ≤ n → i ≤ l.length → (∀ s ∈ l.take i, VT s) → (joinS [44] ((parts l).take i)).length ≤ 2000 → Ev (fun k => spec_ListOf.l0 k l (bs (joinS [44] ((parts l).take i))) (i : Int)) (listR l) := by
  have fin : ∀ i : Nat, ¬ i < l.length → i ≤ l.length → (∀ s ∈ l.take i, VT s) → (joinS [44] ((parts l).take i)).length ≤ 2000 → Ev (fun k => spec_ListOf.l0 k l (bs (joinS [44] ((parts l).take i))) (i : Int)) (listR l) := fun i h hle hv hb => by
    refine Ev.step ?_
    rw [List.take_of_length_le (by rw [parts_len]; omega)] at hb ⊢
    rw [List.take_of_length_le (by omega)] at hv
    simp only [spec_ListOf.l0, ltn h, cond_false, show (⟨#[91]⟩ : ByteArray) = bs [91] from rfl, show (⟨#[93]⟩ : ByteArray) = bs [93] from rfl]
    rw [catl (by simp; omega)]
    simp only [Option.bind_some]
    rw [catl (by simp; omega)]
    simp only [Option.bind_some]
    rw [show [91] ++ joinS [44] (parts l) ++ [93] = listT l by simp [listT]]
    by_cases hT : VT (bs (listT l))
    · have e : listR l = bs (listT l) := by unfold listR; rw [if_pos ⟨hv, hT⟩]
      rw [e]
      obtain ⟨sv, ⟨hw, _⟩, r1, _⟩ := hT
      refine Ev.bind (?_ : Ev (fun k => spec_l01Keep.f k (bs (listT l))) (bs (listT l))) (Ev.ret _)
      unfold spec_l01Keep.f
      refine Ev.bind r1 ?_
      simp only [decide_eq_false (vt_kind (t := bs (listT l)) hw), cond_false]
      exact Ev.ret _
    · rw [listR_no2 hT]
      obtain ⟨iv, r1, _⟩ := vt_no hT
      refine Ev.bind (?_ : Ev (fun k => spec_l01Keep.f k (bs (listT l))) (⟨#[]⟩ : ByteArray)) (Ev.ret _)
      unfold spec_l01Keep.f
      refine Ev.bind r1 ?_
      simp only [show decide ((-1 : Int) < 0) = true from rfl, cond_true]
      exact Ev.ret _
  intro n
  induction n with
  | zero => intro i h hle hv hb; exact fin i (by omega) hle hv hb
  | succ n ih =>
    intro i h hle hv hb
    by_cases hi : i < l.length
    case neg => exact fin i hi hle hv hb
    have hip : i < (parts l).length := by rw [parts_len]; exact hi
    have hstep := joinS_step (sep := [44]) hip
    rw [parts_get hi] at hstep
    have hall := joinS_take (sep := [44]) (parts l) (i + 1)
    have go : ∀ o : List UInt8, o.length ≤ 2001 → (if i = 0 then l[i].data.toList else joinS [44] ((parts l).take i) ++ [44] ++ l[i].data.toList) = o ++ l[i].data.toList → Ev (fun k => spec_ListOf.j0 k l (bs o) (i : Int)) (listR l) := fun o ho he => by
      refine Ev.step ?_
      simp only [spec_ListOf.j0, ixg hi, Option.bind_some]
      by_cases hV : VT l[i]
      · obtain ⟨sv, ⟨hw, hsz, _⟩, r1, _⟩ := id hV
        refine Ev.bind r1 ?_
        simp only [decide_eq_false (vt_kind (t := l[i]) hw), cond_false]
        have hdl : l[i].data.toList.length ≤ 2000 := by rw [← size_list]; exact hsz
        rw [show l[i] = bs l[i].data.toList from bs_of _, catl (by omega)]
        simp only [Option.bind_some, bs_size]
        rw [he] at hstep
        by_cases hbig : 2000 < (o ++ l[i].data.toList).length
        · simp only [decide_eq_true (show (2000 : Int) < ((o ++ l[i].data.toList).length : Int) by omega), cond_true]
          have hT : ¬ VT (bs (listT l)) := fun ⟨sv, ⟨_, hz, _⟩, _⟩ => by
            rw [bs_size] at hz
            unfold listT at hz
            simp only [List.length_cons, List.length_append, List.length_nil] at hz
            rw [hstep] at hall
            omega
          rw [listR_no2 hT]
          exact Ev.ret _
        · simp only [decide_eq_false (show ¬ (2000 : Int) < ((o ++ l[i].data.toList).length : Int) by omega), cond_false, wup hi (show l.length ≤ 2000000 by omega)]
          rw [← hstep]
          refine ih (i + 1) (by omega) (by omega) (fun s hs => ?_) (by rw [hstep]; omega)
          rw [List.take_succ_eq_append_getElem hi] at hs
          rcases List.mem_append.1 hs with h | h
          · exact hv s h
          · rw [List.mem_singleton.1 h]; exact hV
      · rw [listR_no1 (List.getElem_mem hi) hV]
        obtain ⟨iv, r1, _⟩ := vt_no hV
        refine Ev.bind r1 ?_
        simp only [show decide ((-1 : Int) < 0) = true from rfl, cond_true]
        exact Ev.ret _
    refine Ev.step ?_
    simp only [spec_ListOf.l0, ltd hi, cond_true]
    by_cases h0 : i = 0
    · simp only [decide_eq_false (show ¬ (0 : Int) < (i : Int) by omega), cond_false]
      refine go _ (by omega) ?_
      rw [if_pos h0]
      subst h0
      simp [joinS]
    · simp only [decide_eq_true (show (0 : Int) < (i : Int) by omega), cond_true, show (⟨#[44]⟩ : ByteArray) = bs [44] from rfl]
      rw [catl (by simp; omega)]
      simp only [Option.bind_some]
      exact go _ (by simp; omega) (by rw [if_neg h0])
theorem list_i (hl : l.length ≤ 1000) : ∀ (n i : Nat) (svs : List S40), l.length - i ≤ n → i ≤ l.length → (∀ s ∈ l.take i, VT s) → svs.length = i → (∀ (j : Nat) (x : S40) (s : ByteArray), svs[j]? = some x → l[j]? = some s → Txt x s.data.toList ∧ s.size ≤ 2000) → Ev (fun k => impl_ListOf.l0 k l (i : Int) (svs.map toI)) (listR l) := by
  have fin : ∀ (i : Nat) (svs : List S40), ¬ i < l.length → i ≤ l.length → (∀ s ∈ l.take i, VT s) → svs.length = i → (∀ (j : Nat) (x : S40) (s : ByteArray), svs[j]? = some x → l[j]? = some s → Txt x s.data.toList ∧ s.size ≤ 2000) → Ev (fun k => impl_ListOf.l0 k l (i : Int) (svs.map toI)) (listR l) := fun i svs h hle hv hsl hx => by
    obtain rfl : i = l.length := by omega
    rw [List.take_length] at hv
    have hpl : ∀ p ∈ parts l, p.length ≤ 2000 := fun p hp => by
      unfold parts at hp
      obtain ⟨s, hs, rfl⟩ := List.mem_map.1 hp
      obtain ⟨_, ⟨_, hz, _⟩, _⟩ := hv s hs
      rw [← size_list]; exact hz
    have hjl : ∀ L : List (List UInt8), (∀ p ∈ L, p.length ≤ 2000) → (joinS [44] L).length ≤ 2001 * L.length := fun L => by
      induction L with
      | nil => intro _; simp [joinS]
      | cons a r ih =>
        intro h
        have ha := h a (List.mem_cons_self ..)
        have hr := ih fun p hp => h p (List.mem_cons_of_mem _ hp)
        cases r with
        | nil => simp [joinS]; omega
        | cons b r => simp only [joinS, List.length_append, List.length_cons, List.length_nil] at hr ⊢; omega
    have hjb := hjl _ hpl
    rw [parts_len] at hjb
    have hsh : Ev (fun k => impl_val_show.f k ⟨6, 0, 0, ⟨#[]⟩, [], svs.map toI⟩) (bs (listT l)) := by
      unfold impl_val_show.f
      have hw : Ev (fun k => impl_val_write.f k ⟨6, 0, 0, ⟨#[]⟩, [], svs.map toI⟩ (⟨#[]⟩ : ByteArray)) (bs (listT l)) := by
        refine Ev.step ?_
        simp only [impl_val_write.f, show ((6 : Int) == 0) = false from rfl, show ((6 : Int) == 1) = false from rfl, show ((6 : Int) == 2) = false from rfl, show ((6 : Int) == 3) = false from rfl, show ((6 : Int) == 4) = false from rfl, show ((6 : Int) == 5) = false from rfl, show ((6 : Int) == 6) = true from rfl, cond_true, cond_false]
        simp only [show ∀ k, strings_Builder_WriteByte.f k 91 (⟨#[]⟩ : ByteArray) = _ from fun k => bwbl k 91 (x := 91) rfl (s := []) (by simp), Option.bind_some]
        have := w_l0 (items := svs) (ls := parts l) (X := ⟨6, 0, 0, ⟨#[]⟩, [], svs.map toI⟩) rfl (by rw [parts_len]; exact hsl.symm) (fun j x p h1 h2 _ => by
          have hj : j < l.length := by have := (List.getElem?_eq_some_iff.1 h2).1; rwa [parts_len] at this
          have e : p = l[j].data.toList := by
            unfold parts at h2
            rw [List.getElem?_map, List.getElem?_eq_getElem hj] at h2
            exact (Option.some.inj h2).symm
          subst e
          obtain ⟨q1, q2⟩ := hx j x l[j] h1 (List.getElem?_eq_getElem hj)
          exact txt_ishw q1 (by rw [← size_list]; exact q2)) (by omega) hpl (by omega) _ 0 (Nat.le_refl _) (Nat.zero_le _) [91] (by simp; omega)
        simpa [joinS, listT] using this
      refine Ev.bind hw ?_
      simp only [strings_Builder_String.f, Option.bind_some]
      exact Ev.ret _
    refine Ev.step ?_
    simp only [impl_ListOf.l0, ltn h, cond_false]
    by_cases hT : VT (bs (listT l))
    · have e : listR l = bs (listT l) := by unfold listR; rw [if_pos ⟨hv, hT⟩]
      rw [e]
      obtain ⟨sv, _, _, r2⟩ := hT
      refine Ev.bind (?_ : Ev (fun k => impl_val_sound.f k ⟨6, 0, 0, ⟨#[]⟩, [], svs.map toI⟩) true) ?_
      · unfold impl_val_sound.f
        exact Ev.bind hsh (Ev.bind r2 (Ev.ret _))
      · simp only [cond_true]
        exact Ev.bind hsh (Ev.ret _)
    · rw [listR_no2 hT]
      obtain ⟨iv, _, r2⟩ := vt_no hT
      refine Ev.bind (?_ : Ev (fun k => impl_val_sound.f k ⟨6, 0, 0, ⟨#[]⟩, [], svs.map toI⟩) false) ?_
      · unfold impl_val_sound.f
        exact Ev.bind hsh (Ev.bind r2 (Ev.ret _))
      · simp only [cond_false]
        exact Ev.ret _
  intro n
  induction n with
  | zero => intro i svs h hle hv hsl hx; exact fin i svs (by omega) hle hv hsl hx
  | succ n ih =>
    intro i svs h hle hv hsl hx
    by_cases hi : i < l.length
    case neg => exact fin i svs hi hle hv hsl hx
    refine Ev.step ?_
    simp only [impl_ListOf.l0, ltd hi, cond_true, ixg hi, Option.bind_some]
    by_cases hV : VT l[i]
    · obtain ⟨sv, ⟨_, hsz, htx⟩, _, r2⟩ := id hV
      refine Ev.bind r2 ?_
      simp only [cond_true]
      rw [app_one _ (by simp; omega)]
      simp only [Option.bind_some, wup hi (show l.length ≤ 2000000 by omega)]
      have := ih (i + 1) (svs ++ [sv]) (by omega) (by omega) (fun s hs => by
        rw [List.take_succ_eq_append_getElem hi] at hs
        rcases List.mem_append.1 hs with h | h
        · exact hv s h
        · rw [List.mem_singleton.1 h]; exact hV) (by simp [hsl]) (fun j x s h1 h2 => by
        by_cases hj : j < svs.length
        · rw [List.getElem?_append_left hj] at h1; exact hx j x s h1 h2
        · rw [List.getElem?_append_right (by omega)] at h1
          have e : j - svs.length = 0 := by
            have := (List.getElem?_eq_some_iff.1 h1).1; simp at this; omega
          rw [e] at h1
          simp at h1
          have ej : j = i := by omega
          subst ej
          rw [List.getElem?_eq_getElem hi] at h2
          cases h2; subst h1
          exact ⟨htx, hsz⟩)
      rw [List.map_append] at this
      exact this
    · rw [listR_no1 (List.getElem_mem hi) hV]
      obtain ⟨iv, _, r2⟩ := vt_no hV
      refine Ev.bind r2 ?_
      simp only [cond_false]
      exact Ev.ret _
theorem list2 (l : List ByteArray) : ∃ R, Ev (fun k => spec_ListOf.f k l) R ∧ Ev (fun k => impl_ListOf.f k l) R := by
  by_cases h : l.length ≤ 1000
  · refine ⟨listR l, Ev.step ?_, Ev.step ?_⟩
    · simp only [spec_ListOf.f, decide_eq_false (show ¬ (1000 : Int) < (l.length : Int) by omega), cond_false]
      exact list_s h _ 0 (Nat.le_refl _) (Nat.zero_le _) (fun s hs => by simp at hs) (by simp [joinS])
    · simp only [impl_ListOf.f, decide_eq_false (show ¬ (1000 : Int) < (l.length : Int) by omega), cond_false]
      exact list_i h _ 0 [] (Nat.le_refl _) (Nat.zero_le _) (fun s hs => by simp at hs) rfl (fun j x s h => by simp at h)
  · refine ⟨⟨#[]⟩, Ev.step ?_, Ev.step ?_⟩
    · simp only [spec_ListOf.f, decide_eq_true (show (1000 : Int) < (l.length : Int) by omega), cond_true]; exact Ev.ret _
    · simp only [impl_ListOf.f, decide_eq_true (show (1000 : Int) < (l.length : Int) by omega), cond_true]; exact Ev.ret _
end
theorem lftL : Lft 1048576 := by unfold Lft; omega
theorem said_FnExactListOf (l : List ByteArray) (h : Lst Str l) : ∃ k, laws_FnExactListOf.f k l = some true := by
  refine Ev.at_ (f := fun k => laws_FnExactListOf.f k l) ?_
  unfold laws_FnExactListOf.f
  obtain ⟨q, q1, q2, q3⟩ := sz_StringS l h lftL
  refine Ev.bind q1 ?_
  by_cases hq : q < 0
  · simp only [decide_eq_true hq, cond_true]; exact Ev.ret _
  have hb := q3 (by omega)
  simp only [decide_eq_false hq, cond_false]
  obtain ⟨R, s1, s2⟩ := list2 l
  refine Ev.bind (to_StringS l hb) (Ev.bind s1 (Ev.bind (to_StringS l hb) (Ev.bind s2 ?_)))
  simp only [decide_true, cond_true]
  refine Ev.bind (to_StringS l hb) (Ev.bind (eq_StringS l hb) ?_)
  simp only [cond_true]; exact Ev.ret _
end Go.Ab
