/- A map's text has its parts told apart by their commas alone: the names that are read are the names written. No condition. -/
import Derived.Test.YtklhcjepgbakmaaGreatDoorAbH0
namespace Go.Ab
open Go.Proofs
set_option linter.unusedVariables false
set_option linter.unusedSimpArgs false
/-- A walk over a text: how deep in brackets, and whether in quotes; none at a comma outside. -/
def scan : List UInt8 → Nat → Nat → Option (Nat × Nat)
 | [], d, q => some (d, q)
 | c :: r, d, 0 => if c = 34 then scan r d 1 else if c = 91 ∨ c = 123 then scan r (d + 1) 0 else if c = 93 ∨ c = 125 then (match d with | 0 => none | d + 1 => scan r d 0) else if c = 44 ∧ d = 0 then none else scan r d 0
 | c :: r, d, 1 => if c = 92 then scan r d 2 else if c = 34 then scan r d 0 else scan r d 1
 | _ :: r, d, _ + 2 => scan r d 1
theorem scan_app : ∀ (a b : List UInt8) (d q : Nat), scan (a ++ b) d q = (scan a d q).bind fun s => scan b s.1 s.2
 | [], b, d, q => by simp [scan]
 | c :: r, b, d, 0 => by
   simp only [List.cons_append, scan, scan_app r b]
   (repeat' split) <;> rfl
 | c :: r, b, d, 1 => by
   simp only [List.cons_append, scan, scan_app r b]
   (repeat' split) <;> rfl
 | c :: r, b, d, q + 2 => by simp only [List.cons_append, scan, scan_app r b]
theorem scan_up : ∀ (a : List UInt8) (d q e p : Nat), scan a d q = some (e, p) → scan a (d + 1) q = some (e + 1, p)
 | [], d, q, e, p, h => by simp [scan] at h ⊢; exact h
 | c :: r, d, 0, e, p, h => by
   by_cases h1 : c = 34
   · simp only [scan, if_pos h1] at h ⊢; exact scan_up r _ _ _ _ h
   by_cases h2 : c = 91 ∨ c = 123
   · simp only [scan, if_neg h1, if_pos h2] at h ⊢; exact scan_up r _ _ _ _ h
   by_cases h3 : c = 93 ∨ c = 125
   · cases d with
     | zero => simp [scan, if_neg h1, if_neg h2, if_pos h3] at h
     | succ d => simp only [scan, if_neg h1, if_neg h2, if_pos h3] at h ⊢; exact scan_up r _ _ _ _ h
   by_cases h4 : c = 44 ∧ d = 0
   · simp [scan, if_neg h1, if_neg h2, if_neg h3, if_pos h4] at h
   · simp only [scan, if_neg h1, if_neg h2, if_neg h3, if_neg h4, if_neg (show ¬ (c = 44 ∧ d + 1 = 0) by omega)] at h ⊢; exact scan_up r _ _ _ _ h
 | c :: r, d, 1, e, p, h => by
   by_cases h1 : c = 92
   · simp only [scan, if_pos h1] at h ⊢; exact scan_up r _ _ _ _ h
   by_cases h2 : c = 34
   · simp only [scan, if_neg h1, if_pos h2] at h ⊢; exact scan_up r _ _ _ _ h
   · simp only [scan, if_neg h1, if_neg h2] at h ⊢; exact scan_up r _ _ _ _ h
 | c :: r, d, q + 2, e, p, h => by simp only [scan] at h ⊢; exact scan_up r _ _ _ _ h
def Qt (c : UInt8) : Prop := c ≠ 34 ∧ c ≠ 44 ∧ c ≠ 91 ∧ c ≠ 93 ∧ c ≠ 123 ∧ c ≠ 125
theorem scan_q : ∀ (l : List UInt8), (∀ c ∈ l, Qt c) → ∀ d, scan l d 0 = some (d, 0)
 | [], _, d => rfl
 | c :: r, h, d => by
   obtain ⟨h1, h2, h3, h4, h5, h6⟩ := h c (List.mem_cons_self ..)
   simp only [scan, if_neg h1, if_neg (show ¬ (c = 91 ∨ c = 123) from fun e => e.elim h3 h5), if_neg (show ¬ (c = 93 ∨ c = 125) from fun e => e.elim h4 h6), if_neg (show ¬ (c = 44 ∧ d = 0) from fun e => h2 e.1)]
   exact scan_q r (fun c hc => h c (List.mem_cons_of_mem _ hc)) d
theorem qt_dig {c : UInt8} (h : 48 ≤ c.toNat ∧ c.toNat ≤ 57) : Qt c := by
  refine ⟨?_, ?_, ?_, ?_, ?_, ?_⟩ <;> (rintro rfl; simp at h)
theorem dig_ofNat {u : Nat} (h : u < 10) : 48 ≤ (UInt8.ofNat (48 + u)).toNat ∧ (UInt8.ofNat (48 + u)).toNat ≤ 57 := by
  rw [UInt8.toNat_ofNat']; omega
theorem qt_dec (u : Nat) : ∀ c ∈ Lib.decDigits u, Qt c := by
  induction u using Nat.strongRecOn with
  | _ u ih =>
    intro c hc
    by_cases h : u < 10
    · rw [Lib.decDigits_one h] at hc
      rw [List.mem_singleton.1 hc]; exact qt_dig (dig_ofNat h)
    · rw [Lib.decDigits, dif_neg h] at hc
      rcases List.mem_append.1 hc with hc | hc
      · exact ih (u / 10) (by omega) c hc
      · rw [List.mem_singleton.1 hc]; exact qt_dig (dig_ofNat (by omega))
theorem qt_itoa (n : Int) : ∀ c ∈ Lib.itoa n, Qt c := by
  intro c hc
  unfold Lib.itoa at hc
  split at hc
  · rcases List.mem_cons.1 hc with rfl | hc
    · unfold Qt; decide
    · exact qt_dec _ c hc
  · exact qt_dec _ c hc
theorem qt_pad : ∀ (k x : Nat), ∀ c ∈ pad k x, Qt c
 | 0, x, c, h => by simp [pad] at h
 | k + 1, x, c, h => by
   rw [pad] at h
   rcases List.mem_append.1 h with h | h
   · exact qt_pad k _ c h
   · rw [List.mem_singleton.1 h]; exact qt_dig (dig_ofNat (by omega))
theorem qt_name {c : UInt8} (h : isN c = true) : Qt c ∧ c ≠ 58 := by
  refine ⟨⟨?_, ?_, ?_, ?_, ?_, ?_⟩, ?_⟩ <;> (rintro rfl; exact absurd h (by decide))
theorem name_qt {s : List UInt8} (h : nameOk s = true) : (∀ c ∈ s, Qt c) ∧ (58 : UInt8) ∉ s := by
  unfold nameOk at h
  simp only [Bool.and_eq_true, List.all_eq_true] at h
  exact ⟨fun c hc => (qt_name (h.2 c hc)).1, fun hc => (qt_name (h.2 _ hc)).2 rfl⟩
theorem scan_esc : ∀ (s : List UInt8) (d : Nat), scan (esc s) d 1 = some (d, 1)
 | [], d => rfl
 | c :: s, d => by
   rw [esc_cons, scan_app]
   have e : scan (esc1 c) d 1 = some (d, 1) := by
     unfold esc1
     split
     · simp [scan]
     · rename_i h
       split
       · simp [scan]
       · have h1 : c ≠ 92 := fun e => h (.inr e)
         have h2 : c ≠ 34 := fun e => h (.inl e)
         simp [scan, h1, h2]
   rw [e]
   exact scan_esc s d
theorem scan_join {s : UInt8} {D : Nat} (hs : scan [s] D 0 = some (D, 0)) : ∀ (ls : List (List UInt8)), (∀ p ∈ ls, scan p D 0 = some (D, 0)) → scan (joinS [s] ls) D 0 = some (D, 0)
 | [], _ => by simp [joinS, scan]
 | [a], h => by simpa [joinS] using h a (by simp)
 | a :: b :: r, h => by
   have h1 := h a (by simp)
   have h2 := scan_join hs (b :: r) (fun p hp => h p (List.mem_cons_of_mem _ hp))
   simp only [joinS, List.append_assoc]
   simp only [scan_app, h1, hs, h2, Option.bind_some]
theorem txt_scan {x : S42} {l : List UInt8} (h : Txt x l) : scan l 0 0 = some (0, 0) := by
  have parts : ∀ (items : List S42) (ls : List (List UInt8)), ls.length = items.length → (∀ (i : Nat) (x : S42) (l : List UInt8), items[i]? = some x → ls[i]? = some l → scan l 0 0 = some (0, 0)) → ∀ p ∈ ls, scan p 0 0 = some (0, 0) := fun items ls hl h p hp => by
    obtain ⟨i, hi, rfl⟩ := List.getElem_of_mem hp
    exact h i _ _ (List.getElem?_eq_getElem (show i < items.length by omega)) (List.getElem?_eq_getElem hi)
  induction h with
  | null => decide
  | tru => decide
  | fls => decide
  | num n h => exact scan_q _ (qt_itoa n) 0
  | text s hs =>
    have e : scan (34 :: (esc s ++ [34])) 0 0 = scan (esc s ++ [34]) 0 1 := by simp [scan]
    rw [e, scan_app, scan_esc]
    simp [scan]
  | date n l h =>
    obtain ⟨y, m, d, _, _, _, _, _, _, _, rfl⟩ := h
    refine scan_q _ (fun c hc => ?_) 0
    simp only [List.mem_cons, List.mem_append] at hc
    rcases hc with rfl | h | rfl | h | rfl | h
    · unfold Qt; decide
    · exact qt_pad _ _ c h
    · unfold Qt; decide
    · exact qt_pad _ _ c h
    · unfold Qt; decide
    · exact qt_pad _ _ c h
  | point a b ha hb =>
    refine scan_q _ (fun c hc => ?_) 0
    simp only [List.mem_cons, List.mem_append, List.not_mem_nil, or_false] at hc
    rcases hc with rfl | h | rfl | h | rfl
    · unfold Qt; decide
    · exact qt_itoa _ c h
    · unfold Qt; decide
    · exact qt_itoa _ c h
    · unfold Qt; decide
  | thing kind w n h hn =>
    refine scan_q _ (fun c hc => ?_) 0
    rcases List.mem_cons.1 hc with rfl | hc
    · rcases h with ⟨rfl, _⟩ | ⟨rfl, _⟩ <;> (unfold Qt; decide)
    · exact qt_itoa _ c hc
  | list items ls hl h ih =>
    have e : scan (91 :: (joinS [44] ls ++ [93])) 0 0 = scan (joinS [44] ls ++ [93]) 1 0 := by simp [scan]
    rw [e, scan_app, scan_join (s := 44) (D := 1) (by simp [scan]) ls (fun p hp => scan_up _ _ _ _ _ (parts items ls hl ih p hp))]
    simp [scan]
  | map items names ls hl hn hr hk h ih =>
    have e : ∀ X : List UInt8, scan (123 :: (X ++ [125])) 0 0 = scan (X ++ [125]) 1 0 := fun X => by simp [scan]
    have hp : ∀ p ∈ List.zipWith (fun (n : ByteArray) l => n.data.toList ++ 58 :: l) names ls, scan p 1 0 = some (1, 0) := fun p hp => by
      obtain ⟨i, hi, rfl⟩ := List.getElem_of_mem hp
      have hi2 := hi
      rw [List.length_zipWith] at hi2
      rw [List.getElem_zipWith, scan_app, scan_q _ (name_qt (hk _ (List.getElem_mem (show i < names.length by omega)))).1]
      have := scan_up _ _ _ _ _ (parts items ls hl ih _ (List.getElem_mem (show i < ls.length by omega)))
      simpa [scan] using this
    rw [e, scan_app, scan_join (s := 44) (D := 1) (by simp [scan]) _ hp]
    simp [scan]
  | path items ls hl h hk ih =>
    have e : ∀ X : List UInt8, scan (60 :: (X ++ [62])) 0 0 = scan (X ++ [62]) 0 0 := fun X => by simp [scan]
    rw [e, scan_app, scan_join (s := 32) (D := 0) (by simp [scan]) ls (parts items ls hl ih)]
    simp [scan]
theorem cut_ {a a' t t' : List UInt8} (ha : scan a 0 0 = some (0, 0)) (ha' : scan a' 0 0 = some (0, 0)) (ht : t = [] ∨ ∃ u, t = 44 :: u) (ht' : t' = [] ∨ ∃ u, t' = 44 :: u) (h : a ++ t = a' ++ t') : a = a' ∧ t = t' := by
  have one : ∀ {a a' t t' : List UInt8}, scan a 0 0 = some (0, 0) → scan a' 0 0 = some (0, 0) → (t = [] ∨ ∃ u, t = 44 :: u) → ∀ m, a' = a ++ m → t = m ++ t' → a = a' ∧ t = t' := fun {a a' t t'} ha ha' ht m h1 h2 => by
    cases m with
    | nil => exact ⟨by simpa using h1.symm, by simpa using h2⟩
    | cons c m =>
      rcases ht with rfl | ⟨u, rfl⟩
      · simp at h2
      · simp only [List.cons_append, List.cons.injEq] at h2
        obtain ⟨rfl, _⟩ := h2
        rw [h1, scan_app, ha] at ha'
        simp [scan] at ha'
  rcases List.append_eq_append_iff.1 h with ⟨m, h1, h2⟩ | ⟨m, h1, h2⟩
  · exact one ha ha' ht m h1 h2
  · obtain ⟨h3, h4⟩ := one ha' ha ht' m h1 h2
    exact ⟨h3.symm, h4.symm⟩
theorem join_cons (a : List UInt8) (r : List (List UInt8)) : joinS [44] (a :: r) = a ++ (if r = [] then [] else 44 :: joinS [44] r) := by
  cases r with
  | nil => simp [joinS]
  | cons b r => simp [joinS]
theorem join_inj : ∀ (P P' : List (List UInt8)), (∀ p ∈ P, scan p 0 0 = some (0, 0) ∧ p ≠ []) → (∀ p ∈ P', scan p 0 0 = some (0, 0) ∧ p ≠ []) → joinS [44] P = joinS [44] P' → P = P'
 | [], [], _, _, _ => rfl
 | [], a :: r, _, h', h => by
   rw [join_cons] at h
   simp [joinS] at h
   exact absurd h.1 (h' a (by simp)).2
 | a :: r, [], h', _, h => by
   rw [join_cons] at h
   simp [joinS] at h
   exact absurd h.1 (h' a (by simp)).2
 | a :: r, a' :: r', h1, h2, h => by
   rw [join_cons, join_cons] at h
   have tl : ∀ r : List (List UInt8), (if r = [] then [] else 44 :: joinS [44] r) = [] ∨ ∃ u, (if r = [] then [] else 44 :: joinS [44] r) = 44 :: u := fun r => by
     split
     · exact .inl rfl
     · exact .inr ⟨_, rfl⟩
   obtain ⟨e1, e2⟩ := cut_ (h1 a (by simp)).1 (h2 a' (by simp)).1 (tl r) (tl r') h
   subst e1
   by_cases hr : r = []
   · by_cases hr' : r' = []
     · rw [hr, hr']
     · rw [if_pos hr, if_neg hr'] at e2; cases e2
   · by_cases hr' : r' = []
     · rw [if_neg hr, if_pos hr'] at e2; cases e2
     · rw [if_neg hr, if_neg hr'] at e2
       rw [join_inj r r' (fun p hp => h1 p (List.mem_cons_of_mem _ hp)) (fun p hp => h2 p (List.mem_cons_of_mem _ hp)) (List.cons.inj e2).2]
theorem cut58 : ∀ (n n' l l' : List UInt8), (58 : UInt8) ∉ n → (58 : UInt8) ∉ n' → n ++ 58 :: l = n' ++ 58 :: l' → n = n'
 | [], [], _, _, _, _, _ => rfl
 | [], c :: n', l, l', _, h', h => by
   simp only [List.nil_append, List.cons_append, List.cons.injEq] at h
   exact absurd (by rw [h.1]; simp) h'
 | c :: n, [], l, l', h', _, h => by
   simp only [List.nil_append, List.cons_append, List.cons.injEq] at h
   exact absurd (by rw [h.1]; simp) h'
 | c :: n, c' :: n', l, l', h1, h2, h => by
   simp only [List.cons_append, List.cons.injEq] at h
   rw [h.1, cut58 n n' l l' (fun e => h1 (List.mem_cons_of_mem _ e)) (fun e => h2 (List.mem_cons_of_mem _ e)) h.2]
def part (f : S58) : List UInt8 := f.f0.data.toList ++ 58 :: f.f1.data.toList
def mapT (S : List S58) : List UInt8 := 123 :: (joinS [44] (S.map part) ++ [125])
/-- What reads as a map has rising names. -/
theorem map_rising {x : S42} {S : List S58} (hn : ∀ f ∈ S, nameOk f.f0.data.toList = true) (hv : ∀ f ∈ S, ∃ y, Txt y f.f1.data.toList) (h : Txt x (mapT S)) : risingB (S.map (·.f0)) = true := by
  obtain ⟨T, hT⟩ : ∃ T, T = mapT S := ⟨_, rfl⟩
  rw [← hT] at h
  unfold mapT at hT
  have nd : ∀ n : Int, ∀ X : List UInt8, Lib.itoa n = 123 :: X → False := fun n X e => by
    have := qt_itoa n 123 (by rw [e]; simp)
    exact this.2.2.2.2.1 rfl
  cases h with
  | null => simp at hT
  | tru => simp at hT
  | fls => simp at hT
  | num n h => exact absurd hT (nd n _)
  | text s hs => simp at hT
  | date n l h => simp at hT
  | point a b ha hb => simp at hT
  | thing kind w n h hn =>
    simp only [List.cons.injEq] at hT
    rcases h with ⟨rfl, _⟩ | ⟨rfl, _⟩
    · exact absurd hT.1 (by decide)
    · exact absurd hT.1 (by decide)
  | list items ls hl h => simp at hT
  | path items ls hl h hk => simp at hT
  | map items names ls hl hnl hr hk h =>
    simp only [List.cons.injEq, true_and] at hT
    have hJ := List.append_cancel_right hT
    have sc : ∀ (n : ByteArray) (l : List UInt8), nameOk n.data.toList = true → scan l 0 0 = some (0, 0) → scan (n.data.toList ++ 58 :: l) 0 0 = some (0, 0) ∧ n.data.toList ++ 58 :: l ≠ [] := fun n l h1 h2 => by
      refine ⟨?_, by simp⟩
      rw [scan_app, scan_q _ (name_qt h1).1]
      simpa [scan] using h2
    have e := join_inj _ _ (fun p hp => by
      obtain ⟨i, hi, rfl⟩ := List.getElem_of_mem hp
      have hi2 := hi
      rw [List.length_zipWith] at hi2
      rw [List.getElem_zipWith]
      exact sc _ _ (hk _ (List.getElem_mem _)) (txt_scan (h i _ _ (List.getElem?_eq_getElem (show i < items.length by omega)) (List.getElem?_eq_getElem (show i < ls.length by omega))))) (fun p hp => by
      obtain ⟨f, hf, rfl⟩ := List.mem_map.1 hp
      obtain ⟨y, hy⟩ := hv f hf
      exact sc _ _ (hn f hf) (txt_scan hy)) hJ
    have hlen := congrArg List.length e
    rw [List.length_zipWith, List.length_map] at hlen
    have en : names = S.map (·.f0) := by
      refine List.ext_getElem (by rw [List.length_map]; omega) fun i h1 h2 => ?_
      have hS : i < S.length := by simpa using h2
      have hz : i < (List.zipWith (fun (n : ByteArray) l => n.data.toList ++ 58 :: l) names ls).length := by rw [List.length_zipWith]; omega
      have hm : i < (S.map part).length := by simpa using hS
      have ei : (List.zipWith (fun (n : ByteArray) l => n.data.toList ++ 58 :: l) names ls)[i] = (S.map part)[i] := by simp only [e]
      rw [List.getElem_zipWith, List.getElem_map] at ei
      have := cut58 _ _ _ _ (name_qt (hk _ (List.getElem_mem h1))).2 (name_qt (hn _ (List.getElem_mem hS))).2 ei
      rw [List.getElem_map]
      exact ByteArray.ext (Array.toList_inj.1 this)
    rw [← en]; exact hr
end Go.Ab
namespace Go.Ab
open Go.Proofs
set_option linter.unusedVariables false
set_option linter.unusedSimpArgs false
theorem less_trans : ∀ (a b c : List UInt8), Op.bytesLess a b = true → Op.bytesLess b c = true → Op.bytesLess a c = true
 | _, _, [], _, h => by rename_i b _; cases b <;> simp [Op.bytesLess] at h
 | [], _, _ :: _, _, _ => by simp [Op.bytesLess]
 | _ :: _, [], _ :: _, h, _ => by simp [Op.bytesLess] at h
 | x :: a, y :: b, z :: c, h, h' => by
   simp only [Op.bytesLess, Bool.or_eq_true, Bool.and_eq_true, decide_eq_true_eq, beq_iff_eq] at h h' ⊢
   rcases h with h | ⟨rfl, h⟩
   · rcases h' with h' | ⟨rfl, h'⟩
     · left; simp only [UInt8.lt_iff_toNat_lt] at h h' ⊢; omega
     · exact .inl h
   · rcases h' with h' | ⟨rfl, h'⟩
     · exact .inl h'
     · exact .inr ⟨rfl, less_trans a b c h h'⟩
theorem less_irr : ∀ (a : List UInt8), Op.bytesLess a a = false
 | [] => rfl
 | x :: a => by
   simp only [Op.bytesLess, less_irr a, Bool.and_false, Bool.or_false, decide_eq_false_iff_not, UInt8.lt_iff_toNat_lt]; omega
theorem slt_irr (a : ByteArray) : slt a a = false := less_irr _
theorem slt_trans {a b c : ByteArray} (h : slt a b = true) (h' : slt b c = true) : slt a c = true := less_trans _ _ _ h h'
theorem rising_lt : ∀ (r : List ByteArray) (a : ByteArray), risingB (a :: r) = true → ∀ x ∈ r, slt a x = true
 | [], _, _, x, hx => by cases hx
 | b :: r, a, h, x, hx => by
   simp only [risingB, Bool.and_eq_true] at h
   rcases List.mem_cons.1 hx with rfl | hx
   · exact h.1
   · exact slt_trans h.1 (rising_lt r b h.2 x hx)
theorem rising_tail {a : ByteArray} {r : List ByteArray} (h : risingB (a :: r) = true) : risingB r = true := by
  cases r with
  | nil => rfl
  | cons b r => simp only [risingB, Bool.and_eq_true] at h; exact h.2
theorem less_tri : ∀ (a b : List UInt8), Op.bytesLess a b = false → Op.bytesLess b a = false → a = b
 | [], [], _, _ => rfl
 | [], _ :: _, h, _ => by simp [Op.bytesLess] at h
 | _ :: _, [], _, h => by simp [Op.bytesLess] at h
 | x :: a, y :: b, h, h' => by
   simp only [Op.bytesLess, Bool.or_eq_false_iff, Bool.and_eq_false_iff, decide_eq_false_iff_not, beq_eq_false_iff_ne, UInt8.lt_iff_toNat_lt] at h h'
   have e : x = y := UInt8.toNat_inj.1 (by omega)
   subst e
   have h1 : Op.bytesLess a b = false := h.2.resolve_left fun e => e rfl
   have h2 : Op.bytesLess b a = false := h'.2.resolve_left fun e => e rfl
   rw [less_tri a b h1 h2]
theorem slt_tri {a b : ByteArray} (h : slt a b = false) (h' : slt b a = false) : a = b := by
  have := less_tri _ _ h h'
  rw [ByteArray.toList_eq, ByteArray.toList_eq] at this
  exact ByteArray.ext (Array.toList_inj.1 this)
theorem app_b {α : Type} {a b : List α} (h : a.length + b.length ≤ 68719476736) : app a b = some (a ++ b) := by unfold app; rw [if_pos h]
theorem lsub_b {α : Type} {l : List α} {a b : Nat} (h : a ≤ b) (hb : b ≤ l.length) : lsub l (a : Int) (b : Int) = some ((l.drop a).take (b - a)) := by
  unfold lsub; rw [if_pos (by omega)]; simp
theorem slt_asymm {a b : ByteArray} (h : slt a b = true) : slt b a = false := by
  cases e : slt b a with
  | false => rfl
  | true => have := slt_trans h e; rw [slt_irr] at this; cases this
theorem lt_of_lt_le {x c a : ByteArray} (h : slt x a = true) (h' : slt c a = false) : slt x c = true := by
  cases e : slt a c with
  | true => exact slt_trans h e
  | false => rw [← slt_tri e h']; exact h
def Srt (C : List S58) : Prop := C.Pairwise (fun a b => slt b.f0 a.f0 = false)
theorem srt_ins {C : List S58} {x : S58} {q : Nat} (hq : q ≤ C.length) (hS : Srt C) (h1 : ∀ y ∈ C.drop q, slt x.f0 y.f0 = true) (h2 : ∀ h : 0 < q, slt x.f0 (C[q - 1]'(by omega)).f0 = false) : Srt (C.take q ++ x :: C.drop q) := by
  have hg := List.pairwise_iff_getElem.1 hS
  unfold Srt at hS ⊢
  rw [← List.take_append_drop q C, List.pairwise_append] at hS
  obtain ⟨p1, p2, p3⟩ := hS
  refine List.pairwise_append.2 ⟨p1, List.pairwise_cons.2 ⟨fun b hb => slt_asymm (h1 b hb), p2⟩, fun a ha b hb => ?_⟩
  rcases List.mem_cons.1 hb with rfl | hb
  · obtain ⟨j, hj, rfl⟩ := List.getElem_of_mem ha
    have hjq : j < q := by simp at hj; omega
    rw [List.getElem_take]
    cases e : slt b.f0 (C[j]'(by omega)).f0 with
    | false => rfl
    | true =>
      have hc : slt (C[q - 1]'(by omega)).f0 (C[j]'(by omega)).f0 = false := by
        by_cases hj1 : j = q - 1
        · subst hj1; exact slt_irr _
        · exact hg j (q - 1) (by omega) (by omega) (by omega)
      have := lt_of_lt_le e hc
      rw [h2 (by omega)] at this; cases this
  · exact p3 a ha b hb
section
variable {l : List S58}
theorem ins_s {i : Nat} (hi : i < l.length) (hl : l.length ≤ 1000) {C : List S58} (hC : C.length ≤ 1000) (hS : Srt C) : ∀ p : Nat, p ≤ C.length → (∀ y ∈ C.drop p, slt l[i].f0 y.f0 = true) → ∃ C', C'.Perm (l[i] :: C) ∧ Srt C' ∧ ∀ R, Ev (fun k => spec_l01Sorted.l0 k l C'.length ((i + 1 : Nat) : Int) C') R → Ev (fun k => spec_l01Sorted.l1 k l C.length (i : Int) (p : Int) C) R := by
  have stop : ∀ q : Nat, q ≤ C.length → (∀ y ∈ C.drop q, slt l[i].f0 y.f0 = true) → (∀ h : 0 < q, ∀ h' : q - 1 < C.length, slt l[i].f0 C[q - 1].f0 = false) → ∃ C', C'.Perm (l[i] :: C) ∧ Srt C' ∧ ∀ R, Ev (fun k => spec_l01Sorted.l0 k l C'.length ((i + 1 : Nat) : Int) C') R → Ev (fun k => spec_l01Sorted.j0 k l C.length (i : Int) (q : Int) C) R := fun q hq h1 h2 => by
    refine ⟨C.take q ++ l[i] :: C.drop q, ?_, srt_ins hq hS h1 (fun h => h2 h (by omega)), fun R hR => Ev.step ?_⟩
    · have := List.perm_middle (a := l[i]) (l₁ := C.take q) (l₂ := C.drop q)
      rwa [List.take_append_drop] at this
    have b1 : bnd (q : Int) (C.length : Int) (C.length : Int) = some () := by unfold bnd; rw [if_pos (by omega)]
    have b2 : bnd 0 (q : Int) (C.length : Int) = some () := by unfold bnd; rw [if_pos (by omega)]
    simp only [spec_l01Sorted.j0, b1, b2, ixg hi, Option.bind_some, Int.toNat_natCast]
    rw [List.take_of_length_le (l := C.drop q) (by simp), app_b (by simp; omega)]
    simp only [Option.bind_some, List.nil_append]
    rw [app_b (by simp; omega)]
    simp only [Option.bind_some]
    rw [app_b (by simp; omega)]
    simp only [Option.bind_some, wup hi (show l.length ≤ 2000000 by omega), List.append_assoc, List.singleton_append]
    exact hR
  intro p
  induction p with
  | zero =>
    intro hp h
    obtain ⟨C', h1, h2, h3⟩ := stop 0 hp h (fun h => absurd h (by omega))
    refine ⟨C', h1, h2, fun R hR => Ev.step ?_⟩
    simp only [spec_l01Sorted.l1, show decide ((0 : Int) < ((0 : Nat) : Int)) = false from rfl, cond_false]
    exact h3 R hR
  | succ p ih =>
    intro hp h
    have hpl : p < C.length := by omega
    have hw : IntKind.i64.wrap (((p + 1 : Nat) : Int) - 1) = (p : Int) := by rw [wI (by omega) (by omega)]; omega
    cases e : slt l[i].f0 C[p].f0 with
    | true =>
      obtain ⟨C', h1, h2, h3⟩ := ih (by omega) (fun y hy => by
        rw [List.drop_eq_getElem_cons hpl] at hy
        rcases List.mem_cons.1 hy with rfl | hy
        · exact e
        · exact h y hy)
      refine ⟨C', h1, h2, fun R hR => Ev.step ?_⟩
      simp only [spec_l01Sorted.l1, decide_eq_true (show (0 : Int) < ((p + 1 : Nat) : Int) by omega), cond_true, hw, inr_ hpl, Option.bind_some, Int.toNat_natCast, List.getElem?_eq_getElem hpl, ixg hi, e]
      exact h3 R hR
    | false =>
      obtain ⟨C', h1, h2, h3⟩ := stop (p + 1) hp h (fun _ _ => e)
      refine ⟨C', h1, h2, fun R hR => Ev.step ?_⟩
      simp only [spec_l01Sorted.l1, decide_eq_true (show (0 : Int) < ((p + 1 : Nat) : Int) by omega), cond_true, cond_false, hw, inr_ hpl, Option.bind_some, Int.toNat_natCast, List.getElem?_eq_getElem hpl, ixg hi, e]
      exact h3 R hR
theorem sorted_ (hl : l.length ≤ 1000) : ∃ S, Ev (fun k => spec_l01Sorted.f k l) S ∧ S.Perm l ∧ Srt S := by
  have L : ∀ (n i : Nat) (C : List S58), l.length - i ≤ n → i ≤ l.length → C.Perm (l.take i) → Srt C → ∃ S, Ev (fun k => spec_l01Sorted.l0 k l C.length (i : Int) C) S ∧ S.Perm l ∧ Srt S := by
    intro n
    have fin : ∀ (i : Nat) (C : List S58), ¬ i < l.length → i ≤ l.length → C.Perm (l.take i) → Srt C → ∃ S, Ev (fun k => spec_l01Sorted.l0 k l C.length (i : Int) C) S ∧ S.Perm l ∧ Srt S := fun i C h hle hp hS => by
      refine ⟨C, Ev.step ?_, ?_, hS⟩
      · simp only [spec_l01Sorted.l0, ltn h, cond_false, List.take_length]
        exact Ev.ret _
      · rwa [List.take_of_length_le (by omega)] at hp
    induction n with
    | zero => intro i C h hle hp hS; exact fin i C (by omega) hle hp hS
    | succ n ih =>
      intro i C h hle hp hS
      by_cases hi : i < l.length
      case neg => exact fin i C hi hle hp hS
      have hCl : C.length ≤ 1000 := by rw [hp.length_eq, List.length_take]; omega
      obtain ⟨C', h1, h2, h3⟩ := ins_s hi hl hCl hS C.length (Nat.le_refl _) (fun y hy => by simp at hy)
      obtain ⟨S, g1, g2, g3⟩ := ih (i + 1) C' (by omega) (by omega) (by
        rw [List.take_succ_eq_append_getElem hi]
        exact h1.trans (((List.Perm.cons l[i] hp)).trans (List.perm_append_singleton l[i] (l.take i)).symm)) h2
      refine ⟨S, Ev.step ?_, g2, g3⟩
      simp only [spec_l01Sorted.l0, ltd hi, cond_true]
      exact h3 S g1
  obtain ⟨S, h1, h2, h3⟩ := L l.length 0 [] (by omega) (by omega) (by simp) (by simp [Srt])
  exact ⟨S, Ev.step (by simp only [spec_l01Sorted.f]; exact h1), h2, h3⟩
end
abbrev RsN (N : List ByteArray) : Prop := N.Pairwise (fun a b => slt a b = true)
theorem insert_r {o : List ByteArray} {a : ByteArray} (ho : o.length ≤ 1000) (hr : RsN o) (ha : a ∉ o) : ∃ r, Ev (fun k => impl_insert.f k o a) r ∧ RsN r ∧ r.Perm (a :: o) := by
  have J1 : ∀ i : Nat, i ≤ o.length → Ev (fun k => impl_insert.j1 k o a (i : Int)) (o.take i ++ a :: o.drop i) := fun i hi => by
    refine Ev.step ?_
    have hm : mks (⟨#[]⟩ : ByteArray) 0 (IntKind.i64.wrap ((o.length : Int) + 1)) = some [] := by
      rw [wI (by omega) (by omega)]; unfold mks; rw [if_pos (by omega)]; rfl
    have e1 := lsub_b (l := o) (Nat.zero_le i) hi
    have e2 := lsub_b (l := o) hi (Nat.le_refl _)
    simp only [List.drop_zero, Nat.sub_zero, Int.ofNat_zero] at e1
    simp only [impl_insert.j1, hm, Option.bind_some]
    rw [e1, e2]
    simp only [Option.bind_some]
    rw [app_b (by simp; omega)]
    simp only [Option.bind_some, List.nil_append]
    rw [app_b (by simp; omega)]
    simp only [Option.bind_some]
    rw [app_b (by simp; omega)]
    simp only [Option.bind_some]
    rw [List.take_of_length_le (l := o.drop i) (by simp), List.append_assoc, List.singleton_append]
    exact Ev.ret _
  have J0 : ∀ i : Nat, i ≤ o.length → Ev (fun k => impl_insert.j0 k o a (i : Int)) (o.take i ++ a :: o.drop i) := fun i hi => by
    refine Ev.step ?_
    by_cases h : i < o.length
    · have he : ¬ o[i] = a := fun e => ha (e ▸ List.getElem_mem h)
      simp only [impl_insert.j0, ltd h, cond_true, ixg h, Option.bind_some, decide_eq_false he, cond_false]
      exact J1 i hi
    · simp only [impl_insert.j0, ltn h, cond_false]
      exact J1 i hi
  have G : ∀ i : Nat, i ≤ o.length → (∀ y ∈ o.take i, slt y a = true) → (∀ y ∈ o.drop i, slt a y = true) → RsN (o.take i ++ a :: o.drop i) ∧ (o.take i ++ a :: o.drop i).Perm (a :: o) := fun i hi h1 h2 => by
    constructor
    · unfold RsN at hr ⊢
      rw [← List.take_append_drop i o, List.pairwise_append] at hr
      obtain ⟨p1, p2, p3⟩ := hr
      refine List.pairwise_append.2 ⟨p1, List.pairwise_cons.2 ⟨h2, p2⟩, fun x hx y hy => ?_⟩
      rcases List.mem_cons.1 hy with rfl | hy
      · exact h1 x hx
      · exact p3 x hx y hy
    · have := List.perm_middle (a := a) (l₁ := o.take i) (l₂ := o.drop i)
      rwa [List.take_append_drop] at this
  have hg := List.pairwise_iff_getElem.1 hr
  have L : ∀ n i : Nat, o.length - i ≤ n → i ≤ o.length → (∀ y ∈ o.take i, slt y a = true) → ∃ r, Ev (fun k => impl_insert.l0 k o a (i : Int)) r ∧ RsN r ∧ r.Perm (a :: o) := by
    intro n
    have fin : ∀ i : Nat, ¬ i < o.length → i ≤ o.length → (∀ y ∈ o.take i, slt y a = true) → ∃ r, Ev (fun k => impl_insert.l0 k o a (i : Int)) r ∧ RsN r ∧ r.Perm (a :: o) := fun i h hi hb => by
      refine ⟨_, Ev.step ?_, G i hi hb (fun y hy => by rw [List.drop_of_length_le (by omega)] at hy; cases hy)⟩
      simp only [impl_insert.l0, ltn h, cond_false]
      exact J0 i hi
    induction n with
    | zero => intro i h hi hb; exact fin i (by omega) hi hb
    | succ n ih =>
      intro i h hi hb
      by_cases hlt : i < o.length
      case neg => exact fin i hlt hi hb
      cases hs : slt o[i] a with
      | true =>
        obtain ⟨r, h1, h2⟩ := ih (i + 1) (by omega) (by omega) (fun y hy => by
          rw [List.take_succ_eq_append_getElem hlt] at hy
          rcases List.mem_append.1 hy with hy | hy
          · exact hb y hy
          · rw [List.mem_singleton.1 hy]; exact hs)
        refine ⟨r, Ev.step ?_, h2⟩
        simp only [impl_insert.l0, ltd hlt, cond_true, ixg hlt, Option.bind_some, hs, wup hlt (show o.length ≤ 2000000 by omega)]
        exact h1
      | false =>
        have h0 : slt a o[i] = true := by
          cases e : slt a o[i] with
          | true => rfl
          | false => exact absurd (slt_tri e hs ▸ List.getElem_mem hlt) ha
        refine ⟨_, Ev.step ?_, G i hi hb (fun y hy => ?_)⟩
        · simp only [impl_insert.l0, ltd hlt, cond_true, cond_false, ixg hlt, Option.bind_some, hs]
          exact J0 i hi
        · obtain ⟨j, hj, rfl⟩ := List.getElem_of_mem hy
          have hj' : i + j < o.length := by simp at hj; omega
          rw [List.getElem_drop]
          by_cases hj0 : j = 0
          · subst hj0; exact h0
          · exact slt_trans h0 (hg i (i + j) hlt hj' (by omega))
  obtain ⟨r, h1, h2⟩ := L o.length 0 (by omega) (by omega) (fun y hy => by simp at hy)
  exact ⟨r, Ev.step (by simp only [impl_insert.f]; exact h1), h2⟩
theorem strict_ext : ∀ (a b : List ByteArray), RsN a → RsN b → (∀ x, x ∈ a ↔ x ∈ b) → a = b
 | [], [], _, _, _ => rfl
 | [], y :: s, _, _, h => by have := (h y).2 (List.mem_cons_self ..); cases this
 | x :: r, [], _, _, h => by have := (h x).1 (List.mem_cons_self ..); cases this
 | x :: r, y :: s, ha, hb, h => by
   obtain ⟨a1, a2⟩ := List.pairwise_cons.1 ha
   obtain ⟨b1, b2⟩ := List.pairwise_cons.1 hb
   have e : x = y := by
     rcases List.mem_cons.1 ((h x).1 (List.mem_cons_self ..)) with e | e
     · exact e
     · rcases List.mem_cons.1 ((h y).2 (List.mem_cons_self ..)) with e' | e'
       · exact e'.symm
       · have := slt_asymm (a1 y e'); rw [b1 x e] at this; cases this
   subst e
   rw [strict_ext r s a2 b2 (fun z => ⟨fun hz => by
     rcases List.mem_cons.1 ((h z).1 (List.mem_cons_of_mem _ hz)) with e | e
     · subst e; have := a1 z hz; rw [slt_irr] at this; cases this
     · exact e, fun hz => by
     rcases List.mem_cons.1 ((h z).2 (List.mem_cons_of_mem _ hz)) with e | e
     · subst e; have := b1 z hz; rw [slt_irr] at this; cases this
     · exact e⟩)]
theorem rising_rs : ∀ (N : List ByteArray), risingB N = true → RsN N
 | [], _ => List.Pairwise.nil
 | a :: r, h => List.pairwise_cons.2 ⟨rising_lt r a h, rising_rs r (rising_tail h)⟩
theorem rs_nodup {N : List ByteArray} (h : RsN N) : N.Nodup := h.imp (fun {a b} hab e => by subst e; rw [slt_irr] at hab; cases hab)
theorem srt_rs {S : List S58} (h : Srt S) (hn : (S.map (·.f0)).Nodup) : RsN (S.map (·.f0)) := by
  have h1 : (S.map (·.f0)).Pairwise (fun a b => slt b a = false) := List.pairwise_map.2 h
  refine (h1.and hn).imp (fun {a b} hab => ?_)
  cases e : slt a b with
  | true => rfl
  | false => exact absurd (slt_tri e hab.1) hab.2
/-! tables -/
section
variable {β : Type}
theorem tfind_app (a : ByteArray) : ∀ (l r : List (ByteArray × β)) (i : Nat), tfind a (l ++ r) i = match tfind a l i with | some q => some q | none => tfind a r (i + l.length)
 | [], r, i => by simp [tfind]
 | (b, v) :: l, r, i => by
   simp only [List.cons_append, tfind, tfind_app a l r (i + 1), List.length_cons]
   cases decide (a = b) with
   | true => rfl
   | false => simp only [cond_false, show i + 1 + l.length = i + (l.length + 1) by omega]
theorem tput_new {m : List (ByteArray × β)} {a : ByteArray} {v z : β} (h : thas m a = false) : tget (tput m a v) a z = v ∧ (∀ x, x ≠ a → tget (tput m a v) x z = tget m x z) ∧ ∀ x, thas (tput m a v) x = (thas m x || decide (x = a)) := by
  have hn : tfind a m 0 = none := by
    unfold thas at h
    cases e : tfind a m 0 with
    | none => rfl
    | some q => rw [e] at h; cases h
  have ep : tput m a v = m ++ [(a, v)] := by unfold tput; rw [hn]
  rw [ep]
  refine ⟨?_, fun x hx => ?_, fun x => ?_⟩
  · unfold tget; rw [tfind_app, hn]; simp [tfind]
  · unfold tget; rw [tfind_app]
    cases tfind x m 0 with
    | some q => rfl
    | none => simp [tfind, hx]
  · unfold thas; rw [tfind_app]
    cases tfind x m 0 with
    | some q => simp
    | none => by_cases hx : x = a <;> simp [tfind, hx]
end
end Go.Ab
