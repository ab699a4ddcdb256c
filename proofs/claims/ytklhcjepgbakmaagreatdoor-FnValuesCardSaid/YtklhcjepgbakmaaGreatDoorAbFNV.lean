/- The law of a drawn value's parts: what is taken apart makes the value again. No condition beyond the code's shape. -/
import Derived.Test.YtklhcjepgbakmaaGreatDoorAbDW
namespace Go.Ab
open Go.Proofs
set_option linter.unusedVariables false
set_option linter.unusedSimpArgs false
theorem txt_items {x : S42} {L : List UInt8} (h : Txt x L) : ∃ ls : List (List UInt8), ls.length = x.f4.length ∧ (∀ (i : Nat) (y : S42) (l : List UInt8), x.f4[i]? = some y → ls[i]? = some l → Txt y l) ∧ (∀ l ∈ ls, l.length ≤ L.length) ∧ ls.length ≤ L.length + 1 := by
  cases h with
  | list items ls hl h =>
    have hc := joinS_count (sep := 44) ls
    exact ⟨ls, hl, h, fun l hm => by have := joinS_mem (sep := [44]) hm; simp; omega, by simp; omega⟩
  | path items ls hl h hk =>
    have hc := joinS_count (sep := 32) ls
    exact ⟨ls, hl, h, fun l hm => by have := joinS_mem (sep := [32]) hm; simp; omega, by simp; omega⟩
  | map items names ls hl hn hr hk h =>
    have hc := joinS_count (sep := 44) (List.zipWith (fun (n : ByteArray) l => n.data.toList ++ 58 :: l) names ls)
    have hz : (List.zipWith (fun (n : ByteArray) l => n.data.toList ++ 58 :: l) names ls).length = ls.length := by rw [List.length_zipWith]; omega
    refine ⟨ls, hl, h, fun l hm => ?_, by simp; omega⟩
    obtain ⟨i, hi, rfl⟩ := List.getElem_of_mem hm
    have hiz : i < (List.zipWith (fun (n : ByteArray) l => n.data.toList ++ 58 :: l) names ls).length := by omega
    have := joinS_mem (sep := [44]) (List.getElem_mem hiz)
    rw [List.getElem_zipWith] at this
    simp only [List.length_append, List.length_cons, List.length_nil] at this ⊢
    omega
  | _ => exact ⟨[], rfl, fun i y l h => by simp at h, fun l h => by simp at h, by simp⟩
theorem showAll_s {items : List S42} {ls : List (List UInt8)} (hl : ls.length = items.length) (hn : items.length ≤ 2001) (h : ∀ (i : Nat) (y : S42) (l : List UInt8), items[i]? = some y → ls[i]? = some l → Txt y l) (hb : ∀ l ∈ ls, l.length ≤ 2000) :
    ∀ (n i : Nat), items.length - i ≤ n → Ev (fun k => spec_l01ShowAll.l0 k items ((ls.take i).map bs) (i : Int)) (ls.map bs) := by
  have fin : ∀ i : Nat, ¬ i < items.length → Ev (fun k => spec_l01ShowAll.l0 k items ((ls.take i).map bs) (i : Int)) (ls.map bs) := fun i hi => by
    refine Ev.step ?_
    simp only [spec_l01ShowAll.l0, ltn hi, cond_false]
    rw [List.take_of_length_le (by omega)]
    exact Ev.ret _
  intro n
  induction n with
  | zero => intro i h; exact fin i (by omega)
  | succ n ih =>
    intro i h'
    by_cases hi : i < items.length
    case neg => exact fin i hi
    have hil : i < ls.length := by omega
    obtain ⟨s1, _⟩ := shows (h i _ _ (List.getElem?_eq_getElem hi) (List.getElem?_eq_getElem hil)) (hb _ (List.getElem_mem hil))
    refine Ev.step ?_
    simp only [spec_l01ShowAll.l0, ltd hi, cond_true, ixg hi, Option.bind_some, wup hi (show items.length ≤ 2000000 by omega)]
    refine Ev.bind s1 ?_
    rw [app_one _ (by simp; omega)]
    have next := ih (i + 1) (by omega)
    rw [List.take_succ_eq_append_getElem hil, List.map_append] at next
    exact next
theorem showAll_i {items : List S42} {ls : List (List UInt8)} (hl : ls.length = items.length) (hn : items.length ≤ 2001) (h : ∀ (i : Nat) (y : S42) (l : List UInt8), items[i]? = some y → ls[i]? = some l → Txt y l) (hb : ∀ l ∈ ls, l.length ≤ 2000) :
    ∀ (n i : Nat), items.length - i ≤ n → Ev (fun k => impl_shown.l0 k ((ls.take i).map bs) (items.map toI) (i : Int)) (ls.map bs) := by
  have fin : ∀ i : Nat, ¬ i < items.length → Ev (fun k => impl_shown.l0 k ((ls.take i).map bs) (items.map toI) (i : Int)) (ls.map bs) := fun i hi => by
    refine Ev.step ?_
    simp only [impl_shown.l0, List.length_map, ltn hi, cond_false]
    rw [List.take_of_length_le (by omega)]
    exact Ev.ret _
  intro n
  induction n with
  | zero => intro i h; exact fin i (by omega)
  | succ n ih =>
    intro i h'
    by_cases hi : i < items.length
    case neg => exact fin i hi
    have hil : i < ls.length := by omega
    have hmap : i < (items.map toI).length := by simpa using hi
    obtain ⟨_, s2⟩ := shows (h i _ _ (List.getElem?_eq_getElem hi) (List.getElem?_eq_getElem hil)) (hb _ (List.getElem_mem hil))
    refine Ev.step ?_
    simp only [impl_shown.l0, List.length_map, ltd hi, cond_true, ixg hmap, List.getElem_map, Option.bind_some, wup hi (show items.length ≤ 2000000 by omega)]
    refine Ev.bind s2 ?_
    rw [app_one _ (by simp; omega)]
    have next := ih (i + 1) (by omega)
    rw [List.take_succ_eq_append_getElem hil, List.map_append] at next
    exact next
def fz (names : List ByteArray) (ls : List (List UInt8)) : List S58 := List.zipWith (fun n l => ⟨n, bs l⟩) names ls
theorem fz_len {names : List ByteArray} {ls : List (List UInt8)} (h : ls.length = names.length) : (fz names ls).length = names.length := by unfold fz; rw [List.length_zipWith]; omega
theorem fz_get {names : List ByteArray} {ls : List (List UInt8)} {i : Nat} (h1 : i < names.length) (h2 : i < ls.length) : (fz names ls)[i]'(by unfold fz; rw [List.length_zipWith]; omega) = ⟨names[i], bs ls[i]⟩ := by unfold fz; rw [List.getElem_zipWith]
theorem flds_i {x : S42} {ls : List (List UInt8)} (hl : ls.length = x.f4.length) (hm : x.f5.length = x.f4.length) (hn : x.f4.length ≤ 2001) (h : ∀ (i : Nat) (y : S42) (l : List UInt8), x.f4[i]? = some y → ls[i]? = some l → Txt y l) (hb : ∀ l ∈ ls, l.length ≤ 2000) :
    ∀ (n i : Nat), x.f5.length - i ≤ n → Ev (fun k => impl_FieldsOf.l0 k ((fz x.f5 ls).take i) (⟨x.f0, x.f1, x.f2, x.f3, x.f5, x.f4.map toI⟩, true) (i : Int)) (fz x.f5 ls) := by
  have fin : ∀ i : Nat, ¬ i < x.f5.length → Ev (fun k => impl_FieldsOf.l0 k ((fz x.f5 ls).take i) (⟨x.f0, x.f1, x.f2, x.f3, x.f5, x.f4.map toI⟩, true) (i : Int)) (fz x.f5 ls) := fun i hi => by
    refine Ev.step ?_
    simp only [impl_FieldsOf.l0, List.length_map, ltn (show ¬ i < x.f4.length by omega), cond_false]
    rw [List.take_of_length_le (by rw [fz_len (by omega)]; omega)]
    exact Ev.ret _
  intro n
  induction n with
  | zero => intro i h; exact fin i (by omega)
  | succ n ih =>
    intro i h'
    by_cases hi : i < x.f5.length
    case neg => exact fin i hi
    have hi4 : i < x.f4.length := by omega
    have hil : i < ls.length := by omega
    have hmap : i < (x.f4.map toI).length := by simpa using hi4
    have hz : i < (fz x.f5 ls).length := by rw [fz_len (by omega)]; omega
    obtain ⟨_, s2⟩ := shows (h i _ _ (List.getElem?_eq_getElem hi4) (List.getElem?_eq_getElem hil)) (hb _ (List.getElem_mem hil))
    refine Ev.step ?_
    simp only [impl_FieldsOf.l0, List.length_map, ltd hi4, cond_true, ixg hi, ixg hmap, List.getElem_map, Option.bind_some, wup hi4 (show x.f4.length ≤ 2000000 by omega)]
    refine Ev.bind s2 ?_
    rw [app_one _ (by simp; omega)]
    have next := ih (i + 1) (by omega)
    rw [List.take_succ_eq_append_getElem hz, fz_get hi hil] at next
    exact next

theorem vt_of {x : S42} {l : List UInt8} (h : Txt x l) (hl : l.length ≤ 2000) (hd : DepLe 5 x) : VT (bs l) := by
  obtain ⟨h1, h2, h3⟩ := both_txt h hl hd
  exact ⟨x, ⟨h1, by rw [bs_size]; exact hl, by simpa [bs] using h⟩, h2, h3⟩
theorem join_two {c : UInt8} : ∀ (L : List (List UInt8)), (∀ l ∈ L, 1 ≤ l.length) → 2 * L.length ≤ (joinS [c] L).length + 1
 | [], _ => by simp [joinS]
 | [a], h => by have := h a (by simp); simp [joinS]; omega
 | a :: b :: r, h => by
   have h1 := h a (by simp)
   have h2 := join_two (c := c) (b :: r) (fun l hl => h l (by simp [hl]))
   simp only [joinS, List.length_append, List.length_cons, List.length_nil] at h2 ⊢
   omega
theorem txt_pos {x : S42} {l : List UInt8} (h : Txt x l) : 1 ≤ l.length := by
  obtain ⟨c, q, e, _⟩ := txt_ne h
  rw [e]; simp
/-- What a list has. -/
theorem list_inv {x : S42} {L : List UInt8} (h : Txt x L) (hk : x.f0 = 6) : ∃ (items : List S42) (ls : List (List UInt8)), x = ⟨6, 0, 0, ⟨#[]⟩, items, []⟩ ∧ ls.length = items.length ∧ (∀ (i : Nat) (y : S42) (l : List UInt8), items[i]? = some y → ls[i]? = some l → Txt y l) ∧ L = 91 :: (joinS [44] ls ++ [93]) := by
  cases h with
  | list items ls hl h => exact ⟨items, ls, rfl, hl, h, rfl⟩
  | map items names ls hl hn hr hk2 h => simp at hk
  | path items ls hl h hk2 => simp at hk
  | thing kind w n h hn => rcases h with ⟨_, h⟩ | ⟨_, h⟩ <;> simp [h] at hk
  | num n h => simp at hk
  | null => simp at hk
  | tru => simp at hk
  | fls => simp at hk
  | text s hs => simp at hk
  | date n l h => simp at hk
  | point a b ha hb => simp at hk
theorem map_inv {x : S42} {L : List UInt8} (h : Txt x L) (hk : x.f0 = 7) : ∃ (items : List S42) (names : List ByteArray) (ls : List (List UInt8)), x = ⟨7, 0, 0, ⟨#[]⟩, items, names⟩ ∧ ls.length = items.length ∧ names.length = items.length ∧ risingB names = true ∧ (∀ s ∈ names, nameOk s.data.toList = true) ∧ (∀ (i : Nat) (y : S42) (l : List UInt8), items[i]? = some y → ls[i]? = some l → Txt y l) ∧ L = 123 :: (joinS [44] (List.zipWith (fun (n : ByteArray) l => n.data.toList ++ 58 :: l) names ls) ++ [125]) := by
  cases h with
  | map items names ls hl hn hr hk2 h => exact ⟨items, names, ls, rfl, hl, hn, hr, hk2, h, rfl⟩
  | list items ls hl h => simp at hk
  | path items ls hl h hk2 => simp at hk
  | thing kind w n h hn => rcases h with ⟨_, h⟩ | ⟨_, h⟩ <;> simp [h] at hk
  | num n h => simp at hk
  | null => simp at hk
  | tru => simp at hk
  | fls => simp at hk
  | text s hs => simp at hk
  | date n l h => simp at hk
  | point a b ha hb => simp at hk
theorem text_inv {x : S42} {L : List UInt8} (h : Txt x L) (hk : x.f0 = 3) : ∃ s : List UInt8, x = ⟨3, 0, 0, bs s, [], []⟩ ∧ L = 34 :: (esc s ++ [34]) := by
  cases h with
  | text s hs => exact ⟨s, rfl, rfl⟩
  | map items names ls hl hn hr hk2 h => simp at hk
  | list items ls hl h => simp at hk
  | path items ls hl h hk2 => simp at hk
  | thing kind w n h hn => rcases h with ⟨_, h⟩ | ⟨_, h⟩ <;> simp [h] at hk
  | num n h => simp at hk
  | null => simp at hk
  | tru => simp at hk
  | fls => simp at hk
  | date n l h => simp at hk
  | point a b ha hb => simp at hk
theorem date_inv {x : S42} {L : List UInt8} (h : Txt x L) (hk : x.f0 = 4) : ∃ (n : Int) (l : List UInt8), DateT n l ∧ x = ⟨4, n, 0, ⟨#[]⟩, [], []⟩ ∧ L = 64 :: l := by
  cases h with
  | date n l h => exact ⟨n, l, h, rfl, rfl⟩
  | text s hs => simp at hk
  | map items names ls hl hn hr hk2 h => simp at hk
  | list items ls hl h => simp at hk
  | path items ls hl h hk2 => simp at hk
  | thing kind w n h hn => rcases h with ⟨_, h⟩ | ⟨_, h⟩ <;> simp [h] at hk
  | num n h => simp at hk
  | null => simp at hk
  | tru => simp at hk
  | fls => simp at hk
  | point a b ha hb => simp at hk
theorem parts_vt {items : List S42} {ls : List (List UInt8)} (hl : ls.length = items.length) (h : ∀ (i : Nat) (y : S42) (l : List UInt8), items[i]? = some y → ls[i]? = some l → Txt y l) (hb : ∀ l ∈ ls, l.length ≤ 2000) (hd : ∀ y ∈ items, DepLe 4 y) : ∀ l ∈ ls, VT (bs l) := fun l hm => by
  obtain ⟨j, hj, e⟩ := List.getElem_of_mem hm
  have hj2 : j < items.length := by omega
  exact vt_of (h j items[j] l (List.getElem?_eq_getElem hj2) (by rw [← e]; exact List.getElem?_eq_getElem hj)) (hb l hm) (dep_up (hd _ (List.getElem_mem hj2)))
section
variable {v : ByteArray} {x : S42}
theorem val_list (hs : v.size ≤ 2000) (ht : Txt x v.data.toList) (hr : Ev (fun k => spec_l01Read.f k v) x) (hi : Ev (fun k => impl_read.f k v) (toI x, true)) (hk : x.f0 = 6) : ∃ L, Ev (fun k => impl_ItemsOf.f k v) L ∧ Ev (fun k => impl_ListOf.f k L) v := by
  have hdep := read_dep hr
  obtain ⟨items, ls, ex, hl, h, eL⟩ := list_inv ht hk
  have hL : v.data.toList.length ≤ 2000 := by rw [← size_list]; exact hs
  rw [eL] at hL
  simp only [List.length_cons, List.length_append, List.length_nil] at hL
  have hpos : ∀ l ∈ ls, 1 ≤ l.length := fun l hm => by
    obtain ⟨j, hj, e⟩ := List.getElem_of_mem hm
    exact txt_pos (h j (items[j]'(by omega)) l (List.getElem?_eq_getElem (by omega)) (by rw [← e]; exact List.getElem?_eq_getElem hj))
  have hcnt := join_two (c := 44) ls hpos
  have hb : ∀ l ∈ ls, l.length ≤ 2000 := fun l hm => by have := joinS_mem (sep := [44]) hm; omega
  have hdi : ∀ y ∈ items, DepLe 4 y := by rw [ex] at hdep; exact hdep (.inl rfl)
  refine ⟨ls.map bs, ?_, Ev.step ?_⟩
  · unfold impl_ItemsOf.f
    refine Ev.bind hi ?_
    rw [ex, toI_eq]
    simp only [show ((6 : Int) == 6) = true from rfl, cond_true]
    refine Ev.bind (Ev.step ?_) (Ev.ret _)
    simp only [impl_shown.f]
    exact showAll_i (items := items) (ls := ls) hl (by omega) h hb _ 0 (Nat.le_refl _)
  · simp only [impl_ListOf.f, decide_eq_false (show ¬ (1000 : Int) < ((ls.map bs).length : Int) by rw [List.length_map]; omega), cond_false]
    have hp : parts (ls.map bs) = ls := by
      unfold parts
      rw [List.map_map]
      have : ∀ a : List UInt8, ((fun x : ByteArray => x.data.toList) ∘ bs) a = a := fun a => by simp [bs]
      rw [show ((fun x : ByteArray => x.data.toList) ∘ bs) = id from funext this]; simp
    have hlt : listT (ls.map bs) = v.data.toList := by unfold listT; rw [hp, eL]
    have hR : listR (ls.map bs) = v := by
      unfold listR
      rw [if_pos]
      · rw [hlt, ← bs_of]
      · refine ⟨fun s hs => ?_, ?_⟩
        · obtain ⟨l, hl2, rfl⟩ := List.mem_map.1 hs
          exact parts_vt hl h hb hdi l hl2
        · rw [hlt]
          exact vt_of ht (by rw [← size_list]; exact hs) hdep
    have := list_i (l := ls.map bs) (by rw [List.length_map]; omega) _ 0 [] (Nat.le_refl _) (Nat.zero_le _) (fun s hs => by simp at hs) rfl (fun j x s h => by simp at h)
    rw [hR] at this
    exact this
theorem val_map (hs : v.size ≤ 2000) (ht : Txt x v.data.toList) (hr : Ev (fun k => spec_l01Read.f k v) x) (hi : Ev (fun k => impl_read.f k v) (toI x, true)) (hk : x.f0 = 7) : ∃ L, Ev (fun k => impl_FieldsOf.f k v) L ∧ Ev (fun k => impl_MapOf.f k L) v := by
  have hdep := read_dep hr
  obtain ⟨items, names, ls, ex, hl, hn, hrise, hnm, h, eL⟩ := map_inv ht hk
  have hL : v.data.toList.length ≤ 2000 := by rw [← size_list]; exact hs
  rw [eL] at hL
  simp only [List.length_cons, List.length_append, List.length_nil] at hL
  have hzl : (List.zipWith (fun (n : ByteArray) l => n.data.toList ++ 58 :: l) names ls).length = ls.length := by rw [List.length_zipWith]; omega
  have hcnt := join_two (c := 44) (List.zipWith (fun (n : ByteArray) l => n.data.toList ++ 58 :: l) names ls) (fun l hm => by
    obtain ⟨j, hj, e⟩ := List.getElem_of_mem hm
    rw [List.getElem_zipWith] at e
    rw [← e]; simp; omega)
  have hb : ∀ l ∈ ls, l.length ≤ 2000 := fun l hm => by
    obtain ⟨j, hj, e⟩ := List.getElem_of_mem hm
    have hjz : j < (List.zipWith (fun (n : ByteArray) l => n.data.toList ++ 58 :: l) names ls).length := by omega
    have := joinS_mem (sep := [44]) (List.getElem_mem hjz)
    rw [List.getElem_zipWith, e] at this
    simp only [List.length_append, List.length_cons] at this
    omega
  have hdi : ∀ y ∈ items, DepLe 4 y := by rw [ex] at hdep; exact hdep (.inr rfl)
  have hpv := parts_vt hl h hb hdi
  have hpart : (fz names ls).map part = List.zipWith (fun (n : ByteArray) l => n.data.toList ++ 58 :: l) names ls := by
    unfold fz
    rw [List.map_zipWith]
    exact congrArg (fun g => List.zipWith g names ls) (funext fun n => funext fun l => by simp [part, bs])
  have hnames : (fz names ls).map (·.f0) = names := by
    refine List.ext_getElem (by rw [List.length_map, fz_len (by omega)]) (fun j h1 h2 => ?_)
    rw [List.getElem_map, fz_get h2 (by omega)]
  have hmt : mapT (fz names ls) = v.data.toList := by unfold mapT; rw [hpart, eL]
  refine ⟨fz names ls, Ev.step ?_, Ev.step ?_⟩
  · simp only [impl_FieldsOf.f]
    refine Ev.bind hi ?_
    have a2 := flds_i (x := x) (ls := ls) (by rw [ex]; exact hl) (by rw [ex]; exact hn) (by rw [ex]; show items.length ≤ 2001; omega) (by rw [ex]; exact h) hb _ 0 (Nat.le_refl _)
    have t0 : (toI x).f0 = 7 := by rw [toI_eq]; exact hk
    simp only [t0, show ((7 : Int) == 7) = true from rfl, cond_true]
    rw [toI_eq]
    rw [ex] at a2 ⊢
    exact a2
  · have hlen : (fz names ls).length ≤ 1000 := by rw [fz_len (by omega)]; omega
    simp only [impl_MapOf.f, decide_eq_false (show ¬ (1000 : Int) < ((fz names ls).length : Int) by omega), cond_false]
    have hR : mapR (fz names ls) = v := by
      unfold mapR
      rw [if_pos]
      · rw [hmt, ← bs_of]
      · refine ⟨fun f hf => ?_, ?_⟩
        · obtain ⟨j, hj, e⟩ := List.getElem_of_mem hf
          rw [fz_len (by omega)] at hj
          rw [fz_get hj (by omega)] at e
          rw [← e]
          exact ⟨hnm _ (List.getElem_mem hj), hpv _ (List.getElem_mem _)⟩
        · rw [hmt]
          exact vt_of ht (by rw [← size_list]; exact hs) hdep
    have hSrt : Srt (fz names ls) := by
      have hrs := rising_rs names hrise
      unfold Srt
      rw [← hnames] at hrs
      unfold RsN at hrs
      rw [List.pairwise_map] at hrs
      exact hrs.imp (fun {a b} hab => slt_asymm hab)
    have := map_i (l := fz names ls) (S := fz names ls) hlen (List.Perm.refl _) hSrt _ 0 [] [] (Nat.le_refl _) (Nat.zero_le _) List.Pairwise.nil (fun x => by simp) (by simp) (by simp) (fun f hf => by simp at hf) (fun f hf => by simp at hf) (fun x => by simp [thas, tfind])
    rw [hR] at this
    exact this
theorem val_text (hs : v.size ≤ 2000) (ht : Txt x v.data.toList) (hi : Ev (fun k => impl_read.f k v) (toI x, true)) (hk : x.f0 = 3) : ∃ L, Ev (fun k => impl_TextOf.f k v) L ∧ Ev (fun k => impl_QuoteText.f k L) v := by
  obtain ⟨s, ex, eL⟩ := text_inv ht hk
  have hL : v.data.toList.length ≤ 2000 := by rw [← size_list]; exact hs
  have hq := hL
  rw [eL] at hq
  simp only [List.length_cons, List.length_append, List.length_nil] at hq
  have hel := esc_len s
  refine ⟨bs s, ?_, ?_⟩
  · unfold impl_TextOf.f
    refine Ev.bind hi ?_
    rw [ex, toI_eq]
    simp only [show ((3 : Int) == 3) = true from rfl, cond_true]
    exact Ev.ret _
  · have hsh := show_i ht hL
    rw [← bs_of] at hsh
    rw [ex, toI_flat] at hsh
    unfold impl_QuoteText.f
    simp only [decide_eq_false (show ¬ (2000 : Int) < ((bs s).size : Int) by rw [bs_size]; omega), cond_false, impl_textVal.f, Option.bind_some]
    refine Ev.bind (a := true) ?_ ?_
    · unfold impl_val_sound.f
      exact Ev.bind hsh (Ev.bind hi (Ev.ret _))
    · simp only [cond_true]
      exact Ev.bind hsh (Ev.ret _)
theorem val_date (hs : v.size ≤ 2000) (ht : Txt x v.data.toList) (hi : Ev (fun k => impl_read.f k v) (toI x, true)) (hk : x.f0 = 4) : ∃ n, Ev (fun k => impl_DateNumber.f k v) n ∧ Ev (fun k => impl_DateText.f k n) v := by
  obtain ⟨n, l, hd, ex, eL⟩ := date_inv ht hk
  refine ⟨n, ?_, ?_⟩
  · unfold impl_DateNumber.f
    refine Ev.bind hi ?_
    rw [ex, toI_eq]
    simp only [show ((4 : Int) == 4) = true from rfl, cond_true]
    exact Ev.ret _
  · have ho := date_oki hd
    rw [← eL, ← bs_of] at ho
    obtain ⟨y, m, d, h1, h2, h3, h4, h5, h6, h7, _⟩ := hd
    have hlt := DOk.lt (n := n) (y := y) (m := m) (d := d) ⟨h1, h2, h3, h4, h5, h6, h7⟩
    have hmono := dys_mono (a := (y : Int) + 1) (b := 10000) (by omega) (by omega)
    rw [show dys 10000 = 3652059 by decide] at hmono
    unfold impl_DateText.f
    simp only [decide_eq_false (show ¬ n < 0 by omega), decide_eq_false (show ¬ 3652058 < n by omega), cond_false]
    exact Ev.bind ho (Ev.ret _)
end
/-- What others than lists, maps, texts and dates tell; and what is no value. -/
theorem val_else (v : ByteArray) : ∃ k0, Ev (fun k => spec_KindOf.f k v) k0 ∧ Ev (fun k => impl_KindOf.f k v) k0 ∧ (∃ c, Ev (fun k => impl_ValueFault.f k v) c ∧ Ev (fun k => spec_ValueFault.f k v) c) ∧
    (k0 = 6 → ∃ L, Ev (fun k => impl_ItemsOf.f k v) L ∧ Ev (fun k => impl_ListOf.f k L) v) ∧
    (k0 = 7 → ∃ L, Ev (fun k => impl_FieldsOf.f k v) L ∧ Ev (fun k => impl_MapOf.f k L) v) ∧
    (k0 = 3 → ∃ L, Ev (fun k => impl_TextOf.f k v) L ∧ Ev (fun k => impl_QuoteText.f k L) v) ∧
    (k0 = 4 → ∃ n, Ev (fun k => impl_DateNumber.f k v) n ∧ Ev (fun k => impl_DateText.f k n) v) ∧
    (k0 ≠ 6 → k0 ≠ 7 → k0 ≠ 3 → k0 ≠ 4 → (∃ L M, Ev (fun k => impl_ItemsOf.f k v) L ∧ Ev (fun k => spec_ItemsOf.f k v) M ∧ L.length = M.length) ∧ Ev (fun k => impl_FieldsOf.f k v) [] ∧ Ev (fun k => impl_TextOf.f k v) ⟨#[]⟩ ∧ Ev (fun k => impl_DateNumber.f k v) (-1)) := by
  rcases readT_ v with ⟨x, ⟨hw, hs, ht⟩, h1, h2⟩ | ⟨iv, h1, h2⟩
  · have t0 : (toI x).f0 = x.f0 := by rw [toI_eq]
    refine ⟨x.f0, ?_, ?_, ⟨0, ?_, ?_⟩, val_list hs ht h1 h2, val_map hs ht h1 h2, val_text hs ht h2, val_date hs ht h2, fun k6 k7 k3 k4 => ⟨?_, Ev.step ?_, ?_, ?_⟩⟩
    · unfold spec_KindOf.f; exact Ev.bind h1 (Ev.ret _)
    · unfold impl_KindOf.f
      refine Ev.bind h2 ?_
      simp only [cond_true, t0]; exact Ev.ret _
    · unfold impl_ValueFault.f
      refine Ev.bind h2 ?_
      simp only [cond_true]; exact Ev.ret _
    · unfold spec_ValueFault.f
      refine Ev.bind h1 ?_
      simp only [decide_eq_false (vt_kind (t := v) hw), cond_false]; exact Ev.ret _
    · have e6 : (x.f0 == 6) = false := by simpa using k6
      unfold impl_ItemsOf.f spec_ItemsOf.f
      by_cases h10 : x.f0 = 10
      · obtain ⟨ls, l1, l2, l3, l4⟩ := txt_items ht
        have hL : v.data.toList.length ≤ 2000 := by rw [← size_list]; exact hs
        have e10 : (x.f0 == 10) = true := by simpa using h10
        have t5 : (toI x).f5 = x.f4.map toI := by rw [toI_eq]
        refine ⟨ls.map bs, ls.map bs, Ev.bind h2 ?_, Ev.bind h1 ?_, rfl⟩
        · simp only [t0, t5, e6, e10, cond_true, cond_false]
          refine Ev.bind (Ev.step ?_) (Ev.ret _)
          simp only [impl_shown.f]
          exact showAll_i (items := x.f4) (ls := ls) l1 (by omega) l2 (fun l hl => Nat.le_trans (l3 l hl) hL) _ 0 (Nat.le_refl _)
        · simp only [e6, e10, cond_true, cond_false]
          refine Ev.bind (Ev.step ?_) (Ev.ret _)
          simp only [spec_l01ShowAll.f]
          exact showAll_s (items := x.f4) (ls := ls) l1 (by omega) l2 (fun l hl => Nat.le_trans (l3 l hl) hL) _ 0 (Nat.le_refl _)
      · have e10 : (x.f0 == 10) = false := by simpa using h10
        refine ⟨[], [], Ev.bind h2 ?_, Ev.bind h1 ?_, rfl⟩
        · simp only [t0, e6, e10, cond_true, cond_false]; exact Ev.ret _
        · simp only [e6, e10, cond_true, cond_false]; exact Ev.ret _
    · simp only [impl_FieldsOf.f]
      refine Ev.bind h2 ?_
      simp only [t0, show (x.f0 == 7) = false by simpa using k7, cond_true, cond_false]; exact Ev.ret _
    · unfold impl_TextOf.f
      refine Ev.bind h2 ?_
      simp only [t0, show (x.f0 == 3) = false by simpa using k3, cond_true, cond_false]; exact Ev.ret _
    · unfold impl_DateNumber.f
      refine Ev.bind h2 ?_
      simp only [t0, show (x.f0 == 4) = false by simpa using k4, cond_true, cond_false]; exact Ev.ret _
  · refine ⟨-1, ?_, ?_, ⟨1, ?_, ?_⟩, fun h => by simp at h, fun h => by simp at h, fun h => by simp at h, fun h => by simp at h, fun _ _ _ _ => ⟨⟨[], [], ?_, ?_, rfl⟩, Ev.step ?_, ?_, ?_⟩⟩
    · unfold spec_KindOf.f; exact Ev.bind h1 (Ev.ret _)
    · unfold impl_KindOf.f
      refine Ev.bind h2 ?_
      simp only [cond_false]; exact Ev.ret _
    · unfold impl_ValueFault.f
      refine Ev.bind h2 ?_
      simp only [cond_false]; exact Ev.ret _
    · unfold spec_ValueFault.f
      refine Ev.bind h1 ?_
      simp only [show decide ((-1 : Int) < 0) = true from rfl, cond_true]; exact Ev.ret _
    · unfold impl_ItemsOf.f
      refine Ev.bind h2 ?_
      simp only [cond_false]; exact Ev.ret _
    · unfold spec_ItemsOf.f
      refine Ev.bind h1 ?_
      simp only [show ((-1 : Int) == 6) = false from rfl, show ((-1 : Int) == 10) = false from rfl, cond_false]; exact Ev.ret _
    · simp only [impl_FieldsOf.f]
      refine Ev.bind h2 ?_
      simp only [cond_false]; exact Ev.ret _
    · unfold impl_TextOf.f
      refine Ev.bind h2 ?_
      simp only [cond_false]; exact Ev.ret _
    · unfold impl_DateNumber.f
      refine Ev.bind h2 ?_
      simp only [cond_false]; exact Ev.ret _
theorem draw_fin {code : List Int} (h : code.length ≤ 1048576) : ∃ v : ByteArray, Ev (fun k => spec_DrawValueFault.f k code) v := by
  obtain ⟨m, z, h1⟩ := source_ h
  obtain ⟨a, s, h2, _⟩ := any_ (s := ⟨code, 0, m, z⟩) ⟨h, Int.le_refl _, Int.natCast_nonneg _⟩
  exact ⟨a, by unfold spec_DrawValueFault.f; exact h1.bind (h2.bind (Ev.ret _))⟩
theorem said_FnValues (c : List Int) (hc : Lst (InK .u8) c) : ∃ k, laws_FnValues.f k c = some true := by
  refine Ev.at_ (f := fun k => laws_FnValues.f k c) ?_
  unfold laws_FnValues.f
  by_cases lc : 1048576 < (c.length : Int)
  · simp only [decide_eq_true lc, cond_true]; exact Ev.ret _
  simp only [decide_eq_false lc, cond_false]
  obtain ⟨v, h1⟩ := draw_fin (code := c) (by omega)
  obtain ⟨k0, e1, e2, ⟨f, f1, f2⟩, c6, c7, c3, c4, ce⟩ := val_else v
  refine Ev.bind h1 (Ev.bind f1 (Ev.bind f2 ?_))
  simp only [beq_self_eq_true, cond_true]
  refine Ev.bind e2 (Ev.bind e1 ?_)
  simp only [beq_self_eq_true, cond_true]
  refine Ev.bind e1 ?_
  by_cases k6 : k0 = 6
  · obtain ⟨L, g1, g2⟩ := c6 k6
    simp only [show (k0 == 6) = true by simpa using k6, cond_true]
    exact Ev.bind g1 (Ev.bind g2 (by simp only [decide_true]; exact Ev.ret _))
  simp only [show (k0 == 6) = false by simpa using k6, cond_false]
  by_cases k7 : k0 = 7
  · obtain ⟨L, g1, g2⟩ := c7 k7
    simp only [show (k0 == 7) = true by simpa using k7, cond_true]
    exact Ev.bind g1 (Ev.bind g2 (by simp only [decide_true]; exact Ev.ret _))
  simp only [show (k0 == 7) = false by simpa using k7, cond_false]
  by_cases k3 : k0 = 3
  · obtain ⟨L, g1, g2⟩ := c3 k3
    simp only [show (k0 == 3) = true by simpa using k3, cond_true]
    exact Ev.bind g1 (Ev.bind g2 (by simp only [decide_true]; exact Ev.ret _))
  simp only [show (k0 == 3) = false by simpa using k3, cond_false]
  by_cases k4 : k0 = 4
  · obtain ⟨L, g1, g2⟩ := c4 k4
    simp only [show (k0 == 4) = true by simpa using k4, cond_true]
    exact Ev.bind g1 (Ev.bind g2 (by simp only [decide_true]; exact Ev.ret _))
  simp only [show (k0 == 4) = false by simpa using k4, cond_false]
  obtain ⟨⟨L, M, g1, g2, g3⟩, g4, g5, g6⟩ := ce k6 k7 k3 k4
  refine Ev.bind g1 (Ev.bind g2 ?_)
  simp only [g3, beq_self_eq_true, cond_true]
  refine Ev.bind g4 ?_
  simp only [show ((([] : List S58).length : Int) == 0) = true from rfl, cond_true]
  refine Ev.bind g5 ?_
  simp only [decide_true, cond_true]
  refine Ev.bind g6 ?_
  simp only [beq_self_eq_true]
  exact Ev.ret _
end Go.Ab
