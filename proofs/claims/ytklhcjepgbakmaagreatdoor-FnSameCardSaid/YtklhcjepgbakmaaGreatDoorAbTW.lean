/- The draw of two values ends. No condition beyond the code's length. -/
import Derived.Test.YtklhcjepgbakmaaGreatDoorAbOA
namespace Go.Ab
open Go.Proofs
set_option linter.unusedVariables false
set_option linter.unusedSimpArgs false
theorem showAll_s {items : List S42} {ls : List (List UInt8)} (hl : ls.length = items.length) (hn : items.length ≤ 2001) (h : ∀ (i : Nat) (y : S42) (l : List UInt8), items[i]? = some y → ls[i]? = some l → Txt y l) (hb : ∀ l ∈ ls, l.length ≤ 2000) :
    ∀ (n i : Nat), items.length - i ≤ n → Ev (fun k => spec_l01ShowAll.l0 k items ((ls.take i).map bs) (i : Int)) (ls.map bs) := by
  have fin : ∀ i : Nat, ¬ i < items.length → Ev (fun k => spec_l01ShowAll.l0 k items ((ls.take i).map bs) (i : Int)) (ls.map bs) := fun i hi => by
    refine Ev.step ?_
    simp only [spec_l01ShowAll.l0, ltn hi, cond_false]
    rw [List.take_of_length_le (by omega)]
    exact Ev.ret _
  intro n
  induction n with
  | zero => intro i h; exact fin i (by omega)
  | succ n ih =>
    intro i h'
    by_cases hi : i < items.length
    case neg => exact fin i hi
    have hil : i < ls.length := by omega
    have s1 := show_s (h i _ _ (List.getElem?_eq_getElem hi) (List.getElem?_eq_getElem hil)) (hb _ (List.getElem_mem hil))
    refine Ev.step ?_
    simp only [spec_l01ShowAll.l0, ltd hi, cond_true, ixg hi, Option.bind_some, wup hi (show items.length ≤ 2000000 by omega)]
    refine Ev.bind s1 ?_
    rw [app_one _ (by simp; omega)]
    have next := ih (i + 1) (by omega)
    rw [List.take_succ_eq_append_getElem hil, List.map_append] at next
    exact next

theorem vt_of {x : S42} {l : List UInt8} (h : Txt x l) (hl : l.length ≤ 2000) (hd : DepLe 5 x) : VT (bs l) := by
  obtain ⟨h1, h2, h3⟩ := both_txt h hl hd
  exact ⟨x, ⟨h1, by rw [bs_size]; exact hl, by simpa [bs] using h⟩, h2, h3⟩
theorem list_two {a b : ByteArray} (ha : ScT a) (hb : ScT b) : ∃ v R : ByteArray, ∃ L : List ByteArray, Ev (fun k => spec_ListOf.f k [a, b]) v ∧ Ev (fun k => spec_ItemsOf.f k v) L ∧ ix L 1 = some R := by
  obtain ⟨la, x, fx, tx⟩ := ha
  obtain ⟨lb, y, fy, ty⟩ := hb
  have sa : a.data.toList.length ≤ 200 := by rw [← size_list]; exact la
  have sb : b.data.toList.length ≤ 200 := by rw [← size_list]; exact lb
  have va : VT a := by have := vt_of tx (by omega) (dep_flat fx); rwa [← bs_of] at this
  have vb : VT b := by have := vt_of ty (by omega) (dep_flat fy); rwa [← bs_of] at this
  have hT : Txt ⟨6, 0, 0, ⟨#[]⟩, [x, y], []⟩ (listT [a, b]) := Txt.list [x, y] [a.data.toList, b.data.toList] rfl (txs_cons tx (txs_cons ty txs_nil))
  have lT : (listT [a, b]).length ≤ 2000 := by simp [listT, parts, joinS]; omega
  have dT : DepLe 5 ⟨6, 0, 0, ⟨#[]⟩, [x, y], []⟩ := fun _ z hz => by
    simp only [List.mem_cons, List.not_mem_nil, or_false] at hz
    rcases hz with rfl | rfl
    · exact dep_flat fx
    · exact dep_flat fy
  have hR : listR [a, b] = bs (listT [a, b]) := by
    unfold listR
    rw [if_pos]
    refine ⟨fun s hs => ?_, vt_of hT lT dT⟩
    simp only [List.mem_cons, List.not_mem_nil, or_false] at hs
    rcases hs with rfl | rfl
    · exact va
    · exact vb
  obtain ⟨R, _, e, h1⟩ := list2s [a, b]
  rw [e (by simp), hR] at h1
  refine ⟨_, bs b.data.toList, [bs a.data.toList, bs b.data.toList], h1, ?_, rfl⟩
  unfold spec_ItemsOf.f
  refine Ev.bind (read_txt hT lT dT) ?_
  simp only [show ((6 : Int) == 6) = true from rfl, cond_true]
  refine Ev.bind (Ev.step ?_) (Ev.ret _)
  simp only [spec_l01ShowAll.f]
  exact showAll_s (items := [x, y]) (ls := [a.data.toList, b.data.toList]) rfl (by simp) (txs_cons tx (txs_cons ty txs_nil)) (fun l hl => by
    simp only [List.mem_cons, List.not_mem_nil, or_false] at hl
    rcases hl with rfl | rfl <;> omega) 2 0 (by simp)
/-- It ends. -/
def Ends {α : Type} (f : Nat → Option α) : Prop := ∃ r, Ev f r
section
variable {α β γ : Type}
theorem Ends.step {f : Nat → Option α} (h : Ends (fun k => f (k + 1))) : Ends f := by
  obtain ⟨r, h⟩ := h; exact ⟨r, h.step⟩
theorem Ends.draw {P : α → Prop} {f : Nat → Option (α × S65)} {g : Nat → α × S65 → Option β} (h : Dr f P) (h' : ∀ a s, P a → SOk s → Ends (fun k => g k (a, s))) : Ends (fun k => (f k).bind (g k)) := by
  obtain ⟨a, s, h1, h2, h3⟩ := h
  obtain ⟨r, g1⟩ := h' a s h2 h3
  exact ⟨r, h1.bind g1⟩
theorem Ends.ev {f : Nat → Option γ} {g : Nat → γ → Option β} {a : γ} (h : Ev f a) (h' : Ends (fun k => g k a)) : Ends (fun k => (f k).bind (g k)) := by
  obtain ⟨r, g1⟩ := h'; exact ⟨r, h.bind g1⟩
theorem Ends.ret (a : α) : Ends (fun _ => some a) := ⟨a, Ev.ret _⟩
theorem Ends.cond {c : Bool} {f g : Nat → Option α} (h1 : c = true → Ends f) (h2 : c = false → Ends g) : Ends (fun k => bif c then f k else g k) := by
  cases c
  · exact h2 rfl
  · exact h1 rfl
theorem Ends.idx {l : List γ} {r : Int} {g : Nat → γ → Option β} (h : 0 ≤ r ∧ r < (l.length : Int)) (h' : ∀ x ∈ l, Ends (fun k => g k x)) : Ends (fun k => (ix l r).bind (g k)) := by
  have e : ix l r = some (l[r.toNat]'(by omega)) := by unfold ix; rw [if_pos h.1, List.getElem?_eq_getElem]
  simp only [e, Option.bind_some]
  exact h' _ (List.getElem_mem _)
end
theorem two_j1 {a b : ByteArray} {s : S65} (hs : SOk s) : Ends (fun k => spec_l01Src_two.j1 k a b s.f0 s.f1 s.f2 s.f3) := by
  refine Ends.step ?_
  simp only [spec_l01Src_two.j1]
  refine Ends.draw (one_ hs (by omega) (by omega)) fun _ s _ hs => Ends.cond (fun _ => ?_) (fun _ => ?_)
  · refine Ends.draw (scalar_ hs) fun x s _ hs => Ends.draw (scalar_ hs) fun y s _ hs => ?_
    obtain ⟨R, _, h1⟩ := map2s ([⟨⟨#[97]⟩, x⟩, ⟨⟨#[98]⟩, y⟩] : List S58)
    refine Ends.ev h1 (Ends.draw (n_ hs (by omega) (by omega)) fun r s hr hs => Ends.idx hr fun nm _ => Ends.draw (scalar_ hs) fun z s _ hs => ?_)
    obtain ⟨R2, _, h2⟩ := map2s ([⟨⟨#[97]⟩, x⟩, ⟨nm, z⟩] : List S58)
    refine Ends.ev h2 (Ends.draw (one_ hs (by omega) (by omega)) fun _ s _ hs => Ends.cond (fun _ => ?_) (fun _ => Ends.ret _))
    exact Ends.draw (any_ hs) fun _ _ _ _ => Ends.ret _
  · refine Ends.draw (one_ hs (by omega) (by omega)) fun _ s _ hs => Ends.cond (fun _ => ?_) (fun _ => Ends.ret _)
    exact Ends.draw (any_ hs) fun _ _ _ _ => Ends.ret _
theorem two_j0 {v1 : ByteArray × S65} {b : ByteArray} {v3 : Bool × S65} (hs : SOk v3.2) : Ends (fun k => spec_l01Src_two.j0 k v1 b v3) := by
  refine Ends.step ?_
  simp only [spec_l01Src_two.j0]
  refine Ends.draw (one_ hs (by omega) (by omega)) fun _ s _ hs => Ends.cond (fun _ => ?_) (fun _ => two_j1 hs)
  refine Ends.draw (scalar_ hs) fun x s hx hs => Ends.draw (scalar_ hs) fun y s hy hs => ?_
  obtain ⟨v, R, L, h1, h2, h3⟩ := list_two hx hy
  refine Ends.ev h1 (Ends.draw (scalar_ hs) fun z s hz hs => Ends.ev h2 ?_)
  simp only [h3, Option.bind_some]
  obtain ⟨R2, _, _, h4⟩ := list2s [z, R]
  exact Ends.ev h4 (two_j1 hs)
theorem two_draw {s : S65} (hs : SOk s) : Ends (fun k => spec_l01Src_two.f k s) := by
  refine Ends.step ?_
  simp only [spec_l01Src_two.f]
  exact Ends.draw (value2_ hs) fun _ s _ hs => Ends.draw (value2_ hs) fun _ s _ hs => Ends.draw (one_ hs (by omega) (by omega)) fun _ s _ hs => Ends.cond (fun _ => two_j0 hs) (fun _ => two_j0 hs)
theorem two_pass {code : List Int} (h : code.length ≤ 1048576) : ∃ a b : ByteArray, Ev (fun k => (spec_l01Source.f k code).bind fun v1 => (spec_l01Src_two.f k (⟨v1.1, v1.2.1, v1.2.2.1, v1.2.2.2⟩ : S65)).bind fun v2 => some (v2.1, v2.2.1)) (a, b) := by
  obtain ⟨m, z, h1⟩ := source_ h
  obtain ⟨⟨a, b, s⟩, h2⟩ := two_draw (s := ⟨code, 0, m, z⟩) ⟨h, Int.le_refl _, Int.natCast_nonneg _⟩
  exact ⟨a, b, h1.bind (h2.bind (Ev.ret _))⟩
/-! What the program's comparing tells of two texts -/
end Go.Ab
