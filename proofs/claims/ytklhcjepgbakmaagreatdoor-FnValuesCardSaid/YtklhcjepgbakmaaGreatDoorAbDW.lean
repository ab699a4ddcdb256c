/- The draws of values end, and what scalars they draw. No condition beyond the code's length. -/
import Derived.Test.YtklhcjepgbakmaaGreatDoorAbRC
namespace Go.Ab
open Go.Proofs
set_option linter.unusedVariables false
set_option linter.unusedSimpArgs false
theorem wrapu_def (n : Int) : IntKind.u64.wrap n = n % 18446744073709551616 := by
  have : IntKind.u64.wrap n = if (false && decide (n % 18446744073709551616 ≥ 9223372036854775808)) = true then n % 18446744073709551616 - 18446744073709551616 else n % 18446744073709551616 := rfl
  rw [this]; simp
/-- A source of draws. -/
def SOk (s : S65) : Prop := s.f0.length ≤ 1048576 ∧ 0 ≤ s.f1 ∧ s.f1 ≤ (s.f0.length : Int)
/-- A draw ends, with what is said of it. -/
def Dr {α : Type} (f : Nat → Option (α × S65)) (P : α → Prop) : Prop := ∃ a s, Ev f (a, s) ∧ P a ∧ SOk s
section
variable {α β : Type} {P : α → Prop} {Q : β → Prop}
theorem Dr.step {f : Nat → Option (α × S65)} (h : Dr (fun k => f (k + 1)) P) : Dr f P := by
  obtain ⟨a, s, h1, h2⟩ := h; exact ⟨a, s, h1.step, h2⟩
theorem Dr.bind {f : Nat → Option (α × S65)} {g : Nat → α × S65 → Option (β × S65)} (h : Dr f P) (h' : ∀ a s, P a → SOk s → Dr (fun k => g k (a, s)) Q) : Dr (fun k => (f k).bind (g k)) Q := by
  obtain ⟨a, s, h1, h2, h3⟩ := h
  obtain ⟨b, s', g1, g2⟩ := h' a s h2 h3
  exact ⟨b, s', h1.bind g1, g2⟩
theorem Dr.ev {γ : Type} {f : Nat → Option γ} {g : Nat → γ → Option (β × S65)} {a : γ} (h : Ev f a) (h' : Dr (fun k => g k a) Q) : Dr (fun k => (f k).bind (g k)) Q := by
  obtain ⟨b, s', g1, g2⟩ := h'
  exact ⟨b, s', h.bind g1, g2⟩
theorem Dr.ret {a : α} {s : S65} (hp : P a) (hs : SOk s) : Dr (fun _ => some (a, s)) P := ⟨a, s, Ev.ret _, hp, hs⟩
theorem Dr.cond {c : Bool} {f g : Nat → Option (α × S65)} (h1 : c = true → Dr f P) (h2 : c = false → Dr g P) : Dr (fun k => bif c then f k else g k) P := by
  cases c
  · exact h2 rfl
  · exact h1 rfl
theorem Dr.mono {f : Nat → Option (α × S65)} {P' : α → Prop} (h : Dr f P) (g : ∀ a, P a → P' a) : Dr f P' := by
  obtain ⟨a, s, h1, h2, h3⟩ := h; exact ⟨a, s, h1, g a h2, h3⟩
theorem Dr.idx {γ : Type} {l : List γ} {r : Int} {g : Nat → γ → Option (β × S65)} (h : 0 ≤ r ∧ r < (l.length : Int)) (h' : ∀ x ∈ l, Dr (fun k => g k x) Q) : Dr (fun k => (ix l r).bind (g k)) Q := by
  have e : ix l r = some (l[r.toNat]'(by omega)) := by unfold ix; rw [if_pos h.1, List.getElem?_eq_getElem]
  simp only [e, Option.bind_some]
  exact h' _ (List.getElem_mem _)
end
def In (m : Int) (r : Int) : Prop := 0 ≤ r ∧ r < m
theorem n_j0 {s : S65} {m v at' : Int} (hs : s.f0.length ≤ 1048576) (ha : 0 ≤ at' ∧ at' ≤ (s.f0.length : Int)) (h1 : 1 < m) (h2 : m ≤ 1099511627776) : Dr (fun k => spec_l01Src_n.j0 k m v s at') (In m) := by
  refine Dr.step ?_
  have hw : IntKind.u64.wrap m = m := by rw [wrapu_def]; omega
  have e1 : ∀ x : Int, rem (IntKind.u64.wrap x) m = some (IntKind.u64.wrap x % m) := fun x => by
    unfold rem
    rw [if_neg (by omega), Int.tmod_eq_emod_of_nonneg (by rw [wrapu_def]; omega)]
  simp only [spec_l01Src_n.j0, bshl, bshr, show ¬ ((13 : Int) < 0) by decide, show ¬ ((7 : Int) < 0) by decide, show ¬ ((17 : Int) < 0) by decide, show ¬ ((20 : Int) < 0) by decide, if_false, Option.bind_some, hw, e1]
  refine Dr.ret ?_ ⟨hs, ha⟩
  rw [w64 (by have := Int.emod_nonneg (IntKind.u64.wrap (v + (bxor .u64 (bxor .u64 (bxor .u64 s.f2 (IntKind.u64.wrap (s.f2 * 2 ^ min (Int.toNat 13) IntKind.u64.bits))) ((bxor .u64 s.f2 (IntKind.u64.wrap (s.f2 * 2 ^ min (Int.toNat 13) IntKind.u64.bits))).fdiv (2 ^ min (Int.toNat 7) IntKind.u64.bits))) (IntKind.u64.wrap (bxor .u64 (bxor .u64 s.f2 (IntKind.u64.wrap (s.f2 * 2 ^ min (Int.toNat 13) IntKind.u64.bits))) ((bxor .u64 s.f2 (IntKind.u64.wrap (s.f2 * 2 ^ min (Int.toNat 13) IntKind.u64.bits))).fdiv (2 ^ min (Int.toNat 7) IntKind.u64.bits)) * 2 ^ min (Int.toNat 17) IntKind.u64.bits))).fdiv (2 ^ min (Int.toNat 20) IntKind.u64.bits))) (b := m) (by omega); omega) (by have := Int.emod_lt_of_pos (IntKind.u64.wrap (v + (bxor .u64 (bxor .u64 (bxor .u64 s.f2 (IntKind.u64.wrap (s.f2 * 2 ^ min (Int.toNat 13) IntKind.u64.bits))) ((bxor .u64 s.f2 (IntKind.u64.wrap (s.f2 * 2 ^ min (Int.toNat 13) IntKind.u64.bits))).fdiv (2 ^ min (Int.toNat 7) IntKind.u64.bits))) (IntKind.u64.wrap (bxor .u64 (bxor .u64 s.f2 (IntKind.u64.wrap (s.f2 * 2 ^ min (Int.toNat 13) IntKind.u64.bits))) ((bxor .u64 s.f2 (IntKind.u64.wrap (s.f2 * 2 ^ min (Int.toNat 13) IntKind.u64.bits))).fdiv (2 ^ min (Int.toNat 7) IntKind.u64.bits)) * 2 ^ min (Int.toNat 17) IntKind.u64.bits))).fdiv (2 ^ min (Int.toNat 20) IntKind.u64.bits))) (b := m) (by omega); omega)]
  exact ⟨Int.emod_nonneg _ (by omega), Int.emod_lt_of_pos _ (by omega)⟩
theorem n_ {s : S65} {m : Int} (hs : SOk s) (h1 : 1 ≤ m) (h2 : m ≤ 1099511627776) : Dr (fun k => spec_l01Src_n.f k m s) (In m) := by
  refine Dr.step ?_
  simp only [spec_l01Src_n.f]
  refine Dr.cond (fun h => Dr.ret ⟨by omega, by omega⟩ hs) (fun h => ?_)
  have hm : 1 < m := by simpa using h
  refine Dr.cond (fun h => ?_) (fun h => n_j0 hs.1 hs.2 hm h2)
  have hlt : s.f1 < (s.f0.length : Int) := by simpa using h
  have ha := hs.2.1
  refine Dr.idx ⟨ha, hlt⟩ fun x _ => ?_
  have hl := hs.1
  rw [w64 (by omega) (by omega)]
  exact n_j0 hs.1 ⟨by omega, by omega⟩ hm h2
theorem one_ {s : S65} {m : Int} (hs : SOk s) (h1 : 1 ≤ m) (h2 : m ≤ 1099511627776) : Dr (fun k => spec_l01Src_one.f k m s) (fun _ => True) := by
  unfold spec_l01Src_one.f
  exact Dr.bind (n_ hs h1 h2) fun a s' _ hs' => Dr.ret trivial hs'
/-! Dates by number -/
theorem year_of {n : Int} (h0 : 0 ≤ n) : ∀ Y : Nat, 1 ≤ Y → n < dys ((Y : Int) + 1) → ∃ y : Nat, 1 ≤ y ∧ y ≤ Y ∧ dys y ≤ n ∧ n < dys ((y : Int) + 1)
 | 0, h, _ => by omega
 | 1, _, h => ⟨1, by omega, by omega, by rw [show dys ((1 : Nat) : Int) = 0 by decide]; exact h0, h⟩
 | Y + 2, _, h => by
   by_cases g : dys ((Y + 2 : Nat) : Int) ≤ n
   · exact ⟨Y + 2, by omega, by omega, g, h⟩
   · obtain ⟨y, h1, h2, h3⟩ := year_of h0 (Y + 1) (by omega) (by rw [show (((Y + 1 : Nat) : Int) + 1) = ((Y + 2 : Nat) : Int) by omega]; omega)
     exact ⟨y, h1, by omega, h3⟩
theorem month_of (y : Int) {r : Int} (h0 : 0 ≤ r) : ∀ M : Nat, r < msum y 1 M → ∃ m : Nat, 1 ≤ m ∧ m ≤ M ∧ msum y 1 (m - 1) ≤ r ∧ r < msum y 1 (m - 1) + mon y m
 | 0, h => by simp only [msum] at h; omega
 | M + 1, h => by
   by_cases g : msum y 1 M ≤ r
   · refine ⟨M + 1, by omega, by omega, g, ?_⟩
     have := msum_add y M 1 1
     rw [this] at h
     simp only [msum] at h
     rw [show M + 1 - 1 = M by omega, show ((M + 1 : Nat) : Int) = ((1 + M : Nat) : Int) by omega]
     omega
   · obtain ⟨m, h1, h2, h3⟩ := month_of y h0 M (by omega)
     exact ⟨m, h1, by omega, h3⟩
theorem dateT_of {n : Int} (h0 : 0 ≤ n) (h : n < dys 10000) : ∃ l, DateT n l := by
  obtain ⟨y, y1, y2, y3, y4⟩ := year_of h0 9999 (by omega) h
  have hn := dys_next y y1
  have hy := msum_year (y : Int)
  rw [hn, ← hy] at y4
  obtain ⟨m, m1, m2, m3, m4⟩ := month_of (y : Int) (r := n - dys y) (by omega) 12 (by omega)
  exact ⟨_, y, m, (n - dys y - msum y 1 (m - 1) + 1).toNat, y1, by omega, m1, m2, by omega, by omega, by omega, rfl⟩
/-! Scalars -/
/-- A drawn scalar: a value without parts that are lists or maps. -/
def ScT (t : ByteArray) : Prop := t.size ≤ 200 ∧ ∃ x, Fl x ∧ Txt x t.data.toList
theorem sct {x : S42} {l : List UInt8} (h : Txt x l) (hf : Fl x) (hl : l.length ≤ 200) : ScT (bs l) := ⟨by rw [bs_size]; exact hl, x, hf, h⟩
theorem txs_nil : ∀ (i : Nat) (x : S42) (l : List UInt8), ([] : List S42)[i]? = some x → ([] : List (List UInt8))[i]? = some l → Txt x l := fun i x l h _ => by simp at h
theorem txs_cons {y : S42} {m : List UInt8} {items : List S42} {ls : List (List UInt8)} (hy : Txt y m) (h : ∀ (i : Nat) (x : S42) (l : List UInt8), items[i]? = some x → ls[i]? = some l → Txt x l) : ∀ (i : Nat) (x : S42) (l : List UInt8), (y :: items)[i]? = some x → (m :: ls)[i]? = some l → Txt x l
 | 0, x, l, h1, h2 => by simp at h1 h2; subst h1; subst h2; exact hy
 | i + 1, x, l, h1, h2 => h i x l (by simpa using h1) (by simpa using h2)
theorem itoa_dig {n : Nat} (h : n < 10) : Lib.itoa (n : Int) = [UInt8.ofNat (48 + n)] := by
  rw [itoa_nn (by omega), Int.toNat_natCast, Lib.decDigits, dif_pos h]
theorem node1 {n : Nat} (h : n < 10) (h0 : 1 ≤ n) : Txt ⟨8, n, 0, ⟨#[]⟩, [], []⟩ [110, UInt8.ofNat (48 + n)] := by
  have := Txt.thing 8 110 (n : Int) (.inl ⟨rfl, rfl⟩) (by omega)
  rwa [itoa_dig h] at this
theorem edge1 {n : Nat} (h : n < 10) (h0 : 1 ≤ n) : Txt ⟨9, n, 0, ⟨#[]⟩, [], []⟩ [101, UInt8.ofNat (48 + n)] := by
  have := Txt.thing 9 101 (n : Int) (.inr ⟨rfl, rfl⟩) (by omega)
  rwa [itoa_dig h] at this
def nd (n : Int) : S42 := ⟨8, n, 0, ⟨#[]⟩, [], []⟩
def ed (n : Int) : S42 := ⟨9, n, 0, ⟨#[]⟩, [], []⟩
theorem want_all {items : List S42} (h : ∀ i, i < items.length → (items[i]?.map (·.f0)) = some (want i)) : ∀ (i : Nat) (x : S42), items[i]? = some x → x.f0 = want i := fun i x hx => by
  have hi := (List.getElem?_eq_some_iff.1 hx).1
  have := h i hi
  rw [hx] at this
  simpa using this
theorem things_ : ∀ t ∈ ([(⟨#[110, 49]⟩ : ByteArray), (⟨#[110, 50]⟩ : ByteArray), (⟨#[110, 49, 50]⟩ : ByteArray), (⟨#[101, 49]⟩ : ByteArray), (⟨#[101, 51]⟩ : ByteArray), (⟨#[60, 110, 49, 62]⟩ : ByteArray), (⟨#[60, 110, 49, 32, 101, 50, 32, 110, 51, 62]⟩ : ByteArray), (⟨#[60, 110, 49, 32, 101, 50, 32, 110, 51, 32, 101, 50, 32, 110, 49, 62]⟩ : ByteArray)] : List ByteArray), ScT t := by
  intro t ht
  simp only [List.mem_cons, List.not_mem_nil, or_false] at ht
  have p1 : Txt ⟨10, 0, 0, ⟨#[]⟩, [nd 1], []⟩ [60, 110, 49, 62] := Txt.path [nd 1] [[110, 49]] rfl (txs_cons (node1 (n := 1) (by omega) (by omega)) txs_nil) ⟨want_all (fun i hi => by match i, hi with | 0, _ => rfl), rfl⟩
  have p3 : Txt ⟨10, 0, 0, ⟨#[]⟩, [nd 1, ed 2, nd 3], []⟩ [60, 110, 49, 32, 101, 50, 32, 110, 51, 62] := Txt.path [nd 1, ed 2, nd 3] [[110, 49], [101, 50], [110, 51]] rfl (txs_cons (node1 (n := 1) (by omega) (by omega)) (txs_cons (edge1 (n := 2) (by omega) (by omega)) (txs_cons (node1 (n := 3) (by omega) (by omega)) txs_nil))) ⟨want_all (fun i hi => by match i, hi with | 0, _ => rfl | 1, _ => rfl | 2, _ => rfl), rfl⟩
  have p5 : Txt ⟨10, 0, 0, ⟨#[]⟩, [nd 1, ed 2, nd 3, ed 2, nd 1], []⟩ [60, 110, 49, 32, 101, 50, 32, 110, 51, 32, 101, 50, 32, 110, 49, 62] := Txt.path [nd 1, ed 2, nd 3, ed 2, nd 1] [[110, 49], [101, 50], [110, 51], [101, 50], [110, 49]] rfl (txs_cons (node1 (n := 1) (by omega) (by omega)) (txs_cons (edge1 (n := 2) (by omega) (by omega)) (txs_cons (node1 (n := 3) (by omega) (by omega)) (txs_cons (edge1 (n := 2) (by omega) (by omega)) (txs_cons (node1 (n := 1) (by omega) (by omega)) txs_nil))))) ⟨want_all (fun i hi => by match i, hi with | 0, _ => rfl | 1, _ => rfl | 2, _ => rfl | 3, _ => rfl | 4, _ => rfl), rfl⟩
  have n12 : Txt ⟨8, 12, 0, ⟨#[]⟩, [], []⟩ [110, 49, 50] := by
    have := Txt.thing 8 110 12 (.inl ⟨rfl, rfl⟩) (by omega)
    rw [itoa_nn (by omega), show (12 : Int).toNat = 12 from rfl, dec_big (by omega), show 12 / 10 = 1 from rfl, Lib.decDigits, dif_pos (by omega)] at this
    exact this
  rcases ht with rfl | rfl | rfl | rfl | rfl | rfl | rfl | rfl
  · exact sct (node1 (n := 1) (by omega) (by omega)) (fl_of rfl (by simp)) (by decide)
  · exact sct (node1 (n := 2) (by omega) (by omega)) (fl_of rfl (by simp)) (by decide)
  · exact sct n12 (fl_of rfl (by simp)) (by decide)
  · exact sct (edge1 (n := 1) (by omega) (by omega)) (fl_of rfl (by simp)) (by decide)
  · exact sct (edge1 (n := 3) (by omega) (by omega)) (fl_of rfl (by simp)) (by decide)
  · exact sct p1 (fl_of rfl (by simp)) (by decide)
  · exact sct p3 (fl_of rfl (by simp)) (by decide)
  · exact sct p5 (fl_of rfl (by simp)) (by decide)
theorem texts_ : ∀ t ∈ ([(⟨#[97]⟩ : ByteArray), (⟨#[98]⟩ : ByteArray), (⟨#[97, 98]⟩ : ByteArray), (⟨#[]⟩ : ByteArray), (⟨#[97, 32, 98]⟩ : ByteArray), (⟨#[120, 34, 121]⟩ : ByteArray), (⟨#[92]⟩ : ByteArray), (⟨#[122, 10]⟩ : ByteArray), (⟨#[195, 169]⟩ : ByteArray), (⟨#[97, 98, 99, 32, 100, 101, 102, 32, 97, 98]⟩ : ByteArray)] : List ByteArray), ∃ R, Ev (fun k => spec_l01Quote.f k t) R ∧ ScT R := by
  intro t ht
  have main : ∀ s : List UInt8, s.length ≤ 20 → (∀ c ∈ s, c = 10 ∨ 32 ≤ c.toNat) → (esc s).length ≤ 40 → ∃ R, Ev (fun k => spec_l01Quote.f k (bs s)) R ∧ ScT R := fun s hl hc he => by
    have := squote (s := bs s) (by rw [bs_size]; omega)
    rw [quoted_esc] at this
    exact ⟨_, this, sct (.text s hc) (fl_of rfl (by simp)) (by simp; omega)⟩
  simp only [List.mem_cons, List.not_mem_nil, or_false] at ht
  rcases ht with rfl | rfl | rfl | rfl | rfl | rfl | rfl | rfl | rfl | rfl
  · exact main [97] (by decide) (by decide) (by decide)
  · exact main [98] (by decide) (by decide) (by decide)
  · exact main [97, 98] (by decide) (by decide) (by decide)
  · exact main [] (by decide) (by decide) (by decide)
  · exact main [97, 32, 98] (by decide) (by decide) (by decide)
  · exact main [120, 34, 121] (by decide) (by decide) (by decide)
  · exact main [92] (by decide) (by decide) (by decide)
  · exact main [122, 10] (by decide) (by decide) (by decide)
  · exact main [195, 169] (by decide) (by decide) (by decide)
  · exact main [97, 98, 99, 32, 100, 101, 102, 32, 97, 98] (by decide) (by decide) (by decide)
theorem scalar_j1 {v1 : Int × S65} (hs : SOk v1.2) (b : Bool) : Dr (fun k => spec_l01Src_scalar.j1 k v1 b) ScT := by
  refine Dr.step ?_
  simp only [spec_l01Src_scalar.j1]
  refine Dr.cond (fun _ => ?_) (fun _ => ?_)
  · refine Dr.bind (n_ hs (by omega) (by omega)) fun r s hr hs => ?_
    refine Dr.idx hr fun x hx => ?_
    obtain ⟨R, h1, h2⟩ := texts_ x hx
    exact Dr.ev h1 (Dr.ret h2 hs)
  refine Dr.cond (fun _ => ?_) (fun _ => ?_)
  · refine Dr.bind (n_ hs (by omega) (by omega)) fun r s hr hs => ?_
    simp only [days_s _ (y := 10000) (by omega) (by omega), Option.bind_some]
    refine Dr.bind (n_ hs (by omega) (by omega)) fun r2 s hr2 hs => ?_
    refine Dr.idx hr2 fun x hx => ?_
    have hd : dys 10000 = 3652059 := by decide
    have h0 := hr.1
    have h1 := hr.2
    have hx2 : 0 ≤ x ∧ x < dys 10000 := by
      rw [hd] at hx ⊢
      rw [w64 (n := 730484 + r) (by omega) (by omega), w64 (n := 3652059 - 1) (by omega) (by omega)] at hx
      simp only [List.mem_cons, List.not_mem_nil, or_false] at hx
      omega
    obtain ⟨l, hl⟩ := dateT_of hx2.1 hx2.2
    refine Dr.ev (date_oks hl) (Dr.ret (sct (.date x l hl) (fl_of rfl (by simp)) ?_) hs)
    obtain ⟨y, m, d, _, _, _, _, _, _, _, e⟩ := hl
    rw [e]; simp [pad_len]
  refine Dr.cond (fun _ => ?_) (fun _ => ?_)
  · refine Dr.bind (n_ hs (by omega) (by omega)) fun a s ha hs => ?_
    have a0 := ha.1
    have a1 := ha.2
    have wa : IntKind.i64.wrap (a - 4) = a - 4 := w64 (by omega) (by omega)
    have la := itoa_len (v := a - 4) (by omega) (by omega)
    simp only [wa]
    refine Dr.ev (dec_ (by omega) (by omega)) ?_
    rw [show (⟨#[40]⟩ : ByteArray) = bs [40] from rfl, show (⟨#[32]⟩ : ByteArray) = bs [32] from rfl, show (⟨#[41]⟩ : ByteArray) = bs [41] from rfl]
    simp only [catl (a := [40]) (b := Lib.itoa (a - 4)) (by simp; omega), catl (a := [40] ++ Lib.itoa (a - 4)) (b := [32]) (by simp; omega), Option.bind_some]
    refine Dr.bind (n_ hs (by omega) (by omega)) fun b s hb hs => ?_
    have b0 := hb.1
    have b1 := hb.2
    have wb : IntKind.i64.wrap (b - 4) = b - 4 := w64 (by omega) (by omega)
    have lb := itoa_len (v := b - 4) (by omega) (by omega)
    simp only [wb]
    refine Dr.ev (dec_ (by omega) (by omega)) ?_
    simp only [catl (a := [40] ++ Lib.itoa (a - 4) ++ [32]) (b := Lib.itoa (b - 4)) (by simp; omega), catl (a := [40] ++ Lib.itoa (a - 4) ++ [32] ++ Lib.itoa (b - 4)) (b := [41]) (by simp; omega), Option.bind_some]
    refine Dr.ret ?_ hs
    rw [show [40] ++ Lib.itoa (a - 4) ++ [32] ++ Lib.itoa (b - 4) ++ [41] = 40 :: (Lib.itoa (a - 4) ++ 32 :: (Lib.itoa (b - 4) ++ [41])) by simp]
    exact sct (.point (a - 4) (b - 4) (by omega) (by omega)) (fl_of rfl (by simp)) (by simp; omega)
  · refine Dr.bind (n_ hs (by omega) (by omega)) fun r s hr hs => ?_
    exact Dr.idx hr fun x hx => Dr.ret (things_ x hx) hs
theorem scalar_j0 {v1 : Int × S65} (hs : SOk v1.2) (b : Bool) : Dr (fun k => spec_l01Src_scalar.j0 k v1 b) ScT := by
  refine Dr.step ?_
  simp only [spec_l01Src_scalar.j0]
  refine Dr.cond (fun _ => ?_) (fun _ => Dr.cond (fun _ => scalar_j1 hs _) (fun _ => scalar_j1 hs _))
  refine Dr.bind (n_ hs (by omega) (by omega)) fun a s ha hs => ?_
  refine Dr.bind (n_ hs (by omega) (by omega)) fun b s hb hs => ?_
  refine Dr.bind (n_ hs (by omega) (by omega)) fun c s hc hs => ?_
  refine Dr.bind (n_ hs (by omega) (by omega)) fun r s hr hs => ?_
  refine Dr.idx hr fun x hx => ?_
  have a0 := ha.1
  have a1 := ha.2
  have b0 := hb.1
  have b1 := hb.2
  have c0 := hc.1
  have c1 := hc.2
  have hx2 : -9223372036854775808 ≤ x ∧ x ≤ 9223372036854775807 := by
    rw [w64 (n := c - 50) (by omega) (by omega)] at hx
    simp only [List.mem_cons, List.not_mem_nil, or_false] at hx
    omega
  refine Dr.ev (dec_ hx2.1 hx2.2) (Dr.ret (sct (.num x hx2) (fl_of rfl (by simp)) ?_) hs)
  have := itoa_len hx2.1 hx2.2
  omega
theorem scalar_ {s : S65} (hs : SOk s) : Dr (fun k => spec_l01Src_scalar.f k s) ScT := by
  refine Dr.step ?_
  simp only [spec_l01Src_scalar.f]
  refine Dr.bind (n_ hs (by omega) (by omega)) fun r s hr hs => ?_
  refine Dr.cond (fun _ => Dr.ret (sct .null (fl_of rfl (by simp)) (by decide)) hs) (fun _ => ?_)
  refine Dr.cond (fun _ => ?_) (fun _ => Dr.cond (fun _ => scalar_j0 hs _) (fun _ => scalar_j0 hs _))
  refine Dr.bind (n_ hs (by omega) (by omega)) fun r2 s hr2 hs => ?_
  refine Dr.idx hr2 fun x hx => Dr.ret ?_ hs
  simp only [List.mem_cons, List.not_mem_nil, or_false] at hx
  rcases hx with rfl | rfl
  · exact sct .tru (fl_of rfl (by simp)) (by decide)
  · exact sct .fls (fl_of rfl (by simp)) (by decide)
/-! Values with parts, and others -/
def Sm (t : ByteArray) : Prop := t.size ≤ 5000
theorem value_draw : ∀ (d : Nat), d ≤ 2 → ∀ s : S65, SOk s → Dr (fun k => spec_l01Src_value.f k (d : Int) s) Sm := by
  intro d
  induction d with
  | zero =>
    intro _ s hs
    refine Dr.step ?_
    simp only [spec_l01Src_value.f, show (((0 : Nat) : Int) == 0) = true from rfl, cond_true]
    exact Dr.bind (scalar_ hs) fun a s ha hs => Dr.ret (Nat.le_trans ha.1 (by decide)) hs
  | succ d ih =>
    intro hd s hs
    have wd : IntKind.i64.wrap (((d + 1 : Nat) : Int) - 1) = (d : Int) := by rw [w64 (by omega) (by omega)]; omega
    have l0 : ∀ (n : Nat) (l : List ByteArray) (s : S65), n ≤ 3 → l.length + n ≤ 100 → SOk s → Dr (fun k => spec_l01Src_value.l0 k ((d + 1 : Nat) : Int) l (n : Int) s.f0 s.f1 s.f2 s.f3) Sm := by
      intro n
      induction n with
      | zero =>
        intro l s hn hl hs
        refine Dr.step ?_
        simp only [spec_l01Src_value.l0, show decide ((0 : Int) < ((0 : Nat) : Int)) = false from rfl, cond_false]
        obtain ⟨R, h1, _, h2⟩ := list2s l
        exact Dr.ev h2 (Dr.ret (Nat.le_trans h1 (by decide)) hs)
      | succ n ihn =>
        intro l s hn hl hs
        refine Dr.step ?_
        simp only [spec_l01Src_value.l0, show decide ((0 : Int) < ((n + 1 : Nat) : Int)) = true by simp, cond_true, wd]
        refine Dr.bind (ih (by omega) s hs) fun a s ha hs => ?_
        simp only [app_one (l := l) a (by omega), Option.bind_some, show IntKind.i64.wrap (((n + 1 : Nat) : Int) - 1) = (n : Int) by rw [w64 (by omega) (by omega)]; omega]
        exact ihn (l ++ [a]) s (by omega) (by simp; omega) hs
    have l1 : ∀ (n i : Nat) (l : List S58) (s : S65), 4 - i ≤ n → i ≤ 4 → l.length ≤ i → SOk s → Dr (fun k => spec_l01Src_value.l1 k ((d + 1 : Nat) : Int) l (i : Int) s.f0 s.f1 s.f2 s.f3) Sm := by
      intro n
      induction n with
      | zero =>
        intro i l s hn hi hl hs
        refine Dr.step ?_
        simp only [spec_l01Src_value.l1, show decide ((i : Int) < 4) = false by simp; omega, cond_false]
        obtain ⟨R, h1, h2⟩ := map2s l
        exact Dr.ev h2 (Dr.ret (Nat.le_trans h1 (by decide)) hs)
      | succ n ihn =>
        intro i l s hn hi hl hs
        refine Dr.step ?_
        by_cases h4 : i < 4
        · simp only [spec_l01Src_value.l1, show decide ((i : Int) < 4) = true by simp; omega, cond_true, w1 (i := i) (by omega), wd]
          refine Dr.bind (one_ hs (by omega) (by omega)) fun b s _ hs => ?_
          refine Dr.cond (fun _ => ?_) (fun _ => ihn (i + 1) l s (by omega) (by omega) (by omega) hs)
          refine Dr.idx ⟨by omega, by simp; omega⟩ fun x _ => ?_
          refine Dr.bind (ih (by omega) s hs) fun a s ha hs => ?_
          simp only [app_one (l := l) (⟨x, a⟩ : S58) (by omega), Option.bind_some]
          exact ihn (i + 1) _ s (by omega) (by omega) (by simp; omega) hs
        · simp only [spec_l01Src_value.l1, show decide ((i : Int) < 4) = false by simp; omega, cond_false]
          obtain ⟨R, h1, h2⟩ := map2s l
          exact Dr.ev h2 (Dr.ret (Nat.le_trans h1 (by decide)) hs)
    have sc : ∀ s : S65, SOk s → Dr (fun k => (spec_l01Src_scalar.f k s).bind fun v3 => (some (v3.1, v3.2))) Sm := fun s hs => Dr.bind (scalar_ hs) fun a s ha hs => Dr.ret (Nat.le_trans ha.1 (by decide)) hs
    refine Dr.step ?_
    simp only [spec_l01Src_value.f, show (((d + 1 : Nat) : Int) == 0) = false by simp; omega, cond_false]
    refine Dr.bind (one_ hs (by omega) (by omega)) fun b s _ hs => ?_
    refine Dr.cond (fun _ => sc s hs) (fun _ => ?_)
    refine Dr.bind (one_ hs (by omega) (by omega)) fun b s _ hs => ?_
    refine Dr.cond (fun _ => ?_) (fun _ => l1 4 0 [] s (by omega) (by omega) (by simp) hs)
    refine Dr.bind (n_ hs (by omega) (by omega)) fun r s hr hs => ?_
    have := l0 r.toNat [] s (by have := hr.2; omega) (by have := hr.2; simp; omega) hs
    rw [show ((r.toNat : Nat) : Int) = r by have := hr.1; omega] at this
    exact this
theorem value2_ {s : S65} (hs : SOk s) : Dr (fun k => spec_l01Src_value.f k 2 s) Sm := value_draw 2 (by omega) s hs
theorem sub_ok {t : ByteArray} {a b : Int} (h : 0 ≤ a ∧ a ≤ b ∧ b ≤ (t.size : Int)) : ∃ r : ByteArray, sub t a b = some r ∧ r.size ≤ t.size := by
  refine ⟨t.extract a.toNat b.toNat, by unfold sub; rw [if_pos h], ?_⟩
  rw [ByteArray.size_extract]; omega
theorem cat_ok {a b : ByteArray} (h : a.size + b.size ≤ 1000000) : cat a b = some (a ++ b) ∧ (a ++ b).size = a.size + b.size := ⟨by unfold cat; rw [if_pos (by omega)], ByteArray.size_append⟩
theorem bstr1 (x : Int) : (bstr [x]).size = 1 := rfl
theorem spoil_ {t : ByteArray} {s : S65} (ht : t.size ≤ 5000) (hs : SOk s) : Dr (fun k => spec_l01Src_spoil.f k t s) (fun r => r.size ≤ 20000) := by
  unfold spec_l01Src_spoil.f
  have hw : IntKind.i64.wrap ((t.size : Int) + 1) = (t.size : Int) + 1 := w64 (by omega) (by omega)
  rw [hw]
  refine Dr.bind (n_ hs (by omega) (by omega)) fun p s hp hs => ?_
  refine Dr.bind (n_ hs (by omega) (by omega)) fun q s hq hs => ?_
  have p0 := hp.1
  have p1 := hp.2
  obtain ⟨c, hc⟩ : ∃ c, bix (⟨#[32, 10, 48, 97, 45, 110, 44, 58, 93, 255, 40, 64, 34, 49]⟩ : ByteArray) q = some c := by
    unfold bix
    rw [if_pos hq.1]
    have h1 := hq.1
    have h2 := hq.2
    rw [Array.getElem?_eq_getElem (show q.toNat < (#[32, 10, 48, 97, 45, 110, 44, 58, 93, 255, 40, 64, 34, 49] : Array UInt8).size by show q.toNat < 14; omega)]
    exact ⟨_, rfl⟩
  simp only [hc, Option.bind_some]
  obtain ⟨x, hx, lx⟩ := sub_ok (t := t) (a := 0) (b := p) ⟨by omega, by omega, by omega⟩
  obtain ⟨y, hy, ly⟩ := sub_ok (t := t) (a := p) (b := t.size) ⟨by omega, by omega, by omega⟩
  have c1 := cat_ok (a := x) (b := bstr [c]) (by rw [bstr1]; omega)
  have e1 := c1.2
  rw [bstr1] at e1
  have c2 := cat_ok (a := x ++ bstr [c]) (b := y) (by omega)
  refine Dr.cond (fun _ => ?_) (fun hne => ?_)
  · simp only [hx, hy, c1.1, c2.1, Option.bind_some]
    exact Dr.ret (by have := c2.2; omega) hs
  · have hp2 : p ≠ (t.size : Int) := by simpa using hne
    have hw2 : IntKind.i64.wrap (p + 1) = p + 1 := w64 (by omega) (by omega)
    obtain ⟨z, hz, lz⟩ := sub_ok (t := t) (a := p + 1) (b := t.size) ⟨by omega, by omega, by omega⟩
    have c3 := cat_ok (a := x) (b := z) (by omega)
    have c4 := cat_ok (a := x ++ bstr [c]) (b := z) (by omega)
    refine Dr.bind (one_ hs (by omega) (by omega)) fun b s _ hs => ?_
    refine Dr.cond (fun _ => ?_) (fun _ => ?_)
    · simp only [hx, hy, c1.1, c2.1, Option.bind_some]
      exact Dr.ret (by have := c2.2; omega) hs
    · refine Dr.bind (one_ hs (by omega) (by omega)) fun b s _ hs => ?_
      refine Dr.cond (fun _ => ?_) (fun _ => ?_)
      · simp only [hx, hw2, hz, c3.1, Option.bind_some]
        exact Dr.ret (by have := c3.2; omega) hs
      · simp only [hx, hw2, hz, c1.1, c4.1, Option.bind_some]
        exact Dr.ret (by have := c4.2; omega) hs
theorem bstr_size (l : List Int) : (bstr l).size = l.length := by unfold bstr; simp [ByteArray.size]
theorem long_ {c : ByteArray} {n : Int} {s : S65} (hc : c.size = 1) (h0 : 0 ≤ n) (h1 : n ≤ 2000) (hs : SOk s) : Dr (fun k => spec_l01Src_long.f k c n s) (fun r => r.size ≤ 2000) := by
  have lb : (bytesI c).length = 1 := by unfold bytesI; rw [List.length_map, ← size_list, hc]
  have l0 : ∀ (m : Nat) (l : List Int), n.toNat - l.length ≤ m → l.length ≤ 3000 → Dr (fun k => spec_l01Src_long.l0 k c n l s) (fun r => r.size ≤ 2000) := by
    intro m
    induction m with
    | zero =>
      intro l hm hl
      refine Dr.step ?_
      simp only [spec_l01Src_long.l0, show decide ((l.length : Int) < n) = false by simp; omega, cond_false]
      simp only [show lsub l 0 n = some ((l.drop 0).take n.toNat) by unfold lsub; rw [if_pos ⟨by omega, by omega, by omega⟩]; rfl, Option.bind_some]
      exact Dr.ret (by rw [bstr_size, List.length_take]; omega) hs
    | succ m ih =>
      intro l hm hl
      refine Dr.step ?_
      by_cases hln : (l.length : Int) < n
      · simp only [spec_l01Src_long.l0, decide_eq_true hln, cond_true, app_b (a := l) (b := bytesI c) (by omega), Option.bind_some]
        exact ih (l ++ bytesI c) (by rw [List.length_append]; omega) (by rw [List.length_append]; omega)
      · simp only [spec_l01Src_long.l0, decide_eq_false hln, cond_false]
        simp only [show lsub l 0 n = some ((l.drop 0).take n.toNat) by unfold lsub; rw [if_pos ⟨by omega, by omega, by omega⟩]; rfl, Option.bind_some]
        exact Dr.ret (by rw [bstr_size, List.length_take]; omega) hs
  refine Dr.step ?_
  simp only [spec_l01Src_long.f]
  exact l0 _ [] (Nat.le_refl _) (by simp)
theorem any_j0 {v1 : ByteArray × S65} {v2 : Int × S65} (h1 : Sm v1.1) (hs : SOk v2.2) (b : Bool) : Dr (fun k => spec_l01Src_anyValue.j0 k v1 v2 b) (fun _ => True) := by
  refine Dr.step ?_
  simp only [spec_l01Src_anyValue.j0]
  refine Dr.cond (fun _ => ?_) (fun _ => ?_)
  · exact Dr.bind (spoil_ h1 hs) fun a s _ hs => Dr.ret trivial hs
  refine Dr.cond (fun _ => ?_) (fun _ => ?_)
  · refine Dr.bind (n_ hs (by omega) (by omega)) fun r s hr hs => ?_
    exact Dr.idx hr fun x _ => Dr.ret trivial hs
  refine Dr.cond (fun _ => ?_) (fun _ => Dr.ret trivial hs)
  refine Dr.bind (n_ hs (by omega) (by omega)) fun r s hr hs => ?_
  have r0 := hr.1
  have r1 := hr.2
  rw [w64 (n := 1996 + r) (by omega) (by omega)]
  refine Dr.bind (long_ rfl (by omega) (by omega) hs) fun a s ha hs => ?_
  exact Dr.ev (squote ha) (Dr.ret trivial hs)
theorem any_ {s : S65} (hs : SOk s) : Dr (fun k => spec_l01Src_anyValue.f k s) (fun _ => True) := by
  refine Dr.step ?_
  simp only [spec_l01Src_anyValue.f]
  refine Dr.bind (value2_ hs) fun a s ha hs => ?_
  refine Dr.bind (n_ hs (by omega) (by omega)) fun r s hr hs => ?_
  exact Dr.cond (fun _ => any_j0 ha hs _) (fun _ => any_j0 ha hs _)
theorem source_ {code : List Int} (h : code.length ≤ 1048576) : ∃ m z, Ev (fun k => spec_l01Source.f k code) (code, 0, m, z) := by
  have j0 : ∀ m, ∃ z, Ev (fun k => spec_l01Source.j0 k code m) (code, 0, m, z) := fun m => by
    have hq : ∃ q, quo .i64 (code.length : Int) 20 = some q := ⟨_, by unfold quo; rw [if_neg (by decide)]⟩
    obtain ⟨q, hq⟩ := hq
    by_cases h12 : 12 < q
    · exact ⟨12, Ev.step (by simp only [spec_l01Source.j0, hq, Option.bind_some, decide_eq_true h12, cond_true]; exact Ev.ret _)⟩
    · exact ⟨q, Ev.step (by simp only [spec_l01Source.j0, hq, Option.bind_some, decide_eq_false h12, cond_false]; exact Ev.ret _)⟩
  have l0 : ∀ (n i : Nat) (m : Int), 64 - i ≤ n → ∃ m' z, Ev (fun k => spec_l01Source.l0 k code (i : Int) m) (code, 0, m', z) := by
    intro n
    induction n with
    | zero =>
      intro i m hn
      obtain ⟨z, hz⟩ := j0 m
      refine ⟨m, z, Ev.step ?_⟩
      simp only [spec_l01Source.l0, show decide ((i : Int) < 64) = false by simp; omega, cond_false, bif_same]
      exact hz
    | succ n ih =>
      intro i m hn
      by_cases hi : i < code.length
      · by_cases h64 : i < 64
        · obtain ⟨m', z, hz⟩ := ih (i + 1) (IntKind.u64.wrap ((bxor .u64 m (IntKind.u64.wrap code[i])) * 1099511628211)) (by omega)
          refine ⟨m', z, Ev.step ?_⟩
          simp only [spec_l01Source.l0, ltd hi, show decide ((i : Int) < 64) = true by simp; omega, cond_true, ixg hi, Option.bind_some, w1 (i := i) (by omega)]
          exact hz
        · obtain ⟨z, hz⟩ := j0 m
          refine ⟨m, z, Ev.step ?_⟩
          simp only [spec_l01Source.l0, show decide ((i : Int) < 64) = false by simp; omega, cond_false, bif_same]
          exact hz
      · obtain ⟨z, hz⟩ := j0 m
        refine ⟨m, z, Ev.step ?_⟩
        simp only [spec_l01Source.l0, ltn hi, cond_false]
        exact hz
  obtain ⟨m, z, hz⟩ := l0 64 0 88172645463325252 (by omega)
  refine ⟨m, z, Ev.step ?_⟩
  simp only [spec_l01Source.f]
  exact hz
end Go.Ab
