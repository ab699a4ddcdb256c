/- impl.lower, walked. -/
import Derived.Test.YtfeieigajdekhaaProg
import Derived.WalkKit
import Derived.WalkSpells
import Derived.Deep.LoopGhost
import Derived.Sort.Row
import Derived.Lib.ConvBytes
import Derived.Laws.IdiomStrings
import Derived.Lib.AtoiErrMem
import Derived.Lib.OwnBridge
import Derived.Shelf.Strings.FuncGrows
import Derived.Test.YtfeieigajdekhaaShelf
import Derived.Lib.AppendIntMem
namespace Go.Proofs
open Go.RowKit Go.Lib Go.Sort
set_option linter.unusedVariables false
set_option linter.unusedSimpArgs false
def encB (c : UInt8) : Value := .int .u8 (c.toNat : Int)
def lowC (c : UInt8) : UInt8 := if 65 ≤ c.toNat ∧ c.toNat ≤ 90 then c + 32 else c
theorem encB_low {c : UInt8} (h : 65 ≤ c.toNat ∧ c.toNat ≤ 90) : Value.int .u8 (IntKind.u8.wrap ((c.toNat : Int) + 32)) = encB (lowC c) := by
  unfold encB lowC
  rw [if_pos h]
  have e : (c + 32).toNat = c.toNat + 32 := by rw [UInt8.toNat_add]; have : (32 : UInt8).toNat = 32 := rfl; omega
  rw [e]
  congr 1
  have h2 : IntKind.u8.wrap ((c.toNat : Int) + 32) = ((c.toNat : Int) + 32) % 256 := rfl
  rw [h2]; omega
structure LowI (d0 d : Array UInt8) (k : Nat) : Prop where
  size : d.size = d0.size
  done : ∀ j, j < k → d[j]! = lowC d0[j]!
  left : ∀ j, k ≤ j → d[j]! = d0[j]!
theorem LowI.put {d0 d : Array UInt8} {k : Nat} (h : LowI d0 d k) (hk : k < d0.size) : LowI d0 (d.setIfInBounds k (lowC d0[k]!)) (k + 1) := by
  have hs := h.size
  refine ⟨by simpa using hs, fun j hj => ?_, fun j hj => ?_⟩
  · by_cases e : j = k
    · subst e; exact getElem!_set_same _ _ _ (by omega)
    · rw [getElem!_set_other _ _ _ _ e]; exact h.done j (by omega)
  · rw [getElem!_set_other _ _ _ _ (by omega)]; exact h.left j (by omega)
theorem LowI.keep {d0 d : Array UInt8} {k : Nat} (h : LowI d0 d k) (e : lowC d0[k]! = d0[k]!) : LowI d0 d (k + 1) := by
  refine ⟨h.size, fun j hj => ?_, fun j hj => h.left j (by omega)⟩
  by_cases e' : j = k
  · subst e'; rw [h.left j (Nat.le_refl _), e]
  · exact h.done j (by omega)
theorem LowI.all {d0 d : Array UInt8} (h : LowI d0 d d0.size) : d = d0.map lowC := by
  apply Array.ext
  · simp [h.size]
  · intro i h1 h2
    have := h.done i (by have := h.size; omega)
    rw [getElem!_pos _ i h1, getElem!_pos d0 i (by have := h.size; omega)] at this
    simp [this]
set_option maxHeartbeats 4000000 in
set_option maxRecDepth 1000000 in
theorem low_calls (s : ByteArray) (w : World) (hs : s.size ≤ 65536) :
    Calls Try.prog 61 #[.string s] w fun e w' => e = .returned (.string ⟨s.data.map lowC⟩) ∧ Below w.heap.size w w' := by
  have hconv := Lib.run_convert_string_bytes (P := Try.prog) w 9 86 5 s Try.underlying9 Try.underlying86 Try.underlying5
  generalize hcap : grownCap w s.size 0 5 = cap at hconv
  have hge : s.size ≤ cap := by rw [← hcap]; exact grownCap_ge _ _ _ _
  have hB : Below w.heap.size w (bytesWorld w 5 s) := bytesWorld_below _ _ _
  have hH : Holds encB (bytesWorld w 5 s) w.heap.size 0 s.data := fun j hj => by
    rw [Nat.zero_add]
    refine ⟨?_, ?_⟩
    · rw [bytesWorld_cell w 5 s j hj]
      unfold encB
      rw [getElem!_pos s.data j hj]
      have : s.data.toList.getD j 0 = s.data[j] := by simp [List.getD, Array.getElem?_eq_getElem hj]
      rw [this]
    · unfold World.frozen?
      rw [bytesWorld_at_new]
      have h1 : s.data.size ≤ (bytesCells w 5 s).size := by simp [bytesCells]
      simp only [Bool.and_eq_false_iff, decide_eq_false_iff_not]
      left; omega
  generalize hW : bytesWorld w 5 s = W at hconv hB hH
  have hsd : s.data.size = s.size := rfl
  go_enter Try.func61, Try.ntmps61
  go_wp2
  go_loopg [10] s.size (fun g s10 wr => ∃ (k : Nat) (d : Array UInt8), s10 = .int .i64 k ∧ k ≤ s.size ∧ s.size - k ≤ g ∧ wr = putRow encB W w.heap.size 0 d ∧ LowI s.data d k)
  case atStart => exact ⟨0, s.data, rfl, by omega, by omega, (putRow_self encB W w.heap.size 0 s.data hH).symm, ⟨rfl, fun j hj => by omega, fun j _ => rfl⟩⟩
  case round =>
    obtain ⟨k, d, rfl, hk, hg, hwr, hI⟩ := hrel
    have hds := hI.size
    have hHk : Holds encB wr w.heap.size 0 d := by rw [hwr]; exact holds_putRow encB W w.heap.size 0 s.data d hH hds
    have A : Aside (wr = putRow encB W w.heap.size 0 d ∧ LowI s.data d k ∧ Holds encB W w.heap.size 0 s.data ∧ Below w.heap.size w W) := ⟨hwr, hI, hH, hB⟩
    by_cases hlt : k < s.size
    · obtain ⟨c1, f1⟩ := hHk k (by omega)
      rw [hI.left k (Nat.le_refl _), Nat.zero_add] at c1
      rw [Nat.zero_add] at f1
      clear hwr hI hH hB hHk
      generalize hx : s.data[k]! = x at c1
      have hxx : Aside (s.data[k]! = x) := hx
      clear hx
      have hx256 : x.toNat < 256 := x.toNat_lt
      unfold encB at c1
      by_cases hc : 65 ≤ x.toNat
      · have hc' : (65 : Int) ≤ (x.toNat : Int) := by omega
        by_cases hc2 : x.toNat ≤ 90
        · have hc2' : (x.toNat : Int) ≤ 90 := by omega
          go_wp2
          go_roundg (s.size - (k + 1))
          case measure => omega
          case rel =>
            obtain ⟨e1, hI, hH, hB⟩ := A.out
            refine ⟨k + 1, d.setIfInBounds k (lowC x), by go_num, by omega, Nat.le_refl _, ?_, ?_⟩
            · rw [e1]; have h := putRow_set encB W w.heap.size 0 d k (lowC x) (by omega); rw [Nat.zero_add] at h; rw [← h]; congr 1; unfold encB lowC; rw [if_pos ⟨hc, hc2⟩]; have e : (x + 32).toNat = x.toNat + 32 := by rw [UInt8.toNat_add]; have : (32 : UInt8).toNat = 32 := rfl; omega
              rw [e]; congr 1
            · have := hI.put (by omega : k < s.data.size); rwa [hxx.out] at this
        · have hc2' : ¬ (x.toNat : Int) ≤ 90 := by omega
          go_wp2
          go_roundg (s.size - (k + 1))
          case measure => omega
          case rel =>
            obtain ⟨e1, hI, hH, hB⟩ := A.out
            exact ⟨k + 1, d, by go_num, by omega, Nat.le_refl _, e1, hI.keep (by rw [hxx.out]; unfold lowC; rw [if_neg (by omega)])⟩
      · have hc' : ¬ (65 : Int) ≤ (x.toNat : Int) := by omega
        go_wp2
        go_roundg (s.size - (k + 1))
        case measure => omega
        case rel =>
            obtain ⟨e1, hI, hH, hB⟩ := A.out
            exact ⟨k + 1, d, by go_num, by omega, Nat.le_refl _, e1, hI.keep (by rw [hxx.out]; unfold lowC; rw [if_neg (by omega)])⟩
    · have hke : k = s.data.size := by omega
      subst hke
      have hall := hI.all
      have hback : (convert 86 9 (.slice (some ⟨w.heap.size, 0, none⟩) s.size cap)).run Try.prog wr = .ok (.string ⟨s.data.map lowC⟩) wr := by
        have h := run_convert_bytes_back (P := Try.prog) wr 86 9 5 ⟨w.heap.size, 0, none⟩ cap (s.data.map lowC).toList Try.underlying86 Try.underlying5 Try.underlying9 (fun j hj => by
          have hj' : j < d.size := by rw [hall]; simpa using hj
          have h2 := (hHk j hj').1
          rw [Nat.zero_add] at h2
          have e : (⟨w.heap.size, 0, none⟩ : Addr).add j = ⟨w.heap.size, j, none⟩ := by
            simp only [Addr.add, Nat.zero_add]
            split
            · rename_i h0; subst h0; rfl
            · rfl
          rw [e, h2]
          unfold encB
          rw [getElem!_pos d j hj']
          simp [hall])
        have hml : (s.data.map lowC).toList.length = s.size := by simp [hsd]
        simpa only [hml, Array.toArray_toList] using h
      have hBw : Below w.heap.size w wr := by rw [hwr]; exact below_putRow (enc := encB) (q := 0) (d := d) hB (Nat.le_refl _)
      have hBA : Aside (Below w.heap.size w wr) := hBw
      clear hwr hI hH hB hHk hBw
      go_wp2
      go_ret
      exact ⟨rfl, hBA.out⟩
/-- What parts the words: neither a small letter nor a digit. -/
def sepR (x : Nat) : Bool := !(decide (97 ≤ x) && decide (x ≤ 122) || decide (48 ≤ x) && decide (x ≤ 57))
set_option maxHeartbeats 4000000 in
set_option maxRecDepth 1000000 in
theorem sep_calls (x : Nat) (w : World) : Calls Try.prog 62 #[.int .i32 x] w fun e w' => e = .returned (.bool (sepR x)) ∧ w' = w := by
  by_cases h1 : 97 ≤ x
  · have h1' : (97 : Int) ≤ x := by omega
    by_cases h2 : x ≤ 122
    · have h2' : (x : Int) ≤ 122 := by omega
      go_enter Try.func62, Try.ntmps62
      go_wp2
      go_ret
      exact ⟨by simp [sepR, h1, h2], rfl⟩
    · have h2' : ¬ (x : Int) ≤ 122 := by omega
      have h3' : (48 : Int) ≤ x := by omega
      have h4' : ¬ (x : Int) ≤ 57 := by omega
      go_enter Try.func62, Try.ntmps62
      go_wp2
      go_ret
      exact ⟨by simp [sepR, h1, h2]; omega, rfl⟩
  · have h1' : ¬ (97 : Int) ≤ x := by omega
    by_cases h3 : 48 ≤ x
    · have h3' : (48 : Int) ≤ x := by omega
      by_cases h4 : x ≤ 57
      · have h4' : (x : Int) ≤ 57 := by omega
        go_enter Try.func62, Try.ntmps62
        go_wp2
        go_ret
        exact ⟨by simp [sepR, h1, h3, h4], rfl⟩
      · have h4' : ¬ (x : Int) ≤ 57 := by omega
        go_enter Try.func62, Try.ntmps62
        go_wp2
        go_ret
        exact ⟨by simp [sepR, h1, h3, h4], rfl⟩
    · have h3' : ¬ (48 : Int) ≤ x := by omega
      go_enter Try.func62, Try.ntmps62
      go_wp2
      go_ret
      exact ⟨by simp [sepR, h1, h3], rfl⟩
theorem sep_grows (w : World) : PredGrows Try.prog 62 #[] sepR w := fun W x hx hB => (sep_calls x W).mono fun e w' ⟨h1, h2⟩ => ⟨h1, h2 ▸ Below.refl _ _⟩
end Go.Proofs
namespace Go.Proofs
open Go.RowKit Go.Lib Go.Sort
set_option linter.unusedVariables false
set_option linter.unusedSimpArgs false
def lowB (s : ByteArray) : ByteArray := ⟨s.data.map lowC⟩
theorem lowB_size (s : ByteArray) : (lowB s).size = s.size := by show (s.data.map lowC).size = _; simp
/-- The runs of a text, as they stand. -/
def runsB (s : ByteArray) : List ByteArray := goFieldsP sepR (lowB s)
theorem own_holds {w : World} {B t : Nat} {A n cap : Nat} {l : List ByteArray} (h : w.ownsRow B t 1 (.slice (some ⟨A, 0, none⟩) n cap) n (l.map Value.string)) : A < w.heap.size ∧ Holds encStr w A 0 (l.map (·.data.toList)).toArray := by
  obtain ⟨hl, h | ⟨g, cap', cur, hv, hB, hg, hn, hm, hs, ht⟩⟩ := h
  · cases h.1
  · cases hv
    have hlt : A < w.heap.size := by
      rcases Nat.lt_or_ge A w.heap.size with h | h
      · exact h
      · rw [Array.getElem?_eq_none h] at hg; cases hg
    refine ⟨hlt, fun j hj => ?_⟩
    have hj' : j < l.length := by simpa using hj
    rw [Nat.zero_add]
    refine ⟨?_, ?_⟩
    · unfold World.cell?
      rw [hg]
      have e1 : (l.map Value.string)[j]? = some (Value.string l[j]) := by simp [hj']
      rw [← ht] at e1
      have e2 : cur[j]? = some (Value.string l[j]) := by
        rw [List.getElem?_take] at e1
        split at e1
        · simpa using e1
        · cases e1
      have e3 : (l.map (·.data.toList)).toArray[j]! = l[j].data.toList := by
        rw [getElem!_pos _ j hj]; simp
      rw [e3]
      simpa [encStr] using e2
    · unfold World.frozen?
      rw [hg]
      simp
set_option maxHeartbeats 4000000 in
set_option maxRecDepth 1000000 in
theorem runs_calls (s : ByteArray) (w : World) (hs : s.size ≤ 65536) :
    Calls Try.prog 33 #[.string s] w fun e w' => ∃ A, e = .returned (.slice (some ⟨A, 0, none⟩) (runsB s).length (runsB s).length) ∧ w.heap.size ≤ A ∧ A < w'.heap.size ∧ Holds encStr w' A 0 ((runsB s).map (·.data.toList)).toArray ∧ Below w.heap.size w w' := by
  have e62 : ∀ args w, (callFunc 62 args).run Try.prog w = .ok (.enter 62 args) w := enters_of Try.func62 (by kernel_rfl) rfl
  have hz : (lowB s).size ≤ 4294967296 := by rw [lowB_size]; omega
  go_enter Try.func33, Try.ntmps33
  go_wp2_with fail
  refine (low_calls s _ hs).mono ?_
  rintro e w1 ⟨rfl, hb1⟩
  go_wp2_with fail
  refine (Try.strings_FieldsFunc_grows 62 #[] e62 sepR (lowB s) _ hz (sep_grows _)).mono ?_
  rintro e w2 ⟨A, rfl, hA, ho, hb2⟩
  go_wp2_with fail
  go_ret
  have h1 := own_holds ho
  have hsz := hb1.size
  exact ⟨A, rfl, by omega, h1.1, h1.2, hb1.trans (hb2.mono hb1.size)⟩
end Go.Proofs
namespace Go.Proofs
open Go.RowKit Go.Lib Go.Sort
set_option linter.unusedVariables false
set_option linter.unusedSimpArgs false
set_option maxHeartbeats 4000000 in
set_option maxRecDepth 1000000 in
theorem words_big (s : ByteArray) (w : World) (hs : 65536 < s.size) : Calls Try.prog 12 #[.string s] w fun e w' => e = .returned (.slice none 0 0) ∧ w' = w := by
  have h1 : (65536 : Int) < s.size := by omega
  go_enter Try.func12, Try.ntmps12
  go_wp2
  go_ret
  exact ⟨rfl, rfl⟩
set_option maxHeartbeats 4000000 in
set_option maxRecDepth 1000000 in
theorem words_walk (s : ByteArray) (w : World) (hs : s.size ≤ 65536) (P1 P2 : Nat → Nat → World → Prop) (P3 : Nat → Nat → Nat → World → Prop) (Q : Value → World → Prop)
   (hr : Calls Try.prog 33 #[.string s] w fun e w1 => ∃ A n, e = .returned (.slice (some ⟨A, 0, none⟩) n n) ∧ P1 A n w1)
   (hq : ∀ A n w1, P1 A n w1 → Calls Try.prog 34 #[.slice (some ⟨A, 0, none⟩) n n] w1 fun e w2 => e = .returned (.tuple #[]) ∧ P2 A n w2)
   (hc : ∀ A n w2, P2 A n w2 → Calls Try.prog 35 #[.slice (some ⟨A, 0, none⟩) n n] w2 fun e w3 => ∃ m, e = .returned (.slice (some ⟨A, 0, none⟩) m n) ∧ m ≤ n ∧ P3 A m n w3)
   (ht : ∀ A m n w3, P3 A m n w3 → Calls Try.prog 36 #[.slice (some ⟨A, 0, none⟩) (min m 100) n] w3 fun e w' => ∃ cv, e = .returned cv ∧ Q cv w') :
    Calls Try.prog 12 #[.string s] w fun e w' => ∃ cv, e = .returned cv ∧ Q cv w' := by
  have h1 : ¬ (65536 : Int) < s.size := by omega
  go_enter Try.func12, Try.ntmps12
  go_wp2_with fail
  refine hr.mono ?_
  rintro e w1 ⟨A, n, rfl, p1⟩
  go_wp2_with fail
  refine (hq A n w1 p1).mono ?_
  rintro e w2 ⟨rfl, p2⟩
  go_wp2_with fail
  refine (hc A n w2 p2).mono ?_
  rintro e w3 ⟨m, rfl, hm, p3⟩
  have ht3 := ht A m n w3 p3
  clear hr hq hc ht p1 p2 p3
  go_wp2_with fail
  have e : (min (m : Int) 100).toNat = min m 100 := by omega
  rw [e]
  refine ht3.mono ?_
  rintro e w4 ⟨cv, rfl, hQ⟩
  go_wp2_with fail
  go_ret
  exact ⟨cv, rfl, hQ⟩
theorem compactUpTo_le {α : Type} [DecidableEq α] [Inhabited α] (d : Array α) (m : Nat) : (compactUpTo d m).length ≤ m := by
  unfold compactUpTo
  rw [List.length_map]
  exact Nat.le_trans (List.length_filter_le _ _) (by simp)
theorem spansFromP_len (p : Nat → Bool) (s : ByteArray) : ∀ (f pos : Nat) (st : Option Nat) (acc : List (Nat × Nat)), (spansFromP p s f pos st acc).1.length ≤ acc.length + f
  | 0, _, _, acc => by simp [spansFromP]
  | f + 1, pos, st, acc => by
    unfold spansFromP
    split
    · split <;> cases st <;> (dsimp only; refine Nat.le_trans (spansFromP_len p s f _ _ _) ?_; simp; try omega)
    · simp
theorem runsB_len (s : ByteArray) : (runsB s).length ≤ s.size + 1 := by
  unfold runsB goFieldsP spansOfP closeSpans
  rw [List.length_map]
  have h := spansFromP_len sepR (lowB s) (lowB s).size 0 none []
  rw [lowB_size] at h
  simp only [List.length_nil, Nat.zero_add] at h
  rw [lowB_size]
  split
  · rw [List.length_append]; simp; omega
  · omega
/-- The words of a text, as bytes: the runs in order, each once. -/
def wordsL (s : ByteArray) : List (List UInt8) := Lib.compact (((runsB s).map (·.data.toList)).mergeSort fun x y => decide (x ≤ y))
def wordsB (s : ByteArray) : List ByteArray := ((wordsL s).take 100).map fun x => ⟨x.toArray⟩
theorem words_all (s : ByteArray) (w : World) (hs : s.size ≤ 65536) (Q : Value → World → Prop)
   (ht : ∀ (A cap : Nat) (W : World), w.heap.size ≤ A → A < W.heap.size → (wordsB s).length ≤ cap → Below w.heap.size w W → (∀ (j : Nat) (x : ByteArray), (wordsB s)[j]? = some x → W.cell? ⟨A, j, none⟩ = some (.string x)) →
     Calls Try.prog 36 #[.slice (some ⟨A, 0, none⟩) (wordsB s).length cap] W fun e w' => ∃ cv, e = .returned cv ∧ Q cv w') :
    Calls Try.prog 12 #[.string s] w fun e w' => ∃ cv, e = .returned cv ∧ Q cv w' := by
  have hn := runsB_len s
  refine words_walk s w hs
    (fun A n w1 => w.heap.size ≤ A ∧ A < w1.heap.size ∧ n = (runsB s).length ∧ Holds encStr w1 A 0 ((runsB s).map (·.data.toList)).toArray ∧ Below w.heap.size w w1)
    (fun A n w2 => w.heap.size ≤ A ∧ A < w2.heap.size ∧ n = (runsB s).length ∧ Holds encStr w2 A 0 (((runsB s).map (·.data.toList)).mergeSort fun x y => decide (x ≤ y)).toArray ∧ Below w.heap.size w w2)
    (fun A m n w3 => w.heap.size ≤ A ∧ A < w3.heap.size ∧ m = (wordsL s).length ∧ m ≤ n ∧ Holds encStr w3 A 0 (wordsL s ++ List.replicate (n - m) []).toArray ∧ Below w.heap.size w w3) Q ?_ ?_ ?_ ?_
  · refine (runs_calls s w hs).mono ?_
    rintro e w1 ⟨A, rfl, h1, h2, h3, h4⟩
    exact ⟨A, _, rfl, h1, h2, rfl, h3, h4⟩
  · rintro A n w1 ⟨h1, h2, rfl, h3, h4⟩
    have hl : ((runsB s).map (·.data.toList)).length = (runsB s).length := by simp
    have h := Try.slices_Sort_string A 0 (runsB s).length ((runsB s).map (·.data.toList)) w1 h3 h2 (by rw [hl]; omega)
    rw [hl] at h
    refine h.mono ?_
    rintro e w2 ⟨rfl, q, os, rfl⟩
    have hH : Holds encStr (putRow encStr (Sort.ahead w1 q) A 0 (((runsB s).map (·.data.toList)).mergeSort fun x y => decide (x ≤ y)).toArray) A 0 _ :=
      holds_putRow encStr (Sort.ahead w1 q) A 0 _ _ (holds_ahead encStr w1 q A 0 _ h3) (by simp [List.length_mergeSort])
    have hsz : (putRow encStr (Sort.ahead w1 q) A 0 (((runsB s).map (·.data.toList)).mergeSort fun x y => decide (x ≤ y)).toArray).heap.size = w1.heap.size := by rw [size_putRow]; rfl
    have hB : Below w.heap.size w (putRow encStr (Sort.ahead w1 q) A 0 (((runsB s).map (·.data.toList)).mergeSort fun x y => decide (x ≤ y)).toArray) := below_putRow h4 h1
    refine ⟨rfl, h1, ?_, rfl, holds_grow encStr _ os A 0 _ (by rw [hsz]; exact h2) hH, ?_⟩
    · show A < (_ ++ os).size
      rw [Array.size_append, hsz]; omega
    · exact hB.trans (below_grow w.heap.size _ (by rw [hsz]; omega) 0 os)
  · rintro A n w2 ⟨h1, h2, rfl, h3, h4⟩
    have hl : (((runsB s).map (·.data.toList)).mergeSort fun x y => decide (x ≤ y)).length = (runsB s).length := by rw [List.length_mergeSort]; simp
    have h := Try.slices_Compact_string A 0 (runsB s).length (((runsB s).map (·.data.toList)).mergeSort fun x y => decide (x ≤ y)) w2 h3 (by rw [hl]; omega) (by rw [hl]; exact Nat.le_refl _)
    rw [hl] at h
    refine h.mono ?_
    rintro e w3 ⟨rfl, q, rfl⟩
    have hc : (wordsL s).length ≤ (runsB s).length := by
      unfold wordsL Lib.compact
      rw [← hl]
      refine Nat.le_trans (compactUpTo_le _ _) (Nat.le_refl _)
    refine ⟨(wordsL s).length, rfl, hc, h1, ?_, rfl, hc, ?_, below_putRow h4 h1⟩
    · rw [size_putRow]; exact h2
    · exact holds_putRow encStr (Sort.ahead w2 q) A 0 _ _ (holds_ahead encStr w2 q A 0 _ h3) (by
        show (List.toArray _).size = (List.toArray _).size
        simp only [List.size_toArray, List.length_append, List.length_replicate, hl]
        show (wordsL s).length + ((runsB s).length - (wordsL s).length) = _
        omega)
  · rintro A m n w3 ⟨h1, h2, rfl, h3, h4, h5⟩
    have hw : (wordsB s).length = min (wordsL s).length 100 := by unfold wordsB; rw [List.length_map, List.length_take]; omega
    rw [← hw]
    refine ht A n w3 h1 h2 (by omega) h5 fun j x hx => ?_
    have hj : j < (wordsB s).length := (List.getElem?_eq_some_iff.1 hx).1
    have hj2 : j < (wordsL s).length := by omega
    have hj3 : j < (wordsL s ++ List.replicate (n - (wordsL s).length) []).toArray.size := by simp; omega
    have h6 := (h4 j hj3).1
    rw [Nat.zero_add] at h6
    rw [h6, getElem!_pos _ j hj3]
    unfold wordsB at hx
    rw [List.getElem?_map, List.getElem?_take] at hx
    split at hx
    · rw [List.getElem?_eq_getElem hj2] at hx
      simp only [Option.map_some, Option.some.injEq] at hx
      rw [← hx]
      simp [encStr, List.getElem_append_left hj2]
    · cases hx
end Go.Proofs
