/- A pattern is shown: both tell the same text. No condition. -/
import Derived.Test.YtfjckgcbgepndaaDoorAbQ3
namespace Go.Ab
open Go.Proofs
set_option linter.unusedVariables false
set_option linter.unusedSimpArgs false
set_option linter.unusedSectionVars false
theorem dec_s : ∀ (m : Nat) (n : Int), n.natAbs = m → -9223372036854775808 ≤ n → n ≤ 9223372036854775807 → Ev (fun k => spec_l01Dec.f k n) (bs (Lib.itoa n)) := by
  have one : ∀ (x : Int) (d : Nat), d < 10 → x = 48 + (d : Int) → bstr [IntKind.u8.wrap (IntKind.i64.wrap x)] = bs [UInt8.ofNat (48 + d)] := by
    intro x d hd hx
    subst hx
    rw [w64 (by omega) (by omega), wrap8_def, show (48 + (d : Int)) % 256 = ((48 + d : Nat) : Int) by omega]
    rfl
  have catb : ∀ (a b : List UInt8), a.length + b.length ≤ 1000 → cat (bs a) (bs b) = some (bs (a ++ b)) := by
    intro a b h
    unfold cat
    rw [if_pos (by rw [bs_size, bs_size]; omega)]
    rfl
  intro m
  induction m using Nat.strongRecOn with
  | _ m ih =>
    intro n hm h1 h2
    refine Ev.step ?_
    simp only [spec_l01Dec.f]
    by_cases hn : n < 0
    · simp only [show decide (n < 0) = true by simpa using hn, cond_true]
      by_cases h10 : -10 < n
      · simp only [show decide (-10 < n) = true by simpa using h10, cond_true]
        refine Ev.bind (a := bs (Lib.itoa (-n))) ?_ ?_
        · rw [show IntKind.i64.wrap (0 - n) = -n by rw [w64 (by omega) (by omega)]; omega]
          refine Ev.step ?_
          simp only [spec_l01Dec.f, show decide (-n < 0) = false by simp; omega, cond_false, show decide (-n < 10) = true by simp; omega, cond_true]
          rw [itoa_nn (by omega), Lib.decDigits_one (by omega), one _ (-n).toNat (by omega) (by omega)]
          exact Ev.ret _
        · rw [show (⟨#[45]⟩ : ByteArray) = bs [45] from rfl, itoa_nn (v := -n) (by omega), itoa_ng hn, show (-n).toNat = n.natAbs by omega]
          rw [catb _ _ (by rw [Lib.decDigits_one (by omega)]; simp)]
          exact Ev.ret _
      · simp only [show decide (-10 < n) = false by simpa using h10, cond_false]
        have hq : quo .i64 n 10 = some (-((n.natAbs / 10 : Nat) : Int)) := by
          unfold quo
          rw [if_neg (by omega)]
          congr 1
          have : n.tdiv 10 = -((n.natAbs / 10 : Nat) : Int) := by
            rw [show n = -((n.natAbs : Nat) : Int) by omega, Int.neg_tdiv]
            simp
          rw [this, w64 (by omega) (by omega)]
        have hr : rem n 10 = some (-((n.natAbs % 10 : Nat) : Int)) := by
          unfold rem
          rw [if_neg (by omega)]
          congr 1
          rw [show n = -((n.natAbs : Nat) : Int) by omega, Int.neg_tmod, Int.tmod_eq_emod_of_nonneg (by omega)]
          simp
        rw [hq, hr]
        simp only [Option.bind_some]
        refine Ev.bind (ih (n.natAbs / 10) (by omega) (-((n.natAbs / 10 : Nat) : Int)) (by omega) (by omega) (by omega)) ?_
        rw [one _ (n.natAbs % 10) (by omega) (by omega), itoa_ng (v := -((n.natAbs / 10 : Nat) : Int)) (by omega), itoa_ng hn, show (-((n.natAbs / 10 : Nat) : Int)).natAbs = n.natAbs / 10 by omega]
        rw [catb]
        · rw [dec_big (m := n.natAbs) (by omega)]; exact Ev.ret _
        · have := itoa_len (v := -((n.natAbs / 10 : Nat) : Int)) (by omega) (by omega)
          rw [itoa_ng (by omega), show (-((n.natAbs / 10 : Nat) : Int)).natAbs = n.natAbs / 10 by omega] at this
          simp at this ⊢; omega
    · simp only [show decide (n < 0) = false by simpa using hn, cond_false]
      by_cases h10 : n < 10
      · simp only [show decide (n < 10) = true by simpa using h10, cond_true]
        rw [itoa_nn (by omega), Lib.decDigits_one (by omega), one _ n.toNat (by omega) (by omega)]
        exact Ev.ret _
      · simp only [show decide (n < 10) = false by simpa using h10, cond_false]
        have hq : quo .i64 n 10 = some (((n.natAbs / 10 : Nat) : Int)) := by
          unfold quo
          rw [if_neg (by omega)]
          congr 1
          rw [Int.tdiv_eq_ediv_of_nonneg (by omega), w64 (by omega) (by omega)]; omega
        have hr : rem n 10 = some (((n.natAbs % 10 : Nat) : Int)) := by
          unfold rem
          rw [if_neg (by omega)]
          congr 1
          rw [Int.tmod_eq_emod_of_nonneg (by omega)]; omega
        rw [hq, hr]
        simp only [Option.bind_some]
        refine Ev.bind (ih (n.natAbs / 10) (by omega) ((n.natAbs / 10 : Nat) : Int) (by omega) (by omega) (by omega)) ?_
        rw [one _ (n.natAbs % 10) (by omega) (by omega), itoa_nn (v := ((n.natAbs / 10 : Nat) : Int)) (by omega), itoa_nn (v := n) (by omega)]
        rw [catb]
        · rw [dec_big (m := n.toNat) (by omega), show n.toNat / 10 = n.natAbs / 10 by omega, show n.toNat % 10 = n.natAbs % 10 by omega]; exact Ev.ret _
        · have := itoa_len (v := ((n.natAbs / 10 : Nat) : Int)) (by omega) (by omega)
          rw [itoa_nn (by omega)] at this
          simp at this ⊢; omega
theorem dec_ {n : Int} (h1 : -9223372036854775808 ≤ n) (h2 : n ≤ 9223372036854775807) : Ev (fun k => spec_l01Dec.f k n) (bs (Lib.itoa n)) := dec_s _ n rfl h1 h2

theorem num_i (k : Nat) {n : Int} (h1 : -9223372036854775808 ≤ n) (h2 : n ≤ 9223372036854775807) : impl_num.f k n = some (bs (Lib.itoa n)) := by
  unfold impl_num.f strconv_FormatInt.f
  rw [if_pos ⟨rfl, h1, h2⟩]; rfl
theorem szA (a : Array UInt8) : (⟨a⟩ : ByteArray).size = a.size := rfl
def NB (n : S45) : Prop := n.f0.size ≤ 1048576 ∧ n.f1.size ≤ 1048576
def EB (e : S49) : Prop := e.f0.size ≤ 1048576 ∧ ∀ s ∈ e.f1, s.size ≤ 1048576
def nodeT (n : S45) : ByteArray := if n.f1 = e0 then ((⟨#[40]⟩ : ByteArray) ++ n.f0) ++ (⟨#[41]⟩ : ByteArray) else ((((⟨#[40]⟩ : ByteArray) ++ n.f0) ++ (⟨#[58]⟩ : ByteArray)) ++ n.f1) ++ (⟨#[41]⟩ : ByteArray)
theorem nodeT_size {n : S45} (h : NB n) : (nodeT n).size ≤ 2097200 := by
  obtain ⟨h1, h2⟩ := h
  unfold nodeT
  split <;> simp [ByteArray.size_append, szA] <;> omega
theorem node_s {n : S45} (k : Nat) (h : NB n) : spec_l08ShowNode.f k n = some (nodeT n) := by
  obtain ⟨h1, h2⟩ := h
  unfold spec_l08ShowNode.f nodeT
  by_cases c : n.f1 = e0
  · simp only [decide_eq_true c, cond_true, if_pos c]
    rw [cat_ (by simp [szA]; omega)]
    simp only [Option.bind_some]
    rw [cat_ (by simp [ByteArray.size_append, szA]; omega)]; rfl
  · simp only [decide_eq_false c, cond_false, if_neg c]
    rw [cat_ (by simp [szA]; omega)]
    simp only [Option.bind_some]
    rw [cat_ (by simp [ByteArray.size_append, szA]; omega)]
    simp only [Option.bind_some]
    rw [cat_ (by simp [ByteArray.size_append, szA]; omega)]
    simp only [Option.bind_some]
    rw [cat_ (by simp [ByteArray.size_append, szA]; omega)]; rfl
/-- The types' text, as it grows. -/
def tyT (l : List ByteArray) : Nat → ByteArray
 | 0 => e0
 | n + 1 => (tyT l n ++ (if n = 0 then (⟨#[58]⟩ : ByteArray) else (⟨#[124]⟩ : ByteArray))) ++ l.getD n e0
theorem tyT_size {l : List ByteArray} (h : ∀ s ∈ l, s.size ≤ 1048576) : ∀ n, (tyT l n).size ≤ n * 1048577
 | 0 => by show (0 : Nat) ≤ _; omega
 | n + 1 => by
  have ih := tyT_size h n
  have : (l.getD n e0).size ≤ 1048576 := by
    rw [List.getD_eq_getElem?_getD]
    cases e : l[n]? with
    | none => show (0 : Nat) ≤ _; omega
    | some x => exact h x (List.mem_of_getElem? e)
  have h1 : (if n = 0 then (⟨#[58]⟩ : ByteArray) else (⟨#[124]⟩ : ByteArray)).size = 1 := by split <;> rfl
  simp only [tyT, ByteArray.size_append, h1]
  omega
theorem ap_nil (a : ByteArray) : a ++ e0 = a := by
  have : (a ++ e0).data.toList = a.data.toList := by simp
  rw [bs_of (a ++ e0), this, ← bs_of]
theorem nil_ap (a : ByteArray) : e0 ++ a = a := by
  have : (e0 ++ a).data.toList = a.data.toList := by simp
  rw [bs_of (e0 ++ a), this, ← bs_of]
theorem tyT_join (l : List ByteArray) : ∀ n, 1 ≤ n → tyT l n = (⟨#[58]⟩ : ByteArray) ++ joinN 124 (fun i => l.getD i e0) n
 | 0, h => absurd h (by omega)
 | 1, _ => by show (e0 ++ (⟨#[58]⟩ : ByteArray)) ++ l.getD 0 e0 = _; rw [nil_ap]; rfl
 | n + 2, _ => by
  rw [tyT, tyT_join l (n + 1) (by omega), if_neg (by omega), joinN]
  simp only [ByteArray.append_assoc]
theorem join_i {l : List ByteArray} (k : Nat) (h1 : 1 ≤ l.length) (hl : l.length ≤ 1000) (h : ∀ s ∈ l, s.size ≤ 1048576) : strings_Join.f k l ⟨#[124]⟩ = some (joinN 124 (fun i => l.getD i e0) l.length) := by
  unfold strings_Join.f
  have e1 : l.map (·.data.toList) = (List.range l.length).map (fun i => (l.getD i e0).data.toList) := by
    apply List.ext_getElem
    · simp
    · intro i h1 h2
      simp at h1
      simp [List.getD_eq_getElem?_getD, h1]
  have e2 := joinN_join 124 (fun i => l.getD i e0) l.length h1
  have e4 : (⟨#[124]⟩ : ByteArray).data.toList = [124] := rfl
  rw [e1, e4, ← e2]
  have e5 : (joinN 124 (fun i => l.getD i e0) l.length).data.toList.length = (joinN 124 (fun i => l.getD i e0) l.length).size := (size_list _).symm
  have e6 := tyT_size h l.length
  rw [tyT_join l _ h1, ByteArray.size_append] at e6
  rw [if_pos ⟨by omega, by omega⟩]
def repT (e : S49) : ByteArray := if e.f3 then (((⟨#[42]⟩ : ByteArray) ++ bs (Lib.itoa e.f4)) ++ (⟨#[46, 46]⟩ : ByteArray)) ++ bs (Lib.itoa e.f5) else e0
def midT (e : S49) : ByteArray := (((⟨#[91]⟩ : ByteArray) ++ e.f0) ++ tyT e.f1 e.f1.length) ++ repT e
def edgeT (e : S49) : ByteArray := if e.f2 = 1 then ((⟨#[45]⟩ : ByteArray) ++ midT e) ++ (⟨#[93, 45, 62]⟩ : ByteArray) else if e.f2 = 2 then ((⟨#[60, 45]⟩ : ByteArray) ++ midT e) ++ (⟨#[93, 45]⟩ : ByteArray) else ((⟨#[45]⟩ : ByteArray) ++ midT e) ++ (⟨#[93, 45]⟩ : ByteArray)
theorem small_itoa {n : Int} (h1 : 0 ≤ n) (h2 : n ≤ 10) : (bs (Lib.itoa n)).size ≤ 2 := by
  have : n = 0 ∨ n = 1 ∨ n = 2 ∨ n = 3 ∨ n = 4 ∨ n = 5 ∨ n = 6 ∨ n = 7 ∨ n = 8 ∨ n = 9 ∨ n = 10 := by omega
  rcases this with rfl | rfl | rfl | rfl | rfl | rfl | rfl | rfl | rfl | rfl | rfl <;> decide +kernel
section
variable {e : S49} (hb : EB e) (ho : EdOk e)
include hb ho
theorem types_le : e.f1.length ≤ 10 := by
  obtain ⟨h, -⟩ := ho
  unfold labB at h
  simp only [Bool.and_eq_true, decide_eq_true_eq] at h
  exact h.1
theorem rep_le : (repT e).size ≤ 7 := by
  obtain ⟨-, -, -, h⟩ := ho
  unfold repT
  cases c : e.f3 with
  | false => simp only [Bool.false_eq_true, if_false]; show (0 : Nat) ≤ _; omega
  | true =>
    rw [c] at h
    simp only [if_true] at h ⊢
    have a := small_itoa h.1 (by omega)
    have b := small_itoa (n := e.f5) (by omega) h.2.2.2
    simp [ByteArray.size_append, szA]; omega
theorem mid_le : (midT e).size ≤ 12000000 := by
  have h1 := rep_le hb ho
  have h2 := types_le hb ho
  have h3 := tyT_size hb.2 e.f1.length
  have h4 := hb.1
  unfold midT
  simp [ByteArray.size_append, szA]
  have : e.f1.length * 1048577 ≤ 10 * 1048577 := Nat.mul_le_mul_right _ h2
  omega
theorem edge_le : (edgeT e).size ≤ 12000010 := by
  have := mid_le hb ho
  unfold edgeT
  split
  · simp [ByteArray.size_append, szA]; omega
  · split <;> simp [ByteArray.size_append, szA] <;> omega
theorem edge_sh : Ev (fun k => spec_l08ShowEdge.f k e) (edgeT e) := by
  have hr := rep_le hb ho
  have ht := types_le hb ho
  have hm := mid_le hb ho
  have fin : ∀ b : Bool, Ev (fun k => spec_l08ShowEdge.j1 k (midT e) e b) (edgeT e) := fun b => by
    refine Ev.step ?_
    unfold edgeT
    simp only [spec_l08ShowEdge.j1]
    by_cases c1 : e.f2 = 1
    · simp only [show (e.f2 == 1) = true by simpa using c1, cond_true, if_pos c1]
      rw [cat_ (by simp [szA]; omega)]
      simp only [Option.bind_some]
      rw [cat_ (by simp [ByteArray.size_append, szA]; omega)]; exact Ev.ret _
    · simp only [show (e.f2 == 1) = false by simpa using c1, cond_false, if_neg c1]
      by_cases c2 : e.f2 = 2
      · simp only [show (e.f2 == 2) = true by simpa using c2, cond_true, if_pos c2]
        rw [cat_ (by simp [szA]; omega)]
        simp only [Option.bind_some]
        rw [cat_ (by simp [ByteArray.size_append, szA]; omega)]; exact Ev.ret _
      · simp only [show (e.f2 == 2) = false by simpa using c2, cond_false, if_neg c2]
        rw [cat_ (by simp [szA]; omega)]
        simp only [Option.bind_some]
        rw [cat_ (by simp [ByteArray.size_append, szA]; omega)]; exact Ev.ret _
  have hA : (((⟨#[91]⟩ : ByteArray) ++ e.f0)).size ≤ 1048577 := by have := hb.1; simp [ByteArray.size_append, szA]; omega
  have loop : ∀ (n i : Nat), e.f1.length - i ≤ n → i ≤ e.f1.length → Ev (fun k => spec_l08ShowEdge.l0 k (((⟨#[91]⟩ : ByteArray) ++ e.f0) ++ tyT e.f1 i) (i : Int) e) (edgeT e) := by
    have last : ∀ i : Nat, ¬ i < e.f1.length → i ≤ e.f1.length → Ev (fun k => spec_l08ShowEdge.l0 k (((⟨#[91]⟩ : ByteArray) ++ e.f0) ++ tyT e.f1 i) (i : Int) e) (edgeT e) := fun i h h' => by
      obtain rfl : i = e.f1.length := by omega
      have h3 := tyT_size hb.2 e.f1.length
      have h5 : e.f1.length * 1048577 ≤ 10 * 1048577 := Nat.mul_le_mul_right _ ht
      refine Ev.step ?_
      simp only [spec_l08ShowEdge.l0, ltn h, cond_false]
      cases c : e.f3 with
      | false =>
        simp only [cond_false]
        have em : (((⟨#[91]⟩ : ByteArray) ++ e.f0) ++ tyT e.f1 e.f1.length) = midT e := by unfold midT repT; rw [c]; simp only [Bool.false_eq_true, if_false, ap_nil]
        rw [em]; exact fin false
      | true =>
        simp only [cond_true]
        obtain ⟨-, -, -, h⟩ := ho
        rw [c] at h
        simp only [if_true] at h
        have a := small_itoa h.1 (by omega)
        have b := small_itoa (n := e.f5) (by omega) h.2.2.2
        rw [cat_ (by simp [ByteArray.size_append, szA] at hA ⊢; omega)]
        simp only [Option.bind_some]
        refine Ev.bind (dec_ (by omega) (by omega)) ?_
        rw [cat_ (by simp [ByteArray.size_append, szA] at hA ⊢; omega)]
        simp only [Option.bind_some]
        rw [cat_ (by simp [ByteArray.size_append, szA] at hA ⊢; omega)]
        simp only [Option.bind_some]
        refine Ev.bind (dec_ (by omega) (by omega)) ?_
        rw [cat_ (by simp [ByteArray.size_append, szA] at hA ⊢; omega)]
        simp only [Option.bind_some]
        have em : (((((((⟨#[91]⟩ : ByteArray) ++ e.f0) ++ tyT e.f1 e.f1.length) ++ (⟨#[42]⟩ : ByteArray)) ++ bs (Lib.itoa e.f4)) ++ (⟨#[46, 46]⟩ : ByteArray)) ++ bs (Lib.itoa e.f5)) = midT e := by
          unfold midT repT; rw [c]; simp only [if_true, ByteArray.append_assoc]
        rw [em]; exact fin true
    intro n
    induction n with
    | zero => intro i h h'; exact last i (by omega) h'
    | succ n ih =>
      intro i h h'
      by_cases hi : i < e.f1.length
      case neg => exact last i hi h'
      have h3 := tyT_size hb.2 i
      have h5 : i * 1048577 ≤ 10 * 1048577 := Nat.mul_le_mul_right _ (by omega)
      have hx := hb.2 _ (List.getElem_mem hi)
      have g := ih (i + 1) (by omega) (by omega)
      have eg : e.f1.getD i e0 = e.f1[i] := by simp [List.getD_eq_getElem?_getD, hi]
      rw [tyT, eg, ← ByteArray.append_assoc, ← ByteArray.append_assoc] at g
      refine Ev.step ?_
      simp only [spec_l08ShowEdge.l0, ltd hi, cond_true]
      have hAT : (((⟨#[91]⟩ : ByteArray) ++ e.f0) ++ tyT e.f1 i).size ≤ 12000000 := by rw [ByteArray.size_append]; omega
      by_cases h0 : i = 0
      · simp only [if_pos h0] at g
        have z : ((i : Int) == 0) = true := by rw [h0]; rfl
        have x0 : ix e.f1 0 = some e.f1[i] := by have q := ixg (l := e.f1) hi; rwa [show ((i : Nat) : Int) = 0 by omega] at q
        simp only [z, cond_true]
        rw [cat_ (by rw [sz1]; omega)]
        simp only [Option.bind_some, x0]
        rw [cat_ (by rw [ByteArray.size_append, sz1]; omega)]
        simp only [Option.bind_some]
        refine Ev.step ?_
        simp only [spec_l08ShowEdge.j0, wup hi (show e.f1.length ≤ 2000000 by omega)]
        exact g
      · simp only [if_neg h0] at g
        simp only [show ((i : Int) == 0) = false by simp; omega, cond_false]
        rw [cat_ (by rw [sz1]; omega)]
        simp only [Option.bind_some, ixg hi]
        rw [cat_ (by rw [ByteArray.size_append, sz1]; omega)]
        simp only [Option.bind_some]
        refine Ev.step ?_
        simp only [spec_l08ShowEdge.j0, wup hi (show e.f1.length ≤ 2000000 by omega)]
        exact g
  refine Ev.step ?_
  simp only [spec_l08ShowEdge.f]
  rw [cat_ (by have := hb.1; simp [szA]; omega)]
  simp only [Option.bind_some]
  have := loop _ 0 (Nat.le_refl _) (Nat.zero_le _)
  rw [tyT, ap_nil] at this
  exact this
theorem edge_ish : Ev (fun k => impl_PatEdge_show.f k e) (edgeT e) := by
  have hr := rep_le hb ho
  have ht := types_le hb ho
  have hm := mid_le hb ho
  have fin : ∀ b : Bool, Ev (fun k => impl_PatEdge_show.j1 k ((⟨#[45]⟩ : ByteArray) ++ midT e) e b) (edgeT e) := fun b => by
    refine Ev.step ?_
    unfold edgeT
    simp only [impl_PatEdge_show.j1]
    by_cases c1 : e.f2 = 1
    · simp only [show (e.f2 == 1) = true by simpa using c1, cond_true, if_pos c1]
      rw [cat_ (by simp [ByteArray.size_append, szA]; omega)]; exact Ev.ret _
    · simp only [show (e.f2 == 1) = false by simpa using c1, cond_false, if_neg c1]
      by_cases c2 : e.f2 = 2
      · simp only [show (e.f2 == 2) = true by simpa using c2, cond_true, if_pos c2]
        rw [cat_ (by simp [ByteArray.size_append, szA]; omega)]
        simp only [Option.bind_some]
        rw [cat_ (by simp [ByteArray.size_append, szA]; omega)]
        have : ((⟨#[60, 45]⟩ : ByteArray) ++ midT e) = (⟨#[60]⟩ : ByteArray) ++ ((⟨#[45]⟩ : ByteArray) ++ midT e) := by
          rw [← ByteArray.append_assoc]; rfl
        rw [this]; exact Ev.ret _
      · simp only [show (e.f2 == 2) = false by simpa using c2, cond_false, if_neg c2]
        rw [cat_ (by simp [ByteArray.size_append, szA]; omega)]; exact Ev.ret _
  have hA : (((⟨#[45, 91]⟩ : ByteArray) ++ e.f0)).size ≤ 1048578 := by have := hb.1; simp [ByteArray.size_append, szA]; omega
  have pre : ((⟨#[45, 91]⟩ : ByteArray) ++ e.f0) = (⟨#[45]⟩ : ByteArray) ++ ((⟨#[91]⟩ : ByteArray) ++ e.f0) := by rw [← ByteArray.append_assoc]; rfl
  have h3 := tyT_size hb.2 e.f1.length
  have h5 : e.f1.length * 1048577 ≤ 10 * 1048577 := Nat.mul_le_mul_right _ ht
  have rest : Ev (fun k => impl_PatEdge_show.j0 k (((⟨#[45, 91]⟩ : ByteArray) ++ e.f0) ++ tyT e.f1 e.f1.length) e) (edgeT e) := by
    refine Ev.step ?_
    simp only [impl_PatEdge_show.j0]
    cases c : e.f3 with
    | false =>
      simp only [cond_false]
      have em : (((⟨#[45, 91]⟩ : ByteArray) ++ e.f0) ++ tyT e.f1 e.f1.length) = (⟨#[45]⟩ : ByteArray) ++ midT e := by
        rw [pre]; unfold midT repT; rw [c]; simp only [Bool.false_eq_true, if_false, ap_nil, ByteArray.append_assoc]
      rw [em]; exact fin false
    | true =>
      simp only [cond_true]
      obtain ⟨-, -, -, h⟩ := ho
      rw [c] at h
      simp only [if_true] at h
      have a := small_itoa h.1 (by omega)
      have b := small_itoa (n := e.f5) (by omega) h.2.2.2
      have n4 : ∀ k, impl_num.f k e.f4 = some (bs (Lib.itoa e.f4)) := fun k => num_i k (by omega) (by omega)
      have n5 : ∀ k, impl_num.f k e.f5 = some (bs (Lib.itoa e.f5)) := fun k => num_i k (by omega) (by omega)
      simp only [n4, n5, Option.bind_some]
      rw [cat_ (by simp [ByteArray.size_append, szA] at hA ⊢; omega)]
      simp only [Option.bind_some]
      rw [cat_ (by simp [ByteArray.size_append, szA] at hA ⊢; omega)]
      simp only [Option.bind_some]
      rw [cat_ (by simp [ByteArray.size_append, szA] at hA ⊢; omega)]
      simp only [Option.bind_some]
      rw [cat_ (by simp [ByteArray.size_append, szA] at hA ⊢; omega)]
      simp only [Option.bind_some]
      have em : ((((⟨#[45, 91]⟩ : ByteArray) ++ e.f0) ++ tyT e.f1 e.f1.length) ++ ((((⟨#[42]⟩ : ByteArray) ++ bs (Lib.itoa e.f4)) ++ (⟨#[46, 46]⟩ : ByteArray)) ++ bs (Lib.itoa e.f5))) = (⟨#[45]⟩ : ByteArray) ++ midT e := by
        rw [pre]; unfold midT repT; rw [c]; simp only [if_true, ByteArray.append_assoc]
      rw [em]; exact fin true
  refine Ev.step ?_
  simp only [impl_PatEdge_show.f]
  rw [cat_ (by have := hb.1; simp [szA]; omega)]
  simp only [Option.bind_some]
  by_cases hl : 0 < e.f1.length
  · simp only [decide_eq_true (show (0 : Int) < (e.f1.length : Int) by omega), cond_true, join_i _ hl (by omega) hb.2, Option.bind_some]
    have e6 := tyT_join e.f1 _ hl
    have e7 := h3
    rw [e6, ByteArray.size_append] at e7
    rw [cat_ (by omega)]
    simp only [Option.bind_some]
    rw [← e6, cat_ (by omega)]
    simp only [Option.bind_some]
    exact rest
  · simp only [decide_eq_false (show ¬ (0 : Int) < (e.f1.length : Int) by omega), cond_false]
    have e0' : e.f1.length = 0 := by omega
    rw [e0', tyT, ap_nil] at rest
    exact rest
end
end Go.Ab
