/- How the arguments of a law are opened as rows; from a contract to the row. -/
import Derived.Test.YtphfoghhcemfhaaAbR
import Derived.OpenShut
import Derived.ShutString
import Derived.ChangeOld
import Derived.SizedLaws
import Derived.Deep.Slices
import Derived.WalkKit
import Derived.ProofKit
import Derived.Below
namespace Go.Ab
open Go.ChangeShapes Go.WideShapes Go.ChangeAt Go.RowKit Go.Deep
set_option linter.unusedVariables false
set_option linter.unusedSimpArgs false
def InK (k : IntKind) (n : Int) : Prop := k.min ≤ n ∧ n ≤ k.max
def Any (_ : Bool) : Prop := True
def Str (s : ByteArray) : Prop := s.size ≤ 9223372036854775807
def Lst {α : Type} (wf : α → Prop) (xs : List α) : Prop := xs.length ≤ 9223372036854775807 ∧ ∀ x ∈ xs, wf x
theorem ink_i64 {n : Int} (h : InK .i64 n) : -9223372036854775808 ≤ n ∧ n ≤ 9223372036854775807 := by
  obtain ⟨h1, h2⟩ := h
  simp [IntKind.min, IntKind.max, IntKind.bits, IntKind.signed] at h1 h2
  omega
def Nobody (_ _ : Nat) : Prop := False
def RowP (W : World) (row : List PV) (cs : List Value) : Prop := cs.length = row.length ∧ ∀ (j : Nat) (c : Value) (pv : PV), cs[j]? = some c → row[j]? = some pv → Rp Nobody W c pv
theorem RowP.one {W : World} {c : Value} {pv : PV} (h : Rp Nobody W c pv) : RowP W [pv] [c] := by
  refine ⟨rfl, fun j c' pv' h1 h2 => ?_⟩
  cases j with
  | zero => simp at h1 h2; subst h1; subst h2; exact h
  | succ j => simp at h1
theorem RowP.app {W : World} {r1 r2 : List PV} {c1 c2 : List Value} (h1 : RowP W r1 c1) (h2 : RowP W r2 c2) : RowP W (r1 ++ r2) (c1 ++ c2) := by
  refine ⟨by simp [h1.1, h2.1], fun j c pv hc hp => ?_⟩
  rw [List.getElem?_append] at hc hp
  rw [h1.1] at hc
  split at hc
  · rename_i hj; rw [if_pos hj] at hp; exact h1.2 j c pv hc hp
  · rename_i hj; rw [if_neg hj] at hp; exact h2.2 _ c pv hc hp
/-- What reads as data of type t is one row of cells, and within its bounds. -/
def Op (P : Program) (W : World) {α : Type} (f : α → List PV) (t : TypeId) (wf : α → Prop) : Prop :=
  ∀ {H : Type} (enc : TypeId × Value → H) (fuel : Nat) (cs : List Value) (x : DataW H × List MemPlace), DataW.trod enc P W 0 (fun _ => true) true fuel t cs = some x → ∃ v, RowP W (f v) cs ∧ wf v
def OpF (P : Program) (W : World) (fs : List Field) (o n : Nat) {α : Type} (f : α → List PV) (wf : α → Prop) : Prop :=
  ∀ {H : Type} (enc : TypeId × Value → H) (fuel : Nat) (cs : List Value), cs.length = n → (∀ (i : Nat) (q : Field), fs[i]? = some q → ∃ y, DataW.trod enc P W 0 (fun _ => true) true fuel q.type ((cs.drop (q.offset - o)).take (P.cellsOf q.type)) = some y) → ∃ v, RowP W (f v) cs ∧ wf v
section
variable {P : Program} {W : World}
theorem op_int {t : TypeId} {k : IntKind} (ht : P.underlying t = some (.int k)) : Op P W (irow k) t (InK k) := by
  intro H enc fuel cs x h
  cases fuel with
  | zero => simp [DataW.trod] at h
  | succ n =>
    unfold DataW.trod at h
    rw [ht] at h
    split at h <;> simp_all [Lit.wf]
    obtain ⟨⟨rfl, h1, h2⟩, _⟩ := h
    exact ⟨_, RowP.one (.int _ _), h1, h2⟩
theorem op_bool {t : TypeId} (ht : P.underlying t = some .bool) : Op P W brw t Any := by
  intro H enc fuel cs x h
  cases fuel with
  | zero => simp [DataW.trod] at h
  | succ n =>
    unfold DataW.trod at h
    rw [ht] at h
    split at h
    case h_1 b _ => exact ⟨_, RowP.one (.bool b), trivial⟩
    all_goals simp_all
theorem op_string {t : TypeId} (ht : P.underlying t = some .string) : Op P W srw t Str := by
  intro H enc fuel cs x h
  cases fuel with
  | zero => simp [DataW.trod] at h
  | succ n =>
    unfold DataW.trod at h
    rw [ht] at h
    split at h <;> simp_all
    exact ⟨_, RowP.one (.str _), by have := h.1; unfold Str; unfold maxLen at this; omega⟩
theorem op_slice {t e : TypeId} {α : Type} {f : α → List PV} {wf : α → Prop} (ht : P.underlying t = some (.slice e)) {s : Nat} (hc : P.cellsOf e = s) (hs : ∀ x, (f x).length = s) (he : Op P W f e wf) : Op P W (lrw f) t (Lst wf) := by
  intro H enc fuel cs x h
  rcases open_slice ht h with ⟨rfl, _⟩ | ⟨a, len, cap, m, n, D, Pl, rfl, _, hl, hm, hmm, rfl, hx⟩
  · exact ⟨[], RowP.one (Rp.nil _ none 0), by simp [Lst]⟩
  · have hle : len ≤ m := by rw [hmm]; simp; exact hl
    have hex : ∀ i, i < len → ∃ v : α, wf v ∧ ∃ cs', cs'.length = s ∧ RowP W (f v) cs' ∧ ∀ (j : Nat) (u : Value), cs'[j]? = some u → W.cell? (a.add (i * s + j)) = some u := by
      intro i hi
      obtain ⟨cs', h1, h2⟩ := hx i (Nat.lt_of_lt_of_le hi hle)
      obtain ⟨v, hv, hw⟩ := he enc n cs' _ h2
      obtain ⟨_, hlen, hcell⟩ := World.cells?_some h1
      refine ⟨v, hw, cs', hlen.trans hc, hv, fun j u hj => ?_⟩
      have hjl : j < cs'.length := (List.getElem?_eq_some_iff.1 hj).1
      have := hcell j (by omega)
      rw [Go.Deep.add_add, hc] at this
      rw [this, hj]
    have hml : len ≤ 9223372036854775807 := by unfold maxLen at hm; omega
    by_cases h0 : len = 0
    · subst h0
      exact ⟨[], RowP.one (Rp.nil _ (some a) cap), by simp [Lst]⟩
    · obtain ⟨v0, _⟩ := hex 0 (by omega)
      letI : Inhabited α := ⟨v0⟩
      obtain ⟨F, hF⟩ := choose_lt hex
      have hrow : ∀ (i : Nat) (row : List PV), (((List.range len).map F).map f)[i]? = some row → i < len ∧ row = f (F i) := fun i row hi => by
        rw [List.getElem?_map, List.getElem?_map] at hi
        obtain ⟨y, hy, rfl⟩ := Option.map_eq_some_iff.mp hi
        obtain ⟨z, hz, rfl⟩ := Option.map_eq_some_iff.mp hy
        obtain ⟨h1, h2⟩ := List.getElem?_eq_some_iff.1 hz
        simp at h1 h2
        exact ⟨h1, by rw [h2]⟩
      refine ⟨(List.range len).map F, RowP.one ?_, by simpa using hml, fun x hx => ?_⟩
      · have := Rp.lst (Ow := Nobody) (w := W) (some a) cap s false (((List.range len).map F).map f) (fun i j => (W.cell? (a.add (i * s + j))).getD undef) (by simpa using hl) (by simp)
          (fun i row hi => by rw [(hrow i row hi).2]; exact hs _)
          (fun i row j c hi hj => by
            obtain ⟨h1, rfl⟩ := hrow i row hi
            obtain ⟨_, cs', h3, h4, h5⟩ := hF i h1
            have hjl : j < cs'.length := by rw [h4.1]; exact (List.getElem?_eq_some_iff.1 hj).1
            have h6 := h5 j cs'[j] (List.getElem?_eq_getElem hjl)
            exact ⟨a, rfl, by rw [h6]; rfl, fun h => h⟩)
          (fun i row j c hi hj => by
            obtain ⟨h1, rfl⟩ := hrow i row hi
            obtain ⟨_, cs', h3, h4, h5⟩ := hF i h1
            have hjl : j < cs'.length := by rw [h4.1]; exact (List.getElem?_eq_some_iff.1 hj).1
            have h6 := h5 j cs'[j] (List.getElem?_eq_getElem hjl)
            rw [h6]
            exact h4.2 j _ c (List.getElem?_eq_getElem hjl) hj)
        simpa using this
      · obtain ⟨i, hi, rfl⟩ := List.mem_map.1 hx
        exact (hF i (List.mem_range.1 hi)).1
theorem opf_one {q : Field} {o n : Nat} {α : Type} {f : α → List PV} {wf : α → Prop} (ho : q.offset = o) (hn : P.cellsOf q.type = n) (h : Op P W f q.type wf) : OpF P W [q] o n f wf := by
  intro H enc fuel cs hl hf
  obtain ⟨y, hy⟩ := hf 0 q rfl
  rw [ho, Nat.sub_self, List.drop_zero, hn, List.take_of_length_le (by omega)] at hy
  exact h enc fuel cs y hy
theorem opf_cons {q : Field} {fs : List Field} {o c n : Nat} {α β : Type} {f : α → List PV} {f' : β → List PV} {wf : α → Prop} {wf' : β → Prop} (ho : q.offset = o) (hc : P.cellsOf q.type = c) (hlt : ∀ g ∈ fs, o + c ≤ g.offset) (h : Op P W f q.type wf) (h' : OpF P W fs (o + c) n f' wf') :
    OpF P W (q :: fs) o (c + n) (fun x : α × β => f x.1 ++ f' x.2) (fun x => wf x.1 ∧ wf' x.2) := by
  intro H enc fuel cs hl hf
  obtain ⟨y, hy⟩ := hf 0 q rfl
  rw [ho, Nat.sub_self, List.drop_zero, hc] at hy
  obtain ⟨v, hv, hw⟩ := h enc fuel _ y hy
  obtain ⟨v', hv', hw'⟩ := h' enc fuel (cs.drop c) (by simp; omega) (fun i g hg => by
    obtain ⟨z, hz⟩ := hf (i + 1) g (by simpa using hg)
    have := hlt g (List.mem_of_getElem? hg)
    refine ⟨z, ?_⟩
    rw [List.drop_drop, show c + (g.offset - (o + c)) = g.offset - o by omega]
    exact hz)
  refine ⟨(v, v'), ?_, hw, hw'⟩
  have := hv.app hv'
  rwa [List.take_append_drop] at this
theorem op_struct {t : TypeId} {fs : Array Field} {n : Nat} {α β : Type} {f : α → List PV} {wf : α → Prop} (ht : P.underlying t = some (.struct fs)) (hc : P.cellsOf t = n) (h : OpF P W fs.toList 0 n f wf) (en : β → List PV) (wf' : β → Prop) (g : α → β) (hg : ∀ a, en (g a) = f a) (hw' : ∀ a, wf a → wf' (g a)) : Op P W en t wf' := by
  intro H enc fuel cs x hx
  obtain ⟨xs, m, _, rfl, hl, hlen, hf⟩ := DataW.trod_struct ht hx
  obtain ⟨v, hv, hw⟩ := h enc m cs (hl.trans hc) (fun i q hq => by
    have h1 := hf i q (by simpa using hq)
    have hi : i < fs.size := by
      have := (List.getElem?_eq_some_iff.1 hq).1
      simpa using this
    obtain ⟨y, hy⟩ : ∃ y, xs[i]? = some y := ⟨_, List.getElem?_eq_getElem (by omega)⟩
    exact ⟨y, by rw [Nat.sub_zero, h1, hy]⟩)
  exact ⟨g v, by rw [hg]; exact hv, hw' v hw⟩
end
/-- Nobody's places. -/
def pl0 (K : Kn) : Pl := ⟨fun _ => ⟨0, none, 0, 0⟩, Nobody, K⟩
theorem pl0_own {K : Kn} {b o : Nat} (h : Own (pl0 K) [] b o) : False := by
  rcases h with h | ⟨k, g, ob, hk, _⟩
  · exact h
  · cases hk
/-- What stands in the world at the law's call. -/
def Knows (K : Kn) (W : World) : Prop := ∀ p ∈ K, W.heap[p.1]? = some p.2
theorem pl0_mem {K : Kn} (W : World) (hK : Knows K W) : MemOk (pl0 K) [] W := ⟨fun k g ob h => (by cases h), fun _ _ _ _ _ _ _ _ _ h => (by cases h), fun _ _ h => h.elim, fun _ _ _ _ _ _ h => (by cases h), fun p hp => ⟨hK p hp, fun _ h => pl0_own h⟩⟩
theorem RowP.ra {K : Kn} {W : World} {c : Value} {pv : PV} (h : RowP W [pv] [c]) : Ra (pl0 K) [] W c (.p pv) := .p _ _ ((h.2 0 c pv rfl rfl).anti fun b o h => pl0_own h)
/-- A law's contract, as the row wants it. -/
theorem law_row {P : Program} {f : FuncId} {args : List AV} {vs : Array Value} {W : World} {K : Kn} (hK : Knows K W) (h : Con K P f args [] (.p (.bool true)) []) (ha : RaL (pl0 K) [] W vs args) :
    Calls P f vs W fun e W' => e = .returned (.bool true) ∧ Below W.heap.size W W' := by
  refine (h.2 (pl0 K) W vs (fun p hp => hp) (pl0_mem W hK) ha).mono fun e W' h => ?_
  obtain ⟨ι', cv, rfl, _, h2, h3, _⟩ := h
  refine ⟨by rw [h2.bool], h3.os, h3.tape, h3.output, h3.size, fun k hk => h3.blk k hk fun o ho => ?_⟩
  obtain ⟨j, g, ob, hj, _⟩ := ho
  cases hj
/-- A function that is told from outside: it makes blocks at most. -/
theorem con_ext {K : Kn} {P : Program} {f : FuncId} {args : List AV} {v : AV} (hf : FnOk P f)
  (h : ∀ (w : World) (vs : Array Value), Knows K w → (∃ ι, RaL ι [] w vs args) → Calls P f vs w fun e w' => ∃ cv, e = .returned cv ∧ Below w.heap.size w w' ∧ ∀ ι, Ra ι [] w' cv v) : Con K P f args [] v [] := by
  refine ⟨hf, fun ι w cargs hK hM hA => (h w cargs (fun p hp => (hM.gk p (hK p hp)).1) ⟨ι, hA⟩).mono fun e w' h => ?_⟩
  obtain ⟨cv, h1, h2, h3⟩ := h
  obtain ⟨q1, q2⟩ := quiet hM h2.os h2.tape h2.output h2.size h2.block
  exact ⟨ι, cv, h1, q1, h3 ι, q2.evo, q2.keys, rfl⟩
end Go.Ab
