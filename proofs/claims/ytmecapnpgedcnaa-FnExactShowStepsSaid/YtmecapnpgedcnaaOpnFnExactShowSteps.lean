/- The bounds of what is handed in, and how each argument of the law is opened as lists and numbers. -/
import Derived.Test.YtmecapnpgedcnaaPFnExactShowStepsx14
import Derived.WalkKit
import Derived.ProofKit
import Derived.OpenShut
import Derived.ShutString
import Derived.ChangeOld
import Derived.SizedLaws
import Derived.Deep.Slices
namespace Go.Proofs.Ytmecapnpgedcnaa.OFnExactShowSteps
open Go.ChangeShapes Go.WideShapes Go.ChangeAt Go.RowKit Go.Deep
open Go.Proofs.YtmecapnpgedcnaaW.PrintWords Go.Proofs.Ytmecapnpgedcnaa.PFnExactShowSteps
def InK (k : IntKind) (n : Int) : Prop := k.min ≤ n ∧ n ≤ k.max
def Any (_ : Bool) : Prop := True
def Str (s : ByteArray) : Prop := s.size ≤ 9223372036854775807
def Lst {α : Type} (wf : α → Prop) (xs : List α) : Prop := xs.length ≤ 9223372036854775807 ∧ ∀ x ∈ xs, wf x
theorem ink_i64 {n : Int} (h : InK .i64 n) : -9223372036854775808 ≤ n ∧ n ≤ 9223372036854775807 := by
  obtain ⟨h1, h2⟩ := h
  simp [IntKind.min, IntKind.max, IntKind.bits, IntKind.signed] at h1 h2
  omega
theorem ink_of {k : IntKind} {n : Int} (h : (Lit.int k n).wf = true) : InK k n := by
  simpa [Lit.wf, InK] using h
theorem str_of {s : ByteArray} (h : s.size ≤ maxLen) : Str s := by
  unfold maxLen at h
  unfold Str
  omega
/-- What reads as data of type t is of the kind d, and within its bounds. -/
def Op (P : Program) (W : World) {α : Type} (d : Kd α) (t : TypeId) (wf : α → Prop) : Prop :=
  ∀ {H : Type} (enc : TypeId × Value → H) (fuel : Nat) (cs : List Value) (x : DataW H × List MemPlace), DataW.trod enc P W 0 (fun _ => true) true fuel t cs = some x → ∃ v, d.K W v cs ∧ wf v
def OpF (P : Program) (W : World) (fs : List Field) (o n : Nat) {α : Type} (d : Kd α) (wf : α → Prop) : Prop :=
  ∀ {H : Type} (enc : TypeId × Value → H) (fuel : Nat) (cs : List Value), cs.length = n → (∀ (i : Nat) (f : Field), fs[i]? = some f → ∃ y, DataW.trod enc P W 0 (fun _ => true) true fuel f.type ((cs.drop (f.offset - o)).take (P.cellsOf f.type)) = some y) → ∃ v, d.K W v cs ∧ wf v
section
variable {P : Program} {W : World}
theorem op_int {t : TypeId} {k : IntKind} (ht : P.underlying t = some (.int k)) : Op P W (Kd.int k) t (InK k) := by
  intro H enc fuel cs x h
  cases fuel with
  | zero => simp [DataW.trod] at h
  | succ n =>
    unfold DataW.trod at h
    rw [ht] at h
    split at h <;> simp_all [Lit.wf]
    obtain ⟨⟨rfl, h1, h2⟩, _⟩ := h
    exact ⟨_, rfl, h1, h2⟩
theorem op_bool {t : TypeId} (ht : P.underlying t = some .bool) : Op P W Kd.bool t Any := by
  intro H enc fuel cs x h
  cases fuel with
  | zero => simp [DataW.trod] at h
  | succ n =>
    unfold DataW.trod at h
    rw [ht] at h
    split at h
    case h_1 b _ => exact ⟨_, rfl, trivial⟩
    all_goals simp_all
theorem op_string {t : TypeId} (ht : P.underlying t = some .string) : Op P W Kd.string t Str := by
  intro H enc fuel cs x h
  cases fuel with
  | zero => simp [DataW.trod] at h
  | succ n =>
    unfold DataW.trod at h
    rw [ht] at h
    split at h <;> simp_all
    exact ⟨_, rfl, by have := h.1; unfold Str; unfold maxLen at this; omega⟩
theorem op_slice {t e : TypeId} {α : Type} {d : Kd α} {wf : α → Prop} (ht : P.underlying t = some (.slice e)) (hc : P.cellsOf e = d.sz) (he : Op P W d e wf) : Op P W (Kd.slice e d) t (Lst wf) := by
  intro H enc fuel cs x h
  rcases open_slice ht h with ⟨rfl, _⟩ | ⟨a, len, cap, m, n, D, Pl, rfl, _, hl, hm, hmm, rfl, hx⟩
  · exact ⟨[], ⟨none, 0, rfl, Nat.le_refl _, rfl, by simp, fun h => absurd h (by simp)⟩, by simp, by simp⟩
  · have hle : len ≤ m := by rw [hmm]; simp; exact hl
    have hex : ∀ i, i < len → ∃ v : α, wf v ∧ ∃ cs', cs'.length = d.sz ∧ d.K W v cs' ∧ ∀ j u, cs'[j]? = some u → W.cell? (a.add (i * d.sz + j)) = some u := by
      intro i hi
      obtain ⟨cs', h1, h2⟩ := hx i (Nat.lt_of_lt_of_le hi hle)
      obtain ⟨v, hv, hw⟩ := he enc n cs' _ h2
      obtain ⟨_, hlen, hcell⟩ := World.cells?_some h1
      refine ⟨v, hw, cs', hlen.trans hc, hv, fun j u hj => ?_⟩
      have hjl : j < cs'.length := (List.getElem?_eq_some_iff.1 hj).1
      have := hcell j (by omega)
      rw [Go.Deep.add_add, hc] at this
      rw [this, hj]
    have hml : len ≤ 9223372036854775807 := by unfold maxLen at hm; omega
    by_cases h0 : len = 0
    · subst h0
      exact ⟨[], ⟨some a, cap, rfl, Nat.zero_le _, rfl, by simp, fun h => absurd h (by simp)⟩, by simp, by simp⟩
    · obtain ⟨v0, _⟩ := hex 0 (by omega)
      letI : Inhabited α := ⟨v0⟩
      obtain ⟨F, hF⟩ := choose_lt hex
      refine ⟨(List.range len).map F, ⟨some a, cap, by simp, by simpa using hl, by simp, by simpa using hml, fun _ => ⟨a, rfl, fun j p hj => ?_⟩⟩, by simpa using hml, fun x hx => ?_⟩
      · obtain ⟨hj1, hj2⟩ := List.getElem?_eq_some_iff.1 hj
        simp at hj1 hj2
        subst hj2
        obtain ⟨_, cs', h1, h2, h3⟩ := hF j hj1
        exact ⟨cs', h1, h2, h3⟩
      · obtain ⟨i, hi, rfl⟩ := List.mem_map.1 hx
        exact (hF i (List.mem_range.1 hi)).1
theorem opf_one {f : Field} {o n : Nat} {α : Type} {d : Kd α} {wf : α → Prop} (ho : f.offset = o) (hn : P.cellsOf f.type = n) (h : Op P W d f.type wf) : OpF P W [f] o n d wf := by
  intro H enc fuel cs hl hf
  obtain ⟨y, hy⟩ := hf 0 f rfl
  rw [ho, Nat.sub_self, List.drop_zero, hn, List.take_of_length_le (by omega)] at hy
  exact h enc fuel cs y hy
theorem opf_cons {f : Field} {fs : List Field} {o c n : Nat} {α β : Type} {d : Kd α} {d' : Kd β} {wf : α → Prop} {wf' : β → Prop} (ho : f.offset = o) (hc : P.cellsOf f.type = c) (hlt : ∀ g ∈ fs, o + c ≤ g.offset) (h : Op P W d f.type wf) (h' : OpF P W fs (o + c) n d' wf') :
    OpF P W (f :: fs) o (c + n) (Kd.pair d d') (fun x => wf x.1 ∧ wf' x.2) := by
  intro H enc fuel cs hl hf
  obtain ⟨y, hy⟩ := hf 0 f rfl
  rw [ho, Nat.sub_self, List.drop_zero, hc] at hy
  obtain ⟨v, hv, hw⟩ := h enc fuel _ y hy
  obtain ⟨v', hv', hw'⟩ := h' enc fuel (cs.drop c) (by simp; omega) (fun i g hg => by
    obtain ⟨z, hz⟩ := hf (i + 1) g (by simpa using hg)
    have := hlt g (List.mem_of_getElem? hg)
    refine ⟨z, ?_⟩
    rw [List.drop_drop, show c + (g.offset - (o + c)) = g.offset - o by omega]
    exact hz)
  exact ⟨(v, v'), ⟨_, _, (List.take_append_drop c cs).symm, hv, hv'⟩, hw, hw'⟩
theorem op_struct {t : TypeId} {fs : Array Field} {n : Nat} {α β : Type} {d : Kd α} {wf : α → Prop} (ht : P.underlying t = some (.struct fs)) (hc : P.cellsOf t = n) (h : OpF P W fs.toList 0 n d wf) (f : β → α) (g : α → β) (hg : ∀ a, f (g a) = a) : Op P W (Kd.iso d f) t (fun x => wf (f x)) := by
  intro H enc fuel cs x hx
  obtain ⟨xs, m, _, rfl, hl, hlen, hf⟩ := DataW.trod_struct ht hx
  obtain ⟨v, hv, hw⟩ := h enc m cs (hl.trans hc) (fun i q hq => by
    have h1 := hf i q (by simpa using hq)
    have hi : i < fs.size := by
      have := (List.getElem?_eq_some_iff.1 hq).1
      simpa using this
    obtain ⟨y, hy⟩ : ∃ y, xs[i]? = some y := ⟨_, List.getElem?_eq_getElem (by omega)⟩
    exact ⟨y, by rw [Nat.sub_zero, h1, hy]⟩)
  refine ⟨g v, ?_, ?_⟩
  · show d.K W (f (g v)) cs
    rw [hg]; exact hv
  · show wf (f (g v))
    rw [hg]; exact hw
end
def wf64 (x : S64) : Prop := (InK .i64) x.f0 ∧ Str x.f1 ∧ (InK .i64) x.f2
theorem op64 {W : World} : Op Try.prog W k64 64 wf64 := op_struct (n := 3) Try.underlying64 (by kernel_rfl) (opf_cons (c := 1) (n := 2) rfl (by kernel_rfl) (by simp) (op_int Try.underlying2) (opf_cons (c := 1) (n := 1) rfl (by kernel_rfl) (by simp) (op_string Try.underlying9) (opf_one (n := 1) rfl (by kernel_rfl) (op_int Try.underlying2)))) (fun x : S64 => (x.f0, x.f1, x.f2)) (fun a => ⟨a.1, a.2.1, a.2.2⟩) (fun _ => rfl)
/-- THE ONE PURE STATEMENT. -/
def Said : Prop := ∀ (l0 : (List S64)), (Lst wf64) l0 → ∃ k, laws_FnExactShowSteps.f k l0 = some true
end Go.Proofs.Ytmecapnpgedcnaa.OFnExactShowSteps
