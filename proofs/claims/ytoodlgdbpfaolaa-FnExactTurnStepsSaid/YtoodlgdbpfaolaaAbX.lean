/- Functions of the library: what they tell, and their contracts. No condition beyond KOk. -/
import Derived.Test.YtoodlgdbpfaolaaAbC
import Derived.Test.YtoodlgdbpfaolaaShelf
import Derived.Lib.LaidTab
namespace Go.Ab
open Go.Proofs Go.RowKit
set_option linter.unusedVariables false
set_option linter.unusedSimpArgs false
theorem ral2 {ι : Pl} {w : World} {vs : Array Value} {a b : AV} (h : RaL ι [] w vs [a, b]) : ∃ x y, vs = #[x, y] ∧ Ra ι [] w x a ∧ Ra ι [] w y b := by
  obtain ⟨l⟩ := vs
  obtain ⟨hl, h⟩ := h
  match l, hl, h with
  | [x, y], _, h => exact ⟨x, y, rfl, h 0 x a rfl rfl, h 1 y b rfl rfl⟩
theorem ral3 {ι : Pl} {w : World} {vs : Array Value} {a b c : AV} (h : RaL ι [] w vs [a, b, c]) : ∃ x y z, vs = #[x, y, z] ∧ Ra ι [] w x a ∧ Ra ι [] w y b ∧ Ra ι [] w z c := by
  obtain ⟨l⟩ := vs
  obtain ⟨hl, h⟩ := h
  match l, hl, h with
  | [x, y, z], _, h => exact ⟨x, y, z, rfl, h 0 x a rfl rfl, h 1 y b rfl rfl, h 2 z c rfl rfl⟩
theorem ra_int {ι : Pl} {w : World} (k : IntKind) (n : Int) : Ra ι [] w (.int k n) (.p (.int k n)) := .p _ _ (.int k n)
theorem ra_str {ι : Pl} {w : World} (s : ByteArray) : Ra ι [] w (.string s) (.p (.str s)) := .p _ _ (.str s)
theorem ra_bool {ι : Pl} {w : World} (s : Bool) : Ra ι [] w (.bool s) (.p (.bool s)) := .p _ _ (.bool s)
theorem ra_nil {ι : Pl} {w : World} : Ra ι [] w .nilIface (.p (.ifc true)) := .p _ _ (.ifc _ _ (fun _ => rfl) (fun h => by cases h))
theorem ra_ifc {ι : Pl} {w : World} (t : TypeId) (x : Value) : Ra ι [] w (.iface t x) (.p (.ifc false)) := .p _ _ (.ifc _ _ (fun h => by cases h) (fun _ => ⟨_, _, rfl⟩))
theorem ra_tup2 {ι : Pl} {w : World} {a b : Value} {x y : AV} (h : Ra ι [] w a x) (h' : Ra ι [] w b y) : Ra ι [] w (.tuple #[a, b]) (.tup [x, y]) :=
  .tup _ _ rfl fun i v c hv hc => by
    match i, hv, hc with
    | 0, hv, hc => simp at hv hc; subst hv; subst hc; exact h
    | 1, hv, hc => simp at hv hc; subst hv; subst hc; exact h'
    | n + 2, hv, _ => simp at hv
def strings_Join.f (k : Nat) (l : List ByteArray) (a : ByteArray) : Option ByteArray := if l.length ≤ 140737488355328 ∧ (Lib.join (l.map (·.data.toList)) a.data.toList).length ≤ 140737488355328 then some ⟨(Lib.join (l.map (·.data.toList)) a.data.toList).toArray⟩ else none
theorem strings_Join.con {K : Kn} [hk : KOk K] {k : Nat} {l : List ByteArray} {a r : ByteArray} (h : strings_Join.f k l a = some r) :
    Con K Try.prog 42 [.p (.lst false (List.map srw l)), .p (.str a)] [] (.p (.str r)) [] := by
  unfold strings_Join.f at h
  split at h
  case isFalse => cases h
  rename_i hl
  cases h
  refine con_ext ⟨_, Try.func42, by kernel_rfl, by kernel_rfl⟩ ?_
  rintro w vs hK ⟨ι, hA⟩
  obtain ⟨v0, v1, rfl, a0, a1⟩ := ral2 hA
  obtain rfl := a1.str
  cases a0 with
  | p _ _ hp =>
    obtain ⟨A, cap, sz, u, rfl, hcap, hsz, hc, hr⟩ := hp.inv
    rw [List.length_map]
    cases l with
    | nil =>
      refine (Try.strings_Join_none A cap a w).mono ?_
      rintro e w' ⟨rfl, rfl⟩
      exact ⟨_, rfl, Below.refl _ _, fun ι => ra_str _⟩
    | cons x xs =>
      have h1 : sz = 1 := (hsz 0 (srw x) rfl).symm
      subst h1
      have cell : ∀ (j : Nat) (y : ByteArray), (x :: xs)[j]? = some y → ∃ ad, A = some ad ∧ w.cell? (ad.add j) = some (.string y) := fun j y hj => by
        have hrow : (List.map srw (x :: xs))[j]? = some [.str y] := by rw [List.getElem?_map, hj]; rfl
        obtain ⟨ad, hA, hcell, _⟩ := hc j [.str y] 0 (.str y) hrow rfl
        have hv := hr j [.str y] 0 (.str y) hrow rfl
        refine ⟨ad, hA, ?_⟩
        have this : u j 0 = .string y := (fun v (h : Rp _ w v (.str y)) => (by cases h; rfl : v = .string y)) _ hv
        rw [← this]
        simpa using hcell
      obtain ⟨ad, rfl, h0⟩ := cell 0 x rfl
      obtain ⟨b, o, s⟩ := ad
      have hs : s = none := by
        cases s with
        | none => rfl
        | some z =>
          exfalso
          simp only [Addr.add, if_pos, World.cell?] at h0
          cases hb : w.heap[b]? with
          | none => rw [hb] at h0; cases h0
          | some q => rw [hb] at h0; cases q <;> simp at h0
      subst hs
      have hb : b < w.heap.size := by
        have := World.block_lt_of_cell? w _ h0
        simpa [Addr.add] using this
      refine (Try.strings_Join b o cap (x :: xs) a w ?_ hb hl.1 (by simpa using hcap) hl.2).mono ?_
      · intro j y hj
        obtain ⟨ad, e1, hcl⟩ := cell j y hj
        cases e1
        rw [add_mk] at hcl
        exact hcl
      · rintro e w' ⟨rfl, hbl⟩
        exact ⟨_, rfl, hbl, fun ι => ra_str _⟩
end Go.Ab
