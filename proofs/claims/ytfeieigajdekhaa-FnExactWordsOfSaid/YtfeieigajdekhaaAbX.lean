/- Functions of the library: what they tell, and their contracts. No condition beyond KOk. -/
import Derived.Test.YtfeieigajdekhaaAbC
import Derived.Lib.LaidTab
namespace Go.Ab
open Go.Proofs Go.RowKit
set_option linter.unusedVariables false
set_option linter.unusedSimpArgs false
theorem ral2 {ι : Pl} {w : World} {vs : Array Value} {a b : AV} (h : RaL ι [] w vs [a, b]) : ∃ x y, vs = #[x, y] ∧ Ra ι [] w x a ∧ Ra ι [] w y b := by
  obtain ⟨l⟩ := vs
  obtain ⟨hl, h⟩ := h
  match l, hl, h with
  | [x, y], _, h => exact ⟨x, y, rfl, h 0 x a rfl rfl, h 1 y b rfl rfl⟩
theorem ral3 {ι : Pl} {w : World} {vs : Array Value} {a b c : AV} (h : RaL ι [] w vs [a, b, c]) : ∃ x y z, vs = #[x, y, z] ∧ Ra ι [] w x a ∧ Ra ι [] w y b ∧ Ra ι [] w z c := by
  obtain ⟨l⟩ := vs
  obtain ⟨hl, h⟩ := h
  match l, hl, h with
  | [x, y, z], _, h => exact ⟨x, y, z, rfl, h 0 x a rfl rfl, h 1 y b rfl rfl, h 2 z c rfl rfl⟩
theorem ra_int {ι : Pl} {w : World} (k : IntKind) (n : Int) : Ra ι [] w (.int k n) (.p (.int k n)) := .p _ _ (.int k n)
theorem ra_str {ι : Pl} {w : World} (s : ByteArray) : Ra ι [] w (.string s) (.p (.str s)) := .p _ _ (.str s)
theorem ra_bool {ι : Pl} {w : World} (s : Bool) : Ra ι [] w (.bool s) (.p (.bool s)) := .p _ _ (.bool s)
theorem ra_nil {ι : Pl} {w : World} : Ra ι [] w .nilIface (.p (.ifc true)) := .p _ _ (.ifc _ _ (fun _ => rfl) (fun h => by cases h))
theorem ra_ifc {ι : Pl} {w : World} (t : TypeId) (x : Value) : Ra ι [] w (.iface t x) (.p (.ifc false)) := .p _ _ (.ifc _ _ (fun h => by cases h) (fun _ => ⟨_, _, rfl⟩))
theorem ra_tup2 {ι : Pl} {w : World} {a b : Value} {x y : AV} (h : Ra ι [] w a x) (h' : Ra ι [] w b y) : Ra ι [] w (.tuple #[a, b]) (.tup [x, y]) :=
  .tup _ _ rfl fun i v c hv hc => by
    match i, hv, hc with
    | 0, hv, hc => simp at hv hc; subst hv; subst hc; exact h
    | 1, hv, hc => simp at hv hc; subst hv; subst hc; exact h'
    | n + 2, hv, _ => simp at hv

end Go.Ab
