/- Functions of the library: what they tell, and their contracts. No condition beyond KOk. -/
import Derived.Test.YtfeieigajdekhaaGreatDoorAbC
import Derived.Lib.AppendIntMem
import Derived.Test.YtfeieigajdekhaaGreatDoorShelf
import Derived.Lib.LaidTab
namespace Go.Ab
open Go.Proofs Go.RowKit
set_option linter.unusedVariables false
set_option linter.unusedSimpArgs false
theorem ral2 {ι : Pl} {w : World} {vs : Array Value} {a b : AV} (h : RaL ι [] w vs [a, b]) : ∃ x y, vs = #[x, y] ∧ Ra ι [] w x a ∧ Ra ι [] w y b := by
  obtain ⟨l⟩ := vs
  obtain ⟨hl, h⟩ := h
  match l, hl, h with
  | [x, y], _, h => exact ⟨x, y, rfl, h 0 x a rfl rfl, h 1 y b rfl rfl⟩
theorem ral3 {ι : Pl} {w : World} {vs : Array Value} {a b c : AV} (h : RaL ι [] w vs [a, b, c]) : ∃ x y z, vs = #[x, y, z] ∧ Ra ι [] w x a ∧ Ra ι [] w y b ∧ Ra ι [] w z c := by
  obtain ⟨l⟩ := vs
  obtain ⟨hl, h⟩ := h
  match l, hl, h with
  | [x, y, z], _, h => exact ⟨x, y, z, rfl, h 0 x a rfl rfl, h 1 y b rfl rfl, h 2 z c rfl rfl⟩
theorem ra_int {ι : Pl} {w : World} (k : IntKind) (n : Int) : Ra ι [] w (.int k n) (.p (.int k n)) := .p _ _ (.int k n)
theorem ra_str {ι : Pl} {w : World} (s : ByteArray) : Ra ι [] w (.string s) (.p (.str s)) := .p _ _ (.str s)
theorem ra_bool {ι : Pl} {w : World} (s : Bool) : Ra ι [] w (.bool s) (.p (.bool s)) := .p _ _ (.bool s)
theorem ra_nil {ι : Pl} {w : World} : Ra ι [] w .nilIface (.p (.ifc true)) := .p _ _ (.ifc _ _ (fun _ => rfl) (fun h => by cases h))
theorem ra_ifc {ι : Pl} {w : World} (t : TypeId) (x : Value) : Ra ι [] w (.iface t x) (.p (.ifc false)) := .p _ _ (.ifc _ _ (fun h => by cases h) (fun _ => ⟨_, _, rfl⟩))
theorem ra_tup2 {ι : Pl} {w : World} {a b : Value} {x y : AV} (h : Ra ι [] w a x) (h' : Ra ι [] w b y) : Ra ι [] w (.tuple #[a, b]) (.tup [x, y]) :=
  .tup _ _ rfl fun i v c hv hc => by
    match i, hv, hc with
    | 0, hv, hc => simp at hv hc; subst hv; subst hc; exact h
    | 1, hv, hc => simp at hv hc; subst hv; subst hc; exact h'
    | n + 2, hv, _ => simp at hv
def strconv_FormatInt.f (k : Nat) (n b : Int) : Option ByteArray :=
  if b = 10 ∧ -9223372036854775808 ≤ n ∧ n ≤ 9223372036854775807 then some ⟨(Lib.itoa n).toArray⟩ else none
theorem strconv_FormatInt.con {K : Kn} [hk : KOk K] {k : Nat} {n b : Int} {r : ByteArray} (h : strconv_FormatInt.f k n b = some r) :
    Con K Tryz.prog 99 [.p (.int .i64 n), .p (.int .i64 b)] [] (.p (.str r)) [] := by
  unfold strconv_FormatInt.f at h
  split at h
  case isFalse => cases h
  rename_i hc
  obtain ⟨rfl, h1, h2⟩ := hc
  cases h
  refine con_ext ⟨_, Tryz.func99, by kernel_rfl, by kernel_rfl⟩ ?_
  rintro w vs hK ⟨ι, hA⟩
  obtain ⟨v0, v1, rfl, a0, a1⟩ := ral2 hA
  obtain rfl := a0.int
  obtain rfl := a1.int
  refine (Tryz.strconv_FormatInt_10 n h1 (by omega) w (hk.known w hK).1).mono ?_
  rintro e w' ⟨rfl, kk, os, hw⟩
  exact ⟨_, rfl, by rw [hw]; exact Lib.below_grow _ _ (Nat.le_refl _) _ _, fun ι => ra_str _⟩
/-- How a parse ends: the number, and whether the error is nil. -/
def pint (l : List UInt8) : Int × Bool :=
  match Lib.parseIntB 64 l with
  | .ok v => (v, true)
  | .range => (Lib.intSat 64 l, false)
  | _ => (0, false)
theorem pint_ok {l : List UInt8} {v : Int} (h : Lib.parseIntB 64 l = .ok v) : pint l = (v, true) := by unfold pint; rw [h]
theorem pint_range {l : List UInt8} (h : Lib.parseIntB 64 l = .range) : pint l = (Lib.intSat 64 l, false) := by unfold pint; rw [h]
theorem pint_no {l : List UInt8} (h : ∀ v, Lib.parseIntB 64 l ≠ .ok v) (h' : Lib.parseIntB 64 l ≠ .range) : pint l = (0, false) := by
  unfold pint
  split
  · rename_i v hv; exact absurd hv (h v)
  · rename_i hv; exact absurd hv h'
  · rfl
theorem pint_bad {l : List UInt8} (h : ∀ v, Lib.parseIntB 64 l ≠ .ok v) : (pint l).2 = false := by
  unfold pint
  split
  · rename_i v hv; exact absurd hv (h v)
  · rfl
  · rfl
def strconv_ParseInt.f (k : Nat) (s : ByteArray) (b n : Int) : Option (Int × Bool) :=
  if b = 10 ∧ n = 64 ∧ s.size ≤ 281474976710656 then some (pint s.data.toList) else none
theorem strconv_ParseInt.con {K : Kn} [hk : KOk K] {k : Nat} {s : ByteArray} {b n : Int} {r : Int × Bool} (h : strconv_ParseInt.f k s b n = some r) :
    Con K Tryz.prog 98 [.p (.str s), .p (.int .i64 b), .p (.int .i64 n)] [] (.tup [.p (.int .i64 r.1), .p (.ifc r.2)]) [] := by
  unfold strconv_ParseInt.f at h
  split at h
  case isFalse => cases h
  rename_i hc
  obtain ⟨rfl, rfl, hs⟩ := hc
  refine con_ext ⟨_, Tryz.func98, by kernel_rfl, by kernel_rfl⟩ ?_
  rintro w vs hK ⟨ι, hA⟩
  obtain ⟨v0, v1, v2, rfl, a0, a1, a2⟩ := ral3 hA
  obtain rfl := a0.str
  obtain rfl := a1.int
  obtain rfl := a2.int
  obtain ⟨⟨es, hes, hesv⟩, er, her, herv⟩ := (hk.known w hK).2
  cases h
  by_cases h1 : ∃ v, Lib.parseIntB 64 s.data.toList = .ok v
  · obtain ⟨v, hv⟩ := h1
    rw [pint_ok hv]
    refine (Tryz.strconv_ParseInt_10_at64_ok s (by omega) v hv w).mono ?_
    rintro e w' ⟨rfl, hw⟩
    refine ⟨_, rfl, ?_, fun ι => ra_tup2 (ra_int _ _) ra_nil⟩
    rcases hw with rfl | ⟨t, rfl⟩
    · exact Below.refl _ _
    · exact Lib.bytesWorld_below _ _ _
  · have h1' : ∀ v, Lib.parseIntB 64 s.data.toList ≠ .ok v := fun v hv => h1 ⟨v, hv⟩
    by_cases h2 : Lib.parseIntB 64 s.data.toList = .range
    · rw [pint_range h2]
      refine (Tryz.strconv_ParseInt_10_at64_range s hs h2 er w her herv).mono ?_
      rintro e w' ⟨N, rfl, _, _, hb⟩
      exact ⟨_, rfl, hb, fun ι => ra_tup2 (ra_int _ _) (ra_ifc _ _)⟩
    · rw [pint_no h1' h2]
      refine (Tryz.parse_none s hs h1' h2 es w hes hesv).mono ?_
      rintro e w' ⟨N, rfl, _, _, hb⟩
      exact ⟨_, rfl, hb, fun ι => ra_tup2 (ra_int _ _) (ra_ifc _ _)⟩
end Go.Ab
