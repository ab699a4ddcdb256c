/- From the row's conditions to a law's contract: the arguments side by side; what is known of the world at the call. No program; no condition. -/
import Derived.Test.YtphfoghhcemfhaaAbO
import Derived.Lib.LaidTab
import Derived.LaidLaws
import Derived.LaidSub
import Derived.Stop.LaidErr
import Derived.MakeChecks
namespace Go.Ab
open Go.RowKit
set_option linter.unusedVariables false
set_option linter.unusedSimpArgs false
theorem ral_nil {ι : Pl} {m : Mem} {w : World} : RaL ι m w #[] [] := ⟨rfl, fun i v a h => by simp at h⟩
theorem ral_cons {ι : Pl} {m : Mem} {w : World} {v : Value} {l : List Value} {a : AV} {as : List AV} (h : Ra ι m w v a) (t : RaL ι m w ⟨l⟩ as) : RaL ι m w ⟨v :: l⟩ (a :: as) := by
  obtain ⟨h1, h2⟩ := t
  refine ⟨by simpa using h1, fun i v' a' hv ha => ?_⟩
  cases i with
  | zero => simp at hv ha; subst hv; subst ha; exact h
  | succ i => exact h2 i v' a' (by simpa using hv) (by simpa using ha)
theorem raw_int {ι : Pl} {m : Mem} {w : World} (k : IntKind) (n : Int) : Ra ι m w (.int k n) (.p (.int k n)) := .p _ _ (.int k n)
theorem raw_str {ι : Pl} {m : Mem} {w : World} (s : ByteArray) : Ra ι m w (.string s) (.p (.str s)) := .p _ _ (.str s)
theorem raw_bool {ι : Pl} {m : Mem} {w : World} (b : Bool) : Ra ι m w (.bool b) (.p (.bool b)) := .p _ _ (.bool b)
/-- A struct that is handed in. -/
theorem RowP.agg {K : Kn} {W : World} {cs : Array Value} {row : List PV} (h : RowP W row cs.toList) : Ra (pl0 K) [] W (.agg cs) (.agg (row.map .p)) := by
  have at_ : ∀ (i : Nat) (v : Value) (c : AV), cs[i]? = some v → (row.map AV.p)[i]? = some c → ∃ pv, c = .p pv ∧ Rp Nobody W v pv := fun i v c hv hc => by
    rw [List.getElem?_map] at hc
    obtain ⟨pv, hp, rfl⟩ := Option.map_eq_some_iff.mp hc
    exact ⟨pv, rfl, h.2 i v pv (by simpa using hv) hp⟩
  refine .agg _ _ (by simpa using h.1) (fun v hv => ?_) (fun i v c hv hc => ?_)
  · obtain ⟨i, hi, rfl⟩ := List.getElem_of_mem hv
    have hl := h.1
    obtain ⟨pv, _, hp⟩ := at_ i _ (.p row[i]) (by simp at hi ⊢; rw [Array.getElem?_eq_getElem hi]) (by rw [List.getElem?_map, List.getElem?_eq_getElem (by omega)]; rfl)
    exact hp.one
  · obtain ⟨pv, rfl, hp⟩ := at_ i v c hv hc
    exact .p _ _ (hp.anti fun b o h => pl0_own h)
/-- A laid table's block, and what it says. -/
theorem tab_obj {P : Program} {W : World} {name : String} {k : IntKind} {zs : List Int} {g : Nat} (hg : P.globalNamed name = some g) (h : Lib.TabIs P W name k zs) : ∃ ob, W.heap[g]? = some ob ∧ ∀ w : World, w.heap[g]? = some ob → Lib.TabIs P w name k zs := by
  unfold Lib.TabIs World.var? at h
  rw [hg] at h
  simp only [Option.bind_some] at h
  cases ho : W.heap[g]? with
  | none => rw [ho] at h; cases h
  | some ob =>
    refine ⟨ob, rfl, fun w hw => ?_⟩
    rw [ho] at h
    unfold Lib.TabIs World.var?
    rw [hg]
    simp only [Option.bind_some]
    rw [hw]
    exact h
/-- A laid error's block: it holds some error. -/
theorem err_obj {P : Program} {n nm : String} {x : DataW Unit} {r : List (String × DataW Unit)} {W : World} {g : Nat} {ti : TypeId} {ms : Array (String × TypeId)}
    (h : laidMet P ((n, .iface nm x) :: r) W) (hg : P.globalNamed n = some g) (ht : (P.globals[g]?).map (·.type) = some ti) (hi : P.underlying ti = some (.interface ms)) :
    ∃ ob, W.heap[g]? = some ob ∧ ∀ w : World, w.heap[g]? = some ob → ∃ ev, w.cell? ⟨g, 0, none⟩ = some ev ∧ (ev = .nilIface ∨ ∃ te pe, ev = .iface te pe) := by
  obtain ⟨ps, ⟨g0, t0, cs0, f0, p0, q0, hg0, ht0, hv0, hd0, _, e0⟩, _, hrows⟩ := h
  obtain rfl := Option.some.inj (hg.symm.trans hg0)
  obtain rfl := Option.some.inj (ht.symm.trans ht0)
  obtain ⟨f1, u, v, hc, _, _⟩ := iface_of_trod hi hd0
  have key : ∀ w : World, w.heap[g]? = W.heap[g]? → w.cell? ⟨g, 0, none⟩ = some (.iface u v) := fun w hw => by
    have hv : w.var? P n = some cs0 := by
      unfold World.var? at hv0 ⊢
      rw [hg] at hv0 ⊢
      simp only [Option.bind_some] at hv0 ⊢
      rw [hw]
      exact hv0
    have := World.var?_cell hg hv 0
    rw [this, ← Array.getElem?_toList, hc]
    rfl
  cases ho : W.heap[g]? with
  | none =>
    unfold World.var? at hv0
    rw [hg] at hv0
    simp only [Option.bind_some, ho] at hv0
    cases hv0
  | some ob => exact ⟨ob, rfl, fun w hw => ⟨_, key w (by rw [hw, ho]), .inr ⟨u, v, rfl⟩⟩⟩
/-- A block whose first cell holds some int. -/
theorem int_obj {W : World} {g : Nat} {k : IntKind} (h : ∃ m, W.cell? ⟨g, 0, none⟩ = some (.int k m)) : ∃ ob, W.heap[g]? = some ob ∧ ∀ w : World, w.heap[g]? = some ob → ∃ m, w.cell? ⟨g, 0, none⟩ = some (.int k m) := by
  obtain ⟨m, hm⟩ := h
  cases ho : W.heap[g]? with
  | none => unfold World.cell? at hm; rw [show W.heap[(⟨g, 0, none⟩ : Addr).block]? = none from ho] at hm; cases hm
  | some ob =>
    refine ⟨ob, rfl, fun w hw => ⟨m, ?_⟩⟩
    unfold World.cell? at hm ⊢
    rw [show w.heap[(⟨g, 0, none⟩ : Addr).block]? = W.heap[(⟨g, 0, none⟩ : Addr).block]? from hw.trans ho.symm]
    exact hm
theorem knows_nil (W : World) : Knows [] W := fun p h => by cases h
theorem knows_cons {K : Kn} {W : World} {g : Nat} {ob : Obj} (h : W.heap[g]? = some ob) (hK : Knows K W) : Knows ((g, ob) :: K) W := fun p hp => by
  rcases List.mem_cons.1 hp with rfl | hp
  · exact h
  · exact hK p hp
end Go.Ab
