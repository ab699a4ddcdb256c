/- What an operation reads and writes: operations that keep apart may be turned round. -/
import Derived.Test.YtphfoghhcemfhaaAbP16
namespace Go.Ab
set_option linter.unusedVariables false
set_option linter.unusedSimpArgs false
theorem oint_congr {g g' : Operand → AV} {x : Option Operand} {d : Int} (h : ∀ y ∈ x.toArray, g y = g' y) : oint g x d = oint g' x d := by
  cases x with
  | none => rfl
  | some y => simp only [oint]; rw [h y (by simp)]
theorem parts_congr {g g' : Operand → AV} {ps : Array (Nat × Operand)} (h : ∀ x ∈ (ps.toList.map (·.2)).toArray, g x = g' x) : (ps.toList.map fun q => (q.1, g q.2)) = ps.toList.map fun q => (q.1, g' q.2) :=
  List.map_congr_left fun q hq => by rw [h q.2 (by simp only [List.mem_toArray]; exact List.mem_map_of_mem (f := (·.2)) hq)]
theorem args_congr {g g' : Operand → AV} {xs : Array Operand} (h : ∀ x ∈ xs, g x = g' x) : xs.toList.map g = xs.toList.map g' :=
  List.map_congr_left fun q hq => h q (by simpa using hq)
theorem key_congr {op : Op} {g g' : Operand → AV} {d : Nat} (h : ∀ x ∈ op.operands, g x = g' x) : keyOf op g d = keyOf op g' d := by
  cases op <;> simp only [Op.operands] at h <;> simp only [keyOf]
  case load t x => rw [h x (by simp)]
  case store t x y => rw [h x (by simp)]
  case nilCheck x => rw [h x (by simp)]
  case fieldAddr s x f => rw [h x (by simp)]
  case indexAddr t x i => rw [h x (by simp)]
  case slice t x lo hi mx => rw [h x (by simp)]
  case lookup t x i ok => rw [h x (by simp)]
  case mapUpdate t x i y => rw [h x (by simp)]
  case insert t x i y => rw [h x (by simp)]
  case mapEntry t x i => rw [h x (by simp)]
  case entryStore t x i y => rw [h x (by simp)]
  case call c =>
    obtain ⟨callee, args, ts⟩ := c
    have ha : args.toList.map g = args.toList.map g' := args_congr fun x hx => h x (by simp [Call.operands, hx])
    cases callee with
    | builtin b => cases b <;> simp only [keyOf, ha]
    | _ => rfl
theorem core_congr {P : Program} {hb : Bool} {op : Op} {g g' : Operand → AV} {d : Nat} {e : Nat × Ob} (h : ∀ x ∈ op.operands, g x = g' x) : core P hb op g d e = core P hb op g' d e := by
  cases op <;> simp only [Op.operands] at h <;> simp only [core]
  case move x => rw [h x (by simp)]
  case assign x => rw [h x (by simp)]
  case pick c a b => rw [h c (by simp), h a (by simp), h b (by simp)]
  case binOp op t x y i => rw [h x (by simp), h y (by simp)]
  case unOp op t x => rw [h x (by simp)]
  case convert s t x => rw [h x (by simp)]
  case box t x => rw [h x (by simp)]
  case build t ps => rw [parts_congr h]
  case buildSlice t n ps => rw [parts_congr h]
  case load t x => rw [h x (by simp)]
  case store t a x => rw [h a (by simp), h x (by simp)]
  case nilCheck x => rw [h x (by simp)]
  case fieldAddr s x f => rw [h x (by simp)]
  case field s x f => rw [h x (by simp)]
  case indexAddr t x i => rw [h x (by simp), h i (by simp)]
  case index t x i => rw [h x (by simp), h i (by simp)]
  case slice t x lo hi mx =>
    have h1 : g x = g' x := h x (by simp)
    have h2 : ∀ n, oint g lo n = oint g' lo n := fun n => oint_congr fun y hy => h y (by simp only [Array.mem_append]; exact .inl (.inl (.inr hy)))
    have h3 : ∀ n, oint g hi n = oint g' hi n := fun n => oint_congr fun y hy => h y (by simp only [Array.mem_append]; exact .inl (.inr hy))
    simp only [h1, h2, h3]
  case extract x i => rw [h x (by simp)]
  case makeFunc fn first caps =>
    cases fn with
    | func f =>
      have h1 : first.toList.map g = first.toList.map g' := args_congr fun x hx => h x (by simp [hx])
      have h2 : caps.toList.map g = caps.toList.map g' := args_congr fun x hx => h x (by simp [hx])
      simp only [core, h1, h2]
    | _ => rfl
  case makeSlice t n c => rw [h n (by simp), h c (by simp)]
  case lookup t x i ok => rw [h x (by simp), h i (by simp)]
  case mapUpdate t x i y => rw [h x (by simp), h i (by simp), h y (by simp)]
  case insert t x i y => rw [h x (by simp), h i (by simp), h y (by simp)]
  case mapEntry t x i => rw [h x (by simp), h i (by simp)]
  case entryStore t x i y => rw [h x (by simp), h i (by simp), h y (by simp)]
  case makeMap t r =>
    have h1 : ∀ n, oint g r n = oint g' r n := fun n => oint_congr fun y hy => h y (by simpa using hy)
    simp only [h1]
  case call c =>
    obtain ⟨callee, args, ts⟩ := c
    have ha : args.toList.map g = args.toList.map g' := args_congr fun x hx => h x (by simp [Call.operands, hx])
    cases callee with
    | builtin b => simp only [core, ha]
    | _ => rfl
/-- An operation that only reads. -/
theorem core_reads {P : Program} {hb : Bool} {op : Op} {g : Operand → AV} {d : Nat} {e : Nat × Ob} {v : AV} {n : Option (Nat × Ob)} (hw : writes op = false) (h : core P hb op g d e = some (v, n)) : n = none := by
  rcases n with _ | n
  · rfl
  · exfalso
    cases op <;> try (simp [writes] at hw; done)
    case load t x =>
      simp only [core] at h
      split at h
      · split at h
        · obtain ⟨_, h⟩ := bif_none h; exact eff_no h
        · cases h
      · split at h
        · obtain ⟨_, h⟩ := bif_none h; exact eff_no h
        · cases h
      · exact eff_no h
      · cases h
    case nilCheck => simp only [core] at h; split at h <;> first | (obtain ⟨_, h⟩ := bif_none h; exact eff_no h) | exact eff_no h | cases h
    case fieldAddr s x f =>
      simp only [core] at h
      obtain ⟨⟨o, ft⟩, hf, h⟩ := Option.bind_eq_some_iff.mp h
      obtain ⟨_, h⟩ := bif_none' h
      split at h <;> first | (obtain ⟨_, h⟩ := bif_none h; exact eff_no h) | exact eff_no h | cases h
    case indexAddr t x i =>
      simp only [core] at h
      split at h
      · split at h
        · obtain ⟨⟨len, s⟩, ha, h⟩ := Option.bind_eq_some_iff.mp h
          simp only at h
          split at h
          · obtain ⟨_, h⟩ := bif_none h; exact eff_no h
          · cases h
        · obtain ⟨s, ha, h⟩ := Option.bind_eq_some_iff.mp h
          obtain ⟨u, hin, h⟩ := Option.bind_eq_some_iff.mp h
          obtain ⟨_, h⟩ := bif_none h; exact eff_no h
        · obtain ⟨s, ha, h⟩ := Option.bind_eq_some_iff.mp h
          obtain ⟨r, hr, h⟩ := Option.bind_eq_some_iff.mp h
          obtain ⟨row, hrow, h⟩ := Option.bind_eq_some_iff.mp h
          split at h
          · exact eff_no h
          · cases h
      · cases h
    case slice t x lo hi mx =>
      simp only [core] at h
      cases mx with
      | some _ => cases h
      | none =>
        simp only at h
        split at h
        · obtain ⟨_, h⟩ := bif_none' h; exact eff_no h
        · obtain ⟨s, ha, h⟩ := Option.bind_eq_some_iff.mp h; exact eff_no h
        · obtain ⟨s, ha, h⟩ := Option.bind_eq_some_iff.mp h
          obtain ⟨r, hr, h⟩ := Option.bind_eq_some_iff.mp h; exact eff_no h
    case lookup t x i ok =>
      simp only [core] at h
      split at h
      · obtain ⟨_, _, h⟩ := Option.bind_eq_some_iff.mp h
        obtain ⟨_, _, h⟩ := Option.bind_eq_some_iff.mp h
        obtain ⟨_, _, h⟩ := Option.bind_eq_some_iff.mp h
        exact eff_no h
      · cases h
    case call c =>
      obtain ⟨callee, args, ts⟩ := c
      cases callee with
      | builtin b =>
        cases b <;> try (simp [writes] at hw; done)
        simp only [core, coreB] at h
        split at h
        · rename_i x t _ _ _
          unfold lenA at h
          split at h
          · obtain ⟨_, h⟩ := bif_none h; exact eff_no h
          · obtain ⟨s, hs, h⟩ := Option.bind_eq_some_iff.mp h
            obtain ⟨_, h⟩ := bif_none h; exact eff_no h
          · obtain ⟨s, hs, h⟩ := Option.bind_eq_some_iff.mp h
            obtain ⟨es, hl, h⟩ := Option.bind_eq_some_iff.mp h
            exact eff_no h
          · obtain ⟨s, hs, h⟩ := Option.bind_eq_some_iff.mp h
            exact eff_no h
        all_goals first | contradiction | (rename_i hb' _ _; cases hb') | cases h | simp_all
      | _ => simp [writes] at hw
end Go.Ab
