/- Operations that leave the memory alone do as their abstract values say. -/
import Derived.Test.YtphfoghhcemfhaaAbP1
import Derived.WalkKit
namespace Go.Ab
set_option linter.unusedVariables false
set_option linter.unusedSimpArgs false
section
variable {ι : Pl} {m : Mem} {w : World} {P : Program} {v : Value}
theorem Ra.int {k : IntKind} {n : Int} (h : Ra ι m w v (.p (.int k n))) : v = .int k n := by cases h with | p _ _ h => cases h; rfl
theorem Ra.bool {b : Bool} (h : Ra ι m w v (.p (.bool b))) : v = .bool b := by cases h with | p _ _ h => cases h; rfl
theorem Ra.str {s : ByteArray} (h : Ra ι m w v (.p (.str s))) : v = .string s := by cases h with | p _ _ h => cases h; rfl
theorem Rp.nil (Ow : Nat → Nat → Prop) (A : Option Addr) (cap : Nat) : Rp Ow w (.slice A 0 cap) (.lst false []) :=
  .lst A cap 0 false [] (fun _ _ => undef) (Nat.zero_le _) (by simp) (by simp) (by simp) (by simp)
theorem Rp.unfull {Ow : Nat → Nat → Prop} {b : Bool} {rows : Rows} (h : Rp Ow w v (.lst b rows)) : Rp Ow w v (.lst false rows) := by
  cases h with | lst A cap sz full rows u hcap hfull hsz hc hr => exact .lst A cap sz false rows u hcap (by simp) hsz hc hr
theorem Ra.rows {a : AV} {r : Rows} (h : Ra ι m w v a) (hr : a.rows = some r) : Rp (Own ι m) w v (.lst false r) := by
  cases h with
  | p v pv h =>
    cases h with
    | nilS => cases hr; exact .nil _ _ _
    | lst A cap sz full rows u hcap hfull hsz hc hr' => have e := Option.some.inj hr; subst e; exact (Rp.lst A cap sz full _ u hcap hfull hsz hc hr').unfull
    | _ => cases hr
  | tip v k g rows hg hp h => cases hr; exact hp
  | _ => cases hr
theorem Ra.int' (k : IntKind) (n : Int) : Ra ι m w (.int k n) (.p (.int k n)) := .p _ _ (.int k n)
theorem Ra.bool' (b : Bool) : Ra ι m w (.bool b) (.p (.bool b)) := .p _ _ (.bool b)
theorem Ra.str' (s : ByteArray) : Ra ι m w (.string s) (.p (.str s)) := .p _ _ (.str s)
theorem toList_inj {a b : ByteArray} : (a.toList == b.toList) = decide (a = b) := by
  rw [ByteArray.toList_eq, ByteArray.toList_eq]
  by_cases h : a = b
  · subst h; simp
  · rw [decide_eq_false h]; simp only [beq_eq_false_iff_ne, ne_eq]
    intro e; exact h (by cases a; cases b; simp_all)
theorem bl_total : ∀ a b : List UInt8, (Op.bytesLess a b || a == b) = !Op.bytesLess b a
  | [], [] => by simp [Op.bytesLess]
  | [], _ :: _ => by simp [Op.bytesLess]
  | _ :: _, [] => by simp [Op.bytesLess]
  | x :: a, y :: b => by
    have ih := bl_total a b
    simp only [Op.bytesLess]
    rcases Nat.lt_trichotomy x.toNat y.toNat with h | h | h
    · have h1 : (decide (x < y)) = true := by simpa [UInt8.lt_iff_toNat_lt] using h
      have h2 : (decide (y < x)) = false := by simp [UInt8.lt_iff_toNat_lt]; omega
      have h3 : (y == x) = false := by simp; intro e; rw [e] at h; omega
      simp [h1, h2, h3]
    · have e : x = y := UInt8.toNat_inj.mp h
      subst e
      have h1 : (decide (x < x)) = false := by simp
      simp only [h1, BEq.rfl, Bool.false_or, Bool.true_and, ← ih, List.cons_beq_cons]
    · have h1 : (decide (x < y)) = false := by simp [UInt8.lt_iff_toNat_lt]; omega
      have h2 : (decide (y < x)) = true := by simpa [UInt8.lt_iff_toNat_lt] using h
      have h3 : (x == y) = false := by simp; intro e; rw [e] at h; omega
      simp [h1, h2, h3]
theorem intOp_run {op : BinOp} {k : IntKind} {a b : Int} {t : TypeId} {av : AV} (h : intOp op k a b = some av) :
    ∃ cv, (Go.binOp op t (.int k a) (.int k b)).run P w = .ok cv w ∧ Ra ι m w cv av := by
  cases op <;> simp only [intOp, Option.some.injEq, reduceCtorEq, Option.map_eq_some_iff] at h
  case quo => obtain ⟨n, hn, rfl⟩ := h; unfold quo at hn; split at hn; · cases hn
              rename_i hb; cases hn; exact ⟨_, by simp [Go.binOp, Op.intDiv, hb], .int' _ _⟩
  case rem => obtain ⟨n, hn, rfl⟩ := h; unfold Ab.rem at hn; split at hn; · cases hn
              rename_i hb; cases hn; exact ⟨_, by simp [Go.binOp, Op.intDiv, hb], .int' _ _⟩
  all_goals (subst h; exact ⟨_, by simp [Go.binOp, Op.intArith, Op.intCmp]; rfl, by first | exact .int' _ _ | exact .bool' _⟩)
theorem strOp_run {op : BinOp} {a b : ByteArray} {t : TypeId} {av : AV} (h : strOp op a b = some av) :
    ∃ cv, (Go.binOp op t (.string a) (.string b)).run P w = .ok cv w ∧ Ra ι m w cv av := by
  have hle : ∀ x y : ByteArray, (Op.bytesLess x.toList y.toList || x.toList == y.toList) = !slt y x := fun x y => bl_total _ _
  cases op <;> simp only [strOp, Option.some.injEq, reduceCtorEq, Option.map_eq_some_iff] at h
  case add =>
    obtain ⟨s, hs, rfl⟩ := h; unfold cat at hs; split at hs
    · rename_i hb; cases hs
      have hb' : ¬ ((a.size + b.size : Nat) : Int) > IntKind.i64.max := by simp [IntKind.max, IntKind.signed, IntKind.bits]; omega
      refine ⟨.string (a ++ b), ?_, .str' _⟩
      simp only [Go.binOp, Op.stringOp, if_neg hb', Sem.run_pure]
    · cases hs
  case eql => subst h; exact ⟨_, by simp only [Go.binOp, Op.stringOp, Sem.run_pure] <;> rfl, by rw [toList_inj]; exact .bool' _⟩
  case neq => subst h; exact ⟨_, by simp only [Go.binOp, Op.stringOp, Sem.run_pure] <;> rfl, by rw [toList_inj]; exact .bool' _⟩
  case lss => subst h; exact ⟨_, by simp only [Go.binOp, Op.stringOp, Sem.run_pure] <;> rfl, .bool' _⟩
  case leq => subst h; exact ⟨_, by simp only [Go.binOp, Op.stringOp, Sem.run_pure] <;> rfl, by rw [hle]; exact .bool' _⟩
  case gtr => subst h; exact ⟨_, by simp only [Go.binOp, Op.stringOp, Sem.run_pure] <;> rfl, by rw [hle, Bool.not_not]; exact .bool' _⟩
  case geq => subst h; exact ⟨_, by simp only [Go.binOp, Op.stringOp, Sem.run_pure] <;> rfl, .bool' _⟩
variable {ρ : Operand → Value} {g : Operand → AV} (hg : ∀ x, Ra ι m w (ρ x) (g x))
theorem run_underlying {t : TypeId} {d : TypeDesc} (h : P.underlying t = some d) : (underlying t).run P w = .ok d w := by simp [underlying, h]
theorem run_sizeOf {t : TypeId} {s : Nat} (h : tsize P t = some s) : (Go.sizeOf t).run P w = .ok s w := by
  unfold tsize at h
  cases hi : P.info? t with
  | none => rw [hi] at h; cases h
  | some i => rw [hi] at h; cases h; simp [Go.sizeOf, typeInfo, hi]
theorem run_isAgg {t : TypeId} {b : Bool} (h : isAggB P t = some b) : (isAgg t).run P w = .ok b w := by
  unfold isAggB at h
  cases hi : P.underlying t with
  | none => rw [hi] at h; cases h
  | some d => rw [hi] at h; cases h; simp only [isAgg, Sem.run_bind, run_underlying hi, Result.andThen_ok]; cases d <;> rfl
theorem sliceOf_spec {t : TypeId} {s : Nat} (h : sliceOf P t = some s) : ∃ e, P.underlying t = some (.slice e) ∧ tsize P e = some s := by
  unfold sliceOf at h
  cases hi : P.underlying t with
  | none => rw [hi] at h; cases h
  | some d =>
    rw [hi] at h
    cases d <;> simp only [reduceCtorEq] at h
    rename_i e
    obtain ⟨i, h1, h2⟩ := Option.bind_eq_some_iff.mp h
    obtain ⟨z, _, h2⟩ := Option.bind_eq_some_iff.mp h2
    split at h2
    · exact ⟨e, rfl, by rw [tsize, h1]; exact h2⟩
    · cases h2
theorem sliceOf_more {t : TypeId} {s : Nat} (h : sliceOf P t = some s) : ∃ e i z, P.underlying t = some (.slice e) ∧ P.info? e = some i ∧ i.size = s ∧ i.bytes ≤ 2048 ∧ i.zero = some z ∧ z.cells.size = s := by
  unfold sliceOf at h
  cases hi : P.underlying t with
  | none => rw [hi] at h; cases h
  | some d =>
    rw [hi] at h
    cases d <;> simp only [reduceCtorEq] at h
    rename_i e
    obtain ⟨i, h1, h2⟩ := Option.bind_eq_some_iff.mp h
    obtain ⟨z, hz, h2⟩ := Option.bind_eq_some_iff.mp h2
    split at h2
    · rename_i hb
      exact ⟨e, i, z, rfl, h1, Option.some.inj h2, hb.1, hz, hb.2.trans (Option.some.inj h2)⟩
    · cases h2
include hg
theorem binop_run {op : BinOp} {t : TypeId} {x y : Operand} {av : AV} (h : binop P op t (g x) (g y) = some av) :
    ∃ cv, (do eqGuard op t x y (ρ x) (ρ y); Go.binOp op t (ρ x) (ρ y) : Sem Value).run P w = .ok cv w ∧ Ra ι m w cv av := by
  have hx := hg x; have hy := hg y
  unfold binop at h
  split at h
  · rename_i k a k' b e1 e2; rw [e1] at hx; rw [e2] at hy; rw [hx.int, hy.int]
    split at h
    · rename_i e; subst e
      obtain ⟨cv, h1, h2⟩ := intOp_run (P := P) (w := w) (ι := ι) (m := m) (t := t) h
      refine ⟨cv, ?_, h2⟩
      rw [Sem.run_bind]
      have : (eqGuard op t x y (.int k a) (.int k b)).run P w = .ok () w := by unfold eqGuard; cases op <;> rfl
      rw [this]; exact h1
    · cases h
  · rename_i a b e1 e2; rw [e1] at hx; rw [e2] at hy; rw [hx.str, hy.str]
    obtain ⟨cv, h1, h2⟩ := strOp_run (P := P) (w := w) (ι := ι) (m := m) (t := t) h
    refine ⟨cv, ?_, h2⟩
    rw [Sem.run_bind]
    have : (eqGuard op t x y (.string a) (.string b)).run P w = .ok () w := by unfold eqGuard; cases op <;> rfl
    rw [this]; exact h1
  · rename_i a b e1 e2; rw [e1] at hx; rw [e2] at hy; rw [hx.bool, hy.bool]
    cases hb : isBoolT P t <;> rw [hb] at h
    · cases h
    have ht : P.underlying t = some .bool := by
      unfold isBoolT at hb; split at hb
      · assumption
      · cases hb
    have hq : (Op.equal t (.bool a) (.bool b)).run P w = .ok (a == b) w := by
      rw [Op.equal, show Op.maxDepth = 9999 + 1 from rfl, Op.equalIn]; simp only [Sem.run_bind, run_underlying ht, Result.andThen_ok, Sem.run_pure]
    rw [Sem.run_bind]
    have : (eqGuard op t x y (.bool a) (.bool b)).run P w = .ok () w := by unfold eqGuard; cases op <;> rfl
    rw [this]
    cases op <;> simp only [cond_true, reduceCtorEq, Option.some.injEq] at h
    · subst h; exact ⟨_, by simp only [Result.andThen_ok, Go.binOp, Sem.run_bind, hq, Sem.run_pure] <;> rfl, .bool' _⟩
    · subst h; exact ⟨_, by simp only [Result.andThen_ok, Go.binOp, Sem.run_bind, hq, Sem.run_pure] <;> rfl, .bool' _⟩
  · cases h
theorem unop_run {op : UnOp} {x : Operand} {av : AV} (h : unop op (g x) = some av) : ∃ cv, (Op.unary op (ρ x)).run P w = .ok cv w ∧ Ra ι m w cv av := by
  have hx := hg x
  unfold unop at h
  split at h
  · rename_i b e; rw [e] at hx; rw [hx.bool]; cases h; exact ⟨_, rfl, .bool' _⟩
  · rename_i k n e; rw [e] at hx; rw [hx.int]; cases h; exact ⟨_, rfl, .int' _ _⟩
  · cases h
end
end Go.Ab
