/- impl.WordsOf told as a whole, out of its walk. -/
import Derived.Test.YtfeieigajdekhaaAbF1
import Derived.Test.YtfeieigajdekhaaAbLOW
namespace Go.Ab
open Go.Proofs Go.RowKit Go.Lib Go.Sort
set_option linter.unusedVariables false
set_option linter.unusedSimpArgs false
def impl_WordsOf_O.f (k : Nat) (s : ByteArray) : Option (List ByteArray) := bif decide (65536 < (s.size : Int)) then some [] else impl_twinTexts_O.f k (wordsB s)
theorem ra_strs {ι : Pl} {W : World} {A cap : Nat} {l : List ByteArray} (hcap : l.length ≤ cap) (hX : ∀ b o, ι.fr.X b o → b ≠ A) (hc : ∀ (j : Nat) (x : ByteArray), l[j]? = some x → W.cell? ⟨A, j, none⟩ = some (.string x)) :
    Ra ι [] W (.slice (some ⟨A, 0, none⟩) l.length cap) (.p (.lst false (List.map srw l))) := by
  have hh : ∀ (i : Nat) (row : List PV) (j : Nat) (c : PV), (List.map srw l)[i]? = some row → row[j]? = some c → ∃ x, l[i]? = some x ∧ j = 0 ∧ c = .str x := by
    intro i row j c h1 h2
    rw [List.getElem?_map] at h1
    cases hx : l[i]? with
    | none => rw [hx] at h1; cases h1
    | some x =>
      rw [hx] at h1; cases h1
      cases j with
      | zero => cases h2; exact ⟨x, rfl, rfl, rfl⟩
      | succ j => cases h2
  have e : l.length = (List.map srw l).length := by simp
  rw [e]
  refine .p _ _ (.lst (some ⟨A, 0, none⟩) cap 1 false _ (fun i _ => match l[i]? with | some x => .string x | none => undef) (by rw [← e]; exact hcap) (fun h => by cases h) ?_ ?_ ?_)
  · intro i row h1
    rw [List.getElem?_map] at h1
    cases hx : l[i]? with
    | none => rw [hx] at h1; cases h1
    | some x => rw [hx] at h1; cases h1; rfl
  · intro i row j c h1 h2
    obtain ⟨x, hx, rfl, rfl⟩ := hh i row j c h1 h2
    refine ⟨_, rfl, ?_, ?_⟩
    · simp only [hx]
      have e : (⟨A, 0, none⟩ : Addr).add (i * 1 + 0) = ⟨A, i, none⟩ := by
        simp only [Addr.add, Nat.zero_add, Nat.mul_one, Nat.add_zero]
        split
        · rename_i h0; subst h0; rfl
        · rfl
      rw [e]; exact hc i x hx
    · rintro (h | ⟨k, g, ob, h, _⟩)
      · exact hX _ _ h rfl
      · cases h
  · intro i row j c h1 h2
    obtain ⟨x, hx, rfl, rfl⟩ := hh i row j c h1 h2
    simp only [hx]
    exact .str x
theorem impl_WordsOf_O.con {K : Kn} [KOk K] {k : Nat} {v0 : ByteArray} {r : List ByteArray} (h : impl_WordsOf_O.f k v0 = some r) : Con K Try.prog 12 [.p (.str v0)] [] (.buf 2000 1 0 r.length) [(2000, (1, .buf 1 (List.map srw r)))] := by
  unfold impl_WordsOf_O.f at h
  refine ⟨⟨_, Try.func12, by kernel_rfl, by kernel_rfl⟩, fun ι w vs hK hM hA => ?_⟩
  obtain ⟨v, rfl, a0⟩ : ∃ v, vs = #[v] ∧ Ra ι [] w v (.p (.str v0)) := by
    obtain ⟨l⟩ := vs
    obtain ⟨hl, h⟩ := hA
    match l, hl, h with
    | [x], _, h => exact ⟨x, rfl, h 0 x _ rfl rfl⟩
  obtain rfl := a0.str
  by_cases hs : v0.size ≤ 65536
  · rw [show decide (65536 < (v0.size : Int)) = false from decide_eq_false (by omega)] at h
    simp only [cond_false] at h
    have ht := (impl_twinTexts_O.con (K := K) h).2
    refine (words_all v0 w hs (fun cv w' => ∃ ι' : Pl, MemOk ι' [(2000, (1, .buf 1 (List.map srw r)))] w' ∧ Ra ι' [(2000, (1, .buf 1 (List.map srw r)))] w' cv (.buf 2000 1 0 r.length) ∧ Evo (OwnM ι []) w (OwnM ι' [(2000, (1, .buf 1 (List.map srw r)))]) w' ∧ Keys ι [] ι' [(2000, (1, .buf 1 (List.map srw r)))] ∧ ι'.fr = ι.fr) (fun A cap W h1 h2 h3 hB hc => ?_)).mono ?_
    · obtain ⟨q1, q2⟩ := quiet hM hB.os hB.tape hB.output hB.size hB.block
      refine (ht ι W _ hK q1 ⟨rfl, fun i v a hv ha => ?_⟩).mono ?_
      · match i, hv, ha with
        | 0, hv, ha =>
          simp at hv ha; subst hv; subst ha
          exact ra_strs h3 (fun b o hx e => by have := hM.xlt b o hx; omega) hc
        | n + 1, hv, _ => simp at hv
      · rintro e w' ⟨ι', cv, rfl, p1, p2, p3, p4, p5⟩
        exact ⟨cv, rfl, ι', p1, p2, q2.evo.trans p3, q2.keys.trans p4, p5⟩
    · rintro e w' ⟨cv, rfl, ι', p⟩
      exact ⟨ι', cv, rfl, p⟩
  · rw [show decide (65536 < (v0.size : Int)) = true from decide_eq_true (by omega)] at h
    simp only [cond_true, Option.some.injEq] at h
    subst h
    refine (words_big v0 w (by omega)).mono ?_
    rintro e w' ⟨rfl, rfl⟩
    let c : CA := { blk := 0, base := none, cap := 0, sz := 1 }
    obtain ⟨h1, h2⟩ := upd_fresh (w' := w') hM 2000 c (.buf 1 []) rfl rfl rfl (Nat.le_refl _) (fun _ _ => rfl) (fun b o ho => by
      obtain ⟨ad, h3, _⟩ := ho; cases h3) (fun he => ⟨rfl, Nat.zero_le _, fun _ => rfl, by simp, fun ad had => by cases had⟩)
    refine ⟨_, _, rfl, h1, ?_, h2.evo, h2.keys, h2.x⟩
    refine .buf _ 2000 _ 0 _ rfl (Nat.le_refl _) fun s' rows' hk => ?_
    rcases hk with hk | hk
    · simp [lk] at hk
      obtain ⟨rfl, rfl⟩ := hk
      exact ⟨Nat.le_refl _, none, by rw [setι_same]; rfl, fun hlt => by rw [setι_same] at hlt; exact absurd hlt (Nat.lt_irrefl _)⟩
    · simp [lk] at hk
end Go.Ab
