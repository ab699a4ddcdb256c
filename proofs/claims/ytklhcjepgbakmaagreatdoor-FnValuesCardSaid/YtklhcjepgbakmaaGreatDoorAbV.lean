/- Appends to rows that one owns: where the new rows lie. No condition. -/
import Derived.Test.YtklhcjepgbakmaaGreatDoorAbR
import Derived.Lib.FrozenHead2
import Derived.Shelf.Strings.BuilderK
namespace Go.Ab
open Go.Proofs
set_option linter.unusedVariables false
set_option linter.unusedSimpArgs false
theorem ownsF_le {w : World} {base : Nat} {e : TypeId} {v : Value} {n : Nat} {xs : List Value} (h : w.ownsRowF base e 1 v n xs) : w.ownsRowF 0 e 1 v n xs ∧ ∀ k, v.ownBlock = some k → base ≤ k := by
  obtain ⟨h1, h2⟩ := h
  rcases h2 with ⟨rfl, rfl⟩ | ⟨g, cap, cur, fz, rfl, hb, q⟩
  · exact ⟨⟨h1, .inl ⟨rfl, rfl⟩⟩, fun k hk => by cases hk⟩
  · exact ⟨⟨h1, .inr ⟨g, cap, cur, fz, rfl, Nat.zero_le _, q⟩⟩, fun k hk => by simp [Value.ownBlock] at hk; omega⟩
section
variable {P : Program} (w : World)
theorem app_strX (t u ty e : TypeId) (i : TypeInfo) (ht : P.underlying t = some (.slice e)) (hu : P.underlying u = some .string) (hi : P.info? e = some i) (hz : i.zero = some (.int .u8 0))
    (hsize : i.size = 1) (hby : i.bytes = 1) (v : Value) (n : Nat) (xs : List Value) (hown : w.ownsRowF 0 e 1 v n xs) (s : ByteArray) (h63 : n + s.size ≤ maxLen) (hbytes : n + s.size ≤ 140737488355328) :
    ∃ v' w', (Builtin.append_ #[t, u] ty #[v, .string s]).run P w = .ok v' w' ∧ w'.ownsRowF 0 e 1 v' (n + s.size) (xs ++ Lib.strCells s) ∧ w.grownBy w' v.ownBlock ∧ (v'.ownBlock = v.ownBlock ∨ ∀ k, v'.ownBlock = some k → w.heap.size ≤ k) := by
  rcases hown.2 with ⟨rfl, rfl⟩ | ⟨g, cap, cur, fz, rfl, hbg, hg, hfz, hnc, hcm, hcs, htake⟩
  · obtain ⟨v', w', h1, h2, h3, _⟩ := Lib.run_append_own_stringF (P := P) w w.heap.size t u ty e i ht hu hi hz hsize hby (.slice none 0 0) 0 xs ⟨hown.1, .inl ⟨rfl, rfl⟩⟩ s h63 hbytes (Nat.le_refl _)
    exact ⟨v', w', h1, (ownsF_le h2).1, h3, .inr (ownsF_le h2).2⟩
  · obtain ⟨v', w', h1, h2, h3, _⟩ := Lib.run_append_own_stringF (P := P) w 0 t u ty e i ht hu hi hz hsize hby _ n xs hown s h63 hbytes (Nat.zero_le _)
    refine ⟨v', w', h1, h2, h3, ?_⟩
    have hsmall : n + s.size ≤ 9223372036854775807 := by simp only [maxLen] at h63; omega
    have hxl : xs.length = n := by simpa using hown.1
    by_cases hroom : n + s.size ≤ cap
    · have hr := Lib.run_append_room_stringF (P := P) w t u ty e i ht hu hi hsize g n cap cur fz hg (by simpa using hfz) s hroom (by simp at hcs; omega)
      have e1 := h1.symm.trans hr
      injection e1 with e1
      left; rw [e1]; rfl
    · have holds : ∀ j u, xs[j]? = some u → w.cell? ((⟨g, 0, none⟩ : Addr).add j) = some u := hown.cells (g := g) rfl
      have hr := Lib.run_append_grow_string (P := P) w t u ty e i (.int .u8 0) ht hu hi hz ⟨g, 0, none⟩ n cap xs (by rw [hsize]; simpa using hxl) holds s (by omega) (by omega) (by rw [hby]; exact growslice_fits (by omega) (by omega))
      have e1 := h1.symm.trans hr
      injection e1 with e1
      right; rw [e1]; intro k hk; simp [Value.ownBlock] at hk; omega
theorem app_byteX (t ty e : TypeId) (i : TypeInfo) (ht : P.underlying t = some (.slice e)) (hi : P.info? e = some i) (hz : i.zero = some (.int .u8 0))
    (hsize : i.size = 1) (hby : i.bytes = 1) (v : Value) (n : Nat) (xs : List Value) (hown : w.ownsRowF 0 e 1 v n xs) (a : Addr) (m c : Nat) (news : List Value) (hl : news.length = m * 1) (hnews : ∀ j u, news[j]? = some u → w.cell? (a.add j) = some u) (h1 : ∀ u ∈ news, u.oneCell' = true)
    (h63 : n + m ≤ maxLen) (hbytes : n + m ≤ 140737488355328) :
    ∃ v' w', (Builtin.append_ #[t, t] ty #[v, .slice (some a) m c]).run P w = .ok v' w' ∧ w'.ownsRowF 0 e 1 v' (n + m) (xs ++ news) ∧ w.grownBy w' v.ownBlock ∧ (v'.ownBlock = v.ownBlock ∨ ∀ k, v'.ownBlock = some k → w.heap.size ≤ k) := by
  have hzs : (Value.int IntKind.u8 0).cells.size = 1 := rfl
  rcases hown.2 with ⟨rfl, rfl⟩ | ⟨g, cap, cur, fz, rfl, hbg, hg, hfz, hnc, hcm, hcs, htake⟩
  · obtain ⟨v', w', g1, g2, g3, _⟩ := run_append_ownF (P := P) w w.heap.size t ty e i (.int .u8 0) 1 1 ht hi hz hsize hby hzs (by decide) (.slice none 0 0) 0 xs ⟨hown.1, .inl ⟨rfl, rfl⟩⟩ a m c news hl hnews h1 h63 (by omega) (Nat.le_refl _)
    exact ⟨v', w', g1, (ownsF_le g2).1, g3, .inr (ownsF_le g2).2⟩
  · obtain ⟨v', w', g1, g2, g3, _⟩ := run_append_ownF (P := P) w 0 t ty e i (.int .u8 0) 1 1 ht hi hz hsize hby hzs (by decide) _ n xs hown a m c news hl hnews h1 h63 (by omega) (Nat.zero_le _)
    refine ⟨v', w', g1, g2, g3, ?_⟩
    have hsmall : n + m ≤ 9223372036854775807 := by simp only [maxLen] at h63; omega
    by_cases hroom : n + m ≤ cap
    · have hr := run_append_roomF (P := P) w t ty e i ht hi g n cap cur fz hg (by rw [hsize]; exact hfz) a m c news (by rw [hsize]; exact hl) hnews h1 hroom (by rw [hsize, hl, hcs]; omega)
      have e1 := g1.symm.trans hr
      injection e1 with e1
      left; rw [e1]; rfl
    · have holds : ∀ j u, xs[j]? = some u → w.cell? ((⟨g, 0, none⟩ : Addr).add j) = some u := hown.cells (g := g) rfl
      have hr := run_append_grow (P := P) w t ty e i (.int .u8 0) ht hi hz ⟨g, 0, none⟩ n cap xs (by rw [hsize]; exact hown.1) holds a m c news (by rw [hsize]; exact hl) hnews (by omega) (by omega) (growslice_fits (by omega) (by rw [hby]; omega))
      have e1 := g1.symm.trans hr
      injection e1 with e1
      right; rw [e1]; intro k hk; simp [Value.ownBlock] at hk; omega
end
section
variable {P : Program} {w : World}
theorem wp_strX {ops : Array Oper} {rest : List Oper} {o : Oper} {a : Act} {Q : Exit → Act → World → Prop} (hgd : o.guard = none) (sl x : Operand) (t u : TypeId)
    (ho : o.op = .call { callee := .builtin .append, args := #[sl, x], argTypes := #[t, u] })
    (e : TypeId) (i : TypeInfo) (ht : P.underlying t = some (.slice e)) (hu : P.underlying u = some .string) (hi : P.info? e = some i) (hz : i.zero = some (.int .u8 0)) (hsize : i.size = 1) (hby : i.bytes = 1)
    (v : Value) (n : Nat) (xs : List Value) (hs : a.eval sl = v) (hown : w.ownsRowF 0 e 1 v n xs) (s : ByteArray) (hx : a.eval x = .string s) (h63 : n + s.size ≤ maxLen) (hbytes : n + s.size ≤ 140737488355328)
    (h : ∀ v' w', w'.ownsRowF 0 e 1 v' (n + s.size) (xs ++ Lib.strCells s) → w.grownBy w' v.ownBlock → (v'.ownBlock = v.ownBlock ∨ ∀ k, v'.ownBlock = some k → w.heap.size ≤ k) → wpList P ops Q rest (a.put o.dst v') w') : wpList P ops Q (o :: rest) a w := by
  refine wpList_plain hgd fun K hK => ?_
  obtain ⟨v', w', hr, h2, h3, h4⟩ := app_strX (P := P) w t u o.type e i ht hu hi hz hsize hby v n xs hown s h63 hbytes
  unfold Oper.wp execOp
  simp only [ho, resolve, invoke, builtin, Sem.run_bind, Sem.run_pure, Result.andThen_ok, List.map_toArray, List.map_cons, List.map_nil, hs, hx, hr]
  exact hK _ _ (h v' w' h2 h3 h4)
theorem wp_byteX {ops : Array Oper} {rest : List Oper} {o : Oper} {a : Act} {Q : Exit → Act → World → Prop} (hgd : o.guard = none) (sl x : Operand) (t : TypeId)
    (ho : o.op = .call { callee := .builtin .append, args := #[sl, x], argTypes := #[t, t] })
    (e : TypeId) (i : TypeInfo) (ht : P.underlying t = some (.slice e)) (hi : P.info? e = some i) (hz : i.zero = some (.int .u8 0)) (hsize : i.size = 1) (hby : i.bytes = 1)
    (v : Value) (n : Nat) (xs : List Value) (hs : a.eval sl = v) (hown : w.ownsRowF 0 e 1 v n xs) (ad : Addr) (m c : Nat) (news : List Value) (hx : a.eval x = .slice (some ad) m c) (hl : news.length = m * 1) (hnews : ∀ j u, news[j]? = some u → w.cell? (ad.add j) = some u) (h1 : ∀ u ∈ news, u.oneCell' = true) (h63 : n + m ≤ maxLen) (hbytes : n + m ≤ 140737488355328)
    (h : ∀ v' w', w'.ownsRowF 0 e 1 v' (n + m) (xs ++ news) → w.grownBy w' v.ownBlock → (v'.ownBlock = v.ownBlock ∨ ∀ k, v'.ownBlock = some k → w.heap.size ≤ k) → wpList P ops Q rest (a.put o.dst v') w') : wpList P ops Q (o :: rest) a w := by
  refine wpList_plain hgd fun K hK => ?_
  obtain ⟨v', w', hr, h2, h3, h4⟩ := app_byteX (P := P) w t o.type e i ht hi hz hsize hby v n xs hown ad m c news hl hnews h1 h63 hbytes
  unfold Oper.wp execOp
  simp only [ho, resolve, invoke, builtin, Sem.run_bind, Sem.run_pure, Result.andThen_ok, List.map_toArray, List.map_cons, List.map_nil, hs, hx, hr]
  exact hK _ _ (h v' w' h2 h3 h4)
end
/-- What a builder's block and row are. -/
def BldAt (T e b : Nat) (p v : Value) (s : ByteArray) (w : World) : Prop :=
  (p = .pointer none ∨ p = .pointer (some ⟨b, 0, none⟩)) ∧ w.heap[b]? = some (.cells #[p, v] T (0, 0)) ∧ w.ownsRowF 0 e 1 v s.size (Lib.strCells s) ∧ v.ownBlock ≠ some b
/-- What a write to a builder leaves. -/
structure BldTo (T e b : Nat) (v : Value) (s : ByteArray) (w w' : World) : Prop where
  to : ∃ p' v', BldAt T e b p' v' s w' ∧ (v'.ownBlock = v.ownBlock ∨ ∀ k, v'.ownBlock = some k → w.heap.size ≤ k)
  os : w'.os = w.os
  tape : w'.tape = w.tape
  output : w'.output = w.output
  size : w.heap.size ≤ w'.heap.size
  blk : ∀ k, k < w.heap.size → k ≠ b → v.ownBlock ≠ some k → w'.heap[k]? = w.heap[k]?

theorem lk1 {e : Nat × Ob} {k : Nat} {q : Nat × Ob} (h : lk [(1000, e)] k = some q) : k = 1000 ∧ q = e := by
  by_cases h1 : k = 1000
  · subst h1
    have : lk [(1000, e)] 1000 = some e := rfl
    rw [this] at h; exact ⟨rfl, (Option.some.inj h).symm⟩
  · exfalso
    have h2 : (1000 == k) = false := by simpa using fun h => h1 h.symm
    have h3 : (k == 1000) = false := by simpa using h1
    simp [lk, h1, Ne.symm h1, h2, h3] at h
theorem ent1 (e : Nat × Ob) (k : Nat) (g : Nat) (ob : Ob) (he : e = (g, ob)) (hg : g = 0) : (ent [(1000, e)] k).1 = 0 := by
  subst he; subst hg
  unfold ent
  cases h : lk [(1000, (0, ob))] k with
  | none => rfl
  | some q => rw [(lk1 h).2]; rfl
theorem bld_args0 {T e : Nat} {s : ByteArray} (ι : Pl) (w : World) (cargs : Array Value) (hA : RaL ι [(1000, (0, .bld T e s))] w cargs [.ptr 1000 0 0]) : cargs = ([Value.pointer (some ⟨(ι 1000).blk, 0, none⟩)] : List Value).toArray := by
  obtain ⟨l⟩ := cargs
  obtain ⟨hl, h2⟩ := hA
  match l, hl, h2 with
  | [x], _, h2 =>
    have h0 := h2 0 x _ rfl rfl
    cases h0 with
    | ptr _ _ _ _ q1 q2 q3 => rw [q3 _ rfl rfl]
theorem bld_args1 {T e : Nat} {s : ByteArray} {a : AV} {av : Value} (ha : ∀ ι m w v, Ra ι m w v a → v = av) (ι : Pl) (w : World) (cargs : Array Value) (hA : RaL ι [(1000, (0, .bld T e s))] w cargs [.ptr 1000 0 0, a]) : cargs = ([Value.pointer (some ⟨(ι 1000).blk, 0, none⟩), av] : List Value).toArray := by
  obtain ⟨l⟩ := cargs
  obtain ⟨hl, h2⟩ := hA
  match l, hl, h2 with
  | [x, y], _, h2 =>
    have h0 := h2 0 x _ rfl rfl
    rw [ha _ _ _ _ (h2 1 y _ rfl rfl)]
    cases h0 with
    | ptr _ _ _ _ q1 q2 q3 => rw [q3 _ rfl rfl]
theorem con_bldW {K : Kn} {P : Program} {f : FuncId} {T e : Nat} {s s' : ByteArray} {args : List AV} {res : AV} {avs : List Value} {cv : Value} (hf : FnOk P f) (hc : ∀ (ι : Pl) (w : World) (cargs : Array Value), RaL ι [(1000, (0, .bld T e s))] w cargs (.ptr 1000 0 0 :: args) → cargs = (Value.pointer (some ⟨(ι 1000).blk, 0, none⟩) :: avs).toArray) (hres : ∀ ι m w, Ra ι m w cv res)
  (h : ∀ (w : World) (b : Nat) (p v : Value), BldAt T e b p v s w → Calls P f (Value.pointer (some ⟨b, 0, none⟩) :: avs).toArray w fun ex w' => ex = .returned cv ∧ BldTo T e b v s' w w') :
  Con K P f (.ptr 1000 0 0 :: args) [(1000, (0, .bld T e s))] res [(1000, (0, .bld T e s'))] := by
  refine ⟨hf, fun ι w cargs hK hM hA => ?_⟩
  have hk : lk [(1000, (0, Ob.bld T e s))] 1000 = some (0, .bld T e s) := rfl
  have hk' : lk [(1000, (0, Ob.bld T e s'))] 1000 = some (0, .bld T e s') := rfl
  obtain ⟨p, v, hp, hbk, hown, hne, hiff⟩ := hM.ok _ _ _ hk
  have hcargs := hc ι w cargs hA
  rw [hcargs]
  refine (h w (ι 1000).blk p v ⟨hp, hbk, hown, hne⟩).mono fun ex w' hh => ?_
  obtain ⟨rfl, ⟨p', v', ⟨hp', hbk', hown', hne'⟩, hnew⟩, hos, htp, hout, hsz, hblk⟩ := hh
  let ca : CA := { (ι 1000) with base := v'.ownBlock.map fun g => ⟨g, 0, none⟩ }
  have hown0 : ∀ b o, OwnM ι [(1000, (0, .bld T e s))] b o ↔ b = (ι 1000).blk ∨ v.ownBlock = some b := fun b o => by
    constructor
    · rintro ⟨k, g, ob, hl, ho⟩
      obtain ⟨rfl, hq⟩ := lk1 hl
      cases hq
      rcases ho with ho | ho
      · exact .inl ho.symm
      · exact .inr ((hiff b).2 ho)
    · rintro (rfl | h2)
      · exact ⟨1000, 0, _, hk, .inl rfl⟩
      · exact ⟨1000, 0, _, hk, .inr ((hiff b).1 h2)⟩
  have hiff' : ∀ b, v'.ownBlock = some b ↔ ∃ ad, ca.base = some ad ∧ ad.block = b := fun b => by
    show _ ↔ ∃ ad, v'.ownBlock.map (fun g => (⟨g, 0, none⟩ : Addr)) = some ad ∧ ad.block = b
    cases v'.ownBlock with
    | none => simp
    | some g => simp
  have hca : setι ι 1000 ca 1000 = ca := setι_same _ _ _
  have hown1 : ∀ b o, OwnM (setι ι 1000 ca) [(1000, (0, .bld T e s'))] b o ↔ b = (ι 1000).blk ∨ v'.ownBlock = some b := fun b o => by
    constructor
    · rintro ⟨k, g, ob, hl, ho⟩
      obtain ⟨rfl, hq⟩ := lk1 hl
      cases hq
      rw [hca] at ho
      rcases ho with ho | ho
      · exact .inl ho.symm
      · exact .inr ((hiff' b).2 ho)
    · rintro (rfl | h2)
      · exact ⟨1000, 0, _, hk', by rw [hca]; exact .inl rfl⟩
      · exact ⟨1000, 0, _, hk', by rw [hca]; exact .inr ((hiff' b).1 h2)⟩
  have hback : ∀ b o, OwnM (setι ι 1000 ca) [(1000, (0, .bld T e s'))] b o → OwnM ι [(1000, (0, .bld T e s))] b o ∨ w.heap.size ≤ b := fun b o ho => by
    rcases (hown1 b o).1 ho with h2 | h2
    · exact .inl ((hown0 b o).2 (.inl h2))
    · rcases hnew with h3 | h3
      · exact .inl ((hown0 b o).2 (.inr (h3 ▸ h2)))
      · exact .inr (h3 b h2)
  have hsame : ∀ b, b < w.heap.size → (∀ o, ¬ OwnM ι [(1000, (0, .bld T e s))] b o) → w'.heap[b]? = w.heap[b]? := fun b hb hno =>
    hblk b hb (fun e => hno 0 ((hown0 b 0).2 (.inl e))) fun e => hno 0 ((hown0 b 0).2 (.inr e))
  have hX : ∀ b o, OwnM ι [(1000, (0, .bld T e s))] b o → ∀ o', ¬ ι.fr.X b o' := fun b o ho o' => by
    obtain ⟨k, g, ob, hl, ho⟩ := ho
    exact hM.xapart k g ob b o o' hl ho
  refine ⟨setι ι 1000 ca, cv, rfl, ⟨?_, ?_, ?_, ?_, ?_⟩, hres _ _ _, ⟨hos, htp, hout, hsz, hsame, fun a ha hno => ?_, hback⟩, ⟨fun k => ?_, fun k g ob' hl => ?_⟩, rfl⟩
  · intro k g ob hl
    obtain ⟨rfl, hq⟩ := lk1 hl
    cases hq
    rw [hca]
    exact ⟨p', v', hp', hbk', hown', hne', hiff'⟩
  · intro k k' g g' ob ob' b o o' hl hl' _ _
    rw [(lk1 hl).1, (lk1 hl').1]
  · intro b o hx
    exact Nat.lt_of_lt_of_le (hM.xlt b o hx) hsz
  · intro k g ob b o o' hl ho hx
    rcases hback b o ⟨k, g, ob, hl, ho⟩ with h2 | h2
    · exact hX b o h2 o' hx
    · have := hM.xlt b o' hx; omega
  · refine ⟨fun q hq => ?_, Nat.le_trans hM.gk.2 hsz⟩
    obtain ⟨h1, h2, h3⟩ := hM.gk.1 q hq
    have hlt : q.1 < w.heap.size := Nat.lt_of_lt_of_le h3 hM.gk.2
    refine ⟨by rw [hsame q.1 hlt fun o ho => h2 o (.inr ho)]; exact h1, fun o ho => ?_, h3⟩
    rcases ho with ho | ho
    · exact h2 o (.inl ho)
    · rcases hback q.1 o ho with h4 | h4
      · exact h2 o (.inr h4)
      · omega
  · have hno' : ∀ o, ¬ OwnM ι [(1000, (0, .bld T e s))] a.block o := fun o ho => hno ((hown0 _ _).2 ((hown0 _ _).1 ho))
    exact World.cell?_of_block (w := w) (hsame a.block ha hno')
  · rw [ent1 _ k 0 _ rfl rfl]; exact Nat.zero_le _
  · obtain ⟨rfl, hq⟩ := lk1 hl
    cases hq
    exact .inl ⟨_, hk, ⟨s, rfl⟩, by rw [hca]⟩
end Go.Ab
