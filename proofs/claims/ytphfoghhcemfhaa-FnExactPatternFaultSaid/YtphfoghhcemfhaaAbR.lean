/- The rules. -/
import Derived.Test.YtphfoghhcemfhaaAbP21
namespace Go.Ab
set_option linter.unusedVariables false
set_option linter.unusedSimpArgs false
/-- In the midst of a region. -/
def GR (C : Ctx) (draw : Bool) (all : List Oper) (k : List Item) (j : Nat) (l : List Oper) (F : Fp) (st : St) : Prop :=
  ∃ F2 st', AR C.P C.hint all j l st F2 st' ∧ (draw = true → chk all (F ++ F2) = true) ∧ Good C k st'
theorem gr_start {C : Ctx} {id : Nat} {ops : Array Oper} {draw : Bool} {k : List Item} {st : St} (g : GR C draw ops.toList k 0 ops.toList [] st) (hm : C.P.follows .mixedOrders = true) : Good C (.code (.region id ops draw) :: k) st := by
  obtain ⟨F, st', h1, h2, h3⟩ := g
  cases draw
  · exact good_region h1 h3
  · exact good_draw hm h1 (by simpa using h2 rfl) h3
theorem gr_run_ {C : Ctx} {draw : Bool} {all : List Oper} {k : List Item} {j j' : Nat} {l l' : List Oper} {F F' : Fp} {st st' : St} (g : GR C draw all k j' l' (F ++ F') st') (h : runO C.P C.hint all j l (.go [] st) = .stop j' l' F' st') : GR C draw all k j l F st := by
  obtain ⟨F2, s2, h1, h2, h3⟩ := g
  exact ⟨F' ++ F2, s2, AR_run h h1, by simpa using h2, h3⟩
theorem gr_done_ {C : Ctx} {draw : Bool} {all : List Oper} {k : List Item} {j : Nat} {F : Fp} {st : St} (g : Good C k st) (h : draw = true → chk all F = true) : GR C draw all k j [] F st :=
  ⟨[], st, AR.nil _ _, by simpa using h, g⟩
theorem gr_call_ {C : Ctx} {draw : Bool} {all : List Oper} {k : List Item} {j : Nat} {o : Oper} {r : List Oper} {F : Fp} {st : St} {fv : Operand} {args : Array Operand} {ts : Array TypeId} {f : FuncId} {first caps : List AV} (σ : Sg) {cargs : List AV} {mc mc' : Mem} {v : AV}
   (hcon : Con C.hint.2.2 C.P f cargs mc v mc') (g : GR C draw all k (j + 1) r (F ++ σ.map (fun q => (j, q.2.2.1, true))) ({ st with mem := back σ st.mem mc' }.put o.dst (renA σ v)))
   (h : de all st.fr o = .call) (hd : dstOk C.hint.1 o.dst = true) (hop : o.op = .call { callee := .value fv, args := args, argTypes := ts }) (hf : fnOf (oget st.fr fv) = some (f, first, caps))
   (hargs : F2 LeA (first ++ args.toList.map (oget st.fr) ++ caps) (cargs.map (renA σ))) (hok : cargs.all (okA (inn σ mc)) = true) (hm : Fits σ mc st.mem) (ho : FitsOut σ mc mc' st.mem) : GR C draw all k j (o :: r) F st := by
  obtain ⟨F2, s2, h1, h2, h3⟩ := g
  exact ⟨_, s2, AR.call j o r st s2 F2 fv args ts f first caps σ cargs mc mc' v h hd hop hf hcon hargs hok hm ho h1, by simpa using h2, h3⟩
theorem good_loop {C : Ctx} {b : Code} {k : List Item} {st : St} (I : Nat → St → Prop) (n : Nat) (h0 : ∃ st', I n st' ∧ frLe st.fr st'.fr ∧ memLe st.mem st'.mem ∧ memKeys st.mem st'.mem)
  (step : ∀ n st, I n st → (∀ n' st', n' < n → I n' st' → Good C (.inLoop b :: k) st') → Good C (.code b :: .inLoop b :: k) st) : Good C (.code (.loop b) :: k) st := by
  obtain ⟨st', h, hf, hm⟩ := h0
  exact good_weak st' hf hm (good_loop_ I n h step)
theorem good_again {C : Ctx} {it : List Item} {st : St} {I : Nat → St → Prop} {n n' : Nat} (hs : ∀ n' st', n' < n → I n' st' → Good C it st') (hn : n' < n) (h0 : ∃ st', I n' st' ∧ frLe st.fr st'.fr ∧ memLe st.mem st'.mem ∧ memKeys st.mem st'.mem) : Good C it st := by
  obtain ⟨st', h, hf, hm⟩ := h0
  exact good_weak st' hf hm (hs n' st' hn h)
theorem good_jump {C : Ctx} {it : List Item} {st : St} {J : St → Prop} (hs : ∀ st', J st' → Good C it st') (h0 : ∃ st', J st' ∧ frLe st.fr st'.fr ∧ memLe st.mem st'.mem ∧ memKeys st.mem st'.mem) : Good C it st := by
  obtain ⟨st', h, hf, hm⟩ := h0
  exact good_weak st' hf hm (hs st' h)
theorem good_cut {H : Prop} {C : Ctx} {x : Item} {k : List Item} {st : St} (J : St → Prop) (hj : ∀ st', J st' → Good C k st') (h : (∀ st', J st' → Good C k st') → H → Good C (x :: k) st) : H → Good C (x :: k) st := h hj
theorem good_cut_t {H : Prop} {C : Ctx} {a : Item} {c : Operand} {x y : Code} {k : List Item} {st : St} (J : St → Prop) (hj : ∀ st', J st' → Good C (.code x :: k) st') (h : (∀ st', J st' → Good C (.code x :: k) st') → H → Good C (a :: .code (.cond c x y) :: k) st) : H → Good C (a :: .code (.cond c x y) :: k) st := h hj
theorem good_cut_f {H : Prop} {C : Ctx} {a : Item} {c : Operand} {x y : Code} {k : List Item} {st : St} (J : St → Prop) (hj : ∀ st', J st' → Good C (.code y :: k) st') (h : (∀ st', J st' → Good C (.code y :: k) st') → H → Good C (a :: .code (.cond c x y) :: k) st) : H → Good C (a :: .code (.cond c x y) :: k) st := h hj
theorem good_cut_ts {H : Prop} {C : Ctx} {a : Item} {c : Operand} {x y z : Code} {k : List Item} {st : St} (J : St → Prop) (hj : ∀ st', J st' → Good C (.code x :: .code z :: k) st') (h : (∀ st', J st' → Good C (.code x :: .code z :: k) st') → H → Good C (a :: .code (.seq (.cond c x y) z) :: k) st) : H → Good C (a :: .code (.seq (.cond c x y) z) :: k) st := h hj
theorem good_cut_fs {H : Prop} {C : Ctx} {a : Item} {c : Operand} {x y z : Code} {k : List Item} {st : St} (J : St → Prop) (hj : ∀ st', J st' → Good C (.code y :: .code z :: k) st') (h : (∀ st', J st' → Good C (.code y :: .code z :: k) st') → H → Good C (a :: .code (.seq (.cond c x y) z) :: k) st) : H → Good C (a :: .code (.seq (.cond c x y) z) :: k) st := h hj
theorem fits_nil (m : Mem) : Fits [] [] m := ⟨by simp, by simp, by simp, by simp⟩
theorem fitsOut_nil (m : Mem) : FitsOut [] [] [] m := ⟨by simp, by simp, by simp⟩
theorem endOk_nil (m : Mem) : EndOk [] m [] [] := ⟨fits_nil m, by simp, by simp⟩
theorem all1 {α : Type} {p : α → Prop} {a : α} {l : List α} (h : p a) (t : ∀ q ∈ l, p q) : ∀ q ∈ a :: l, p q := fun q hq => by
  rcases List.mem_cons.1 hq with rfl | hq
  · exact h
  · exact t q hq
theorem all0 {α : Type} {p : α → Prop} : ∀ q ∈ ([] : List α), p q := fun q hq => by cases hq
-- lemmas for the walks
theorem bif_split {α : Type} {c : Bool} {a b : Option α} {r : α} (h : (bif c then a else b) = some r) : (c = true ∧ a = some r) ∨ (c = false ∧ b = some r) := by cases c <;> simp_all
theorem bif_e {α : Type} {c : Bool} {a b : Option α} {r : α} {G : Prop} (h1 : c = true → a = some r → G) (h2 : c = false → b = some r → G) : (bif c then a else b) = some r → G := by cases c <;> simp_all
theorem bind_e {α β : Type} {x : Option α} {f : α → Option β} {r : β} {G : Prop} (g : ∀ t, x = some t → f t = some r → G) : x.bind f = some r → G := fun h => let ⟨t, h1, h2⟩ := Option.bind_eq_some_iff.mp h; g t h1 h2
theorem ret_e {α : Type} {a r : α} {G : Prop} (g : a = r → G) : some a = some r → G := fun h => g (Option.some.inj h)
theorem bind_some {α β : Type} {x : Option α} {f : α → Option β} {r : β} (h : x.bind f = some r) : ∃ t, x = some t ∧ f t = some r := Option.bind_eq_some_iff.mp h
def srw (s : ByteArray) : List PV := [.str s]
def brw (b : Bool) : List PV := [.bool b]
def lrw {α : Type} (f : α → List PV) (l : List α) : List PV := [.lst false (l.map f)]
def bytesI (s : ByteArray) : List Int := s.data.toList.map fun b => (b.toNat : Int)
theorem bytesOf_eq (s : ByteArray) : bytesOf s = (bytesI s).map (irow .u8) := by simp [bytesOf, bytesI, irow, brow, Function.comp_def]
theorem unint_map (k : IntKind) (l : List Int) : unint k (l.map (irow k)) = some l := by induction l <;> simp_all [unint, irow]
theorem rowsOk_map {α : Type} (s : Nat) (f : α → List PV) (h : ∀ x, (f x).length = s) (l : List α) : rowsOk s (l.map f) = true := by induction l <;> simp_all [rowsOk]
theorem rowsOk_irow (k : IntKind) (l : List Int) : rowsOk 1 (l.map (irow k)) = true := rowsOk_map _ (irow k) (by intro x; rfl) l
theorem rowsOk_srw (l : List ByteArray) : rowsOk 1 (l.map srw) = true := rowsOk_map _ srw (by intro x; rfl) l
theorem rowsOk_brw (l : List Bool) : rowsOk 1 (l.map brw) = true := rowsOk_map _ brw (by intro x; rfl) l
theorem rowsOk_lrw {α : Type} (f : α → List PV) (l : List (List α)) : rowsOk 1 (l.map (lrw f)) = true := rowsOk_map _ (lrw f) (by intro x; rfl) l
theorem take_map_len {α β : Type} (f : α → β) (l : List α) : (l.map f).take l.length = l.map f := by
  have h := List.take_length (l := l.map f); rwa [List.length_map] at h
theorem ix_en {α β : Type} (f : α → β) {l : List α} {n : Int} {t : α} (h : ix l n = some t) : ix (l.map f) n = some (f t) := by
  unfold ix at *; split at h
  · rename_i h0; rw [if_pos h0]; simp [h]
  · cases h
theorem gx_en {α β : Type} (f : α → β) {l : List α} {n : Nat} {t : α} (h : l[n]? = some t) : (l.map f)[n]? = some (f t) := by simp [h]
theorem lsub_en {α β : Type} (f : α → β) {l t : List α} {a b : Int} (h : lsub l a b = some t) : lsub (l.map f) a b = some (t.map f) := by
  unfold lsub at *; split at h
  · obtain rfl := Option.some.inj h; rw [if_pos (by simpa)]; simp
  · cases h
theorem app_en {α β : Type} (f : α → β) {a b t : List α} (h : app a b = some t) : app (a.map f) (b.map f) = some (t.map f) := by
  unfold app at *; split at h
  · obtain rfl := Option.some.inj h; rw [if_pos (by simpa)]; simp
  · cases h
theorem mks_en {α β : Type} (f : α → β) {z : α} {n c : Int} {t : List α} (h : mks z n c = some t) : mks (f z) n c = some (t.map f) := by
  unfold mks at *; split at h
  · obtain rfl := Option.some.inj h; rw [if_pos (by assumption)]; simp
  · cases h
theorem bnd_ {lo hi n : Int} {u : Unit} (h : bnd lo hi n = some u) : bnd lo hi n = some () := h
theorem set_map_ {α β : Type} (f : α → β) (l : List α) (i : Nat) (x : α) : (setr l i x).map f = setr (l.map f) i (f x) := by simp [setr, List.map_set]
theorem map_set_ {α : Type} (l : List α) (i : Nat) (x : α) : (setr l i x).length = l.length := by simp [setr]
end Go.Ab
