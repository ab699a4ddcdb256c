/- The rules. -/
import Derived.Test.YtfeieigajdekhaaGreatDoorAbP17
import Derived.OpenShut
import Derived.ShutString
import Derived.ChangeOld
import Derived.SizedLaws
import Derived.Deep.Slices
import Derived.WalkKit
import Derived.ProofKit
import Derived.Below
import Derived.Lib.ItoaNum
import Derived.Lib.ItoaMem
import Derived.Lib.ParseIntB
import Derived.Lib.ParseIntBTie
import Derived.Lib.ParseIntBCases
import Derived.Lib.LaidTab
import Derived.LaidLaws
import Derived.LaidSub
import Derived.Stop.LaidErr
import Derived.MakeChecks
namespace Go.Ab
set_option linter.unusedVariables false
set_option linter.unusedSimpArgs false
/-- In the midst of a region. -/
def GR (C : Ctx) (draw : Bool) (all : List Oper) (k : List Item) (j : Nat) (l : List Oper) (F : Fp) (st : St) : Prop :=
  ∃ F2 st', AR C.P C.hint all j l st F2 st' ∧ (draw = true → chk all (F ++ F2) = true) ∧ Good C k st'
theorem gr_start {C : Ctx} {id : Nat} {ops : Array Oper} {draw : Bool} {k : List Item} {st : St} (g : GR C draw ops.toList k 0 ops.toList [] st) (hm : C.P.follows .mixedOrders = true) : Good C (.code (.region id ops draw) :: k) st := by
  obtain ⟨F, st', h1, h2, h3⟩ := g
  cases draw
  · exact good_region h1 h3
  · exact good_draw hm h1 (by simpa using h2 rfl) h3
theorem gr_run_ {C : Ctx} {draw : Bool} {all : List Oper} {k : List Item} {j j' : Nat} {l l' : List Oper} {F F' : Fp} {st st' : St} (g : GR C draw all k j' l' (F ++ F') st') (h : runO C.P C.hint all j l (.go [] st) = .stop j' l' F' st') : GR C draw all k j l F st := by
  obtain ⟨F2, s2, h1, h2, h3⟩ := g
  exact ⟨F' ++ F2, s2, AR_run h h1, by simpa using h2, h3⟩
theorem gr_done_ {C : Ctx} {draw : Bool} {all : List Oper} {k : List Item} {j : Nat} {F : Fp} {st : St} (g : Good C k st) (h : draw = true → chk all F = true) : GR C draw all k j [] F st :=
  ⟨[], st, AR.nil _ _, by simpa using h, g⟩
theorem gr_callr_ {C : Ctx} {draw : Bool} {all : List Oper} {k : List Item} {j : Nat} {o : Oper} {r : List Oper} {F : Fp} {st : St} {fv : Operand} {args : Array Operand} {ts : Array TypeId} {f : FuncId} {first caps : List AV} (ro : List Nat) (σ : Sg) {cargs : List AV} {mc mc' : Mem} {v : AV}
   (hcon : Con C.hint.2.2 C.P f cargs mc v mc') (g : GR C draw all k (j + 1) r (F ++ σ.map (fun q => (j, q.2.2.1, !ro.contains q.2.2.1))) ({ st with mem := back σ st.mem mc' }.put o.dst (renA σ v)))
   (h : de all st.fr o = .call) (hd : dstOk C.hint.1 o.dst = true) (hop : o.op = .call { callee := .value fv, args := args, argTypes := ts }) (hf : fnOf (oget st.fr fv) = some (f, first, caps))
   (hargs : F2 LeA (first ++ args.toList.map (oget st.fr) ++ caps) (cargs.map (renA σ))) (hok : cargs.all (okA (inn σ mc)) = true) (hm : Fits σ mc st.mem) (ho : FitsOut σ mc mc' st.mem) (hro : ∀ q ∈ σ, ro.contains q.2.2.1 = true → lk (back σ st.mem mc') q.2.2.1 = lk st.mem q.2.2.1) : GR C draw all k j (o :: r) F st := by
  obtain ⟨F2, s2, h1, h2, h3⟩ := g
  exact ⟨_, s2, AR.call j o r st s2 F2 fv args ts f first caps σ cargs mc mc' v h hd hop hf hcon hargs hok hm ho ro hro h1, by simpa using h2, h3⟩
theorem gr_call_ {C : Ctx} {draw : Bool} {all : List Oper} {k : List Item} {j : Nat} {o : Oper} {r : List Oper} {F : Fp} {st : St} {fv : Operand} {args : Array Operand} {ts : Array TypeId} {f : FuncId} {first caps : List AV} (σ : Sg) {cargs : List AV} {mc mc' : Mem} {v : AV}
   (hcon : Con C.hint.2.2 C.P f cargs mc v mc') (g : GR C draw all k (j + 1) r (F ++ σ.map (fun q => (j, q.2.2.1, true))) ({ st with mem := back σ st.mem mc' }.put o.dst (renA σ v)))
   (h : de all st.fr o = .call) (hd : dstOk C.hint.1 o.dst = true) (hop : o.op = .call { callee := .value fv, args := args, argTypes := ts }) (hf : fnOf (oget st.fr fv) = some (f, first, caps))
   (hargs : F2 LeA (first ++ args.toList.map (oget st.fr) ++ caps) (cargs.map (renA σ))) (hok : cargs.all (okA (inn σ mc)) = true) (hm : Fits σ mc st.mem) (ho : FitsOut σ mc mc' st.mem) : GR C draw all k j (o :: r) F st :=
  gr_callr_ [] σ hcon (by simpa using g) h hd hop hf hargs hok hm ho (by simp)
theorem good_loop {C : Ctx} {b : Code} {k : List Item} {st : St} (I : Nat → St → Prop) (n : Nat) (h0 : ∃ st', I n st' ∧ frLe st.fr st'.fr ∧ memLe st.mem st'.mem ∧ memKeys st.mem st'.mem)
  (step : ∀ n st, I n st → (∀ n' st', n' < n → I n' st' → Good C (.inLoop b :: k) st') → Good C (.code b :: .inLoop b :: k) st) : Good C (.code (.loop b) :: k) st := by
  obtain ⟨st', h, hf, hm⟩ := h0
  exact good_weak st' hf hm (good_loop_ I n h step)
theorem good_again {C : Ctx} {it : List Item} {st : St} {I : Nat → St → Prop} {n n' : Nat} (hs : ∀ n' st', n' < n → I n' st' → Good C it st') (hn : n' < n) (h0 : ∃ st', I n' st' ∧ frLe st.fr st'.fr ∧ memLe st.mem st'.mem ∧ memKeys st.mem st'.mem) : Good C it st := by
  obtain ⟨st', h, hf, hm⟩ := h0
  exact good_weak st' hf hm (hs n' st' hn h)
theorem good_jump {C : Ctx} {it : List Item} {st : St} {J : St → Prop} (hs : ∀ st', J st' → Good C it st') (h0 : ∃ st', J st' ∧ frLe st.fr st'.fr ∧ memLe st.mem st'.mem ∧ memKeys st.mem st'.mem) : Good C it st := by
  obtain ⟨st', h, hf, hm⟩ := h0
  exact good_weak st' hf hm (hs st' h)
theorem good_cut {H : Prop} {C : Ctx} {x : Item} {k : List Item} {st : St} (J : St → Prop) (hj : ∀ st', J st' → Good C k st') (h : (∀ st', J st' → Good C k st') → H → Good C (x :: k) st) : H → Good C (x :: k) st := h hj
theorem good_cut_t {H : Prop} {C : Ctx} {a : Item} {c : Operand} {x y : Code} {k : List Item} {st : St} (J : St → Prop) (hj : ∀ st', J st' → Good C (.code x :: k) st') (h : (∀ st', J st' → Good C (.code x :: k) st') → H → Good C (a :: .code (.cond c x y) :: k) st) : H → Good C (a :: .code (.cond c x y) :: k) st := h hj
theorem good_cut_f {H : Prop} {C : Ctx} {a : Item} {c : Operand} {x y : Code} {k : List Item} {st : St} (J : St → Prop) (hj : ∀ st', J st' → Good C (.code y :: k) st') (h : (∀ st', J st' → Good C (.code y :: k) st') → H → Good C (a :: .code (.cond c x y) :: k) st) : H → Good C (a :: .code (.cond c x y) :: k) st := h hj
theorem good_cut_ts {H : Prop} {C : Ctx} {a : Item} {c : Operand} {x y z : Code} {k : List Item} {st : St} (J : St → Prop) (hj : ∀ st', J st' → Good C (.code x :: .code z :: k) st') (h : (∀ st', J st' → Good C (.code x :: .code z :: k) st') → H → Good C (a :: .code (.seq (.cond c x y) z) :: k) st) : H → Good C (a :: .code (.seq (.cond c x y) z) :: k) st := h hj
theorem good_cut_fs {H : Prop} {C : Ctx} {a : Item} {c : Operand} {x y z : Code} {k : List Item} {st : St} (J : St → Prop) (hj : ∀ st', J st' → Good C (.code y :: .code z :: k) st') (h : (∀ st', J st' → Good C (.code y :: .code z :: k) st') → H → Good C (a :: .code (.seq (.cond c x y) z) :: k) st) : H → Good C (a :: .code (.seq (.cond c x y) z) :: k) st := h hj
theorem fits_nil (m : Mem) : Fits [] [] m := ⟨by simp, by simp, by simp, by simp⟩
theorem fitsOut_nil (m : Mem) : FitsOut [] [] [] m := ⟨by simp, by simp, by simp⟩
theorem endOk_nil (m : Mem) : EndOk [] m [] [] := ⟨fits_nil m, by simp, by simp⟩
theorem all1 {α : Type} {p : α → Prop} {a : α} {l : List α} (h : p a) (t : ∀ q ∈ l, p q) : ∀ q ∈ a :: l, p q := fun q hq => by
  rcases List.mem_cons.1 hq with rfl | hq
  · exact h
  · exact t q hq
theorem all0 {α : Type} {p : α → Prop} : ∀ q ∈ ([] : List α), p q := fun q hq => by cases hq
-- lemmas for the walks
theorem bif_split {α : Type} {c : Bool} {a b : Option α} {r : α} (h : (bif c then a else b) = some r) : (c = true ∧ a = some r) ∨ (c = false ∧ b = some r) := by cases c <;> simp_all
theorem bif_e {α : Type} {c : Bool} {a b : Option α} {r : α} {G : Prop} (h1 : c = true → a = some r → G) (h2 : c = false → b = some r → G) : (bif c then a else b) = some r → G := by cases c <;> simp_all
theorem bind_e {α β : Type} {x : Option α} {f : α → Option β} {r : β} {G : Prop} (g : ∀ t, x = some t → f t = some r → G) : x.bind f = some r → G := fun h => let ⟨t, h1, h2⟩ := Option.bind_eq_some_iff.mp h; g t h1 h2
theorem ret_e {α : Type} {a r : α} {G : Prop} (g : a = r → G) : some a = some r → G := fun h => g (Option.some.inj h)
theorem bind_some {α β : Type} {x : Option α} {f : α → Option β} {r : β} (h : x.bind f = some r) : ∃ t, x = some t ∧ f t = some r := Option.bind_eq_some_iff.mp h
def srw (s : ByteArray) : List PV := [.str s]
def brw (b : Bool) : List PV := [.bool b]
def lrw {α : Type} (f : α → List PV) (l : List α) : List PV := [.lst false (l.map f)]
def bytesI (s : ByteArray) : List Int := s.data.toList.map fun b => (b.toNat : Int)
theorem bytesOf_eq (s : ByteArray) : bytesOf s = (bytesI s).map (irow .u8) := by simp [bytesOf, bytesI, irow, brow, Function.comp_def]
theorem unint_map (k : IntKind) (l : List Int) : unint k (l.map (irow k)) = some l := by induction l <;> simp_all [unint, irow]
theorem rowsOk_map {α : Type} (s : Nat) (f : α → List PV) (h : ∀ x, (f x).length = s) (l : List α) : rowsOk s (l.map f) = true := by induction l <;> simp_all [rowsOk]
theorem rowsOk_irow (k : IntKind) (l : List Int) : rowsOk 1 (l.map (irow k)) = true := rowsOk_map _ (irow k) (by intro x; rfl) l
theorem rowsOk_srw (l : List ByteArray) : rowsOk 1 (l.map srw) = true := rowsOk_map _ srw (by intro x; rfl) l
theorem rowsOk_brw (l : List Bool) : rowsOk 1 (l.map brw) = true := rowsOk_map _ brw (by intro x; rfl) l
theorem rowsOk_lrw {α : Type} (f : α → List PV) (l : List (List α)) : rowsOk 1 (l.map (lrw f)) = true := rowsOk_map _ (lrw f) (by intro x; rfl) l
theorem take_map_len {α β : Type} (f : α → β) (l : List α) : (l.map f).take l.length = l.map f := by
  have h := List.take_length (l := l.map f); rwa [List.length_map] at h
theorem ix_en {α β : Type} (f : α → β) {l : List α} {n : Int} {t : α} (h : ix l n = some t) : ix (l.map f) n = some (f t) := by
  unfold ix at *; split at h
  · rename_i h0; rw [if_pos h0]; simp [h]
  · cases h
theorem gx_en {α β : Type} (f : α → β) {l : List α} {n : Nat} {t : α} (h : l[n]? = some t) : (l.map f)[n]? = some (f t) := by simp [h]
theorem lsub_en {α β : Type} (f : α → β) {l t : List α} {a b : Int} (h : lsub l a b = some t) : lsub (l.map f) a b = some (t.map f) := by
  unfold lsub at *; split at h
  · obtain rfl := Option.some.inj h; rw [if_pos (by simpa)]; simp
  · cases h
theorem app_en {α β : Type} (f : α → β) {a b t : List α} (h : app a b = some t) : app (a.map f) (b.map f) = some (t.map f) := by
  unfold app at *; split at h
  · obtain rfl := Option.some.inj h; rw [if_pos (by simpa)]; simp
  · cases h
theorem mks_en {α β : Type} (f : α → β) {z : α} {n c : Int} {t : List α} (h : mks z n c = some t) : mks (f z) n c = some (t.map f) := by
  unfold mks at *; split at h
  · obtain rfl := Option.some.inj h; rw [if_pos (by assumption)]; simp
  · cases h
theorem bnd_ {lo hi n : Int} {u : Unit} (h : bnd lo hi n = some u) : bnd lo hi n = some () := h
theorem set_map_ {α β : Type} (f : α → β) (l : List α) (i : Nat) (x : α) : (setr l i x).map f = setr (l.map f) i (f x) := by simp [setr, List.map_set]
theorem map_set_ {α : Type} (l : List α) (i : Nat) (x : α) : (setr l i x).length = l.length := by simp [setr]
end Go.Ab
namespace Go.Ab
set_option linter.unusedVariables false
set_option linter.unusedSimpArgs false
section
variable {β : Type}
theorem mfind_i (k k' : IntKind) (f : β → List PV) (a : Int) : ∀ (l : List (Int × β)) (i : Nat), mfind (.int k a) (l.map (ei k' f)) i = (tfind a l i).map fun q => (q.1, f q.2)
 | [], i => rfl
 | (b, v) :: r, i => by
   simp only [List.map_cons, ei, mfind, tfind, keyEq]
   have : (a == b) = decide (a = b) := by rw [Bool.eq_iff_iff]; simp
   rw [this]
   cases decide (a = b)
   · exact mfind_i k k' f a r (i + 1)
   · rfl
theorem mfind_s (f : β → List PV) (a : ByteArray) : ∀ (l : List (ByteArray × β)) (i : Nat), mfind (.str a) (l.map (es f)) i = (tfind a l i).map fun q => (q.1, f q.2)
 | [], i => rfl
 | (b, v) :: r, i => by
   simp only [List.map_cons, es, mfind, tfind, keyEq]
   cases decide (a = b)
   · exact mfind_s f a r (i + 1)
   · rfl
theorem kOf_i (k : IntKind) (a : Int) : kOf (.int k) (.int k a) = true := by simp [kOf]
theorem kOf_s (a : ByteArray) : kOf .str (.str a) = true := rfl
theorem mkEq_self (k : MK) : mkEq k k = true := by cases k <;> simp [mkEq]
theorem mhas_i (k k' : IntKind) (f : β → List PV) (a : Int) (l : List (Int × β)) : mhas (.int k a) (l.map (ei k' f)) = thas l a := by
  unfold mhas thas; rw [mfind_i]; cases tfind a l 0 <;> rfl
theorem mhas_s (f : β → List PV) (a : ByteArray) (l : List (ByteArray × β)) : mhas (.str a) (l.map (es f)) = thas l a := by
  unfold mhas thas; rw [mfind_s]; cases tfind a l 0 <;> rfl
theorem midx_i (k k' : IntKind) (f : β → List PV) (a : Int) (l : List (Int × β)) : midx (.int k a) (l.map (ei k' f)) = tidx l a := by
  unfold midx tidx; rw [mfind_i]; cases tfind a l 0 <;> simp
theorem midx_s (f : β → List PV) (a : ByteArray) (l : List (ByteArray × β)) : midx (.str a) (l.map (es f)) = tidx l a := by
  unfold midx tidx; rw [mfind_s]; cases tfind a l 0 <;> simp
theorem mrow_i (k k' : IntKind) (f : β → List PV) (a : Int) (l : List (Int × β)) (z : β) : mrow (.int k a) (l.map (ei k' f)) (f z) = f (tget l a z) := by
  unfold mrow tget; rw [mfind_i]; cases tfind a l 0 <;> rfl
theorem mrow_s (f : β → List PV) (a : ByteArray) (l : List (ByteArray × β)) (z : β) : mrow (.str a) (l.map (es f)) (f z) = f (tget l a z) := by
  unfold mrow tget; rw [mfind_s]; cases tfind a l 0 <;> rfl
theorem ment_i (k : IntKind) (f : β → List PV) (a : Int) (l : List (Int × β)) (z : β) : ment (.int k a) (l.map (ei k f)) (f z) = (tent l a z).map (ei k f) := by
  unfold ment tent; rw [mhas_i]; cases thas l a <;> simp [ei]
theorem ment_s (f : β → List PV) (a : ByteArray) (l : List (ByteArray × β)) (z : β) : ment (.str a) (l.map (es f)) (f z) = (tent l a z).map (es f) := by
  unfold ment tent; rw [mhas_s]; cases thas l a <;> simp [es]
theorem modify_map {α γ : Type} (g : α → γ) (h : α → α) (h' : γ → γ) (e : ∀ x, h' (g x) = g (h x)) (l : List α) (i : Nat) : (l.map g).modify i h' = (l.modify i h).map g := by
  apply List.ext_getElem?
  intro j
  simp only [List.getElem?_modify, List.getElem?_map]
  cases l[j]? with
  | none => rfl
  | some x => by_cases hj : i = j <;> simp [hj, e]
theorem mset1_i (k : IntKind) (f : β → List PV) (i : Nat) (v : β) (l : List (Int × β)) : mset1 i (f v) (l.map (ei k f)) = (tset1 l i v).map (ei k f) := by
  unfold mset1 tset1; exact modify_map (ei k f) (fun q => (q.1, v)) (fun q => (q.1, f v)) (fun x => rfl) l i
theorem mset1_s (f : β → List PV) (i : Nat) (v : β) (l : List (ByteArray × β)) : mset1 i (f v) (l.map (es f)) = (tset1 l i v).map (es f) := by
  unfold mset1 tset1; exact modify_map (es f) (fun q => (q.1, v)) (fun q => (q.1, f v)) (fun x => rfl) l i
theorem mput_i (k : IntKind) (f : β → List PV) (a : Int) (l : List (Int × β)) (v : β) : mput (.int k a) (f v) (l.map (ei k f)) = (tput l a v).map (ei k f) := by
  unfold mput tput; rw [mfind_i]
  cases tfind a l 0 with
  | none => simp [ei]
  | some q => exact mset1_i k f q.1 v l
theorem mput_s (f : β → List PV) (a : ByteArray) (l : List (ByteArray × β)) (v : β) : mput (.str a) (f v) (l.map (es f)) = (tput l a v).map (es f) := by
  unfold mput tput; rw [mfind_s]
  cases tfind a l 0 with
  | none => simp [es]
  | some q => exact mset1_s f q.1 v l
theorem mfind_a (f : β → List PV) (x y : ByteArray) : ∀ (l : List ((ByteArray × ByteArray) × β)) (i : Nat), mfind (.lst false [[.str x, .str y]]) (l.map (ea f)) i = (tfind (x, y) l i).map fun q => (q.1, f q.2)
 | [], i => rfl
 | ((b, c), v) :: r, i => by
   simp only [List.map_cons, ea, mfind, tfind, keyEq]
   cases decide ((x, y) = (b, c))
   · exact mfind_a f x y r (i + 1)
   · rfl
theorem kOf_a (a b : ByteArray) : kOf .arr2 (.lst false [[.str a, .str b]]) = true := rfl
theorem mhas_a (f : β → List PV) (x y : ByteArray) (l : List ((ByteArray × ByteArray) × β)) : mhas (.lst false [[.str x, .str y]]) (l.map (ea f)) = thas l (x, y) := by
  unfold mhas thas; rw [mfind_a]; cases tfind (x, y) l 0 <;> rfl
theorem midx_a (f : β → List PV) (x y : ByteArray) (l : List ((ByteArray × ByteArray) × β)) : midx (.lst false [[.str x, .str y]]) (l.map (ea f)) = tidx l (x, y) := by
  unfold midx tidx; rw [mfind_a]; cases tfind (x, y) l 0 <;> simp
theorem mrow_a (f : β → List PV) (x y : ByteArray) (l : List ((ByteArray × ByteArray) × β)) (z : β) : mrow (.lst false [[.str x, .str y]]) (l.map (ea f)) (f z) = f (tget l (x, y) z) := by
  unfold mrow tget; rw [mfind_a]; cases tfind (x, y) l 0 <;> rfl
theorem ment_a (f : β → List PV) (x y : ByteArray) (l : List ((ByteArray × ByteArray) × β)) (z : β) : ment (.lst false [[.str x, .str y]]) (l.map (ea f)) (f z) = (tent l (x, y) z).map (ea f) := by
  unfold ment tent; rw [mhas_a]; cases thas l (x, y) <;> simp [ea]
theorem mset1_a (f : β → List PV) (i : Nat) (v : β) (l : List ((ByteArray × ByteArray) × β)) : mset1 i (f v) (l.map (ea f)) = (tset1 l i v).map (ea f) := by
  unfold mset1 tset1; exact modify_map (ea f) (fun q => (q.1, v)) (fun q => (q.1, f v)) (fun x => rfl) l i
theorem mput_a (f : β → List PV) (x y : ByteArray) (l : List ((ByteArray × ByteArray) × β)) (v : β) : mput (.lst false [[.str x, .str y]]) (f v) (l.map (ea f)) = (tput l (x, y) v).map (ea f) := by
  unfold mput tput; rw [mfind_a]
  cases tfind (x, y) l 0 with
  | none => simp [ea]
  | some q => exact mset1_a f q.1 v l
end
-- .. with values of one cell
theorem mrow_ai (kk : IntKind) (x y : ByteArray) (z : Int) (l : List ((ByteArray × ByteArray) × Int)) : mrow (.lst false [[.str x, .str y]]) (l.map (ea (irow kk))) [.int kk z] = [.int kk (tget l (x, y) z)] := mrow_a (irow kk) x y l z
theorem ment_ai (kk : IntKind) (x y : ByteArray) (z : Int) (l : List ((ByteArray × ByteArray) × Int)) : ment (.lst false [[.str x, .str y]]) (l.map (ea (irow kk))) [.int kk z] = (tent l (x, y) z).map (ea (irow kk)) := ment_a (irow kk) x y l z
theorem mset1_ai (kk : IntKind) (i : Nat) (v : Int) (l : List ((ByteArray × ByteArray) × Int)) : mset1 i [.int kk v] (l.map (ea (irow kk))) = (tset1 l i v).map (ea (irow kk)) := mset1_a (irow kk) i v l
theorem mput_ai (kk : IntKind) (x y : ByteArray) (v : Int) (l : List ((ByteArray × ByteArray) × Int)) : mput (.lst false [[.str x, .str y]]) [.int kk v] (l.map (ea (irow kk))) = (tput l (x, y) v).map (ea (irow kk)) := mput_a (irow kk) x y l v
theorem mrow_ii (k k' kk : IntKind) (a z : Int) (l : List (Int × Int)) : mrow (.int k a) (l.map (ei k' (irow kk))) [.int kk z] = [.int kk (tget l a z)] := mrow_i k k' (irow kk) a l z
theorem mrow_ib (k k' : IntKind) (a : Int) (z : Bool) (l : List (Int × Bool)) : mrow (.int k a) (l.map (ei k' brw)) [.bool z] = [.bool (tget l a z)] := mrow_i k k' brw a l z
theorem mrow_is (k k' : IntKind) (a : Int) (z : ByteArray) (l : List (Int × ByteArray)) : mrow (.int k a) (l.map (ei k' srw)) [.str z] = [.str (tget l a z)] := mrow_i k k' srw a l z
theorem mrow_si (kk : IntKind) (a : ByteArray) (z : Int) (l : List (ByteArray × Int)) : mrow (.str a) (l.map (es (irow kk))) [.int kk z] = [.int kk (tget l a z)] := mrow_s (irow kk) a l z
theorem mrow_sb (a : ByteArray) (z : Bool) (l : List (ByteArray × Bool)) : mrow (.str a) (l.map (es brw)) [.bool z] = [.bool (tget l a z)] := mrow_s brw a l z
theorem mrow_ss (a : ByteArray) (z : ByteArray) (l : List (ByteArray × ByteArray)) : mrow (.str a) (l.map (es srw)) [.str z] = [.str (tget l a z)] := mrow_s srw a l z
theorem ment_ii (k kk : IntKind) (a z : Int) (l : List (Int × Int)) : ment (.int k a) (l.map (ei k (irow kk))) [.int kk z] = (tent l a z).map (ei k (irow kk)) := ment_i k (irow kk) a l z
theorem ment_ib (k : IntKind) (a : Int) (z : Bool) (l : List (Int × Bool)) : ment (.int k a) (l.map (ei k brw)) [.bool z] = (tent l a z).map (ei k brw) := ment_i k brw a l z
theorem ment_is (k : IntKind) (a : Int) (z : ByteArray) (l : List (Int × ByteArray)) : ment (.int k a) (l.map (ei k srw)) [.str z] = (tent l a z).map (ei k srw) := ment_i k srw a l z
theorem ment_si (kk : IntKind) (a : ByteArray) (z : Int) (l : List (ByteArray × Int)) : ment (.str a) (l.map (es (irow kk))) [.int kk z] = (tent l a z).map (es (irow kk)) := ment_s (irow kk) a l z
theorem ment_sb (a : ByteArray) (z : Bool) (l : List (ByteArray × Bool)) : ment (.str a) (l.map (es brw)) [.bool z] = (tent l a z).map (es brw) := ment_s brw a l z
theorem ment_ss (a z : ByteArray) (l : List (ByteArray × ByteArray)) : ment (.str a) (l.map (es srw)) [.str z] = (tent l a z).map (es srw) := ment_s srw a l z
theorem mset1_ii (k kk : IntKind) (i : Nat) (v : Int) (l : List (Int × Int)) : mset1 i [.int kk v] (l.map (ei k (irow kk))) = (tset1 l i v).map (ei k (irow kk)) := mset1_i k (irow kk) i v l
theorem mset1_ib (k : IntKind) (i : Nat) (v : Bool) (l : List (Int × Bool)) : mset1 i [.bool v] (l.map (ei k brw)) = (tset1 l i v).map (ei k brw) := mset1_i k brw i v l
theorem mset1_is (k : IntKind) (i : Nat) (v : ByteArray) (l : List (Int × ByteArray)) : mset1 i [.str v] (l.map (ei k srw)) = (tset1 l i v).map (ei k srw) := mset1_i k srw i v l
theorem mset1_si (kk : IntKind) (i : Nat) (v : Int) (l : List (ByteArray × Int)) : mset1 i [.int kk v] (l.map (es (irow kk))) = (tset1 l i v).map (es (irow kk)) := mset1_s (irow kk) i v l
theorem mset1_sb (i : Nat) (v : Bool) (l : List (ByteArray × Bool)) : mset1 i [.bool v] (l.map (es brw)) = (tset1 l i v).map (es brw) := mset1_s brw i v l
theorem mset1_ss (i : Nat) (v : ByteArray) (l : List (ByteArray × ByteArray)) : mset1 i [.str v] (l.map (es srw)) = (tset1 l i v).map (es srw) := mset1_s srw i v l
theorem mput_ii (k kk : IntKind) (a v : Int) (l : List (Int × Int)) : mput (.int k a) [.int kk v] (l.map (ei k (irow kk))) = (tput l a v).map (ei k (irow kk)) := mput_i k (irow kk) a l v
theorem mput_ib (k : IntKind) (a : Int) (v : Bool) (l : List (Int × Bool)) : mput (.int k a) [.bool v] (l.map (ei k brw)) = (tput l a v).map (ei k brw) := mput_i k brw a l v
theorem mput_is (k : IntKind) (a : Int) (v : ByteArray) (l : List (Int × ByteArray)) : mput (.int k a) [.str v] (l.map (ei k srw)) = (tput l a v).map (ei k srw) := mput_i k srw a l v
theorem mput_si (kk : IntKind) (a : ByteArray) (v : Int) (l : List (ByteArray × Int)) : mput (.str a) [.int kk v] (l.map (es (irow kk))) = (tput l a v).map (es (irow kk)) := mput_s (irow kk) a l v
theorem mput_sb (a : ByteArray) (v : Bool) (l : List (ByteArray × Bool)) : mput (.str a) [.bool v] (l.map (es brw)) = (tput l a v).map (es brw) := mput_s brw a l v
theorem mput_ss (a v : ByteArray) (l : List (ByteArray × ByteArray)) : mput (.str a) [.str v] (l.map (es srw)) = (tput l a v).map (es srw) := mput_s srw a l v
theorem tst_map {α γ : Type} (f : α → γ) (l : List α) (n : Int) : tst (l.map f) n = tst l n := by unfold tst; rw [List.length_map]
end Go.Ab
namespace Go.Ab
open Go.ChangeShapes Go.WideShapes Go.ChangeAt Go.RowKit Go.Deep
set_option linter.unusedVariables false
set_option linter.unusedSimpArgs false
def InK (k : IntKind) (n : Int) : Prop := k.min ≤ n ∧ n ≤ k.max
def Any (_ : Bool) : Prop := True
def Str (s : ByteArray) : Prop := s.size ≤ 9223372036854775807
def Lst {α : Type} (wf : α → Prop) (xs : List α) : Prop := xs.length ≤ 9223372036854775807 ∧ ∀ x ∈ xs, wf x
theorem ink_i64 {n : Int} (h : InK .i64 n) : -9223372036854775808 ≤ n ∧ n ≤ 9223372036854775807 := by
  obtain ⟨h1, h2⟩ := h
  simp [IntKind.min, IntKind.max, IntKind.bits, IntKind.signed] at h1 h2
  omega
def Nobody (_ _ : Nat) : Prop := False
def RowP (W : World) (row : List PV) (cs : List Value) : Prop := cs.length = row.length ∧ ∀ (j : Nat) (c : Value) (pv : PV), cs[j]? = some c → row[j]? = some pv → Rp Nobody W c pv
theorem RowP.one {W : World} {c : Value} {pv : PV} (h : Rp Nobody W c pv) : RowP W [pv] [c] := by
  refine ⟨rfl, fun j c' pv' h1 h2 => ?_⟩
  cases j with
  | zero => simp at h1 h2; subst h1; subst h2; exact h
  | succ j => simp at h1
theorem RowP.app {W : World} {r1 r2 : List PV} {c1 c2 : List Value} (h1 : RowP W r1 c1) (h2 : RowP W r2 c2) : RowP W (r1 ++ r2) (c1 ++ c2) := by
  refine ⟨by simp [h1.1, h2.1], fun j c pv hc hp => ?_⟩
  rw [List.getElem?_append] at hc hp
  rw [h1.1] at hc
  split at hc
  · rename_i hj; rw [if_pos hj] at hp; exact h1.2 j c pv hc hp
  · rename_i hj; rw [if_neg hj] at hp; exact h2.2 _ c pv hc hp
/-- What reads as data of type t is one row of cells, and within its bounds. -/
def Op (P : Program) (W : World) {α : Type} (f : α → List PV) (t : TypeId) (wf : α → Prop) : Prop :=
  ∀ {H : Type} (enc : TypeId × Value → H) (fuel : Nat) (cs : List Value) (x : DataW H × List MemPlace), DataW.trod enc P W 0 (fun _ => true) true fuel t cs = some x → ∃ v, RowP W (f v) cs ∧ wf v
def OpF (P : Program) (W : World) (fs : List Field) (o n : Nat) {α : Type} (f : α → List PV) (wf : α → Prop) : Prop :=
  ∀ {H : Type} (enc : TypeId × Value → H) (fuel : Nat) (cs : List Value), cs.length = n → (∀ (i : Nat) (q : Field), fs[i]? = some q → ∃ y, DataW.trod enc P W 0 (fun _ => true) true fuel q.type ((cs.drop (q.offset - o)).take (P.cellsOf q.type)) = some y) → ∃ v, RowP W (f v) cs ∧ wf v
section
variable {P : Program} {W : World}
theorem op_int {t : TypeId} {k : IntKind} (ht : P.underlying t = some (.int k)) : Op P W (irow k) t (InK k) := by
  intro H enc fuel cs x h
  cases fuel with
  | zero => simp [DataW.trod] at h
  | succ n =>
    unfold DataW.trod at h
    rw [ht] at h
    split at h <;> simp_all [Lit.wf]
    obtain ⟨⟨rfl, h1, h2⟩, _⟩ := h
    exact ⟨_, RowP.one (.int _ _), h1, h2⟩
theorem op_bool {t : TypeId} (ht : P.underlying t = some .bool) : Op P W brw t Any := by
  intro H enc fuel cs x h
  cases fuel with
  | zero => simp [DataW.trod] at h
  | succ n =>
    unfold DataW.trod at h
    rw [ht] at h
    split at h
    case h_1 b _ => exact ⟨_, RowP.one (.bool b), trivial⟩
    all_goals simp_all
theorem op_string {t : TypeId} (ht : P.underlying t = some .string) : Op P W srw t Str := by
  intro H enc fuel cs x h
  cases fuel with
  | zero => simp [DataW.trod] at h
  | succ n =>
    unfold DataW.trod at h
    rw [ht] at h
    split at h <;> simp_all
    exact ⟨_, RowP.one (.str _), by have := h.1; unfold Str; unfold maxLen at this; omega⟩
theorem op_slice {t e : TypeId} {α : Type} {f : α → List PV} {wf : α → Prop} (ht : P.underlying t = some (.slice e)) {s : Nat} (hc : P.cellsOf e = s) (hs : ∀ x, (f x).length = s) (he : Op P W f e wf) : Op P W (lrw f) t (Lst wf) := by
  intro H enc fuel cs x h
  rcases open_slice ht h with ⟨rfl, _⟩ | ⟨a, len, cap, m, n, D, Pl, rfl, _, hl, hm, hmm, rfl, hx⟩
  · exact ⟨[], RowP.one (Rp.nil _ none 0), by simp [Lst]⟩
  · have hle : len ≤ m := by rw [hmm]; simp; exact hl
    have hex : ∀ i, i < len → ∃ v : α, wf v ∧ ∃ cs', cs'.length = s ∧ RowP W (f v) cs' ∧ ∀ (j : Nat) (u : Value), cs'[j]? = some u → W.cell? (a.add (i * s + j)) = some u := by
      intro i hi
      obtain ⟨cs', h1, h2⟩ := hx i (Nat.lt_of_lt_of_le hi hle)
      obtain ⟨v, hv, hw⟩ := he enc n cs' _ h2
      obtain ⟨_, hlen, hcell⟩ := World.cells?_some h1
      refine ⟨v, hw, cs', hlen.trans hc, hv, fun j u hj => ?_⟩
      have hjl : j < cs'.length := (List.getElem?_eq_some_iff.1 hj).1
      have := hcell j (by omega)
      rw [Go.Deep.add_add, hc] at this
      rw [this, hj]
    have hml : len ≤ 9223372036854775807 := by unfold maxLen at hm; omega
    by_cases h0 : len = 0
    · subst h0
      exact ⟨[], RowP.one (Rp.nil _ (some a) cap), by simp [Lst]⟩
    · obtain ⟨v0, _⟩ := hex 0 (by omega)
      letI : Inhabited α := ⟨v0⟩
      obtain ⟨F, hF⟩ := choose_lt hex
      have hrow : ∀ (i : Nat) (row : List PV), (((List.range len).map F).map f)[i]? = some row → i < len ∧ row = f (F i) := fun i row hi => by
        rw [List.getElem?_map, List.getElem?_map] at hi
        obtain ⟨y, hy, rfl⟩ := Option.map_eq_some_iff.mp hi
        obtain ⟨z, hz, rfl⟩ := Option.map_eq_some_iff.mp hy
        obtain ⟨h1, h2⟩ := List.getElem?_eq_some_iff.1 hz
        simp at h1 h2
        exact ⟨h1, by rw [h2]⟩
      refine ⟨(List.range len).map F, RowP.one ?_, by simpa using hml, fun x hx => ?_⟩
      · have := Rp.lst (Ow := Nobody) (w := W) (some a) cap s false (((List.range len).map F).map f) (fun i j => (W.cell? (a.add (i * s + j))).getD undef) (by simpa using hl) (by simp)
          (fun i row hi => by rw [(hrow i row hi).2]; exact hs _)
          (fun i row j c hi hj => by
            obtain ⟨h1, rfl⟩ := hrow i row hi
            obtain ⟨_, cs', h3, h4, h5⟩ := hF i h1
            have hjl : j < cs'.length := by rw [h4.1]; exact (List.getElem?_eq_some_iff.1 hj).1
            have h6 := h5 j cs'[j] (List.getElem?_eq_getElem hjl)
            exact ⟨a, rfl, by rw [h6]; rfl, fun h => h⟩)
          (fun i row j c hi hj => by
            obtain ⟨h1, rfl⟩ := hrow i row hi
            obtain ⟨_, cs', h3, h4, h5⟩ := hF i h1
            have hjl : j < cs'.length := by rw [h4.1]; exact (List.getElem?_eq_some_iff.1 hj).1
            have h6 := h5 j cs'[j] (List.getElem?_eq_getElem hjl)
            rw [h6]
            exact h4.2 j _ c (List.getElem?_eq_getElem hjl) hj)
        simpa using this
      · obtain ⟨i, hi, rfl⟩ := List.mem_map.1 hx
        exact (hF i (List.mem_range.1 hi)).1
theorem opf_one {q : Field} {o n : Nat} {α : Type} {f : α → List PV} {wf : α → Prop} (ho : q.offset = o) (hn : P.cellsOf q.type = n) (h : Op P W f q.type wf) : OpF P W [q] o n f wf := by
  intro H enc fuel cs hl hf
  obtain ⟨y, hy⟩ := hf 0 q rfl
  rw [ho, Nat.sub_self, List.drop_zero, hn, List.take_of_length_le (by omega)] at hy
  exact h enc fuel cs y hy
theorem opf_cons {q : Field} {fs : List Field} {o c n : Nat} {α β : Type} {f : α → List PV} {f' : β → List PV} {wf : α → Prop} {wf' : β → Prop} (ho : q.offset = o) (hc : P.cellsOf q.type = c) (hlt : ∀ g ∈ fs, o + c ≤ g.offset) (h : Op P W f q.type wf) (h' : OpF P W fs (o + c) n f' wf') :
    OpF P W (q :: fs) o (c + n) (fun x : α × β => f x.1 ++ f' x.2) (fun x => wf x.1 ∧ wf' x.2) := by
  intro H enc fuel cs hl hf
  obtain ⟨y, hy⟩ := hf 0 q rfl
  rw [ho, Nat.sub_self, List.drop_zero, hc] at hy
  obtain ⟨v, hv, hw⟩ := h enc fuel _ y hy
  obtain ⟨v', hv', hw'⟩ := h' enc fuel (cs.drop c) (by simp; omega) (fun i g hg => by
    obtain ⟨z, hz⟩ := hf (i + 1) g (by simpa using hg)
    have := hlt g (List.mem_of_getElem? hg)
    refine ⟨z, ?_⟩
    rw [List.drop_drop, show c + (g.offset - (o + c)) = g.offset - o by omega]
    exact hz)
  refine ⟨(v, v'), ?_, hw, hw'⟩
  have := hv.app hv'
  rwa [List.take_append_drop] at this
theorem op_struct {t : TypeId} {fs : Array Field} {n : Nat} {α β : Type} {f : α → List PV} {wf : α → Prop} (ht : P.underlying t = some (.struct fs)) (hc : P.cellsOf t = n) (h : OpF P W fs.toList 0 n f wf) (en : β → List PV) (wf' : β → Prop) (g : α → β) (hg : ∀ a, en (g a) = f a) (hw' : ∀ a, wf a → wf' (g a)) : Op P W en t wf' := by
  intro H enc fuel cs x hx
  obtain ⟨xs, m, _, rfl, hl, hlen, hf⟩ := DataW.trod_struct ht hx
  obtain ⟨v, hv, hw⟩ := h enc m cs (hl.trans hc) (fun i q hq => by
    have h1 := hf i q (by simpa using hq)
    have hi : i < fs.size := by
      have := (List.getElem?_eq_some_iff.1 hq).1
      simpa using this
    obtain ⟨y, hy⟩ : ∃ y, xs[i]? = some y := ⟨_, List.getElem?_eq_getElem (by omega)⟩
    exact ⟨y, by rw [Nat.sub_zero, h1, hy]⟩)
  exact ⟨g v, by rw [hg]; exact hv, hw' v hw⟩
end
/-- Nobody's places. -/
def pl0 (K : Kn) (N : Nat) : Pl := ⟨fun _ => ⟨0, none, 0, 0, fun _ _ => False⟩, Nobody, K, N⟩
theorem pl0_own {K : Kn} {N : Nat} {b o : Nat} (h : Own (pl0 K N) [] b o) : False := by
  rcases h with h | ⟨k, g, ob, hk, _⟩
  · exact h
  · cases hk
/-- What stands in the world at the law's call. -/
def Knows (K : Kn) (W : World) : Prop := ∀ p ∈ K, W.heap[p.1]? = some p.2
theorem pl0_mem {K : Kn} (W : World) (hK : Knows K W) : MemOk (pl0 K W.heap.size) [] W := ⟨fun k g ob h => (by cases h), fun _ _ _ _ _ _ _ _ _ h => (by cases h), fun _ _ h => h.elim, fun _ _ _ _ _ _ h => (by cases h), ⟨fun p hp => ⟨hK p hp, fun _ h => pl0_own h, (Array.getElem?_eq_some_iff.1 (hK p hp)).1⟩, Nat.le_refl _⟩⟩
/-- A list or a plain value that is handed in: in blocks of before. -/
def odp : PV → AV
 | .lst b r => .od (.lst b r)
 | v => .p v
theorem Rp.odT {Ow : Nat → Nat → Prop} {W : World} {v : Value} {pv : PV} (h : Rp Ow W v pv) : Rp (fun b o => Ow b o ∨ W.heap.size ≤ b) W v pv := by
  induction h with
  | lst A cap sz full rows u hcap hfull hsz hc hr ih =>
    refine .lst A cap sz full rows u hcap hfull hsz (fun i row j c h1 h2 => ?_) ih
    obtain ⟨ad, e, h3, h4⟩ := hc i row j c h1 h2
    refine ⟨ad, e, h3, fun h => ?_⟩
    have := cell_lt h3
    rw [add_block] at this
    rcases h with h | h
    · exact h4 h
    · omega
  | ifc v b h h' => exact .ifc v b h h'
  | _ => constructor
theorem Rp.odp {K : Kn} {W : World} {v : Value} {pv : PV} (h : Rp Nobody W v pv) : Ra (pl0 K W.heap.size) [] W v (odp pv) := by
  have h' : Rp (Own (pl0 K W.heap.size) []) W v pv := h.anti fun b o h => pl0_own h
  cases pv with
  | lst b r => exact .od _ _ h'.odT
  | _ => exact .p _ _ h'
theorem RowP.raO {K : Kn} {W : World} {c : Value} {pv : PV} (h : RowP W [pv] [c]) : Ra (pl0 K W.heap.size) [] W c (odp pv) := (h.2 0 c pv rfl rfl).odp
theorem RowP.ra {K : Kn} {W : World} {c : Value} {pv : PV} (h : RowP W [pv] [c]) : Ra (pl0 K W.heap.size) [] W c (.p pv) := .p _ _ ((h.2 0 c pv rfl rfl).anti fun b o h => pl0_own h)
/-- A law's contract, as the row wants it. -/
theorem law_row {P : Program} {f : FuncId} {args : List AV} {vs : Array Value} {W : World} {K : Kn} (hK : Knows K W) (h : Con K P f args [] (.p (.bool true)) []) (ha : RaL (pl0 K W.heap.size) [] W vs args) :
    Calls P f vs W fun e W' => e = .returned (.bool true) ∧ Below W.heap.size W W' := by
  refine (h.2 (pl0 K W.heap.size) W vs (fun p hp => hp) (pl0_mem W hK) ha).mono fun e W' h => ?_
  obtain ⟨ι', cv, rfl, _, h2, h3, _⟩ := h
  refine ⟨by rw [h2.bool], h3.os, h3.tape, h3.output, h3.size, fun k hk => h3.blk k hk fun o ho => ?_⟩
  obtain ⟨j, g, ob, hj, _⟩ := ho
  cases hj
theorem law_rowT {P : Program} {f : FuncId} {args : List AV} {vs : Array Value} {W : World} {K : Kn} (hK : Knows K W) (h : ConT K P f args [] (.p (.bool true)) []) (ha : RaL (pl0 K W.heap.size) [] W vs args) :
    Calls P f vs W fun e W' => e = .returned (.bool true) ∧ Below W.heap.size W W' := by
  refine (h.2 (pl0 K W.heap.size) W vs (Nat.le_refl _) (fun p hp => hp) (pl0_mem W hK) ha).mono fun e W' h => ?_
  obtain ⟨ι', cv, rfl, _, h2, h3, _⟩ := h
  refine ⟨by rw [h2.bool], h3.os, h3.tape, h3.output, h3.size, fun k hk => h3.blk k hk fun o ho => ?_⟩
  obtain ⟨j, g, ob, hj, _⟩ := ho
  cases hj
/-- A function that is told from outside: it makes blocks at most. -/
theorem con_ext {K : Kn} {P : Program} {f : FuncId} {args : List AV} {v : AV} (hf : FnOk P f)
  (h : ∀ (w : World) (vs : Array Value), Knows K w → (∃ ι, RaL ι [] w vs args) → Calls P f vs w fun e w' => ∃ cv, e = .returned cv ∧ Below w.heap.size w w' ∧ ∀ ι, Ra ι [] w' cv v) : Con K P f args [] v [] := by
  refine ⟨hf, fun ι w cargs hK hM hA => (h w cargs (fun p hp => (hM.gk.1 p (hK p hp)).1) ⟨ι, hA⟩).mono fun e w' h => ?_⟩
  obtain ⟨cv, h1, h2, h3⟩ := h
  obtain ⟨q1, q2⟩ := quiet hM h2.os h2.tape h2.output h2.size h2.block
  exact ⟨ι, cv, h1, q1, h3 ι, q2.evo, q2.keys, rfl⟩
theorem frozen {ι : Pl} {m : Mem} {w : World} {v : Value} {k g lo n z : Nat} {rows : Rows} {Ow : Nat → Nat → Prop} (hM : MemOk ι m w) (hv : Ra ι m w v (.buf k g lo n)) (hk : lk m k = some (g, .buf z rows))
  (hn : ∀ b o, (∃ ad, (ι k).base = some ad ∧ ad.block = b) → ¬ Ow b o) (hc : ∀ row ∈ rows, ∀ c ∈ row, ∀ v, Rp (Own ι m) w v c → Rp Ow w v c) : Rp Ow w v (.lst false ((rows.drop lo).take n)) := by
  obtain ⟨hle, A, e, hA⟩ := hv.bufv (.inl hk)
  have hO := hM.ok _ _ _ hk
  obtain ⟨h4, h5, h6, h7, h8⟩ := hO
  rw [e]
  have hlen : ((rows.drop lo).take n).length = n := by rw [List.length_take, List.length_drop]; omega
  have hrow : ∀ (i : Nat) (row : List PV), ((rows.drop lo).take n)[i]? = some row → i < n ∧ rows[lo + i]? = some row := fun i row hi => by
    have hlt : i < n := by
      have := (List.getElem?_eq_some_iff.1 hi).1
      omega
    rw [List.getElem?_take_of_lt hlt, List.getElem?_drop] at hi
    exact ⟨hlt, hi⟩
  have hsz : ∀ (i : Nat) (row : List PV), ((rows.drop lo).take n)[i]? = some row → row.length = (ι k).sz := fun i row hi => h7 row (List.mem_of_getElem? (hrow i row hi).2)
  have hat : ∀ (i : Nat) (row : List PV) (j : Nat) (c : PV), ((rows.drop lo).take n)[i]? = some row → row[j]? = some c → ∃ ad vs t v, A = some (ad.add (lo * (ι k).sz)) ∧ (ι k).base = some ad ∧ ad.off = 0 ∧ ad.spot = none ∧ w.heap[ad.block]? = some (.cells vs t (0, 0)) ∧ vs[(lo + i) * (ι k).sz + j]? = some v ∧ Rp Ow w v c ∧ v.oneCell' = true := fun i row j c hi hj => by
    obtain ⟨hlt, hi'⟩ := hrow i row hi
    have hlo : lo + i < rows.length := (List.getElem?_eq_some_iff.1 hi').1
    have hcap : 0 < (ι k).cap := by omega
    cases hb : (ι k).base with
    | none => have := h6 hb; omega
    | some ad =>
      obtain ⟨g1, g2, vs, t, g3, g4, g5⟩ := h8 ad hb
      obtain ⟨v, g6, g7, g8⟩ := g5 (lo + i) j row c hi' hj
      exact ⟨ad, vs, t, v, by rw [hA (by omega), hb]; rfl, rfl, g1, g2, g3, g6, hc row (List.mem_of_getElem? hi') c (List.mem_of_getElem? hj) v g7, g8⟩
  have := Rp.lst (Ow := Ow) (w := w) A ((ι k).cap - lo) (ι k).sz false ((rows.drop lo).take n)
    (fun i j => match (ι k).base with | some ad => (w.cell? (ad.add ((lo + i) * (ι k).sz + j))).getD undef | none => undef) (by rw [hlen]; omega) (by simp) hsz
    (fun i row j c hi hj => by
      obtain ⟨ad, vs, t, v, q1, q2, q3, q4, q5, q6, q7, q8⟩ := hat i row j c hi hj
      have hoff : lo * (ι k).sz + (i * (ι k).sz + j) = (lo + i) * (ι k).sz + j := by rw [Nat.add_mul]; omega
      refine ⟨_, q1, ?_, ?_⟩
      · rw [add_add, hoff, q2]
        simp only
        have : w.cell? (ad.add ((lo + i) * (ι k).sz + j)) = some v := by
          simp only [World.cell?, add_block, add_off, q5, add_spot _ _ q4, q3, Nat.zero_add]
          simpa using q6
        rw [this]; rfl
      · rw [add_block]
        exact hn _ _ ⟨ad, q2, rfl⟩)
    (fun i row j c hi hj => by
      obtain ⟨ad, vs, t, v, q1, q2, q3, q4, q5, q6, q7, q8⟩ := hat i row j c hi hj
      rw [q2]
      simp only
      have : w.cell? (ad.add ((lo + i) * (ι k).sz + j)) = some v := by
        simp only [World.cell?, add_block, add_off, q5, add_spot _ _ q4, q3, Nat.zero_add]
        simpa using q6
      rw [this]
      exact q7)
  rw [hlen] at this
  exact this
/-- Own rows lent to a function that makes its answer anew. -/
theorem con_lend {K : Kn} {P : Program} {f : FuncId} {s lo n z : Nat} {rows r : Rows} (hr : ∀ row ∈ r, ∀ c ∈ row, pc c = true)
  (h : Con K P f [.p (.lst false ((rows.drop lo).take n))] [] (.buf 2000 1 0 r.length) [(2000, (1, .buf z r))]) : Con K P f [.buf 1000 0 lo n] [(1000, (0, .buf s rows))] (.p (.lst false r)) [(1000, (0, .buf s rows))] := by
  refine ⟨h.1, fun ι w cargs hK hM hA => ?_⟩
  have hX : ∀ b o, ι.fr.X b o → Own ι [(1000, (0, .buf s rows))] b o := fun b o h => .inl h
  have hM0 : MemOk ι [] w := ⟨fun k g ob h => by simp [lk] at h, fun k k' g g' ob ob' b o o' h => by simp [lk] at h, hM.xlt, fun k g ob b o o' h => by simp [lk] at h, ⟨fun p hp => ⟨(hM.gk.1 p hp).1, fun o ho => (hM.gk.1 p hp).2.1 o (by
    rcases ho with ho | ⟨k, g, ob, h, _⟩
    · exact .inl ho
    · simp [lk] at h), (hM.gk.1 p hp).2.2⟩, hM.gk.2⟩⟩
  have hk : lk [(1000, (0, Ob.buf s rows))] 1000 = some (0, .buf s rows) := rfl
  have hA0 : RaL ι [] w cargs [.p (.lst false ((rows.drop lo).take n))] := by
    refine ⟨hA.1, fun i v a hv ha => ?_⟩
    match i, ha with
    | 0, ha =>
      cases ha
      refine .p _ _ (frozen hM (hA.2 0 v _ hv rfl) hk (fun b o hb ho => ?_) fun row _ c _ v h => h.anti fun b o ho => ?_)
      · rcases ho with ho | ⟨k, g, ob, h, _⟩
        · exact hM.xapart 1000 0 _ b o o hk hb ho
        · simp [lk] at h
      · rcases ho with ho | ⟨k, g, ob, h, _⟩
        · exact .inl ho
        · simp [lk] at h
  refine (h.2 ι w cargs hK hM0 hA0).mono fun e w' hh => ?_
  obtain ⟨ι', cv, he, hM', hR', hE, hKy, hfr⟩ := hh
  have hno : ∀ b o, ¬ OwnM ι [] b o := fun b o ⟨k, g, ob, h, _⟩ => by simp [lk] at h
  obtain ⟨q1, q2⟩ := quiet hM hE.os hE.tape hE.output hE.size (fun b hb => hE.blk b hb fun o => hno b o)
  refine ⟨ι, cv, he, q1, ?_, q2.evo, q2.keys, rfl⟩
  have hk' : lk [(2000, (1, Ob.buf z r))] 2000 = some (1, .buf z r) := rfl
  have := frozen (Ow := Own ι [(1000, (0, .buf s rows))]) hM' hR' hk' (fun b o hb ho => ?_) fun row hrow c hc v h => h.pcT (hr row hrow c hc)
  · rw [List.drop_zero, List.take_length] at this
    exact .p _ _ this
  · have hnew : w.heap.size ≤ b := by
      rcases hE.own b o ⟨2000, 1, _, hk', hb⟩ with h | h
      · exact (hno _ _ h).elim
      · exact h
    rcases ho with ho | ⟨k, g, ob, hl, ho⟩
    · exact absurd (hM.xlt b o ho) (by omega)
    · have hk1 : k = 1000 ∧ (g, ob) = (0, Ob.buf s rows) := by
        by_cases h1 : k = 1000
        · subst h1; rw [hk] at hl; exact ⟨rfl, (Option.some.inj hl).symm⟩
        · exfalso
          have h2 : (1000 == k) = false := by simpa using fun h => h1 h.symm
          have h3 : (k == 1000) = false := by simpa using h1
          simp [lk, h1, Ne.symm h1, h2, h3] at hl
      obtain ⟨rfl, hq⟩ := hk1
      cases hq
      obtain ⟨ad, hb2, hb3⟩ := ho
      obtain ⟨_, _, _, _, h8⟩ := hM.ok _ _ _ hk
      obtain ⟨_, _, vs, t, g3, _⟩ := h8 ad hb2
      have : ad.block < w.heap.size := by
        rcases Nat.lt_or_ge ad.block w.heap.size with h | h
        · exact h
        · rw [Array.getElem?_eq_none h] at g3; cases g3
      omega
end Go.Ab
namespace Go.Ab
set_option linter.unusedVariables false
set_option linter.unusedSimpArgs false
/-- With enough rounds f tells r. -/
def Ev {α : Type} (f : Nat → Option α) (r : α) : Prop := ∃ K, ∀ k, K ≤ k → f k = some r
section
variable {α β : Type}
theorem Ev.now {f : Nat → Option α} {r : α} (h : ∀ k, f k = some r) : Ev f r := ⟨0, fun k _ => h k⟩
theorem Ev.ret (r : α) : Ev (fun _ => some r) r := ⟨0, fun _ _ => rfl⟩
theorem Ev.eq {f : Nat → Option α} {r r' : α} (h : Ev f r) (e : r = r') : Ev f r' := e ▸ h
theorem Ev.step {f : Nat → Option α} {r : α} (h : Ev (fun k => f (k + 1)) r) : Ev f r := by
  obtain ⟨K, h⟩ := h
  refine ⟨K + 1, fun k hk => ?_⟩
  obtain ⟨m, rfl⟩ : ∃ m, k = m + 1 := ⟨k - 1, by omega⟩
  exact h m (by omega)
theorem Ev.bind {f : Nat → Option α} {g : Nat → α → Option β} {a : α} {r : β} (h : Ev f a) (h' : Ev (fun k => g k a) r) : Ev (fun k => (f k).bind (g k)) r := by
  obtain ⟨K, h⟩ := h
  obtain ⟨K', h'⟩ := h'
  refine ⟨max K K', fun k hk => ?_⟩
  show (f k).bind (g k) = some r
  rw [h k (by omega)]
  exact h' k (by omega)
theorem Ev.at_ {f : Nat → Option α} {r : α} (h : Ev f r) : ∃ k, f k = some r := by
  obtain ⟨K, h⟩ := h
  exact ⟨K, h K (Nat.le_refl _)⟩
theorem Ev.uniq {f : Nat → Option α} {r r' : α} (h : Ev f r) (h' : Ev f r') : r = r' := by
  obtain ⟨K, h⟩ := h
  obtain ⟨K', h'⟩ := h'
  exact Option.some.inj ((h (max K K') (by omega)).symm.trans (h' (max K K') (by omega)))
end
theorem wrap_def (n : Int) : IntKind.i64.wrap n = if n % 18446744073709551616 ≥ 9223372036854775808 then n % 18446744073709551616 - 18446744073709551616 else n % 18446744073709551616 := by
  have : IntKind.i64.wrap n = if (true && decide (n % 18446744073709551616 ≥ 9223372036854775808)) = true then n % 18446744073709551616 - 18446744073709551616 else n % 18446744073709551616 := rfl
  rw [this]; simp
theorem wrap8_def (n : Int) : IntKind.u8.wrap n = n % 256 := by
  have : IntKind.u8.wrap n = if (false && decide (n % 256 ≥ 128)) = true then n % 256 - 256 else n % 256 := rfl
  rw [this]; simp
theorem w64 {n : Int} (h0 : -9223372036854775808 ≤ n) (h1 : n ≤ 9223372036854775807) : IntKind.i64.wrap n = n := by
  rw [wrap_def]; split <;> omega
theorem wrap_mod (n : Int) : (IntKind.i64.wrap n - n) % 18446744073709551616 = 0 := by
  rw [wrap_def]; split <;> omega
theorem wrap_rng (n : Int) : -9223372036854775808 ≤ IntKind.i64.wrap n ∧ IntKind.i64.wrap n ≤ 9223372036854775807 := by
  rw [wrap_def]; split <;> omega
theorem wrap_of {a b : Int} (h : (a - b) % 18446744073709551616 = 0) : IntKind.i64.wrap a = IntKind.i64.wrap b := by
  rw [wrap_def, wrap_def]; split <;> split <;> omega
theorem wn {i : Nat} (n : Nat) (h : i + n ≤ 9223372036854775807) : IntKind.i64.wrap ((i : Int) + (n : Int)) = ((i + n : Nat) : Int) := by
  rw [w64 (by omega) (by omega)]; omega
theorem w1 {i : Nat} (h : i < 9223372036854775807) : IntKind.i64.wrap ((i : Int) + 1) = ((i + 1 : Nat) : Int) := wn 1 (by omega)
/-! Digits -/
def isD (c : UInt8) : Bool := decide (48 ≤ c.toNat) && decide (c.toNat ≤ 57)
/-- One digit more, as both programs reckon. -/
def fw (acc : Int) (c : UInt8) : Int := IntKind.i64.wrap (IntKind.i64.wrap (acc * 10) + IntKind.i64.wrap (IntKind.u8.wrap ((c.toNat : Int) - 48)))
theorem fw_eq {c : UInt8} (h : isD c = true) (acc : Int) : fw acc c = IntKind.i64.wrap (acc * 10 + ((c.toNat : Int) - 48)) := by
  unfold isD at h
  simp at h
  unfold fw
  have h8 : IntKind.u8.wrap ((c.toNat : Int) - 48) = (c.toNat : Int) - 48 := by rw [wrap8_def]; omega
  rw [h8, w64 (n := (c.toNat : Int) - 48) (by omega) (by omega)]
  have := wrap_mod (acc * 10)
  exact wrap_of (by omega)
def dval (l : List UInt8) : Int := l.foldl fw 0
theorem toNat_dig {n : Nat} (h : n < 10) : (UInt8.ofNat (48 + n)).toNat = 48 + n := by
  rw [UInt8.toNat_ofNat']; omega
theorem isD_dig {n : Nat} (h : n < 10) : isD (UInt8.ofNat (48 + n)) = true := by
  unfold isD; rw [toNat_dig h]; simp; omega
theorem dec_big {m : Nat} (h : ¬ m < 10) : Lib.decDigits m = Lib.decDigits (m / 10) ++ [UInt8.ofNat (48 + m % 10)] := by rw [Lib.decDigits, dif_neg h]
theorem dec_isD : ∀ (m : Nat), ∀ c ∈ Lib.decDigits m, isD c = true := by
  intro m
  induction m using Nat.strongRecOn with
  | _ m ih =>
    intro c hc
    by_cases h : m < 10
    · rw [Lib.decDigits_one h] at hc
      rw [List.mem_singleton.1 hc]; exact isD_dig h
    · rw [dec_big h] at hc
      rcases List.mem_append.1 hc with hc | hc
      · exact ih (m / 10) (by omega) c hc
      · rw [List.mem_singleton.1 hc]; exact isD_dig (by omega)
theorem dec_ne (m : Nat) : Lib.decDigits m ≠ [] := by
  by_cases h : m < 10
  · rw [Lib.decDigits_one h]; simp
  · rw [dec_big h]; simp
theorem dval_dec : ∀ (m : Nat), dval (Lib.decDigits m) = IntKind.i64.wrap (m : Int) := by
  intro m
  induction m using Nat.strongRecOn with
  | _ m ih =>
    by_cases h : m < 10
    · rw [Lib.decDigits_one h]
      show fw 0 _ = _
      rw [fw_eq (isD_dig h), toNat_dig h]
      congr 1; omega
    · rw [dec_big h]
      have : dval (Lib.decDigits (m / 10) ++ [UInt8.ofNat (48 + m % 10)]) = fw (dval (Lib.decDigits (m / 10))) (UInt8.ofNat (48 + m % 10)) := by unfold dval; rw [List.foldl_append]; rfl
      rw [this, ih (m / 10) (by omega), fw_eq (isD_dig (by omega)), toNat_dig (by omega)]
      have := wrap_mod ((m / 10 : Nat) : Int)
      exact wrap_of (by omega)
theorem pum_app (M : Nat) (c : UInt8) : ∀ (l : List UInt8) (acc u : Nat), Lib.parseUintM M acc l = .ok u → Lib.parseUintM M acc (l ++ [c]) = Lib.parseUintM M u [c] := by
  intro l
  induction l with
  | nil => intro acc u h; simp [Lib.parseUintM] at h; subst h; rfl
  | cons x r ih =>
    intro acc u h
    simp only [List.cons_append, Lib.parseUintM] at h ⊢
    split at h
    · rename_i h1
      rw [if_pos h1]
      split at h
      · cases h
      · rename_i h2
        rw [if_neg h2]
        split at h
        · cases h
        · rename_i h3
          rw [if_neg h3]
          have := ih _ _ h
          simpa [Lib.parseUintM] using this
    · cases h
theorem pum_dec : ∀ (m : Nat), m ≤ 18446744073709551615 → Lib.parseUintM (2 ^ 64 - 1) 0 (Lib.decDigits m) = .ok m := by
  intro m
  induction m using Nat.strongRecOn with
  | _ m ih =>
    intro hm
    by_cases h : m < 10
    · rw [Lib.decDigits_one h]
      simp only [Lib.parseUintM, toNat_dig h]
      rw [if_pos (by omega), if_neg (by omega), if_neg (by omega)]
      congr 1; omega
    · rw [dec_big h, pum_app _ _ _ _ _ (ih (m / 10) (by omega) (by omega))]
      simp only [Lib.parseUintM, toNat_dig (n := m % 10) (by omega)]
      rw [if_pos (by omega), if_neg (by omega), if_neg (by omega)]
      congr 1; omega
theorem itoa_nn {v : Int} (h : 0 ≤ v) : Lib.itoa v = Lib.decDigits v.toNat := by unfold Lib.itoa; rw [if_neg (by omega)]
theorem itoa_ng {v : Int} (h : v < 0) : Lib.itoa v = 45 :: Lib.decDigits v.natAbs := by unfold Lib.itoa; rw [if_pos h]
theorem dec_head {m : Nat} {c : UInt8} {r : List UInt8} (h : Lib.decDigits m = c :: r) : isD c = true := dec_isD m c (by rw [h]; simp)
/-- What is written reads back. -/
theorem parse_itoa {v : Int} (h1 : -9223372036854775808 ≤ v) (h2 : v ≤ 9223372036854775807) : Lib.parseIntB 64 (Lib.itoa v) = .ok v := by
  by_cases h : 0 ≤ v
  · rw [itoa_nn h]
    have hp := pum_dec v.toNat (by omega)
    have hne := dec_ne v.toNat
    cases hd : Lib.decDigits v.toNat with
    | nil => exact absurd hd hne
    | cons c r =>
      have hc := dec_head hd
      unfold isD at hc; simp at hc
      rw [hd] at hp
      have hb : Lib.parseUintB 64 (c :: r) = .ok v.toNat := by
        unfold Lib.parseUintB; rw [if_neg (by simp)]; exact hp
      unfold Lib.parseIntB
      simp only
      rw [if_neg (by omega), hb]
      simp only
      rw [if_neg (by omega), if_neg (by omega), if_neg (by omega)]
      congr 1; omega
  · rw [itoa_ng (by omega)]
    have hp := pum_dec v.natAbs (by omega)
    have hb : Lib.parseUintB 64 (Lib.decDigits v.natAbs) = .ok v.natAbs := by
      unfold Lib.parseUintB; rw [if_neg (dec_ne _)]; exact hp
    rw [Lib.parseIntB_minus, hb]
    simp only [Lib.signedC]
    rw [if_neg (by simp; omega)]
    congr 1; omega
/-! A number at the head of a text -/
def sgn (l : List UInt8) : Bool := l.head?.any fun c => c.toNat == 45
def dgs (l : List UInt8) : List UInt8 := (if sgn l then l.tail else l).takeWhile isD
def nlen (l : List UInt8) : Nat := (if sgn l then 1 else 0) + (dgs l).length
def num (l : List UInt8) : Int := if sgn l then IntKind.i64.wrap (0 - dval (dgs l)) else dval (dgs l)
def nok (l : List UInt8) : Bool := decide (Lib.itoa (num l) = l.take (nlen l))
theorem dval_rng (l : List UInt8) : -9223372036854775808 ≤ dval l ∧ dval l ≤ 9223372036854775807 := by
  unfold dval
  rcases List.eq_nil_or_concat l with rfl | ⟨l, c, rfl⟩
  · simp
  · rw [List.concat_eq_append, List.foldl_append]; exact wrap_rng _
theorem num_rng (l : List UInt8) : -9223372036854775808 ≤ num l ∧ num l ≤ 9223372036854775807 := by
  unfold num; split
  · exact wrap_rng _
  · exact dval_rng _
theorem take_tw (p : UInt8 → Bool) (l : List UInt8) : l.take (l.takeWhile p).length = l.takeWhile p := by
  induction l with
  | nil => rfl
  | cons a r ih => by_cases h : p a <;> simp [List.takeWhile_cons, h, ih]
theorem take_num (l : List UInt8) : l.take (nlen l) = if sgn l then 45 :: dgs l else dgs l := by
  unfold nlen dgs
  cases hs : sgn l with
  | false => simp [take_tw]
  | true =>
    cases l with
    | nil => simp [sgn] at hs
    | cons c r =>
      have hc : c = 45 := by
        simp [sgn] at hs
        exact UInt8.toNat_inj.1 (by simpa using hs)
      subst hc
      simp only [if_true, List.tail_cons]
      rw [Nat.add_comm 1, List.take_succ_cons, take_tw]
theorem num_of {l : List UInt8} {v : Int} (h1 : -9223372036854775808 ≤ v) (h2 : v ≤ 9223372036854775807) (h : Lib.itoa v = l.take (nlen l)) : num l = v := by
  rw [take_num] at h
  by_cases hv : 0 ≤ v
  · rw [itoa_nn hv] at h
    cases hs : sgn l with
    | true =>
      rw [hs] at h
      have := dec_head h
      simp [isD] at this
    | false =>
      rw [hs] at h
      unfold num; rw [hs]
      simp only [Bool.false_eq_true, if_false] at h ⊢
      rw [← h, dval_dec, w64 (by omega) (by omega)]; omega
  · rw [itoa_ng (by omega)] at h
    cases hs : sgn l with
    | false =>
      rw [hs] at h
      simp only [Bool.false_eq_true, if_false] at h
      have hm : (45 : UInt8) ∈ dgs l := by rw [← h]; simp
      unfold dgs at hm
      have := List.all_eq_true.1 (List.all_takeWhile (p := isD)) _ hm
      simp [isD] at this
    | true =>
      rw [hs] at h
      simp only [if_true, List.cons.injEq, true_and] at h
      unfold num; rw [hs]
      simp only [if_true]
      rw [← h, dval_dec]
      have := wrap_mod (v.natAbs : Int)
      rw [show IntKind.i64.wrap (0 - IntKind.i64.wrap (v.natAbs : Int)) = IntKind.i64.wrap v from wrap_of (by omega), w64 h1 h2]
/-- The library's reading, written again: the same as what both programs ask. -/
theorem parse_num (l : List UInt8) : (Lib.parseIntB 64 (l.take (nlen l)) = .ok (num l) ∧ nok l = true) ∨ (nok l = false ∧ ∀ v, Lib.parseIntB 64 (l.take (nlen l)) = .ok v → (Lib.itoa v ≠ l.take (nlen l))) := by
  cases h : nok l with
  | true =>
    have h' : Lib.itoa (num l) = l.take (nlen l) := by simpa [nok] using h
    left
    rw [← h']
    exact ⟨parse_itoa (num_rng l).1 (num_rng l).2, rfl⟩
  | false =>
    right
    refine ⟨rfl, fun v hv he => ?_⟩
    have hb := Lib.parseIntB_bounds hv
    have hb1 : -9223372036854775808 ≤ v := by simpa using hb.1
    have hb2 : v < 9223372036854775808 := by simpa using hb.2
    have := num_of hb1 (by omega) he
    rw [← this] at he
    simp [nok] at h
    exact h he
theorem itoa_ne (v : Int) : Lib.itoa v ≠ [] := by
  by_cases h : 0 ≤ v
  · rw [itoa_nn h]; exact dec_ne _
  · rw [itoa_ng (by omega)]; simp
theorem nDigits_le : ∀ (k n : Nat), n < 10 ^ (k + 1) → Lib.nDigits n ≤ k + 1
  | 0, n, h => by rw [Lib.nDigits_small (by simpa using h)]; exact Nat.le_refl _
  | k + 1, n, h => by
    by_cases hn : n < 10
    · rw [Lib.nDigits_small hn]; omega
    · rw [Lib.nDigits_big hn]
      have := nDigits_le k (n / 10) (by rw [Nat.pow_succ] at h; omega)
      omega
theorem itoa_len {v : Int} (h1 : -9223372036854775808 ≤ v) (h2 : v ≤ 9223372036854775807) : (Lib.itoa v).length ≤ 20 := by
  by_cases h : 0 ≤ v
  · rw [itoa_nn h, Lib.decDigits_length]
    exact nDigits_le 19 _ (by omega)
  · rw [itoa_ng (by omega), List.length_cons, Lib.decDigits_length]
    have := nDigits_le 18 v.natAbs (by omega)
    omega
theorem nok_pos {l : List UInt8} (h : nok l = true) : 0 < nlen l ∧ nlen l ≤ 20 := by
  have h' : Lib.itoa (num l) = l.take (nlen l) := by simpa [nok] using h
  have h1 := itoa_ne (num l)
  have h2 := itoa_len (num_rng l).1 (num_rng l).2
  rw [h'] at h1 h2
  have hl : nlen l ≤ l.length := by
    unfold nlen dgs
    cases hs : sgn l with
    | true =>
      cases l with
      | nil => simp [sgn] at hs
      | cons c r =>
        have := (List.takeWhile_prefix isD (l := r)).length_le
        simp; omega
    | false =>
      have := (List.takeWhile_prefix isD (l := l)).length_le
      simp; omega
  rw [List.length_take] at h2
  refine ⟨?_, by omega⟩
  rcases Nat.eq_zero_or_pos (nlen l) with h0 | h0
  · rw [h0] at h1; simp at h1
  · exact h0
end Go.Ab
namespace Go.Ab
open Go.RowKit
set_option linter.unusedVariables false
set_option linter.unusedSimpArgs false
theorem ral_nil {ι : Pl} {m : Mem} {w : World} : RaL ι m w #[] [] := ⟨rfl, fun i v a h => by simp at h⟩
theorem ral_cons {ι : Pl} {m : Mem} {w : World} {v : Value} {l : List Value} {a : AV} {as : List AV} (h : Ra ι m w v a) (t : RaL ι m w ⟨l⟩ as) : RaL ι m w ⟨v :: l⟩ (a :: as) := by
  obtain ⟨h1, h2⟩ := t
  refine ⟨by simpa using h1, fun i v' a' hv ha => ?_⟩
  cases i with
  | zero => simp at hv ha; subst hv; subst ha; exact h
  | succ i => exact h2 i v' a' (by simpa using hv) (by simpa using ha)
theorem raw_int {ι : Pl} {m : Mem} {w : World} (k : IntKind) (n : Int) : Ra ι m w (.int k n) (.p (.int k n)) := .p _ _ (.int k n)
theorem raw_str {ι : Pl} {m : Mem} {w : World} (s : ByteArray) : Ra ι m w (.string s) (.p (.str s)) := .p _ _ (.str s)
theorem raw_bool {ι : Pl} {m : Mem} {w : World} (b : Bool) : Ra ι m w (.bool b) (.p (.bool b)) := .p _ _ (.bool b)
/-- A struct that is handed in. -/
theorem RowP.agg {K : Kn} {W : World} {cs : Array Value} {row : List PV} (h : RowP W row cs.toList) : Ra (pl0 K W.heap.size) [] W (.agg cs) (.agg (row.map .p)) := by
  have at_ : ∀ (i : Nat) (v : Value) (c : AV), cs[i]? = some v → (row.map AV.p)[i]? = some c → ∃ pv, c = .p pv ∧ Rp Nobody W v pv := fun i v c hv hc => by
    rw [List.getElem?_map] at hc
    obtain ⟨pv, hp, rfl⟩ := Option.map_eq_some_iff.mp hc
    exact ⟨pv, rfl, h.2 i v pv (by simpa using hv) hp⟩
  refine .agg _ _ (by simpa using h.1) (fun v hv => ?_) (fun i v c hv hc => ?_)
  · obtain ⟨i, hi, rfl⟩ := List.getElem_of_mem hv
    have hl := h.1
    obtain ⟨pv, _, hp⟩ := at_ i _ (.p row[i]) (by simp at hi ⊢; rw [Array.getElem?_eq_getElem hi]) (by rw [List.getElem?_map, List.getElem?_eq_getElem (by omega)]; rfl)
    exact hp.one
  · obtain ⟨pv, rfl, hp⟩ := at_ i v c hv hc
    exact .p _ _ (hp.anti fun b o h => pl0_own h)
/-- A struct that is handed in, in blocks of before. -/
theorem RowP.aggO {K : Kn} {W : World} {cs : Array Value} {row : List PV} (h : RowP W row cs.toList) : Ra (pl0 K W.heap.size) [] W (.agg cs) (.agg (row.map odp)) := by
  have at_ : ∀ (i : Nat) (v : Value) (c : AV), cs[i]? = some v → (row.map odp)[i]? = some c → ∃ pv, c = odp pv ∧ Rp Nobody W v pv := fun i v c hv hc => by
    rw [List.getElem?_map] at hc
    obtain ⟨pv, hp, rfl⟩ := Option.map_eq_some_iff.mp hc
    exact ⟨pv, rfl, h.2 i v pv (by simpa using hv) hp⟩
  refine .agg _ _ (by simpa using h.1) (fun v hv => ?_) (fun i v c hv hc => ?_)
  · obtain ⟨i, hi, rfl⟩ := List.getElem_of_mem hv
    have hl := h.1
    obtain ⟨pv, _, hp⟩ := at_ i _ (odp row[i]) (by simp at hi ⊢; rw [Array.getElem?_eq_getElem hi]) (by rw [List.getElem?_map, List.getElem?_eq_getElem (by omega)]; rfl)
    exact hp.one
  · obtain ⟨pv, rfl, hp⟩ := at_ i v c hv hc
    exact hp.odp
/-- A laid table's block, and what it says. -/
theorem tab_obj {P : Program} {W : World} {name : String} {k : IntKind} {zs : List Int} {g : Nat} (hg : P.globalNamed name = some g) (h : Lib.TabIs P W name k zs) : ∃ ob, W.heap[g]? = some ob ∧ ∀ w : World, w.heap[g]? = some ob → Lib.TabIs P w name k zs := by
  unfold Lib.TabIs World.var? at h
  rw [hg] at h
  simp only [Option.bind_some] at h
  cases ho : W.heap[g]? with
  | none => rw [ho] at h; cases h
  | some ob =>
    refine ⟨ob, rfl, fun w hw => ?_⟩
    rw [ho] at h
    unfold Lib.TabIs World.var?
    rw [hg]
    simp only [Option.bind_some]
    rw [hw]
    exact h
/-- A laid error's block: it holds some error. -/
theorem err_obj {P : Program} {n nm : String} {x : DataW Unit} {r : List (String × DataW Unit)} {W : World} {g : Nat} {ti : TypeId} {ms : Array (String × TypeId)}
    (h : laidMet P ((n, .iface nm x) :: r) W) (hg : P.globalNamed n = some g) (ht : (P.globals[g]?).map (·.type) = some ti) (hi : P.underlying ti = some (.interface ms)) :
    ∃ ob, W.heap[g]? = some ob ∧ ∀ w : World, w.heap[g]? = some ob → ∃ ev, w.cell? ⟨g, 0, none⟩ = some ev ∧ (ev = .nilIface ∨ ∃ te pe, ev = .iface te pe) := by
  obtain ⟨ps, ⟨g0, t0, cs0, f0, p0, q0, hg0, ht0, hv0, hd0, _, e0⟩, _, hrows⟩ := h
  obtain rfl := Option.some.inj (hg.symm.trans hg0)
  obtain rfl := Option.some.inj (ht.symm.trans ht0)
  obtain ⟨f1, u, v, hc, _, _⟩ := iface_of_trod hi hd0
  have key : ∀ w : World, w.heap[g]? = W.heap[g]? → w.cell? ⟨g, 0, none⟩ = some (.iface u v) := fun w hw => by
    have hv : w.var? P n = some cs0 := by
      unfold World.var? at hv0 ⊢
      rw [hg] at hv0 ⊢
      simp only [Option.bind_some] at hv0 ⊢
      rw [hw]
      exact hv0
    have := World.var?_cell hg hv 0
    rw [this, ← Array.getElem?_toList, hc]
    rfl
  cases ho : W.heap[g]? with
  | none =>
    unfold World.var? at hv0
    rw [hg] at hv0
    simp only [Option.bind_some, ho] at hv0
    cases hv0
  | some ob => exact ⟨ob, rfl, fun w hw => ⟨_, key w (by rw [hw, ho]), .inr ⟨u, v, rfl⟩⟩⟩
/-- A block whose first cell holds some int. -/
theorem int_obj {W : World} {g : Nat} {k : IntKind} (h : ∃ m, W.cell? ⟨g, 0, none⟩ = some (.int k m)) : ∃ ob, W.heap[g]? = some ob ∧ ∀ w : World, w.heap[g]? = some ob → ∃ m, w.cell? ⟨g, 0, none⟩ = some (.int k m) := by
  obtain ⟨m, hm⟩ := h
  cases ho : W.heap[g]? with
  | none => unfold World.cell? at hm; rw [show W.heap[(⟨g, 0, none⟩ : Addr).block]? = none from ho] at hm; cases hm
  | some ob =>
    refine ⟨ob, rfl, fun w hw => ⟨m, ?_⟩⟩
    unfold World.cell? at hm ⊢
    rw [show w.heap[(⟨g, 0, none⟩ : Addr).block]? = W.heap[(⟨g, 0, none⟩ : Addr).block]? from hw.trans ho.symm]
    exact hm
theorem knows_nil (W : World) : Knows [] W := fun p h => by cases h
theorem knows_cons {K : Kn} {W : World} {g : Nat} {ob : Obj} (h : W.heap[g]? = some ob) (hK : Knows K W) : Knows ((g, ob) :: K) W := fun p hp => by
  rcases List.mem_cons.1 hp with rfl | hp
  · exact h
  · exact hK p hp
end Go.Ab
