/- Maps as lists of typed entries. -/
import Derived.Test.YtphfoghhcemfhaaAbR
namespace Go.Ab
set_option linter.unusedVariables false
set_option linter.unusedSimpArgs false
section
variable {β : Type}
theorem mfind_i (k k' : IntKind) (f : β → List PV) (a : Int) : ∀ (l : List (Int × β)) (i : Nat), mfind (.int k a) (l.map (ei k' f)) i = (tfind a l i).map fun q => (q.1, f q.2)
 | [], i => rfl
 | (b, v) :: r, i => by
   simp only [List.map_cons, ei, mfind, tfind, keyEq]
   have : (a == b) = decide (a = b) := by rw [Bool.eq_iff_iff]; simp
   rw [this]
   cases decide (a = b)
   · exact mfind_i k k' f a r (i + 1)
   · rfl
theorem mfind_s (f : β → List PV) (a : ByteArray) : ∀ (l : List (ByteArray × β)) (i : Nat), mfind (.str a) (l.map (es f)) i = (tfind a l i).map fun q => (q.1, f q.2)
 | [], i => rfl
 | (b, v) :: r, i => by
   simp only [List.map_cons, es, mfind, tfind, keyEq]
   cases decide (a = b)
   · exact mfind_s f a r (i + 1)
   · rfl
theorem kOf_i (k : IntKind) (a : Int) : kOf (.int k) (.int k a) = true := by simp [kOf]
theorem kOf_s (a : ByteArray) : kOf .str (.str a) = true := rfl
theorem mkEq_self (k : MK) : mkEq k k = true := by cases k <;> simp [mkEq]
theorem mhas_i (k k' : IntKind) (f : β → List PV) (a : Int) (l : List (Int × β)) : mhas (.int k a) (l.map (ei k' f)) = thas l a := by
  unfold mhas thas; rw [mfind_i]; cases tfind a l 0 <;> rfl
theorem mhas_s (f : β → List PV) (a : ByteArray) (l : List (ByteArray × β)) : mhas (.str a) (l.map (es f)) = thas l a := by
  unfold mhas thas; rw [mfind_s]; cases tfind a l 0 <;> rfl
theorem midx_i (k k' : IntKind) (f : β → List PV) (a : Int) (l : List (Int × β)) : midx (.int k a) (l.map (ei k' f)) = tidx l a := by
  unfold midx tidx; rw [mfind_i]; cases tfind a l 0 <;> simp
theorem midx_s (f : β → List PV) (a : ByteArray) (l : List (ByteArray × β)) : midx (.str a) (l.map (es f)) = tidx l a := by
  unfold midx tidx; rw [mfind_s]; cases tfind a l 0 <;> simp
theorem mrow_i (k k' : IntKind) (f : β → List PV) (a : Int) (l : List (Int × β)) (z : β) : mrow (.int k a) (l.map (ei k' f)) (f z) = f (tget l a z) := by
  unfold mrow tget; rw [mfind_i]; cases tfind a l 0 <;> rfl
theorem mrow_s (f : β → List PV) (a : ByteArray) (l : List (ByteArray × β)) (z : β) : mrow (.str a) (l.map (es f)) (f z) = f (tget l a z) := by
  unfold mrow tget; rw [mfind_s]; cases tfind a l 0 <;> rfl
theorem ment_i (k : IntKind) (f : β → List PV) (a : Int) (l : List (Int × β)) (z : β) : ment (.int k a) (l.map (ei k f)) (f z) = (tent l a z).map (ei k f) := by
  unfold ment tent; rw [mhas_i]; cases thas l a <;> simp [ei]
theorem ment_s (f : β → List PV) (a : ByteArray) (l : List (ByteArray × β)) (z : β) : ment (.str a) (l.map (es f)) (f z) = (tent l a z).map (es f) := by
  unfold ment tent; rw [mhas_s]; cases thas l a <;> simp [es]
theorem modify_map {α γ : Type} (g : α → γ) (h : α → α) (h' : γ → γ) (e : ∀ x, h' (g x) = g (h x)) (l : List α) (i : Nat) : (l.map g).modify i h' = (l.modify i h).map g := by
  apply List.ext_getElem?
  intro j
  simp only [List.getElem?_modify, List.getElem?_map]
  cases l[j]? with
  | none => rfl
  | some x => by_cases hj : i = j <;> simp [hj, e]
theorem mset1_i (k : IntKind) (f : β → List PV) (i : Nat) (v : β) (l : List (Int × β)) : mset1 i (f v) (l.map (ei k f)) = (tset1 l i v).map (ei k f) := by
  unfold mset1 tset1; exact modify_map (ei k f) (fun q => (q.1, v)) (fun q => (q.1, f v)) (fun x => rfl) l i
theorem mset1_s (f : β → List PV) (i : Nat) (v : β) (l : List (ByteArray × β)) : mset1 i (f v) (l.map (es f)) = (tset1 l i v).map (es f) := by
  unfold mset1 tset1; exact modify_map (es f) (fun q => (q.1, v)) (fun q => (q.1, f v)) (fun x => rfl) l i
theorem mput_i (k : IntKind) (f : β → List PV) (a : Int) (l : List (Int × β)) (v : β) : mput (.int k a) (f v) (l.map (ei k f)) = (tput l a v).map (ei k f) := by
  unfold mput tput; rw [mfind_i]
  cases tfind a l 0 with
  | none => simp [ei]
  | some q => exact mset1_i k f q.1 v l
theorem mput_s (f : β → List PV) (a : ByteArray) (l : List (ByteArray × β)) (v : β) : mput (.str a) (f v) (l.map (es f)) = (tput l a v).map (es f) := by
  unfold mput tput; rw [mfind_s]
  cases tfind a l 0 with
  | none => simp [es]
  | some q => exact mset1_s f q.1 v l
end
-- .. with values of one cell
theorem mrow_ii (k k' kk : IntKind) (a z : Int) (l : List (Int × Int)) : mrow (.int k a) (l.map (ei k' (irow kk))) [.int kk z] = [.int kk (tget l a z)] := mrow_i k k' (irow kk) a l z
theorem mrow_ib (k k' : IntKind) (a : Int) (z : Bool) (l : List (Int × Bool)) : mrow (.int k a) (l.map (ei k' brw)) [.bool z] = [.bool (tget l a z)] := mrow_i k k' brw a l z
theorem mrow_is (k k' : IntKind) (a : Int) (z : ByteArray) (l : List (Int × ByteArray)) : mrow (.int k a) (l.map (ei k' srw)) [.str z] = [.str (tget l a z)] := mrow_i k k' srw a l z
theorem mrow_si (kk : IntKind) (a : ByteArray) (z : Int) (l : List (ByteArray × Int)) : mrow (.str a) (l.map (es (irow kk))) [.int kk z] = [.int kk (tget l a z)] := mrow_s (irow kk) a l z
theorem mrow_sb (a : ByteArray) (z : Bool) (l : List (ByteArray × Bool)) : mrow (.str a) (l.map (es brw)) [.bool z] = [.bool (tget l a z)] := mrow_s brw a l z
theorem mrow_ss (a : ByteArray) (z : ByteArray) (l : List (ByteArray × ByteArray)) : mrow (.str a) (l.map (es srw)) [.str z] = [.str (tget l a z)] := mrow_s srw a l z
theorem ment_ii (k kk : IntKind) (a z : Int) (l : List (Int × Int)) : ment (.int k a) (l.map (ei k (irow kk))) [.int kk z] = (tent l a z).map (ei k (irow kk)) := ment_i k (irow kk) a l z
theorem ment_ib (k : IntKind) (a : Int) (z : Bool) (l : List (Int × Bool)) : ment (.int k a) (l.map (ei k brw)) [.bool z] = (tent l a z).map (ei k brw) := ment_i k brw a l z
theorem ment_is (k : IntKind) (a : Int) (z : ByteArray) (l : List (Int × ByteArray)) : ment (.int k a) (l.map (ei k srw)) [.str z] = (tent l a z).map (ei k srw) := ment_i k srw a l z
theorem ment_si (kk : IntKind) (a : ByteArray) (z : Int) (l : List (ByteArray × Int)) : ment (.str a) (l.map (es (irow kk))) [.int kk z] = (tent l a z).map (es (irow kk)) := ment_s (irow kk) a l z
theorem ment_sb (a : ByteArray) (z : Bool) (l : List (ByteArray × Bool)) : ment (.str a) (l.map (es brw)) [.bool z] = (tent l a z).map (es brw) := ment_s brw a l z
theorem ment_ss (a z : ByteArray) (l : List (ByteArray × ByteArray)) : ment (.str a) (l.map (es srw)) [.str z] = (tent l a z).map (es srw) := ment_s srw a l z
theorem mset1_ii (k kk : IntKind) (i : Nat) (v : Int) (l : List (Int × Int)) : mset1 i [.int kk v] (l.map (ei k (irow kk))) = (tset1 l i v).map (ei k (irow kk)) := mset1_i k (irow kk) i v l
theorem mset1_ib (k : IntKind) (i : Nat) (v : Bool) (l : List (Int × Bool)) : mset1 i [.bool v] (l.map (ei k brw)) = (tset1 l i v).map (ei k brw) := mset1_i k brw i v l
theorem mset1_is (k : IntKind) (i : Nat) (v : ByteArray) (l : List (Int × ByteArray)) : mset1 i [.str v] (l.map (ei k srw)) = (tset1 l i v).map (ei k srw) := mset1_i k srw i v l
theorem mset1_si (kk : IntKind) (i : Nat) (v : Int) (l : List (ByteArray × Int)) : mset1 i [.int kk v] (l.map (es (irow kk))) = (tset1 l i v).map (es (irow kk)) := mset1_s (irow kk) i v l
theorem mset1_sb (i : Nat) (v : Bool) (l : List (ByteArray × Bool)) : mset1 i [.bool v] (l.map (es brw)) = (tset1 l i v).map (es brw) := mset1_s brw i v l
theorem mset1_ss (i : Nat) (v : ByteArray) (l : List (ByteArray × ByteArray)) : mset1 i [.str v] (l.map (es srw)) = (tset1 l i v).map (es srw) := mset1_s srw i v l
theorem mput_ii (k kk : IntKind) (a v : Int) (l : List (Int × Int)) : mput (.int k a) [.int kk v] (l.map (ei k (irow kk))) = (tput l a v).map (ei k (irow kk)) := mput_i k (irow kk) a l v
theorem mput_ib (k : IntKind) (a : Int) (v : Bool) (l : List (Int × Bool)) : mput (.int k a) [.bool v] (l.map (ei k brw)) = (tput l a v).map (ei k brw) := mput_i k brw a l v
theorem mput_is (k : IntKind) (a : Int) (v : ByteArray) (l : List (Int × ByteArray)) : mput (.int k a) [.str v] (l.map (ei k srw)) = (tput l a v).map (ei k srw) := mput_i k srw a l v
theorem mput_si (kk : IntKind) (a : ByteArray) (v : Int) (l : List (ByteArray × Int)) : mput (.str a) [.int kk v] (l.map (es (irow kk))) = (tput l a v).map (es (irow kk)) := mput_s (irow kk) a l v
theorem mput_sb (a : ByteArray) (v : Bool) (l : List (ByteArray × Bool)) : mput (.str a) [.bool v] (l.map (es brw)) = (tput l a v).map (es brw) := mput_s brw a l v
theorem mput_ss (a v : ByteArray) (l : List (ByteArray × ByteArray)) : mput (.str a) [.str v] (l.map (es srw)) = (tput l a v).map (es srw) := mput_s srw a l v
theorem tst_map {α γ : Type} (f : α → γ) (l : List α) (n : Int) : tst (l.map f) n = tst l n := by unfold tst; rw [List.length_map]
end Go.Ab
