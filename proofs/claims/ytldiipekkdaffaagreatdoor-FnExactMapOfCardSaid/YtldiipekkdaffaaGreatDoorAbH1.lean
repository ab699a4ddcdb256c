/- Sizes, copies and comparisons of the arguments of FnExactMapOf. No condition. -/
import Derived.Test.YtldiipekkdaffaaGreatDoorAbH0
import Derived.Test.YtldiipekkdaffaaGreatDoorAbMS
namespace Go.Ab
open Go.Proofs
set_option linter.unusedVariables false
set_option linter.unusedSimpArgs false
def wf52 (x : S52) : Prop := Str x.f0 ∧ Str x.f1
def bdField (x : S52) : Prop := x.f0.size ≤ 1048576 ∧ x.f1.size ≤ 1048576 ∧ True
theorem sz_Field (x : S52) (h : wf52 x) {a : Int} (ha : Lft a) : Sz (fun k => laws_szField.f k x a) a (bdField x) := by
  simp only [laws_szField.f]; unfold bdField
  exact Sz.len ha (fun _ h1 => Sz.len h1 (fun _ h2 => Sz.ret) h.2) h.1
def bdFieldS (v : (List S52)) : Prop := v.length ≤ 1048576 ∧ ∀ x ∈ v, bdField x
theorem sz_FieldS (v : (List S52)) (h : Lst wf52 v) {a : Int} (ha : Lft a) : Sz (fun k => laws_szFieldS.f k v a) a (bdFieldS v) := Sz.slice (l := laws_szFieldS.l0) h.1 (fun _ _ _ => by simp only [laws_szFieldS.f]) (fun hl => Sz.loop (fun _ _ _ _ => by simp only [laws_szFieldS.l0]) (fun x a hx ha => sz_Field x hx ha) v h.2 hl) ha
def trField (x : S52) : S52 := x
theorem to_Field (x : S52) (h : bdField x) : Ev (fun k => laws_toField.f k x) (trField x) := by
  simp only [laws_toField.f, trField]; exact Ev.ret _
theorem eq_Field (x : S52) (h : bdField x) : Ev (fun k => laws_eqField.f k (trField x) (trField x)) true := by
  simp only [laws_eqField.f, trField, beq_self_eq_true, decide_true, cond_true]
  exact Ev.ret _
theorem to_FieldS (v : (List S52)) (h : bdFieldS v) : Ev (fun k => laws_toFieldS.f k v) (v.map trField) := to_f (l := laws_toFieldS.l0) h.1 (fun _ _ => by simp only [laws_toFieldS.f]; rfl) (to_loop (B := bdField) (fun _ _ _ _ _ => by simp only [laws_toFieldS.l0]) (fun x hx => to_Field x hx) v h.2 h.1)
theorem eq_FieldS (v : (List S52)) (h : bdFieldS v) : Ev (fun k => laws_eqFieldS.f k (v.map trField) (v.map trField)) true := eq_f (l := laws_eqFieldS.l0) (fun _ _ _ => by simp only [laws_eqFieldS.f]) (eq_loop (e := laws_eqField.f) (fun _ _ _ _ => by simp only [laws_eqFieldS.l0]) _ (by intro y hy; obtain ⟨x, hx, rfl⟩ := List.mem_map.1 hy; exact eq_Field x (h.2 x hx)) (by simpa using h.1))
end Go.Ab
namespace Go.Ab
open Go.Proofs
set_option linter.unusedVariables false
set_option linter.unusedSimpArgs false
/-- A text that both read. -/
def VT (t : ByteArray) : Prop := ∃ sv, (Wf sv ∧ t.size ≤ 2000 ∧ Txt sv t.data.toList) ∧ Ev (fun k => spec_l01Read.f k t) sv ∧ Ev (fun k => impl_read.f k t) (toI sv, true)
theorem vt_no {t : ByteArray} (h : ¬ VT t) : ∃ iv, Ev (fun k => spec_l01Read.f k t) ⟨-1, 0, 0, ⟨#[]⟩, [], []⟩ ∧ Ev (fun k => impl_read.f k t) (iv, false) := (readT_ t).resolve_left h
theorem vt_kind {t : ByteArray} {sv : S40} (h : Wf sv) : ¬ sv.f0 < 0 := by
  cases h with | mk _ hk => omega
theorem bnm {s : ByteArray} : Ev (fun k => spec_l01Name.f k s) (nameOk s.data.toList) := by
  have := lname_ s.data.toList; rwa [← bs_of] at this
theorem bnm' {s : ByteArray} : Ev (fun k => impl_isName.f k s) (nameOk s.data.toList) := by
  have := iname_ s.data.toList; rwa [← bs_of] at this
theorem name_len {s : List UInt8} (h : nameOk s = true) : s.length ≤ 20 := by
  unfold nameOk at h
  simp only [Bool.and_eq_true, decide_eq_true_eq] at h
  exact h.1.1.2
def FOk (f : S52) : Prop := nameOk f.f0.data.toList = true ∧ VT f.f1
open Classical in
/-- What both tell. -/
noncomputable def mapR (S : List S52) : ByteArray := if (∀ f ∈ S, FOk f) ∧ VT (bs (mapT S)) then bs (mapT S) else ⟨#[]⟩
theorem mapR_no1 {S : List S52} {f : S52} (h : f ∈ S) (hn : ¬ FOk f) : mapR S = ⟨#[]⟩ := by
  unfold mapR; rw [if_neg (fun h' => hn (h'.1 f h))]
theorem mapR_no2 {S : List S52} (hn : ¬ VT (bs (mapT S))) : mapR S = ⟨#[]⟩ := by
  unfold mapR; rw [if_neg (fun h' => hn h'.2)]
theorem mapR_dup {S : List S52} (hn : ¬ (S.map (·.f0)).Nodup) : mapR S = ⟨#[]⟩ := by
  unfold mapR
  refine if_neg (fun h' => hn ?_)
  obtain ⟨h1, sv, ⟨_, _, h2⟩, _⟩ := h'
  have e : (bs (mapT S)).data.toList = mapT S := by simp [bs]
  rw [e] at h2
  exact rs_nodup (rising_rs _ (map_rising (fun f hf => (h1 f hf).1) (fun f hf => by
    obtain ⟨_, y, ⟨_, _, hy⟩, _⟩ := h1 f hf
    exact ⟨y, hy⟩) h2))
section
variable {S : List S52}
theorem map_s (hl : S.length ≤ 1000) : ∀ (n i : Nat), S.length - i ≤ n → i ≤ S.length → (∀ s ∈ S.take i, FOk s) → (joinS [44] ((S.map part).take i)).length ≤ 2000 → Ev (fun k => spec_MapOf.l0 k (bs (joinS [44] ((S.map part).take i))) S (i : Int)) (mapR S) := by
  have fin : ∀ i : Nat, ¬ i < S.length → i ≤ S.length → (∀ s ∈ S.take i, FOk s) → (joinS [44] ((S.map part).take i)).length ≤ 2000 → Ev (fun k => spec_MapOf.l0 k (bs (joinS [44] ((S.map part).take i))) S (i : Int)) (mapR S) := fun i h hle hv hb => by
    refine Ev.step ?_
    rw [List.take_of_length_le (by rw [List.length_map]; omega)] at hb ⊢
    rw [List.take_of_length_le (by omega)] at hv
    simp only [spec_MapOf.l0, ltn h, cond_false, show (⟨#[123]⟩ : ByteArray) = bs [123] from rfl, show (⟨#[125]⟩ : ByteArray) = bs [125] from rfl]
    rw [catl (by simp; omega)]
    simp only [Option.bind_some]
    rw [catl (by simp; omega)]
    simp only [Option.bind_some]
    rw [show [123] ++ joinS [44] (S.map part) ++ [125] = mapT S by simp [mapT]]
    by_cases hT : VT (bs (mapT S))
    · have e : mapR S = bs (mapT S) := by unfold mapR; rw [if_pos ⟨hv, hT⟩]
      rw [e]
      obtain ⟨sv, ⟨hw, _⟩, r1, _⟩ := hT
      refine Ev.bind (?_ : Ev (fun k => spec_l01Keep.f k (bs (mapT S))) (bs (mapT S))) (Ev.ret _)
      unfold spec_l01Keep.f
      refine Ev.bind r1 ?_
      simp only [decide_eq_false (vt_kind (t := bs (mapT S)) hw), cond_false]
      exact Ev.ret _
    · rw [mapR_no2 hT]
      obtain ⟨iv, r1, _⟩ := vt_no hT
      refine Ev.bind (?_ : Ev (fun k => spec_l01Keep.f k (bs (mapT S))) (⟨#[]⟩ : ByteArray)) (Ev.ret _)
      unfold spec_l01Keep.f
      refine Ev.bind r1 ?_
      simp only [show decide ((-1 : Int) < 0) = true from rfl, cond_true]
      exact Ev.ret _
  intro n
  induction n with
  | zero => intro i h hle hv hb; exact fin i (by omega) hle hv hb
  | succ n ih =>
    intro i h hle hv hb
    by_cases hi : i < S.length
    case neg => exact fin i hi hle hv hb
    have hip : i < (S.map part).length := by rw [List.length_map]; exact hi
    have hstep := joinS_step (sep := [44]) hip
    rw [List.getElem_map] at hstep
    have hall := joinS_take (sep := [44]) (S.map part) (i + 1)
    have go : ∀ o : List UInt8, o.length ≤ 2001 → (if i = 0 then part S[i] else joinS [44] ((S.map part).take i) ++ [44] ++ part S[i]) = o ++ part S[i] → Ev (fun k => spec_MapOf.j0 k (bs o) S (i : Int)) (mapR S) := fun o ho he => by
      refine Ev.step ?_
      simp only [spec_MapOf.j0, ixg hi, Option.bind_some]
      refine Ev.bind bnm ?_
      cases hN : nameOk S[i].f0.data.toList with
      | false =>
        rw [mapR_no1 (List.getElem_mem hi) (fun h => by have h1 := h.1; rw [hN] at h1; cases h1)]
        simp only [cond_false]
        exact Ev.ret _
      | true =>
        simp only [cond_true]
        have hnl := name_len hN
        by_cases hV : VT S[i].f1
        · obtain ⟨sv, ⟨hw, hsz, _⟩, r1, _⟩ := id hV
          refine Ev.bind r1 ?_
          simp only [decide_eq_false (vt_kind (t := S[i].f1) hw), cond_false]
          have hdl : S[i].f1.data.toList.length ≤ 2000 := by rw [← size_list]; exact hsz
          have c1 : cat (bs o) S[i].f0 = some (bs (o ++ S[i].f0.data.toList)) := by
            have := catl (a := o) (b := S[i].f0.data.toList) (by omega)
            rwa [← bs_of] at this
          have c2 : cat (bs (o ++ S[i].f0.data.toList)) (⟨#[58]⟩ : ByteArray) = some (bs (o ++ S[i].f0.data.toList ++ [58])) := catl (a := o ++ S[i].f0.data.toList) (b := [58]) (by simp only [List.length_append, List.length_cons, List.length_nil]; omega)
          have c3 : cat (bs (o ++ S[i].f0.data.toList ++ [58])) S[i].f1 = some (bs (o ++ part S[i])) := by
            have := catl (a := o ++ S[i].f0.data.toList ++ [58]) (b := S[i].f1.data.toList) (by simp only [List.length_append, List.length_cons, List.length_nil]; omega)
            rw [← bs_of] at this
            rw [this]; simp [part]
          simp only [c1, c2, c3, Option.bind_some, bs_size]
          rw [he] at hstep
          by_cases hbig : 2000 < (o ++ part S[i]).length
          · simp only [decide_eq_true (show (2000 : Int) < ((o ++ part S[i]).length : Int) by omega), cond_true]
            have hT : ¬ VT (bs (mapT S)) := fun ⟨sv, ⟨_, hz, _⟩, _⟩ => by
              rw [bs_size] at hz
              unfold mapT at hz
              simp only [List.length_cons, List.length_append, List.length_nil] at hz
              rw [hstep] at hall
              omega
            rw [mapR_no2 hT]
            exact Ev.ret _
          · simp only [decide_eq_false (show ¬ (2000 : Int) < ((o ++ part S[i]).length : Int) by omega), cond_false, wup hi (show S.length ≤ 2000000 by omega)]
            rw [← hstep]
            refine ih (i + 1) (by omega) (by omega) (fun s hs => ?_) (by rw [hstep]; omega)
            rw [List.take_succ_eq_append_getElem hi] at hs
            rcases List.mem_append.1 hs with h | h
            · exact hv s h
            · rw [List.mem_singleton.1 h]; exact ⟨hN, hV⟩
        · rw [mapR_no1 (List.getElem_mem hi) (fun h => hV h.2)]
          obtain ⟨iv, r1, _⟩ := vt_no hV
          refine Ev.bind r1 ?_
          simp only [show decide ((-1 : Int) < 0) = true from rfl, cond_true]
          exact Ev.ret _
    refine Ev.step ?_
    simp only [spec_MapOf.l0, ltd hi, cond_true]
    by_cases h0 : i = 0
    · simp only [decide_eq_false (show ¬ (0 : Int) < (i : Int) by omega), cond_false]
      refine go _ (by omega) ?_
      rw [if_pos h0]
      subst h0
      simp [joinS]
    · simp only [decide_eq_true (show (0 : Int) < (i : Int) by omega), cond_true, show (⟨#[44]⟩ : ByteArray) = bs [44] from rfl]
      rw [catl (by simp; omega)]
      simp only [Option.bind_some]
      exact go _ (by simp; omega) (by rw [if_neg h0])
theorem eta_val (x : S45) : (⟨x.f0, x.f1, x.f2, x.f3, x.f4, x.f5⟩ : S45) = x := by cases x; rfl
def z0 : S45 := ⟨0, 0, 0, ⟨#[]⟩, [], []⟩
/-- The program's last part: the items by their names, shown and read. -/
theorem map_end (hl : S.length ≤ 1000) (hok : ∀ f ∈ S, FOk f) (m : List (ByteArray × S45)) (ht : ∀ f ∈ S, ∃ sv, tget m f.f0 z0 = toI sv ∧ Txt sv f.f1.data.toList) : ∀ (n i : Nat) (svs : List S40), S.length - i ≤ n → i ≤ S.length → svs.length = i → (∀ (j : Nat) (x : S40) (f : S52), svs[j]? = some x → S[j]? = some f → Txt x f.f1.data.toList) → Ev (fun k => impl_MapOf.l1 k (S.map (·.f0)) (i : Int) m (svs.map toI)) (mapR S) := by
  have hsz : ∀ f ∈ S, f.f1.data.toList.length ≤ 2000 := fun f hf => by
    obtain ⟨_, _, ⟨_, hz, _⟩, _⟩ := hok f hf
    rw [← size_list]; exact hz
  have fin : ∀ (i : Nat) (svs : List S40), ¬ i < S.length → i ≤ S.length → svs.length = i → (∀ (j : Nat) (x : S40) (f : S52), svs[j]? = some x → S[j]? = some f → Txt x f.f1.data.toList) → Ev (fun k => impl_MapOf.l1 k (S.map (·.f0)) (i : Int) m (svs.map toI)) (mapR S) := fun i svs h hle hsl hx => by
    obtain rfl : i = S.length := by omega
    have hzip : List.zipWith (fun (n : ByteArray) l => n.data.toList ++ 58 :: l) (S.map (·.f0)) (S.map (·.f1.data.toList)) = S.map part := by
      refine List.ext_getElem (by simp) fun j h1 h2 => ?_
      simp [part]
    have hpl : ∀ p ∈ S.map part, p.length ≤ 2021 := fun p hp => by
      obtain ⟨f, hf, rfl⟩ := List.mem_map.1 hp
      have h1 := hsz f hf
      have h2 := name_len (hok f hf).1
      unfold part
      simp only [List.length_append, List.length_cons]; omega
    have hjl : ∀ L : List (List UInt8), (∀ p ∈ L, p.length ≤ 2021) → (joinS [44] L).length ≤ 2022 * L.length := fun L => by
      induction L with
      | nil => intro _; simp [joinS]
      | cons a r ih =>
        intro h
        have ha := h a (List.mem_cons_self ..)
        have hr := ih fun p hp => h p (List.mem_cons_of_mem _ hp)
        cases r with
        | nil => simp [joinS]; omega
        | cons b r => simp only [joinS, List.length_append, List.length_cons, List.length_nil] at hr ⊢; omega
    have hjb := hjl _ hpl
    rw [List.length_map] at hjb
    have hsh : Ev (fun k => impl_val_show.f k ⟨7, 0, 0, ⟨#[]⟩, S.map (·.f0), svs.map toI⟩) (bs (mapT S)) := by
      unfold impl_val_show.f
      have hw : Ev (fun k => impl_val_write.f k ⟨7, 0, 0, ⟨#[]⟩, S.map (·.f0), svs.map toI⟩ (⟨#[]⟩ : ByteArray)) (bs (mapT S)) := by
        refine Ev.step ?_
        simp only [impl_val_write.f, show ((7 : Int) == 0) = false from rfl, show ((7 : Int) == 1) = false from rfl, show ((7 : Int) == 2) = false from rfl, show ((7 : Int) == 3) = false from rfl, show ((7 : Int) == 4) = false from rfl, show ((7 : Int) == 5) = false from rfl, show ((7 : Int) == 6) = false from rfl, show ((7 : Int) == 7) = true from rfl, cond_true, cond_false]
        simp only [show ∀ k, strings_Builder_WriteByte.f k 123 (⟨#[]⟩ : ByteArray) = _ from fun k => bwbl k 123 (x := 123) rfl (s := []) (by simp), Option.bind_some]
        have := w_l1 (items := svs) (ls := S.map (·.f1.data.toList)) (names := S.map (·.f0)) (X := ⟨7, 0, 0, ⟨#[]⟩, S.map (·.f0), svs.map toI⟩) rfl rfl (by rw [List.length_map]; exact hsl.symm) (by rw [List.length_map]; exact hsl.symm) (fun j x p h1 h2 _ => by
          have hj : j < S.length := by have := (List.getElem?_eq_some_iff.1 h2).1; rwa [List.length_map] at this
          have e : p = S[j].f1.data.toList := by
            rw [List.getElem?_map, List.getElem?_eq_getElem hj] at h2
            exact (Option.some.inj h2).symm
          subst e
          exact txt_ishw (hx j x S[j] h1 (List.getElem?_eq_getElem hj)) (hsz _ (List.getElem_mem hj))) (by rw [hzip]; omega) (fun l hm => by
          obtain ⟨f, hf, rfl⟩ := List.mem_map.1 hm
          exact hsz f hf) (by omega) _ 0 (Nat.le_refl _) (Nat.zero_le _) [123] (by rw [hzip]; simp; omega)
        rw [hzip] at this
        simpa [joinS, mapT] using this
      refine Ev.bind hw ?_
      simp only [strings_Builder_String.f, Option.bind_some]
      exact Ev.ret _
    refine Ev.step ?_
    simp only [impl_MapOf.l1, List.length_map, ltn h, cond_false]
    by_cases hT : VT (bs (mapT S))
    · have e : mapR S = bs (mapT S) := by unfold mapR; rw [if_pos ⟨hok, hT⟩]
      rw [e]
      obtain ⟨sv, _, _, r2⟩ := hT
      refine Ev.bind (?_ : Ev (fun k => impl_val_sound.f k ⟨7, 0, 0, ⟨#[]⟩, S.map (·.f0), svs.map toI⟩) true) ?_
      · unfold impl_val_sound.f
        exact Ev.bind hsh (Ev.bind r2 (Ev.ret _))
      · simp only [cond_true]
        exact Ev.bind hsh (Ev.ret _)
    · rw [mapR_no2 hT]
      obtain ⟨iv, _, r2⟩ := vt_no hT
      refine Ev.bind (?_ : Ev (fun k => impl_val_sound.f k ⟨7, 0, 0, ⟨#[]⟩, S.map (·.f0), svs.map toI⟩) false) ?_
      · unfold impl_val_sound.f
        exact Ev.bind hsh (Ev.bind r2 (Ev.ret _))
      · simp only [cond_false]
        exact Ev.ret _
  intro n
  induction n with
  | zero => intro i svs h hle hsl hx; exact fin i svs (by omega) hle hsl hx
  | succ n ih =>
    intro i svs h hle hsl hx
    by_cases hi : i < S.length
    case neg => exact fin i svs hi hle hsl hx
    have him : i < (S.map (·.f0)).length := by simpa using hi
    obtain ⟨sv, t1, t2⟩ := ht S[i] (List.getElem_mem hi)
    unfold z0 at t1
    refine Ev.step ?_
    simp only [impl_MapOf.l1, List.length_map, ltd hi, cond_true, ixg him, List.getElem_map, Option.bind_some, t1, wup hi (show S.length ≤ 2000000 by omega)]
    rw [app_one _ (by simp; omega)]
    have := ih (i + 1) (svs ++ [sv]) (by omega) (by omega) (by simp [hsl]) (fun j x f h1 h2 => by
      by_cases hj : j < svs.length
      · rw [List.getElem?_append_left hj] at h1; exact hx j x f h1 h2
      · rw [List.getElem?_append_right (by omega)] at h1
        have e : j - svs.length = 0 := by
          have := (List.getElem?_eq_some_iff.1 h1).1; simp at this; omega
        rw [e] at h1
        simp at h1
        have ej : j = i := by omega
        subst ej
        rw [List.getElem?_eq_getElem hi] at h2
        cases h2; subst h1
        exact t2)
    rw [List.map_append, List.map_cons, List.map_nil] at this
    simp only [Option.bind_some, eta_val]
    exact this
theorem map_i {l : List S52} (hl : l.length ≤ 1000) (hp : S.Perm l) (hS : Srt S) : ∀ (n i : Nat) (N : List ByteArray) (m : List (ByteArray × S45)), l.length - i ≤ n → i ≤ l.length → RsN N → (∀ x, x ∈ N ↔ x ∈ (l.take i).map (·.f0)) → N.length ≤ i → ((l.take i).map (·.f0)).Nodup → (∀ f ∈ l.take i, FOk f) → (∀ f ∈ l.take i, ∃ sv, tget m f.f0 z0 = toI sv ∧ Txt sv f.f1.data.toList) → (∀ x, thas m x = true ↔ x ∈ (l.take i).map (·.f0)) → Ev (fun k => impl_MapOf.l0 k N l (i : Int) m) (mapR S) := by
  have fin : ∀ (i : Nat) (N : List ByteArray) (m : List (ByteArray × S45)), ¬ i < l.length → RsN N → (∀ x, x ∈ N ↔ x ∈ (l.take i).map (·.f0)) → ((l.take i).map (·.f0)).Nodup → (∀ f ∈ l.take i, FOk f) → (∀ f ∈ l.take i, ∃ sv, tget m f.f0 z0 = toI sv ∧ Txt sv f.f1.data.toList) → Ev (fun k => impl_MapOf.l0 k N l (i : Int) m) (mapR S) := fun i N m h hr hN hd hok ht => by
    rw [List.take_of_length_le (by omega)] at hN hd hok ht
    have hd' : (S.map (·.f0)).Nodup := (hp.map (·.f0)).nodup_iff.2 hd
    have eN : N = S.map (·.f0) := strict_ext _ _ hr (srt_rs hS hd') (fun x => by rw [hN]; exact ((hp.map (·.f0)).mem_iff).symm)
    refine Ev.step ?_
    simp only [impl_MapOf.l0, ltn h, cond_false]
    rw [eN]
    exact map_end (by rw [hp.length_eq]; exact hl) (fun f hf => hok f (hp.mem_iff.1 hf)) m (fun f hf => ht f (hp.mem_iff.1 hf)) _ 0 [] (Nat.le_refl _) (Nat.zero_le _) rfl (fun j x f h => by simp at h)
  intro n
  induction n with
  | zero => intro i N m h hle hr hN hNl hd hok ht hh; exact fin i N m (by omega) hr hN hd hok ht
  | succ n ih =>
    intro i N m h hle hr hN hNl hd hok ht hh
    by_cases hi : i < l.length
    case neg => exact fin i N m hi hr hN hd hok ht
    have hmem : l[i] ∈ S := hp.mem_iff.2 (List.getElem_mem hi)
    have bad : ¬ FOk l[i] → mapR S = ⟨#[]⟩ := fun h => mapR_no1 hmem h
    refine Ev.step ?_
    simp only [impl_MapOf.l0, ltd hi, cond_true, ixg hi, Option.bind_some]
    have go : ∀ (iv : S45) (b : Bool), Ev (fun k => impl_read.f k l[i].f1) (iv, b) → (b = true → VT l[i].f1 ∧ ∃ sv, iv = toI sv ∧ Txt sv l[i].f1.data.toList) → (b = false → ¬ VT l[i].f1) → Ev (fun k => (impl_read.f k l[i].f1).bind fun v8 => (bif thas m l[i].f0 then (some (⟨#[]⟩ : ByteArray)) else (bif v8.2 then ((impl_isName.f k l[i].f0).bind fun v9 => (bif v9 then ((impl_insert.f k N l[i].f0).bind fun v10 => (impl_MapOf.l0 k v10 l (IntKind.i64.wrap ((i : Int) + 1)) (tput m l[i].f0 v8.1))) else (some (⟨#[]⟩ : ByteArray)))) else (some (⟨#[]⟩ : ByteArray))))) (mapR S) := fun iv b hr1 hb1 hb2 => by
      refine Ev.bind hr1 ?_
      cases hhas : thas m l[i].f0 with
      | true =>
        simp only [cond_true]
        have hdup : ¬ (S.map (·.f0)).Nodup := fun hd' => by
          have h1 := (hp.map (·.f0)).nodup_iff.1 hd'
          have h2 := (hh _).1 hhas
          rw [← List.take_append_drop i l, List.map_append, List.nodup_append] at h1
          exact h1.2.2 _ h2 _ (List.mem_map.2 ⟨l[i], by rw [List.drop_eq_getElem_cons hi]; exact List.mem_cons_self .., rfl⟩) rfl
        rw [mapR_dup hdup]
        exact Ev.ret _
      | false =>
        simp only [cond_false]
        cases b with
        | false =>
          simp only [cond_false]
          rw [bad (fun h => hb2 rfl h.2)]
          exact Ev.ret _
        | true =>
          simp only [cond_true]
          refine Ev.bind bnm' ?_
          cases hNm : nameOk l[i].f0.data.toList with
          | false =>
            simp only [cond_false]
            rw [bad (fun h => by have h1 := h.1; rw [hNm] at h1; cases h1)]
            exact Ev.ret _
          | true =>
            simp only [cond_true]
            obtain ⟨hV, sv, rfl, hT⟩ := hb1 rfl
            have hnm : l[i].f0 ∉ (l.take i).map (·.f0) := fun h' => by
              have := (hh _).2 h'; rw [hhas] at this; cases this
            obtain ⟨r, i1, i2, i3⟩ := insert_r (a := l[i].f0) (by omega) hr (fun h' => hnm ((hN _).1 h'))
            obtain ⟨q1, q2, q3⟩ := tput_new (v := toI sv) (z := z0) hhas
            refine Ev.bind i1 ?_
            rw [wup hi (show l.length ≤ 2000000 by omega)]
            have et := List.take_succ_eq_append_getElem hi
            refine ih (i + 1) r _ (by omega) (by omega) i2 (fun x => ?_) (by rw [i3.length_eq, List.length_cons]; omega) ?_ (fun f hf => ?_) (fun f hf => ?_) (fun x => ?_)
            · rw [i3.mem_iff, List.mem_cons, et, List.map_append, List.mem_append, hN]
              simp [or_comm]
            · rw [et, List.map_append, List.nodup_append]
              refine ⟨hd, by simp, fun a ha b hb e => ?_⟩
              simp at hb
              subst hb; subst e
              exact hnm ha
            · rw [et] at hf
              rcases List.mem_append.1 hf with hf | hf
              · exact hok f hf
              · rw [List.mem_singleton.1 hf]; exact ⟨hNm, hV⟩
            · rw [et] at hf
              rcases List.mem_append.1 hf with hf | hf
              · rw [q2 f.f0 (fun e => hnm (e ▸ List.mem_map.2 ⟨f, hf, rfl⟩))]; exact ht f hf
              · rw [List.mem_singleton.1 hf]; exact ⟨sv, q1, hT⟩
            · rw [q3, Bool.or_eq_true, hh, et, List.map_append, List.mem_append]
              simp
    by_cases hV : VT l[i].f1
    · obtain ⟨sv, ⟨_, _, htx⟩, _, r2⟩ := id hV
      exact go _ _ r2 (fun _ => ⟨hV, sv, rfl, htx⟩) (fun h => by cases h)
    · obtain ⟨iv, _, r2⟩ := vt_no hV
      exact go _ _ r2 (fun h => by cases h) (fun _ => hV)
end
theorem map2 (l : List S52) : ∃ R, Ev (fun k => spec_MapOf.f k l) R ∧ Ev (fun k => impl_MapOf.f k l) R := by
  by_cases h : l.length ≤ 1000
  · obtain ⟨S, s1, s2, s3⟩ := sorted_ h
    refine ⟨mapR S, Ev.step ?_, Ev.step ?_⟩
    · simp only [spec_MapOf.f, decide_eq_false (show ¬ (1000 : Int) < (l.length : Int) by omega), cond_false]
      refine Ev.bind s1 ?_
      exact map_s (by rw [s2.length_eq]; exact h) _ 0 (Nat.le_refl _) (Nat.zero_le _) (fun s hs => by simp at hs) (by simp [joinS])
    · simp only [impl_MapOf.f, decide_eq_false (show ¬ (1000 : Int) < (l.length : Int) by omega), cond_false]
      exact map_i h s2 s3 _ 0 [] [] (Nat.le_refl _) (Nat.zero_le _) List.Pairwise.nil (fun x => by simp) (by simp) (by simp) (fun f hf => by simp at hf) (fun f hf => by simp at hf) (fun x => by simp [thas, tfind])
  · refine ⟨⟨#[]⟩, Ev.step ?_, Ev.step ?_⟩
    · simp only [spec_MapOf.f, decide_eq_true (show (1000 : Int) < (l.length : Int) by omega), cond_true]; exact Ev.ret _
    · simp only [impl_MapOf.f, decide_eq_true (show (1000 : Int) < (l.length : Int) by omega), cond_true]; exact Ev.ret _
theorem lftM : Lft 1048576 := by unfold Lft; omega
theorem said_FnExactMapOf (l : List S52) (h : Lst wf52 l) : ∃ k, laws_FnExactMapOf.f k l = some true := by
  refine Ev.at_ (f := fun k => laws_FnExactMapOf.f k l) ?_
  unfold laws_FnExactMapOf.f
  obtain ⟨q, q1, q2, q3⟩ := sz_FieldS l h lftM
  refine Ev.bind q1 ?_
  by_cases hq : q < 0
  · simp only [decide_eq_true hq, cond_true]; exact Ev.ret _
  have hb := q3 (by omega)
  simp only [decide_eq_false hq, cond_false]
  obtain ⟨R, s1, s2⟩ := map2 (l.map trField)
  refine Ev.bind (to_FieldS l hb) (Ev.bind s1 (Ev.bind (to_FieldS l hb) (Ev.bind s2 ?_)))
  simp only [decide_true, cond_true]
  refine Ev.bind (to_FieldS l hb) (Ev.bind (eq_FieldS l hb) ?_)
  simp only [cond_true]; exact Ev.ret _
end Go.Ab
