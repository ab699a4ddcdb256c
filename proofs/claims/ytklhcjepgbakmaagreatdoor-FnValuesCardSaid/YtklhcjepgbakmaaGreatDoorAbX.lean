/- Functions of the library: what they tell, and their contracts. No condition beyond KOk. -/
import Derived.Test.YtklhcjepgbakmaaGreatDoorAbC
import Derived.Test.YtklhcjepgbakmaaGreatDoorAbV
import Derived.Lib.AppendIntMem
import Derived.Lib.UnsafeStr
import Derived.ProofKit
import Derived.Shelf.RegionOpenPlain
import Derived.Test.YtklhcjepgbakmaaGreatDoorProg
import Derived.Test.YtklhcjepgbakmaaGreatDoorShelf
import Derived.WalkKit
import Derived.Lib.LaidTab
namespace Go.Ab
open Go.Proofs Go.RowKit
set_option linter.unusedVariables false
set_option linter.unusedSimpArgs false
theorem ral2 {ι : Pl} {w : World} {vs : Array Value} {a b : AV} (h : RaL ι [] w vs [a, b]) : ∃ x y, vs = #[x, y] ∧ Ra ι [] w x a ∧ Ra ι [] w y b := by
  obtain ⟨l⟩ := vs
  obtain ⟨hl, h⟩ := h
  match l, hl, h with
  | [x, y], _, h => exact ⟨x, y, rfl, h 0 x a rfl rfl, h 1 y b rfl rfl⟩
theorem ral3 {ι : Pl} {w : World} {vs : Array Value} {a b c : AV} (h : RaL ι [] w vs [a, b, c]) : ∃ x y z, vs = #[x, y, z] ∧ Ra ι [] w x a ∧ Ra ι [] w y b ∧ Ra ι [] w z c := by
  obtain ⟨l⟩ := vs
  obtain ⟨hl, h⟩ := h
  match l, hl, h with
  | [x, y, z], _, h => exact ⟨x, y, z, rfl, h 0 x a rfl rfl, h 1 y b rfl rfl, h 2 z c rfl rfl⟩
theorem ra_int {ι : Pl} {w : World} (k : IntKind) (n : Int) : Ra ι [] w (.int k n) (.p (.int k n)) := .p _ _ (.int k n)
theorem ra_str {ι : Pl} {w : World} (s : ByteArray) : Ra ι [] w (.string s) (.p (.str s)) := .p _ _ (.str s)
theorem ra_nil {ι : Pl} {w : World} : Ra ι [] w .nilIface (.p (.ifc true)) := .p _ _ (.ifc _ _ (fun _ => rfl) (fun h => by cases h))
theorem ra_ifc {ι : Pl} {w : World} (t : TypeId) (x : Value) : Ra ι [] w (.iface t x) (.p (.ifc false)) := .p _ _ (.ifc _ _ (fun h => by cases h) (fun _ => ⟨_, _, rfl⟩))
theorem ra_tup2 {ι : Pl} {w : World} {a b : Value} {x y : AV} (h : Ra ι [] w a x) (h' : Ra ι [] w b y) : Ra ι [] w (.tuple #[a, b]) (.tup [x, y]) :=
  .tup _ _ rfl fun i v c hv hc => by
    match i, hv, hc with
    | 0, hv, hc => simp at hv hc; subst hv; subst hc; exact h
    | 1, hv, hc => simp at hv hc; subst hv; subst hc; exact h'
    | n + 2, hv, _ => simp at hv
open Go.Shelf
set_option maxHeartbeats 1000000 in
set_option maxRecDepth 100000 in
theorem Tryz.copyCheck_used (b : Nat) (w : World) (h0 : w.cell? ⟨b, 0, none⟩ = some (.pointer (some ⟨b, 0, none⟩))) :
    Calls Tryz.prog 123 #[.pointer (some ⟨b, 0, none⟩)] w fun e w' => e = .returned (.tuple #[]) ∧ w' = w := by
  have hj0 : (Tryz.prog.info? 83).map (·.size) = some 2 := by kernel_rfl
  obtain ⟨j, hj, _⟩ := Option.map_eq_some_iff.1 hj0
  have tx159 := Tryz.underlying83; have ax159 := Tryz.isAgg83; have zx159 := Tryz.sizeOf83; have vx159 := Tryz.zeroValue83; have ux159 := fun w => run_underlying (w := w) Tryz.underlying83
  have tx157 := Tryz.underlying81; have ax157 := Tryz.isAgg81; have zx157 := Tryz.sizeOf81; have vx157 := Tryz.zeroValue81; have ux157 := fun w => run_underlying (w := w) Tryz.underlying81
  have t4 := Tryz.underlying4; have a4 := Tryz.isAgg4; have z4 := Tryz.sizeOf4; have v4 := Tryz.zeroValue4; have u4 := fun w => run_underlying (w := w) Tryz.underlying4
  have tx224 := Tryz.underlying123; have ax224 := Tryz.isAgg123; have zx224 := Tryz.sizeOf123; have vx224 := Tryz.zeroValue123; have ux224 := fun w => run_underlying (w := w) Tryz.underlying123
  go_enter Tryz.func123, Tryz.ntmps123
  go_wp2
  rw [Lib.run_neq_ptr_same w _ Tryz.underlying81 hj]
  go_wp2
  go_end0
  exact ⟨rfl, rfl⟩
set_option maxHeartbeats 1000000 in
set_option maxRecDepth 100000 in
theorem Tryz.copyCheck_fresh (b : Nat) (w : World) (h0 : w.cell? ⟨b, 0, none⟩ = some (.pointer none)) (hsh : w.shape? b = some (83, 2)) (hfz : w.frozen? ⟨b, 0, none⟩ = false) :
    Calls Tryz.prog 123 #[.pointer (some ⟨b, 0, none⟩)] w fun e w' => e = .returned (.tuple #[]) ∧ w' = w.setCell ⟨b, 0, none⟩ (.pointer (some ⟨b, 0, none⟩)) := by
  have hj0 : (Tryz.prog.info? 83).map (·.size) = some 2 := by kernel_rfl
  obtain ⟨j, hj, hjs⟩ := Option.map_eq_some_iff.1 hj0
  have hlies : liesAt Tryz.prog Tryz.prog.depth 83 (2 / Tryz.prog.cellsOf 83) 0 83 1 = true := by kernel_rfl
  have tx159 := Tryz.underlying83; have ax159 := Tryz.isAgg83; have zx159 := Tryz.sizeOf83; have vx159 := Tryz.zeroValue83; have ux159 := fun w => run_underlying (w := w) Tryz.underlying83
  have tx157 := Tryz.underlying81; have ax157 := Tryz.isAgg81; have zx157 := Tryz.sizeOf81; have vx157 := Tryz.zeroValue81; have ux157 := fun w => run_underlying (w := w) Tryz.underlying81
  have t4 := Tryz.underlying4; have a4 := Tryz.isAgg4; have z4 := Tryz.sizeOf4; have v4 := Tryz.zeroValue4; have u4 := fun w => run_underlying (w := w) Tryz.underlying4
  have tx224 := Tryz.underlying123; have ax224 := Tryz.isAgg123; have zx224 := Tryz.sizeOf123; have vx224 := Tryz.zeroValue123; have ux224 := fun w => run_underlying (w := w) Tryz.underlying123
  go_enter Tryz.func123, Tryz.ntmps123
  go_wp2
  rw [Lib.run_to_unsafe w ⟨b, 0, none⟩ Tryz.underlying81 Tryz.underlying123 hj (by rw [hjs]; decide) hsh (Nat.zero_lt_succ 1)]
  simp only [Result.andThen]
  rw [Oper.upon_value]
  go_wp2
  rw [run_callFunc_extern Tryz.func132 (by kernel_rfl) (by kernel_rfl) (by kernel_rfl) (e := Extern.AbiNoEscape.same) (by kernel_rfl)]
  rw [Lib.run_noEscape]
  simp only [Result.andThen]
  rw [Oper.upon_value]
  go_wp2
  rw [Lib.run_from_unsafe w ⟨b, 0, none⟩ Tryz.underlying123 Tryz.underlying81 hj hsh hlies]
  simp only [Result.andThen]
  rw [Oper.upon_value]
  go_wp2
  go_end0
  exact ⟨rfl, rfl⟩

structure KeptB (b : Nat) (w w' : World) : Prop where
  os : w'.os = w.os
  tape : w'.tape = w.tape
  output : w'.output = w.output
  size : w.heap.size ≤ w'.heap.size
  blk : ∀ k, k < w.heap.size → k ≠ b → w'.heap[k]? = w.heap[k]?
theorem Tryz.copyCheck_ (b : Nat) (p v : Value) (s : ByteArray) (w : World) (h : BldAt 83 5 b p v s w) :
    Calls Tryz.prog 123 #[.pointer (some ⟨b, 0, none⟩)] w fun e w' => e = .returned (.tuple #[]) ∧ BldAt 83 5 b (.pointer (some ⟨b, 0, none⟩)) v s w' ∧ KeptB b w w' := by
  obtain ⟨hp, hbk, hown, hne⟩ := h
  have c0 : w.cell? ⟨b, 0, none⟩ = some p := by rw [Lib.cell_of_heap hbk]; rfl
  rcases hp with rfl | rfl
  · refine (Tryz.copyCheck_fresh b w c0 (by simp [World.shape?, hbk]) (Lib.frozen_of_heap hbk 0)).mono ?_
    rintro e w' ⟨rfl, rfl⟩
    have hB : Lib.BuilderAtF 83 5 0 b (.pointer none) (Lib.strCells s) w := ⟨Nat.zero_le _, v, hbk, by rw [Lib.strCells_length]; exact hown, hne⟩
    have hset : (w.setCell ⟨b, 0, none⟩ (.pointer (some ⟨b, 0, none⟩))) = w.setRow b #[.pointer (some ⟨b, 0, none⟩), v] := by
      rw [setCell_eq_setRow w b 0 _ 83 (0, 0) _ hbk]; rfl
    rw [hset]
    have ho : ∀ k, k ≠ b → (w.setRow b #[.pointer (some ⟨b, 0, none⟩), v]).heap[k]? = w.heap[k]? := fun k hk => setRow_other w b k _ hk
    refine ⟨rfl, ⟨.inr rfl, setRow_heap w b _ _ 83 _ hbk, ?_, hne⟩, rfl, rfl, rfl, by simp, fun k _ => ho k⟩
    obtain ⟨h1, h2⟩ := hown
    refine ⟨h1, ?_⟩
    rcases h2 with h2 | ⟨g, cap, cur, fz, rfl, q1, q2, q3⟩
    · exact .inl h2
    · exact .inr ⟨g, cap, cur, fz, rfl, q1, by rw [ho g (fun e => hne (by simp [Value.ownBlock, e]))]; exact q2, q3⟩
  · refine (Tryz.copyCheck_used b w c0).mono ?_
    rintro e w' ⟨rfl, rfl⟩
    exact ⟨rfl, ⟨.inr rfl, hbk, hown, hne⟩, rfl, rfl, rfl, Nat.le_refl _, fun _ _ _ => rfl⟩
theorem bld_put {T e b : Nat} {v v' : Value} {s' : ByteArray} {w w1 w2 : World} (hne : v.ownBlock ≠ some b) (h1 : w1.heap[b]? = some (.cells #[.pointer (some ⟨b, 0, none⟩), v] T (0, 0))) (hos : w1.os = w.os) (htp : w1.tape = w.tape) (hout : w1.output = w.output) (hsz : w.heap.size ≤ w1.heap.size) (ho : ∀ k, k < w.heap.size → k ≠ b → w1.heap[k]? = w.heap[k]?)
    (hown' : w2.ownsRowF 0 e 1 v' s'.size (Lib.strCells s')) (hgrow : w1.grownBy w2 v.ownBlock) (hnew : v'.ownBlock = v.ownBlock ∨ ∀ k, v'.ownBlock = some k → w1.heap.size ≤ k) : BldTo T e b v s' w (w2.setCell ⟨b, 1, none⟩ v') := by
  have hlt : b < w1.heap.size := by
    rcases Nat.lt_or_ge b w1.heap.size with h' | h'
    · exact h'
    · simp [Array.getElem?_eq_none h'] at h1
  have hb2 : w2.heap[b]? = some (.cells #[.pointer (some ⟨b, 0, none⟩), v] T (0, 0)) := by
    rw [hgrow.block b hlt (fun e => hne e.symm)]; exact h1
  have hset : (w2.setCell ⟨b, 1, none⟩ v') = w2.setRow b #[.pointer (some ⟨b, 0, none⟩), v'] := by
    rw [setCell_eq_setRow w2 b 1 _ T (0, 0) _ hb2]; rfl
  have hne' : v'.ownBlock ≠ some b := by
    rcases hnew with h | h
    · rw [h]; exact hne
    · intro e; have := h b e; omega
  have ho2 : ∀ k, k ≠ b → (w2.setRow b #[.pointer (some ⟨b, 0, none⟩), v']).heap[k]? = w2.heap[k]? := fun k hk => setRow_other w2 b k _ hk
  rw [hset]
  refine ⟨⟨.pointer (some ⟨b, 0, none⟩), v', ⟨.inr rfl, setRow_heap w2 b _ _ T _ hb2, ?_, hne'⟩, hnew.imp id fun h k hk => Nat.le_trans hsz (h k hk)⟩, ?_, ?_, ?_, ?_, fun k hk hkb hkv => ?_⟩
  · obtain ⟨h3, h4⟩ := hown'
    refine ⟨h3, ?_⟩
    rcases h4 with h4 | ⟨g, cap, cur, fz, rfl, q1, q2, q3⟩
    · exact .inl h4
    · exact .inr ⟨g, cap, cur, fz, rfl, q1, by rw [ho2 g (fun e => hne' (by simp [Value.ownBlock, e]))]; exact q2, q3⟩
  · show w2.os = w.os; rw [hgrow.os, hos]
  · show w2.tape = w.tape; rw [hgrow.tape, htp]
  · show w2.output = w.output; rw [hgrow.output, hout]
  · have := hgrow.size; simp; omega
  · rw [ho2 k hkb, hgrow.block k (by omega) (fun e => hkv e.symm), ho k hk hkb]
theorem strCells_cat (s t : ByteArray) : Lib.strCells (s ++ t) = Lib.strCells s ++ Lib.strCells t := by
  unfold Lib.strCells
  simp
set_option maxHeartbeats 2000000 in
set_option maxRecDepth 100000 in
theorem Tryz.writeString_ (b : Nat) (p v : Value) (bs s : ByteArray) (w : World) (h : BldAt 83 5 b p v bs w) (hlen : bs.size + s.size ≤ 140737488355328) :
    Calls Tryz.prog 101 #[.pointer (some ⟨b, 0, none⟩), .string s] w fun e w' => e = .returned (.tuple #[.int .i64 s.size, .nilIface]) ∧ BldTo 83 5 b v (bs ++ s) w w' := by
  have hinfo : (Tryz.prog.info? 5).map (fun i => (i.zero, i.size, i.bytes)) = some (some (.int .u8 0), 1, 1) := by kernel_rfl
  obtain ⟨i0, hi, hz0, hz1, hz2⟩ := info_parts hinfo
  have tx159 := Tryz.underlying83; have ax159 := Tryz.isAgg83; have zx159 := Tryz.sizeOf83; have vx159 := Tryz.zeroValue83; have ux159 := fun w => run_underlying (w := w) Tryz.underlying83
  have tx157 := Tryz.underlying81; have ax157 := Tryz.isAgg81; have zx157 := Tryz.sizeOf81; have vx157 := Tryz.zeroValue81; have ux157 := fun w => run_underlying (w := w) Tryz.underlying81
  have t5 := Tryz.underlying5; have a5 := Tryz.isAgg5; have z5 := Tryz.sizeOf5; have v5 := Tryz.zeroValue5; have u5 := fun w => run_underlying (w := w) Tryz.underlying5
  have tx142 := Tryz.underlying22; have ax142 := Tryz.isAgg22; have zx142 := Tryz.sizeOf22; have vx142 := Tryz.zeroValue22; have ux142 := fun w => run_underlying (w := w) Tryz.underlying22
  have t9 := Tryz.underlying9; have a9 := Tryz.isAgg9; have z9 := Tryz.sizeOf9; have v9 := Tryz.zeroValue9; have u9 := fun w => run_underlying (w := w) Tryz.underlying9
  have t3 := Tryz.underlying3; have a3 := Tryz.isAgg3; have z3 := Tryz.sizeOf3; have v3 := Tryz.zeroValue3; have u3 := fun w => run_underlying (w := w) Tryz.underlying3
  have t4 := Tryz.underlying4; have a4 := Tryz.isAgg4; have z4 := Tryz.sizeOf4; have v4 := Tryz.zeroValue4; have u4 := fun w => run_underlying (w := w) Tryz.underlying4
  have tx161 := Tryz.underlying103; have ax161 := Tryz.isAgg103; have zx161 := Tryz.sizeOf103; have vx161 := Tryz.zeroValue103; have ux161 := fun w => run_underlying (w := w) Tryz.underlying103
  have e240 : ∀ args w, (callFunc 123 args).run Tryz.prog w = .ok (.enter 123 args) w := enters_of Tryz.func123 (by kernel_rfl) rfl
  go_enter Tryz.func101, Tryz.ntmps101
  go_wp2_with (go_at_fn 123; refine (Tryz.copyCheck_ b p v bs _ h).mono ?_)
  rintro e w1 ⟨rfl, h1, hkp⟩
  obtain ⟨_, hbk, hown, hne⟩ := h1
  have c0 : w1.cell? ⟨b, 0, none⟩ = some (.pointer (some ⟨b, 0, none⟩)) := by rw [Lib.cell_of_heap hbk]; rfl
  have c1 : w1.cell? ⟨b, 1, none⟩ = some v := by rw [Lib.cell_of_heap hbk]; rfl
  go_wp2_with (at_builtin; refine wp_strX rfl _ _ 22 9 rfl 5 i0 Tryz.underlying22 Tryz.underlying9 hi hz0 hz1 hz2 _ _ _ rfl hown s rfl ?c3 ?c4 ?_)
  case c3 => unfold maxLen; omega
  case c4 => omega
  intro v' w2 hown' hgrow hnew
  have hlt : b < w1.heap.size := by
    rcases Nat.lt_or_ge b w1.heap.size with h' | h'
    · exact h'
    · simp [Array.getElem?_eq_none h'] at hbk
  have hb2 : w2.heap[b]? = some (.cells #[.pointer (some ⟨b, 0, none⟩), v] 83 (0, 0)) := by
    rw [hgrow.block b hlt (fun e => hne e.symm)]
    exact hbk
  have d0 : w2.cell? ⟨b, 0, none⟩ = some (.pointer (some ⟨b, 0, none⟩)) := by rw [Lib.cell_of_heap hb2]; rfl
  have d1 : w2.cell? ⟨b, 1, none⟩ = some v := by rw [Lib.cell_of_heap hb2]; rfl
  have f1 : w2.frozen? ⟨b, 1, none⟩ = false := Lib.frozen_of_heap hb2 1
  have hput := bld_put (s' := bs ++ s) hne hbk hkp.os hkp.tape hkp.output hkp.size hkp.blk (by rw [ByteArray.size_append, strCells_cat]; exact hown') hgrow hnew
  obtain ⟨ao, n', cap, rfl⟩ : ∃ ao n' cap, v' = .slice ao n' cap := by
    rcases hown'.2 with ⟨hv, _⟩ | ⟨g, cap, cur, fz, hv, _⟩
    · exact ⟨_, _, _, hv⟩
    · exact ⟨_, _, _, hv⟩
  go_wp2
  go_ret2
  exact ⟨rfl, hput⟩
set_option maxHeartbeats 2000000 in
set_option maxRecDepth 100000 in
theorem Tryz.writeByte_ (b : Nat) (p v : Value) (bs : ByteArray) (c : UInt8) (w : World) (h : BldAt 83 5 b p v bs w) (hlen : bs.size + 1 ≤ 140737488355328) :
    Calls Tryz.prog 103 #[.pointer (some ⟨b, 0, none⟩), .int .u8 c.toNat] w fun e w' => e = .returned .nilIface ∧ BldTo 83 5 b v (bs ++ ⟨#[c]⟩) w w' := by
  have hinfo : (Tryz.prog.info? 5).map (fun i => (i.zero, i.size, i.bytes)) = some (some (.int .u8 0), 1, 1) := by kernel_rfl
  obtain ⟨i0, hi, hz0, hz1, hz2⟩ := info_parts hinfo
  have tx159 := Tryz.underlying83; have ax159 := Tryz.isAgg83; have zx159 := Tryz.sizeOf83; have vx159 := Tryz.zeroValue83; have ux159 := fun w => run_underlying (w := w) Tryz.underlying83
  have tx157 := Tryz.underlying81; have ax157 := Tryz.isAgg81; have zx157 := Tryz.sizeOf81; have vx157 := Tryz.zeroValue81; have ux157 := fun w => run_underlying (w := w) Tryz.underlying81
  have t5 := Tryz.underlying5; have a5 := Tryz.isAgg5; have z5 := Tryz.sizeOf5; have v5 := Tryz.zeroValue5; have u5 := fun w => run_underlying (w := w) Tryz.underlying5
  have tx142 := Tryz.underlying22; have ax142 := Tryz.isAgg22; have zx142 := Tryz.sizeOf22; have vx142 := Tryz.zeroValue22; have ux142 := fun w => run_underlying (w := w) Tryz.underlying22
  have t9 := Tryz.underlying9; have a9 := Tryz.isAgg9; have z9 := Tryz.sizeOf9; have v9 := Tryz.zeroValue9; have u9 := fun w => run_underlying (w := w) Tryz.underlying9
  have t3 := Tryz.underlying3; have a3 := Tryz.isAgg3; have z3 := Tryz.sizeOf3; have v3 := Tryz.zeroValue3; have u3 := fun w => run_underlying (w := w) Tryz.underlying3
  have t4 := Tryz.underlying4; have a4 := Tryz.isAgg4; have z4 := Tryz.sizeOf4; have v4 := Tryz.zeroValue4; have u4 := fun w => run_underlying (w := w) Tryz.underlying4
  have tx161 := Tryz.underlying103; have ax161 := Tryz.isAgg103; have zx161 := Tryz.sizeOf103; have vx161 := Tryz.zeroValue103; have ux161 := fun w => run_underlying (w := w) Tryz.underlying103
  have e240 : ∀ args w, (callFunc 123 args).run Tryz.prog w = .ok (.enter 123 args) w := enters_of Tryz.func123 (by kernel_rfl) rfl
  go_enter Tryz.func103, Tryz.ntmps103
  go_wp2_with (go_at_fn 123; refine (Tryz.copyCheck_ b p v bs _ h).mono ?_)
  rintro e w1 ⟨rfl, h1, hkp⟩
  obtain ⟨_, hbk, hown, hne⟩ := h1
  have c0 : w1.cell? ⟨b, 0, none⟩ = some (.pointer (some ⟨b, 0, none⟩)) := by rw [Lib.cell_of_heap hbk]; rfl
  have c1 : w1.cell? ⟨b, 1, none⟩ = some v := by rw [Lib.cell_of_heap hbk]; rfl
  go_wp2_with (at_builtin; refine wp_byteX rfl _ _ 22 rfl 5 i0 Tryz.underlying22 hi hz0 hz1 hz2 _ _ _ rfl (hown.alloc _) ⟨w1.heap.size, 0, none⟩ 1 1 [.int .u8 c.toNat] rfl rfl ?c1 ?c2 ?c3 ?c4 ?_)
  case c1 =>
    intro j u hj
    match j, hj with
    | 0, hj => simp at hj; subst hj; simp [Addr.add]
  case c2 => intro u hu; simp at hu; subst hu; rfl
  case c3 => unfold maxLen; omega
  case c4 => omega
  intro v' w2 hown' hgrow hnew
  have hlt : b < w1.heap.size := by
    rcases Nat.lt_or_ge b w1.heap.size with h' | h'
    · exact h'
    · simp [Array.getElem?_eq_none h'] at hbk
  have hb2 : w2.heap[b]? = some (.cells #[.pointer (some ⟨b, 0, none⟩), v] 83 (0, 0)) := by
    rw [hgrow.block b (by simp; omega) (fun e => hne e.symm), Lib.alloc_old w1 _ b hlt]
    exact hbk
  have d0 : w2.cell? ⟨b, 0, none⟩ = some (.pointer (some ⟨b, 0, none⟩)) := by rw [Lib.cell_of_heap hb2]; rfl
  have d1 : w2.cell? ⟨b, 1, none⟩ = some v := by rw [Lib.cell_of_heap hb2]; rfl
  have f1 : w2.frozen? ⟨b, 1, none⟩ = false := Lib.frozen_of_heap hb2 1
  have hput := bld_put (s' := bs ++ ⟨#[c]⟩) (w := w) (w1 := w1.alloc (.cells #[.int .u8 c.toNat] 5)) hne (by rw [Lib.alloc_old w1 _ b hlt]; exact hbk) hkp.os hkp.tape hkp.output (Nat.le_trans hkp.size (by simp)) (fun k hk hkb => by rw [Lib.alloc_old w1 _ k (Nat.lt_of_lt_of_le hk hkp.size)]; exact hkp.blk k hk hkb) (by rw [ByteArray.size_append, strCells_cat]; exact hown') hgrow (by rw [World.size_alloc]; exact hnew)
  obtain ⟨ao, n', cap, rfl⟩ : ∃ ao n' cap, v' = .slice ao n' cap := by
    rcases hown'.2 with ⟨hv, _⟩ | ⟨g, cap, cur, fz, hv, _⟩
    · exact ⟨_, _, _, hv⟩
    · exact ⟨_, _, _, hv⟩
  go_wp2
  go_ret
  exact ⟨rfl, hput⟩
set_option maxHeartbeats 2000000 in
set_option maxRecDepth 100000 in
theorem Tryz.string_nil (b : Nat)  (p : Value) (w : World) (hbk : w.heap[b]? = some (.cells #[p, .slice none 0 0] 83 (0, 0))) :
    Calls Tryz.prog 66 #[.pointer (some ⟨b, 0, none⟩)] w fun e w' => e = .returned (.string ⟨#[]⟩) ∧ w' = w.drew := by
  have hUS : ∀ (W : World) (q : Option Addr), (Builtin.unsafeString_ #[107, 3] 9 #[.pointer q, .int .i64 0]).run Tryz.prog W = .ok (.string .empty) W := fun W q => Lib.run_unsafeString_none W _ _ _ q
  have c1 : w.drew.cell? ⟨b, 1, none⟩ = some (.slice none 0 0) := by
    have : w.drew.heap[b]? = some (.cells #[p, .slice none 0 0] 83 (0, 0)) := hbk
    rw [Lib.cell_of_heap this]; rfl
  have hSD : (Builtin.unsafeSliceData_ #[22] 107 #[.slice none 0 0]).run Tryz.prog w.drew = .ok (.pointer none) w.drew := rfl
  have tx159 := Tryz.underlying83; have ax159 := Tryz.isAgg83; have zx159 := Tryz.sizeOf83; have vx159 := Tryz.zeroValue83; have ux159 := fun w => run_underlying (w := w) Tryz.underlying83
  have tx157 := Tryz.underlying81; have ax157 := Tryz.isAgg81; have zx157 := Tryz.sizeOf81; have vx157 := Tryz.zeroValue81; have ux157 := fun w => run_underlying (w := w) Tryz.underlying81
  have tx142 := Tryz.underlying22; have ax142 := Tryz.isAgg22; have zx142 := Tryz.sizeOf22; have vx142 := Tryz.zeroValue22; have ux142 := fun w => run_underlying (w := w) Tryz.underlying22
  have tx201 := Tryz.underlying107; have ax201 := Tryz.isAgg107; have zx201 := Tryz.sizeOf107; have vx201 := Tryz.zeroValue107; have ux201 := fun w => run_underlying (w := w) Tryz.underlying107
  have t3 := Tryz.underlying3; have a3 := Tryz.isAgg3; have z3 := Tryz.sizeOf3; have v3 := Tryz.zeroValue3; have u3 := fun w => run_underlying (w := w) Tryz.underlying3
  have t9 := Tryz.underlying9; have a9 := Tryz.isAgg9; have z9 := Tryz.sizeOf9; have v9 := Tryz.zeroValue9; have u9 := fun w => run_underlying (w := w) Tryz.underlying9
  have t5 := Tryz.underlying5; have a5 := Tryz.isAgg5; have z5 := Tryz.sizeOf5; have v5 := Tryz.zeroValue5; have u5 := fun w => run_underlying (w := w) Tryz.underlying5
  have mixed : Tryz.prog.follows .mixedOrders = true := by kernel_rfl
  go_enter Tryz.func66, Tryz.ntmps66
  go_wp2
  go_region_o
  all_goals (go_wp2; go_ret; exact ⟨rfl, rfl⟩)
set_option maxHeartbeats 2000000 in
set_option maxRecDepth 100000 in
theorem Tryz.string_room (b : Nat) (g cap : Nat) (p : Value) (w : World) (hbk : w.heap[b]? = some (.cells #[p, .slice (some ⟨g, 0, none⟩) 0 cap] 83 (0, 0))) (hc0 : cap ≠ 0) :
    Calls Tryz.prog 66 #[.pointer (some ⟨b, 0, none⟩)] w fun e w' => e = .returned (.string ⟨#[]⟩) ∧ w' = w.drew := by
  have hUS : ∀ (W : World) (q : Option Addr), (Builtin.unsafeString_ #[107, 3] 9 #[.pointer q, .int .i64 0]).run Tryz.prog W = .ok (.string .empty) W := fun W q => Lib.run_unsafeString_none W _ _ _ q
  have c1 : w.drew.cell? ⟨b, 1, none⟩ = some (.slice (some ⟨g, 0, none⟩) 0 cap) := by
    have : w.drew.heap[b]? = some (.cells #[p, .slice (some ⟨g, 0, none⟩) 0 cap] 83 (0, 0)) := hbk
    rw [Lib.cell_of_heap this]; rfl
  have hSD : (Builtin.unsafeSliceData_ #[22] 107 #[.slice (some ⟨g, 0, none⟩) 0 cap]).run Tryz.prog w.drew = .ok (.pointer (some ⟨g, 0, none⟩)) w.drew :=
    Lib.run_unsafeSliceData_row _ _ _ _ _ _ hc0
  clear hc0
  have tx159 := Tryz.underlying83; have ax159 := Tryz.isAgg83; have zx159 := Tryz.sizeOf83; have vx159 := Tryz.zeroValue83; have ux159 := fun w => run_underlying (w := w) Tryz.underlying83
  have tx157 := Tryz.underlying81; have ax157 := Tryz.isAgg81; have zx157 := Tryz.sizeOf81; have vx157 := Tryz.zeroValue81; have ux157 := fun w => run_underlying (w := w) Tryz.underlying81
  have tx142 := Tryz.underlying22; have ax142 := Tryz.isAgg22; have zx142 := Tryz.sizeOf22; have vx142 := Tryz.zeroValue22; have ux142 := fun w => run_underlying (w := w) Tryz.underlying22
  have tx201 := Tryz.underlying107; have ax201 := Tryz.isAgg107; have zx201 := Tryz.sizeOf107; have vx201 := Tryz.zeroValue107; have ux201 := fun w => run_underlying (w := w) Tryz.underlying107
  have t3 := Tryz.underlying3; have a3 := Tryz.isAgg3; have z3 := Tryz.sizeOf3; have v3 := Tryz.zeroValue3; have u3 := fun w => run_underlying (w := w) Tryz.underlying3
  have t9 := Tryz.underlying9; have a9 := Tryz.isAgg9; have z9 := Tryz.sizeOf9; have v9 := Tryz.zeroValue9; have u9 := fun w => run_underlying (w := w) Tryz.underlying9
  have t5 := Tryz.underlying5; have a5 := Tryz.isAgg5; have z5 := Tryz.sizeOf5; have v5 := Tryz.zeroValue5; have u5 := fun w => run_underlying (w := w) Tryz.underlying5
  have mixed : Tryz.prog.follows .mixedOrders = true := by kernel_rfl
  go_enter Tryz.func66, Tryz.ntmps66
  go_wp2
  go_region_o
  all_goals (go_wp2; go_ret; exact ⟨rfl, rfl⟩)
set_option maxHeartbeats 2000000 in
set_option maxRecDepth 100000 in
theorem Tryz.string_noroom (b : Nat) (g : Nat) (cur : Array Value) (p : Value) (w : World) (hbk : w.heap[b]? = some (.cells #[p, .slice (some ⟨g, 0, none⟩) 0 0] 83 (0, 0))) (fz : Nat × Nat) (hg : w.heap[g]? = some (.cells cur 5 fz)) :
    Calls Tryz.prog 66 #[.pointer (some ⟨b, 0, none⟩)] w fun e w' => e = .returned (.string ⟨#[]⟩) ∧ w' = (w.alloc (.view ⟨g, 0, none⟩ 5)).drew := by
  have hUS : ∀ (W : World) (q : Option Addr), (Builtin.unsafeString_ #[107, 3] 9 #[.pointer q, .int .i64 0]).run Tryz.prog W = .ok (.string .empty) W := fun W q => Lib.run_unsafeString_none W _ _ _ q
  have hlt : b < w.heap.size := by
    rcases Nat.lt_or_ge b w.heap.size with h' | h'
    · exact h'
    · simp [Array.getElem?_eq_none h'] at hbk
  have c1 : w.drew.cell? ⟨b, 1, none⟩ = some (.slice (some ⟨g, 0, none⟩) 0 0) := by
    have : w.drew.heap[b]? = some (.cells #[p, .slice (some ⟨g, 0, none⟩) 0 0] 83 (0, 0)) := hbk
    rw [Lib.cell_of_heap this]; rfl
  have hSD : (Builtin.unsafeSliceData_ #[22] 107 #[.slice (some ⟨g, 0, none⟩) 0 0]).run Tryz.prog w.drew = .ok (.pointer (some ⟨w.drew.heap.size, 0, none⟩)) (w.drew.alloc (.view ⟨g, 0, none⟩ 5)) :=
    Lib.run_unsafeSliceData_zero w.drew _ _ 5 Tryz.underlying107 ⟨g, 0, none⟩ 0 (5, cur.size) (by have hg' : w.drew.heap[g]? = some (.cells cur 5 fz) := hg; simp [World.shape?, hg'])
  have c2 : (w.drew.alloc (.view ⟨g, 0, none⟩ 5)).cell? ⟨b, 1, none⟩ = some (.slice (some ⟨g, 0, none⟩) 0 0) := by
    have : (w.drew.alloc (.view ⟨g, 0, none⟩ 5)).heap[b]? = _ := (Lib.alloc_old w.drew _ b hlt).trans hbk
    rw [Lib.cell_of_heap this]; rfl
  have c3 : (w.alloc (.view ⟨g, 0, none⟩ 5)).drew.cell? ⟨b, 1, none⟩ = some (.slice (some ⟨g, 0, none⟩) 0 0) := c2
  have c0 : w.cell? ⟨b, 1, none⟩ = some (.slice (some ⟨g, 0, none⟩) 0 0) := c1
  have tx159 := Tryz.underlying83; have ax159 := Tryz.isAgg83; have zx159 := Tryz.sizeOf83; have vx159 := Tryz.zeroValue83; have ux159 := fun w => run_underlying (w := w) Tryz.underlying83
  have tx157 := Tryz.underlying81; have ax157 := Tryz.isAgg81; have zx157 := Tryz.sizeOf81; have vx157 := Tryz.zeroValue81; have ux157 := fun w => run_underlying (w := w) Tryz.underlying81
  have tx142 := Tryz.underlying22; have ax142 := Tryz.isAgg22; have zx142 := Tryz.sizeOf22; have vx142 := Tryz.zeroValue22; have ux142 := fun w => run_underlying (w := w) Tryz.underlying22
  have tx201 := Tryz.underlying107; have ax201 := Tryz.isAgg107; have zx201 := Tryz.sizeOf107; have vx201 := Tryz.zeroValue107; have ux201 := fun w => run_underlying (w := w) Tryz.underlying107
  have t3 := Tryz.underlying3; have a3 := Tryz.isAgg3; have z3 := Tryz.sizeOf3; have v3 := Tryz.zeroValue3; have u3 := fun w => run_underlying (w := w) Tryz.underlying3
  have t9 := Tryz.underlying9; have a9 := Tryz.isAgg9; have z9 := Tryz.sizeOf9; have v9 := Tryz.zeroValue9; have u9 := fun w => run_underlying (w := w) Tryz.underlying9
  have t5 := Tryz.underlying5; have a5 := Tryz.isAgg5; have z5 := Tryz.sizeOf5; have v5 := Tryz.zeroValue5; have u5 := fun w => run_underlying (w := w) Tryz.underlying5
  have mixed : Tryz.prog.follows .mixedOrders = true := by kernel_rfl
  go_enter Tryz.func66, Tryz.ntmps66
  go_wp2
  go_region_o
  all_goals (go_wp2; go_ret; exact ⟨rfl, rfl⟩)
set_option maxHeartbeats 2000000 in
set_option maxRecDepth 100000 in
theorem Tryz.string_some (b : Nat) (g cap : Nat) (l : List UInt8) (p : Value) (w : World) (hbk : w.heap[b]? = some (.cells #[p, .slice (some ⟨g, 0, none⟩) l.length cap] 83 (0, 0))) (cur : Array Value) (fz : Nat × Nat) (h0 : l ≠ []) (hown : w.ownsRowF 0 5 1 (.slice (some ⟨g, 0, none⟩) l.length cap) l.length (Lib.byteCells l)) (hg : w.heap[g]? = some (.cells cur 5 fz)) (hnc : l.length ≤ cap) (hcm : cap ≤ maxLen) (hcs : cur.size = cap * 1) :
    Calls Tryz.prog 66 #[.pointer (some ⟨b, 0, none⟩)] w fun e w' => e = .returned (.string ⟨l.toArray⟩) ∧ w' = w.drew.freeze ⟨g, 0, none⟩ l.length := by
  have hcb : Tryz.prog.cellsOf 5 = 1 := by kernel_rfl
  have hl0 : l.length ≠ 0 := by simpa using h0
  have c1 : w.drew.cell? ⟨b, 1, none⟩ = some (.slice (some ⟨g, 0, none⟩) l.length cap) := by
    have : w.drew.heap[b]? = some (.cells #[p, .slice (some ⟨g, 0, none⟩) l.length cap] 83 (0, 0)) := hbk
    rw [Lib.cell_of_heap this]; rfl
  have hSD : (Builtin.unsafeSliceData_ #[22] 107 #[.slice (some ⟨g, 0, none⟩) l.length cap]).run Tryz.prog w.drew = .ok (.pointer (some ⟨g, 0, none⟩)) w.drew :=
    Lib.run_unsafeSliceData_row _ _ _ _ _ _ (by omega)
  have hUS : (Builtin.unsafeString_ #[107, 3] 9 #[.pointer (some ⟨g, 0, none⟩), .int .i64 l.length]).run Tryz.prog w.drew = .ok (.string ⟨l.toArray⟩) (w.drew.freeze ⟨g, 0, none⟩ l.length) := by
    refine Lib.run_unsafeString_row w.drew 107 3 9 5 Tryz.underlying107 hcb g cur.size (by have hg' : w.drew.heap[g]? = some (.cells cur 5 fz) := hg; simp [World.shape?, hg']) l h0 (by omega) (by unfold maxLen at hcm; omega) ?_
    intro j x hx
    have := hown.cells (g := g) rfl j (.int .u8 x.toNat) (by simp [Lib.byteCells, hx])
    exact this
  have tx159 := Tryz.underlying83; have ax159 := Tryz.isAgg83; have zx159 := Tryz.sizeOf83; have vx159 := Tryz.zeroValue83; have ux159 := fun w => run_underlying (w := w) Tryz.underlying83
  have tx157 := Tryz.underlying81; have ax157 := Tryz.isAgg81; have zx157 := Tryz.sizeOf81; have vx157 := Tryz.zeroValue81; have ux157 := fun w => run_underlying (w := w) Tryz.underlying81
  have tx142 := Tryz.underlying22; have ax142 := Tryz.isAgg22; have zx142 := Tryz.sizeOf22; have vx142 := Tryz.zeroValue22; have ux142 := fun w => run_underlying (w := w) Tryz.underlying22
  have tx201 := Tryz.underlying107; have ax201 := Tryz.isAgg107; have zx201 := Tryz.sizeOf107; have vx201 := Tryz.zeroValue107; have ux201 := fun w => run_underlying (w := w) Tryz.underlying107
  have t3 := Tryz.underlying3; have a3 := Tryz.isAgg3; have z3 := Tryz.sizeOf3; have v3 := Tryz.zeroValue3; have u3 := fun w => run_underlying (w := w) Tryz.underlying3
  have t9 := Tryz.underlying9; have a9 := Tryz.isAgg9; have z9 := Tryz.sizeOf9; have v9 := Tryz.zeroValue9; have u9 := fun w => run_underlying (w := w) Tryz.underlying9
  have t5 := Tryz.underlying5; have a5 := Tryz.isAgg5; have z5 := Tryz.sizeOf5; have v5 := Tryz.zeroValue5; have u5 := fun w => run_underlying (w := w) Tryz.underlying5
  have mixed : Tryz.prog.follows .mixedOrders = true := by kernel_rfl
  go_enter Tryz.func66, Tryz.ntmps66
  go_wp2
  go_region_o
  all_goals (go_wp2; go_ret; exact ⟨rfl, rfl⟩)
theorem freeze_facts (w : World) (a : Addr) (n : Nat) : (w.freeze a n).os = w.os ∧ (w.freeze a n).tape = w.tape ∧ (w.freeze a n).output = w.output ∧ (w.freeze a n).heap.size = w.heap.size ∧ ∀ k, k ≠ a.block → (w.freeze a n).heap[k]? = w.heap[k]? := by
  unfold World.freeze
  split
  · exact ⟨rfl, rfl, rfl, rfl, fun _ _ => rfl⟩
  · exact ⟨rfl, rfl, rfl, by simp, fun k hk => by
      simp only [Array.getElem?_modify]
      rw [if_neg (by omega)]⟩
theorem bldTo_same {b : Nat} {p v : Value} {s : ByteArray} {w w' : World} (h : BldAt 83 5 b p v s w) (hb : w'.heap[b]? = w.heap[b]?) (hr : w'.ownsRowF 0 5 1 v s.size (Lib.strCells s)) (hos : w'.os = w.os) (htp : w'.tape = w.tape) (hout : w'.output = w.output) (hsz : w.heap.size ≤ w'.heap.size)
   (hk : ∀ k, k < w.heap.size → v.ownBlock ≠ some k → w'.heap[k]? = w.heap[k]?) : BldTo 83 5 b v s w w' :=
  ⟨⟨p, v, ⟨h.1, by rw [hb]; exact h.2.1, hr, h.2.2.2⟩, .inl rfl⟩, hos, htp, hout, hsz, fun k hk' _ hv => hk k hk' hv⟩
theorem Tryz.string_ (b : Nat) (p v : Value) (s : ByteArray) (w : World) (h : BldAt 83 5 b p v s w) :
    Calls Tryz.prog 66 #[.pointer (some ⟨b, 0, none⟩)] w fun e w' => e = .returned (.string s) ∧ BldTo 83 5 b v s w w' := by
  have h' := h
  obtain ⟨hp, hbk, hown, hne⟩ := h
  rcases hown.2 with ⟨rfl, hz⟩ | ⟨g, cap, cur, fz, rfl, _, hg, hfz, hnc, hcm, hcs, htake⟩
  · have hs : s = ⟨#[]⟩ := by
      apply ByteArray.ext
      exact Array.eq_empty_of_size_eq_zero hz
    subst hs
    refine (Tryz.string_nil b p w hbk).mono ?_
    rintro e w' ⟨rfl, rfl⟩
    exact ⟨rfl, bldTo_same h' rfl hown rfl rfl rfl (Nat.le_refl _) fun _ _ _ => rfl⟩
  · have hgb : g ≠ b := fun e => hne (by rw [e]; rfl)
    by_cases hs0 : s.size = 0
    · have hs : s = ⟨#[]⟩ := by
        apply ByteArray.ext
        exact Array.eq_empty_of_size_eq_zero hs0
      subst hs
      by_cases hc0 : cap = 0
      · subst hc0
        refine (Tryz.string_noroom b g cur p w hbk fz hg).mono ?_
        rintro e w' ⟨rfl, rfl⟩
        have hold : ∀ k, k < w.heap.size → (w.alloc (.view ⟨g, 0, none⟩ 5)).drew.heap[k]? = w.heap[k]? := fun k hk => Lib.alloc_old w _ k hk
        have hlt : ∀ k o, w.heap[k]? = some o → k < w.heap.size := fun k o ho => by
          rcases Nat.lt_or_ge k w.heap.size with h' | h'
          · exact h'
          · rw [Array.getElem?_eq_none h'] at ho; cases ho
        refine ⟨rfl, bldTo_same h' (hold b (hlt _ _ hbk)) ⟨hown.1, .inr ⟨g, 0, cur, fz, rfl, Nat.zero_le _, by rw [hold g (hlt _ _ hg)]; exact hg, hfz, hnc, hcm, hcs, htake⟩⟩ rfl rfl rfl (by show _ ≤ (w.alloc _).heap.size; simp) fun k hk _ => hold k hk⟩
      · refine (Tryz.string_room b g cap p w hbk hc0).mono ?_
        rintro e w' ⟨rfl, rfl⟩
        exact ⟨rfl, bldTo_same h' rfl hown rfl rfl rfl (Nat.le_refl _) fun _ _ _ => rfl⟩
    · have hl : s.data.toList.length = s.size := by rw [Array.length_toList]; rfl
      have hne0 : s.data.toList ≠ [] := fun e => hs0 (by rw [← hl, e]; rfl)
      have := Tryz.string_some b g cap s.data.toList p w (by rw [hl]; exact hbk) cur fz hne0 (by rw [hl]; exact hown) hg (by rw [hl]; exact hnc) hcm hcs
      refine this.mono ?_
      rintro e w' ⟨rfl, rfl⟩
      rw [hl]
      have hA : Lib.BuilderAtF 83 5 0 b p (Lib.strCells s) w.drew := ⟨Nat.zero_le _, _, hbk, by rw [Lib.strCells_length]; exact hown, hne⟩
      have c1 : w.drew.cell? ⟨b, 1, none⟩ = some (.slice (some ⟨g, 0, none⟩) s.size cap) := by
        have : w.drew.heap[b]? = some (.cells #[p, .slice (some ⟨g, 0, none⟩) s.size cap] 83 (0, 0)) := hbk
        rw [Lib.cell_of_heap this]; rfl
      have hF := hA.froze (g := g) (cap := cap) (by rw [Lib.strCells_length]; exact c1)
      rw [Lib.strCells_length] at hF
      obtain ⟨_, v2, hb2, hown2, _⟩ := hF
      have hfr : ∀ k, k ≠ g → (w.drew.freeze ⟨g, 0, none⟩ s.size).heap[k]? = w.heap[k]? := fun k hk => (freeze_facts w.drew ⟨g, 0, none⟩ s.size).2.2.2.2 k hk
      have hv2 : v2 = .slice (some ⟨g, 0, none⟩) s.size cap := by
        have := (hfr b (Ne.symm hgb)).symm.trans hb2
        rw [hbk] at this
        injection this with this
        injection this with this
        simpa using this.symm
      subst hv2
      rw [Lib.strCells_length] at hown2
      refine ⟨rfl, bldTo_same h' (hfr b (Ne.symm hgb)) hown2 (freeze_facts w.drew _ _).1 (freeze_facts w.drew _ _).2.1 (freeze_facts w.drew _ _).2.2.1 (Nat.le_of_eq (freeze_facts w.drew _ _).2.2.2.1.symm) fun k hk hv => hfr k fun e => hv (by rw [e]; rfl)⟩
theorem ra_gi {ι : Pl} {m : Mem} {w : World} (k : IntKind) (n : Int) : Ra ι m w (.int k n) (.p (.int k n)) := .p _ _ (.int k n)
theorem ra_gs {ι : Pl} {m : Mem} {w : World} (s : ByteArray) : Ra ι m w (.string s) (.p (.str s)) := .p _ _ (.str s)
theorem ra_gn {ι : Pl} {m : Mem} {w : World} : Ra ι m w .nilIface (.p (.ifc true)) := .p _ _ (.ifc _ _ (fun _ => rfl) (fun h => by cases h))
theorem ra_gt {ι : Pl} {m : Mem} {w : World} {a b : Value} {x y : AV} (h : Ra ι m w a x) (h' : Ra ι m w b y) : Ra ι m w (.tuple #[a, b]) (.tup [x, y]) :=
  .tup _ _ rfl fun i v c hv hc => by
    match i, hv, hc with
    | 0, hv, hc => simp at hv hc; subst hv; subst hc; exact h
    | 1, hv, hc => simp at hv hc; subst hv; subst hc; exact h'
    | n + 2, hv, _ => simp at hv
def strings_Builder_WriteString.f (k : Nat) (t s : ByteArray) : Option (Int × Bool × ByteArray) := if s.size + t.size ≤ 140737488355328 then some ((t.size : Int), true, s ++ t) else none
theorem strings_Builder_WriteString.con {K : Kn} [hk : KOk K] {k : Nat} {t s : ByteArray} {r : Int × Bool × ByteArray} (h : strings_Builder_WriteString.f k t s = some r) :
    Con K Tryz.prog 101 [.ptr 1000 0 0, .p (.str t)] [(1000, (0, .bld 83 5 s))] (.tup [.p (.int .i64 r.1), .p (.ifc r.2.1)]) [(1000, (0, .bld 83 5 r.2.2))] := by
  unfold strings_Builder_WriteString.f at h
  split at h
  case isFalse => cases h
  rename_i hc
  cases h
  exact con_bldW (avs := [.string t]) (cv := .tuple #[.int .i64 t.size, .nilIface]) ⟨_, Tryz.func101, by kernel_rfl, by kernel_rfl⟩ (bld_args1 fun _ _ _ _ h => h.str) (fun _ _ _ => ra_gt (ra_gi _ _) ra_gn) fun w b p v h => Tryz.writeString_ b p v s t w h hc
def strings_Builder_WriteByte.f (k : Nat) (c : Int) (s : ByteArray) : Option (Bool × ByteArray) := if 0 ≤ c ∧ c < 256 ∧ s.size + 1 ≤ 140737488355328 then some (true, s ++ ⟨#[UInt8.ofNat c.toNat]⟩) else none
theorem strings_Builder_WriteByte.con {K : Kn} [hk : KOk K] {k : Nat} {c : Int} {s : ByteArray} {r : Bool × ByteArray} (h : strings_Builder_WriteByte.f k c s = some r) :
    Con K Tryz.prog 103 [.ptr 1000 0 0, .p (.int .u8 c)] [(1000, (0, .bld 83 5 s))] (.p (.ifc r.1)) [(1000, (0, .bld 83 5 r.2))] := by
  unfold strings_Builder_WriteByte.f at h
  split at h
  case isFalse => cases h
  rename_i hc
  cases h
  have e : ((UInt8.ofNat c.toNat).toNat : Int) = c := by
    rw [UInt8.toNat_ofNat_of_lt' (show c.toNat < 256 by omega)]; omega
  exact con_bldW (avs := [.int .u8 c]) (cv := .nilIface) ⟨_, Tryz.func103, by kernel_rfl, by kernel_rfl⟩ (bld_args1 fun _ _ _ _ h => h.int) (fun _ _ _ => ra_gn) fun w b p v h => by
    have := Tryz.writeByte_ b p v s (UInt8.ofNat c.toNat) w h hc.2.2
    rw [e] at this
    exact this
def strings_Builder_String.f (k : Nat) (s : ByteArray) : Option (ByteArray × ByteArray) := some (s, s)
theorem strings_Builder_String.con {K : Kn} [hk : KOk K] {k : Nat} {s : ByteArray} {r : ByteArray × ByteArray} (h : strings_Builder_String.f k s = some r) :
    Con K Tryz.prog 66 [.ptr 1000 0 0] [(1000, (0, .bld 83 5 s))] (.p (.str r.1)) [(1000, (0, .bld 83 5 r.2))] := by
  unfold strings_Builder_String.f at h
  cases h
  exact con_bldW (avs := []) (cv := .string s) ⟨_, Tryz.func66, by kernel_rfl, by kernel_rfl⟩ bld_args0 (fun _ _ _ => ra_gs _) fun w b p v h => Tryz.string_ b p v s w h



def strconv_FormatInt.f (k : Nat) (n b : Int) : Option ByteArray :=
  if b = 10 ∧ -9223372036854775808 ≤ n ∧ n ≤ 9223372036854775807 then some ⟨(Lib.itoa n).toArray⟩ else none
theorem strconv_FormatInt.con {K : Kn} [hk : KOk K] {k : Nat} {n b : Int} {r : ByteArray} (h : strconv_FormatInt.f k n b = some r) :
    Con K Tryz.prog 105 [.p (.int .i64 n), .p (.int .i64 b)] [] (.p (.str r)) [] := by
  unfold strconv_FormatInt.f at h
  split at h
  case isFalse => cases h
  rename_i hc
  obtain ⟨rfl, h1, h2⟩ := hc
  cases h
  refine con_ext ⟨_, Tryz.func105, by kernel_rfl, by kernel_rfl⟩ ?_
  rintro w vs hK ⟨ι, hA⟩
  obtain ⟨v0, v1, rfl, a0, a1⟩ := ral2 hA
  obtain rfl := a0.int
  obtain rfl := a1.int
  refine (Tryz.strconv_FormatInt_10 n h1 (by omega) w (hk.known w hK).1).mono ?_
  rintro e w' ⟨rfl, kk, os, hw⟩
  exact ⟨_, rfl, by rw [hw]; exact Lib.below_grow _ _ (Nat.le_refl _) _ _, fun ι => ra_str _⟩
/-- How a parse ends: the number, and whether the error is nil. -/
def pint (l : List UInt8) : Int × Bool :=
  match Lib.parseIntB 64 l with
  | .ok v => (v, true)
  | .range => (Lib.intSat 64 l, false)
  | _ => (0, false)
theorem pint_ok {l : List UInt8} {v : Int} (h : Lib.parseIntB 64 l = .ok v) : pint l = (v, true) := by unfold pint; rw [h]
theorem pint_range {l : List UInt8} (h : Lib.parseIntB 64 l = .range) : pint l = (Lib.intSat 64 l, false) := by unfold pint; rw [h]
theorem pint_no {l : List UInt8} (h : ∀ v, Lib.parseIntB 64 l ≠ .ok v) (h' : Lib.parseIntB 64 l ≠ .range) : pint l = (0, false) := by
  unfold pint
  split
  · rename_i v hv; exact absurd hv (h v)
  · rename_i hv; exact absurd hv h'
  · rfl
theorem pint_bad {l : List UInt8} (h : ∀ v, Lib.parseIntB 64 l ≠ .ok v) : (pint l).2 = false := by
  unfold pint
  split
  · rename_i v hv; exact absurd hv (h v)
  · rfl
  · rfl
def strconv_ParseInt.f (k : Nat) (s : ByteArray) (b n : Int) : Option (Int × Bool) :=
  if b = 10 ∧ n = 64 ∧ s.size ≤ 281474976710656 then some (pint s.data.toList) else none
theorem strconv_ParseInt.con {K : Kn} [hk : KOk K] {k : Nat} {s : ByteArray} {b n : Int} {r : Int × Bool} (h : strconv_ParseInt.f k s b n = some r) :
    Con K Tryz.prog 120 [.p (.str s), .p (.int .i64 b), .p (.int .i64 n)] [] (.tup [.p (.int .i64 r.1), .p (.ifc r.2)]) [] := by
  unfold strconv_ParseInt.f at h
  split at h
  case isFalse => cases h
  rename_i hc
  obtain ⟨rfl, rfl, hs⟩ := hc
  refine con_ext ⟨_, Tryz.func120, by kernel_rfl, by kernel_rfl⟩ ?_
  rintro w vs hK ⟨ι, hA⟩
  obtain ⟨v0, v1, v2, rfl, a0, a1, a2⟩ := ral3 hA
  obtain rfl := a0.str
  obtain rfl := a1.int
  obtain rfl := a2.int
  obtain ⟨⟨es, hes, hesv⟩, er, her, herv⟩ := (hk.known w hK).2
  cases h
  by_cases h1 : ∃ v, Lib.parseIntB 64 s.data.toList = .ok v
  · obtain ⟨v, hv⟩ := h1
    rw [pint_ok hv]
    refine (Tryz.strconv_ParseInt_10_at64_ok s (by omega) v hv w).mono ?_
    rintro e w' ⟨rfl, hw⟩
    refine ⟨_, rfl, ?_, fun ι => ra_tup2 (ra_int _ _) ra_nil⟩
    rcases hw with rfl | ⟨t, rfl⟩
    · exact Below.refl _ _
    · exact Lib.bytesWorld_below _ _ _
  · have h1' : ∀ v, Lib.parseIntB 64 s.data.toList ≠ .ok v := fun v hv => h1 ⟨v, hv⟩
    by_cases h2 : Lib.parseIntB 64 s.data.toList = .range
    · rw [pint_range h2]
      refine (Tryz.strconv_ParseInt_10_at64_range s hs h2 er w her herv).mono ?_
      rintro e w' ⟨N, rfl, _, _, hb⟩
      exact ⟨_, rfl, hb, fun ι => ra_tup2 (ra_int _ _) (ra_ifc _ _)⟩
    · rw [pint_no h1' h2]
      refine (Tryz.parse_none s hs h1' h2 es w hes hesv).mono ?_
      rintro e w' ⟨N, rfl, _, _, hb⟩
      exact ⟨_, rfl, hb, fun ι => ra_tup2 (ra_int _ _) (ra_ifc _ _)⟩
def strings_Repeat.f (k : Nat) (s : ByteArray) (c : Int) : Option ByteArray := if 0 ≤ c ∧ c ≤ 9223372036854775807 ∧ s.size * c.toNat ≤ 140737488355328 then some ⟨(Lib.repeatL s.data.toList c.toNat).toArray⟩ else none
theorem strings_Repeat.con {K : Kn} [hk : KOk K] {k : Nat} {s : ByteArray} {c : Int} {r : ByteArray} (h : strings_Repeat.f k s c = some r) :
    Con K Tryz.prog 73 [.p (.str s), .p (.int .i64 c)] [] (.p (.str r)) [] := by
  unfold strings_Repeat.f at h
  split at h
  case isFalse => cases h
  rename_i hc
  cases h
  refine con_ext ⟨_, Tryz.func73, by kernel_rfl, by kernel_rfl⟩ ?_
  rintro w vs hK ⟨ι, hA⟩
  obtain ⟨v0, v1, rfl, a0, a1⟩ := ral2 hA
  obtain rfl := a0.str
  obtain rfl := a1.int
  have e : (c.toNat : Int) = c := by omega
  have q := Tryz.strings_Repeat s c.toNat w (by omega) hc.2.2
  rw [e] at q
  refine q.mono ?_
  rintro e w' ⟨rfl, hb⟩
  exact ⟨_, rfl, hb, fun ι => ra_str _⟩
end Go.Ab
