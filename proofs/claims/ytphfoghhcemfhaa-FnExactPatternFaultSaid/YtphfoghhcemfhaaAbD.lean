/- What abstract values say of a machine's values and memory; what a call's contract is. No condition. -/
import Derived.Test.YtphfoghhcemfhaaAbA
namespace Go.Ab
set_option linter.unusedVariables false
set_option linter.unusedSimpArgs false

/-- A value that stands in cells that nobody writes (Ow: the cells that may still be written). -/
inductive Rp (Ow : Nat → Nat → Prop) (w : World) : Value → PV → Prop
 | int (k : IntKind) (n : Int) : Rp Ow w (.int k n) (.int k n)
 | bool (b : Bool) : Rp Ow w (.bool b) (.bool b)
 | str (s : ByteArray) : Rp Ow w (.string s) (.str s)
 | nilS : Rp Ow w (.slice none 0 0) .nilS
 | nilI : Rp Ow w .nilIface .nilI
 | nilP : Rp Ow w (.pointer none) .nilP
 | nilF : Rp Ow w .nilFunc .nilF
 | nilM : Rp Ow w (.map none) .nilM
 | fn (f : FuncId) : Rp Ow w (.func (.func f) #[] #[]) (.fn f)
 | ifc (v : Value) (b : Bool) (h : b = true → v = .nilIface) (h' : b = false → ∃ t x, v = .iface t x) : Rp Ow w v (.ifc b)
 | lst (A : Option Addr) (cap sz : Nat) (full : Bool) (rows : Rows) (u : Nat → Nat → Value) (hcap : rows.length ≤ cap) (hfull : full = true → cap = rows.length)
   (hsz : ∀ (i : Nat) (row : List PV), rows[i]? = some row → row.length = sz)
   (hc : ∀ (i : Nat) (row : List PV) (j : Nat) (c : PV), rows[i]? = some row → row[j]? = some c → ∃ ad, A = some ad ∧ w.cell? (ad.add (i * sz + j)) = some (u i j) ∧ ¬ Ow ad.block (ad.off + (i * sz + j)))
   (hr : ∀ (i : Nat) (row : List PV) (j : Nat) (c : PV), rows[i]? = some row → row[j]? = some c → Rp Ow w (u i j) c) : Rp Ow w (.slice A rows.length cap) (.lst full rows)

/-- Where an own object lies: its block; for rows that grow: where they begin, their room, a row's cells. -/
structure CA where
 blk : Nat
 base : Option Addr
 cap : Nat
 sz : Nat

/-- Where the own objects lie, and which cells belong to nobody here. -/
structure Fr where
 X : Nat → Nat → Prop
 G : Kn
structure Pl where
 loc : Nat → CA
 fr : Fr
instance : CoeFun Pl (fun _ => Nat → CA) := ⟨Pl.loc⟩
def OwnK (c : CA) (ob : Ob) (b o : Nat) : Prop :=
  match ob with
  | .cells _ => c.blk = b
  | .tip _ n => ∃ ad, c.base = some ad ∧ ad.block = b ∧ ad.off + n * c.sz ≤ o ∧ o < ad.off + c.cap * c.sz
  | .buf _ _ => ∃ ad, c.base = some ad ∧ ad.block = b
  | .map _ _ _ => c.blk = b
  | .gone => False
def OwnM (ι : Pl) (m : Mem) (b o : Nat) : Prop := ∃ k g ob, lk m k = some (g, ob) ∧ OwnK (ι k) ob b o
def Own (ι : Pl) (m : Mem) (b o : Nat) : Prop := ι.fr.X b o ∨ OwnM ι m b o

inductive Ra (ι : Pl) (m : Mem) (w : World) : Value → AV → Prop
 | u (v : Value) : Ra ι m w v .u
 | und : Ra ι m w undef .und
 | p (v : Value) (pv : PV) (h : Rp (Own ι m) w v pv) : Ra ι m w v (.p pv)
 | agg (vs : Array Value) (cs : List AV) (hl : vs.size = cs.length) (hone : ∀ v ∈ vs.toList, v.oneCell' = true) (h : ∀ (i : Nat) (v : Value) (c : AV), vs[i]? = some v → cs[i]? = some c → Ra ι m w v c) : Ra ι m w (.agg vs) (.agg cs)
 | tup (vs : Array Value) (cs : List AV) (hl : vs.size = cs.length) (h : ∀ (i : Nat) (v : Value) (c : AV), vs[i]? = some v → cs[i]? = some c → Ra ι m w v c) : Ra ι m w (.tuple vs) (.tup cs)
 | ptr (v : Value) (k g off : Nat) (h1 : v.oneCell' = true) (hg : g ≤ (ent m k).1) (h : ∀ cs, lk m k = some (g, .cells cs) → v = .pointer (some ⟨(ι k).blk, off, none⟩)) : Ra ι m w v (.ptr k g off)
 | cptr (ad : Addr) (cells : List PV) (u : Nat → Value) (hs : ad.spot = none) (h : ∀ (j : Nat) (c : PV), cells[j]? = some c → w.cell? (ad.add j) = some (u j) ∧ ¬ Own ι m ad.block (ad.off + j)) (hr : ∀ (j : Nat) (c : PV), cells[j]? = some c → Rp (Own ι m) w (u j) c) : Ra ι m w (.pointer (some ad)) (.cptr cells)
 | tip (v : Value) (k g : Nat) (rows : Rows) (hg : g ≤ (ent m k).1) (hp : Rp (Own ι m) w v (.lst false rows))
   (h : ∀ s n, lk m k = some (g, .tip s n) → rows.length ≤ n ∧ (rows.length = n → v = .slice (ι k).base n (ι k).cap ∧ ∀ row ∈ rows, row.length = (ι k).sz)) : Ra ι m w v (.tip k g rows)
 | buf (v : Value) (k g lo n : Nat) (h1 : v.oneCell' = true) (hg : g ≤ (ent m k).1) (h : ∀ s rows, lk m k = some (g, .buf s rows) → lo + n ≤ rows.length ∧ ∃ A, v = .slice A n ((ι k).cap - lo) ∧ (lo < (ι k).cap → A = (ι k).base.map fun ad => ad.add (lo * (ι k).sz))) : Ra ι m w v (.buf k g lo n)
 | eptr (v : Value) (k g i off : Nat) (h1 : v.oneCell' = true) (hg : g ≤ (ent m k).1) (h : ∀ s rows, lk m k = some (g, .buf s rows) → ∃ ad, (ι k).base = some ad ∧ v = .pointer (some (ad.add (i * (ι k).sz + off)))) : Ra ι m w v (.eptr k g i off)
 | mp (v : Value) (k g : Nat) (h1 : v.oneCell' = true) (hg : g ≤ (ent m k).1) (h : ∀ mk ag es, lk m k = some (g, .map mk ag es) → v = .map (some (ι k).blk)) : Ra ι m w v (.mp k g)
 | clo (f : FuncId) (first caps : Array Value) (fs cs : List AV) (hl1 : first.size = fs.length) (hl2 : caps.size = cs.length) (h1 : ∀ (i : Nat) (v : Value) (c : AV), first[i]? = some v → fs[i]? = some c → Ra ι m w v c) (h2 : ∀ (i : Nat) (v : Value) (c : AV), caps[i]? = some v → cs[i]? = some c → Ra ι m w v c) : Ra ι m w (.func (.func f) first caps) (.clo f fs cs)

/-- A map's key, as a value. -/
def kval : PV → Value
 | .int k n => .int k n
 | .str s => .string s
 | _ => undef
/-- What a map's entry holds. -/
def MvOk (Ow : Nat → Nat → Prop) (w : World) (ag : Bool) (v : Value) (row : List PV) : Prop :=
  (ag = false → ∃ p, row = [p] ∧ Rp Ow w v p) ∧ (ag = true → ∃ vs : Array Value, v = .agg vs ∧ vs.size = row.length ∧ ∀ (j : Nat) (u : Value) (p : PV), vs[j]? = some u → row[j]? = some p → Rp Ow w u p)
/-- What an own object's block holds. -/
def ObOk (ι : Pl) (m : Mem) (w : World) (c : CA) : Ob → Prop
 | .cells cs => ∃ vs t, w.heap[c.blk]? = some (.cells vs t (0, 0)) ∧ vs.size = cs.length ∧ ∀ (i : Nat) (v : Value) (a : AV), vs[i]? = some v → cs[i]? = some a → Ra ι m w v a ∧ v.oneCell' = true
 | .tip s n => c.sz = s ∧ n ≤ c.cap ∧ (n * c.sz < c.cap * c.sz → ∃ ad vs t, c.base = some ad ∧ ad.spot = none ∧ w.heap[ad.block]? = some (.cells vs t (0, 0)) ∧ ad.off + c.cap * c.sz ≤ vs.size)
 | .buf s rows => c.sz = s ∧ rows.length ≤ c.cap ∧ (c.base = none → c.cap = 0) ∧ (∀ row ∈ rows, row.length = c.sz) ∧
   ∀ ad, c.base = some ad → ad.off = 0 ∧ ad.spot = none ∧ ∃ vs t, w.heap[ad.block]? = some (.cells vs t (0, 0)) ∧ vs.size = c.cap * c.sz ∧
     ∀ (i j : Nat) (row : List PV) (pv : PV), rows[i]? = some row → row[j]? = some pv → ∃ v, vs[i * c.sz + j]? = some v ∧ Rp (Own ι m) w v pv ∧ v.oneCell' = true
 | .map mk ag es => ∃ ents : Array MapEntry, w.heap[c.blk]? = some (.map ents es.length) ∧ ents.size = es.length ∧ ∀ (i : Nat) (en : MapEntry) (q : PV × List PV), ents[i]? = some en → es[i]? = some q → en.born = i ∧ kOf mk q.1 = true ∧ en.key = kval q.1 ∧ MvOk (Own ι m) w ag en.val q.2
 | .gone => True
/-- Known blocks stand, and nobody writes them. -/
def GK (ι : Pl) (m : Mem) (w : World) : Prop := ∀ p ∈ ι.fr.G, w.heap[p.1]? = some p.2 ∧ ∀ o, ¬ Own ι m p.1 o
structure MemOk (ι : Pl) (m : Mem) (w : World) : Prop where
 ok : ∀ k g ob, lk m k = some (g, ob) → ObOk ι m w (ι k) ob
 apart : ∀ k k' g g' ob ob' b o o', lk m k = some (g, ob) → lk m k' = some (g', ob') → OwnK (ι k) ob b o → OwnK (ι k') ob' b o' → k = k'
 xlt : ∀ b o, ι.fr.X b o → b < w.heap.size
 xapart : ∀ k g ob b o o', lk m k = some (g, ob) → OwnK (ι k) ob b o → ¬ ι.fr.X b o'
 gk : GK ι m w

/-- What a stretch of the run leaves alone. -/
structure Evo (Ow : Nat → Nat → Prop) (w : World) (Ow' : Nat → Nat → Prop) (w' : World) : Prop where
 os : w'.os = w.os
 tape : w'.tape = w.tape
 output : w'.output = w.output
 size : w.heap.size ≤ w'.heap.size
 blk : ∀ b, b < w.heap.size → (∀ o, ¬ Ow b o) → w'.heap[b]? = w.heap[b]?
 cell : ∀ a : Addr, a.block < w.heap.size → ¬ Ow a.block a.off → w'.cell? a = w.cell? a
 own : ∀ b o, Ow' b o → Ow b o ∨ w.heap.size ≤ b

/-- Which own objects are the same before and after. -/
def Compat (ι : Pl) (ob : Ob) (ι' : Pl) (ob' : Ob) (k : Nat) : Prop :=
  match ob' with
  | .cells _ => (∃ cs, ob = .cells cs) ∧ (ι' k).blk = (ι k).blk
  | .tip s n' => ∃ n, ob = .tip s n ∧ n ≤ n' ∧ (n = n' → ι' k = ι k)
  | .buf s rows' => (∃ rows, ob = .buf s rows ∧ rows.length = rows'.length) ∧ ι' k = ι k
  | .map mk ag es' => (∃ es, ob = .map mk ag es) ∧ (ι' k).blk = (ι k).blk
  | .gone => True
def Keys (ι : Pl) (m : Mem) (ι' : Pl) (m' : Mem) : Prop :=
  (∀ k, (ent m k).1 ≤ (ent m' k).1) ∧ ∀ k g ob', lk m' k = some (g, ob') → (∃ ob, lk m k = some (g, ob) ∧ Compat ι ob ι' ob' k) ∨ (ent m k).1 < g ∨ ob' = .gone

def RaL (ι : Pl) (m : Mem) (w : World) (vs : Array Value) (as : List AV) : Prop :=
  vs.size = as.length ∧ ∀ (i : Nat) (v : Value) (a : AV), vs[i]? = some v → as[i]? = some a → Ra ι m w v a

def FnOk (P : Program) (f : FuncId) : Prop := ∃ fn, P.funcs[f]? = some fn ∧ (fn.name == "runtime.NumGoroutine") = false ∧ fn.body.isSome = true
/-- A call's contract: arguments and the own objects that they reach; the answer and what these objects hold then. -/
def Con (K : Kn) (P : Program) (f : FuncId) (args : List AV) (m : Mem) (v : AV) (m' : Mem) : Prop :=
  FnOk P f ∧ ∀ (ι : Pl) (w : World) (cargs : Array Value), (∀ p ∈ K, p ∈ ι.fr.G) → MemOk ι m w → RaL ι m w cargs args →
    Calls P f cargs w fun e w' => ∃ ι' cv, e = .returned cv ∧ MemOk ι' m' w' ∧ Ra ι' m' w' cv v ∧ Evo (OwnM ι m) w (OwnM ι' m') w' ∧ Keys ι m ι' m' ∧ ι'.fr = ι.fr

/-- The frame of one function. -/
structure Ctx where
 P : Program
 f : FuncId
 ι0 : Pl
 m0 : Mem
 w0 : World
 res : AV
 mem : Mem
 hint : Hn
 kg : ∀ p ∈ hint.2.2, p ∈ ι0.fr.G

structure Rel (C : Ctx) (st : St) (a : Act) (w : World) (ι : Pl) : Prop where
 size : a.tmps.size = C.hint.1
 defers : a.defers = []
 mem : MemOk ι st.mem w
 fr : ∀ t, Ra ι st.mem w (a.tmps.getD t undef) (fget st.fr t)
 evo : Evo (OwnM C.ι0 C.m0) C.w0 (OwnM ι st.mem) w
 keys : Keys C.ι0 C.m0 ι st.mem
 x : ι.fr = C.ι0.fr

def Post (C : Ctx) (e : Ending) (w' : World) : Prop :=
  ∃ ι' cv, e = .returned cv ∧ MemOk ι' C.mem w' ∧ Ra ι' C.mem w' cv C.res ∧ Evo (OwnM C.ι0 C.m0) C.w0 (OwnM ι' C.mem) w' ∧ Keys C.ι0 C.m0 ι' C.mem ∧ ι'.fr = C.ι0.fr

/-- From here on the function ends as its contract says. -/
def Fin (C : Ctx) (todo : List Item) (a : Act) (w : World) : Prop :=
  ∀ (b : Frame) (cs : List Frame), b.fn = C.f → b.kind = .normal →
    ∃ e w' fr, Post C e w' ∧ Comes C.P (lone (b.at a todo) cs w) (lone fr cs w') e ∧ fr.fn = C.f ∧ fr.leaving C.P w' e
def Good (C : Ctx) (todo : List Item) (st : St) : Prop := ∀ a w ι, Rel C st a w ι → Fin C todo a w

/-- Names: a callee's own object, its generation there; whose it is here, and its generation. -/
abbrev Sg := List (Nat × (Nat × Nat × Nat))
def rk (σ : Sg) (k g : Nat) : Option (Nat × Nat) :=
  match lk σ k with
  | some (g0, k', g') => bif g == g0 then some (k', g') else none
  | none => none
def ren1 (σ : Sg) : AV → AV
 | .p v => .p v
 | .ptr k g off => match rk σ k g with | some (k', g') => .ptr k' g' off | none => .u
 | .cptr c => .cptr c
 | .tip k g rows => match rk σ k g with | some (k', g') => .tip k' g' rows | none => .p (.lst false rows)
 | .buf k g lo n => match rk σ k g with | some (k', g') => .buf k' g' lo n | none => .u
 | .eptr k g i off => match rk σ k g with | some (k', g') => .eptr k' g' i off | none => .u
 | .mp k g => match rk σ k g with | some (k', g') => .mp k' g' | none => .u
 | _ => .u
def renB (σ : Sg) : AV → AV
 | .agg cs => .agg (cs.map (ren1 σ))
 | v => ren1 σ v
def renA (σ : Sg) : AV → AV
 | .tup vs => .tup (vs.map (renB σ))
 | .clo f a b => .clo f (a.map (ren1 σ)) (b.map (ren1 σ))
 | v => renB σ v
def renO (σ : Sg) : Ob → Ob
 | .cells cs => .cells (cs.map (ren1 σ))
 | o => o
/-- All names are there. -/
def ok1 (σ : Sg) : AV → Bool
 | .p _ => true
 | .cptr _ => true
 | .u => true
 | .ptr k g _ => (rk σ k g).isSome
 | .tip k g _ => (rk σ k g).isSome
 | .buf k g _ _ => (rk σ k g).isSome
 | .eptr k g _ _ => (rk σ k g).isSome
 | .mp k g => (rk σ k g).isSome
 | _ => false
def okB (σ : Sg) : AV → Bool
 | .agg cs => cs.all (ok1 σ)
 | v => ok1 σ v
def okA (σ : Sg) : AV → Bool
 | .clo _ a b => a.all (ok1 σ) && b.all (ok1 σ)
 | v => okB σ v
def okT (σ : Sg) : AV → Bool
 | .tup vs => vs.all (okB σ)
 | v => okA σ v
def okO (σ : Sg) : Ob → Bool
 | .cells cs => cs.all (ok1 σ)
 | _ => true
/-- Side by side. -/
inductive F2 {α : Type} (R : α → α → Prop) : List α → List α → Prop
 | nil : F2 R [] []
 | cons {a b : α} {as bs : List α} (h : R a b) (t : F2 R as bs) : F2 R (a :: as) (b :: bs)
/-- The first says all that the second says. -/
inductive Le : AV → AV → Prop
 | refl (a : AV) : Le a a
 | u (a : AV) : Le a .u
 | nil (b : Bool) : Le (.p .nilS) (.p (.lst b []))
 | full (rows : Rows) : Le (.p (.lst true rows)) (.p (.lst false rows))
 | tip (k g : Nat) (rows : Rows) : Le (.tip k g rows) (.p (.lst false rows))
inductive LeA : AV → AV → Prop
 | of (a b : AV) (h : Le a b) : LeA a b
 | clo (f : FuncId) (as bs as' bs' : List AV) (h : F2 Le as as') (h' : F2 Le bs bs') : LeA (.clo f as bs) (.clo f as' bs')
 | agg (as bs : List AV) (h : F2 Le as bs) : LeA (.agg as) (.agg bs)
inductive LeT : AV → AV → Prop
 | of (a b : AV) (h : LeA a b) : LeT a b
 | tup (as bs : List AV) (h : F2 LeA as bs) : LeT (.tup as) (.tup bs)
def LeO : Ob → Ob → Prop
 | .cells as, .cells bs => F2 Le as bs
 | .tip s a, .tip t b => s = t ∧ a = b
 | .buf s a, .buf t b => s = t ∧ a = b
 | .map mk ag a, .map mk' ag' b => (mk, ag, a) = (mk', ag', b)
 | _, .gone => True
 | _, _ => False

/-- Which function a called value is. -/
def fnOf : AV → Option (FuncId × List AV × List AV)
 | .p (.fn f) => some (f, [], [])
 | .clo f a b => some (f, a, b)
 | _ => none
/-- The names that the callee knows when it is called. -/
def inn (σ : Sg) (mc : Mem) : Sg := σ.filter fun q => (lk mc q.1).isSome
/-- The callee's own objects among the caller's. -/
def Fits (σ : Sg) (mc : Mem) (m : Mem) : Prop :=
  (∀ q ∈ mc, okO (inn σ mc) q.2.2 = true ∧ ∃ k' g' ob, lk σ q.1 = some (q.2.1, k', g') ∧ lk m k' = some (g', ob) ∧ LeO ob (renO σ q.2.2)) ∧ (σ.map (·.2.2.1)).Nodup ∧ (mc.map (·.1)).Nodup ∧ (σ.map (·.1)).Nodup
def back (σ : Sg) (m : Mem) : Mem → Mem
 | [] => m
 | (k, (g, ob)) :: r => match lk σ k with | some (_, k', g') => (k', (g', renO σ ob)) :: back σ m r | none => back σ m r
/-- What stands of the callee's objects behind the call; new ones at new names. -/
def FitsOut (σ : Sg) (mc mc' : Mem) (m : Mem) : Prop :=
  (∀ q ∈ mc', ∃ k' g', lk σ q.1 = some (q.2.1, k', g') ∧ ((lk mc q.1).isSome = true ∨ (ent m k').1 < g')) ∧ (mc'.map (·.1)).Nodup ∧ ∀ q ∈ σ, (lk mc' q.1).isSome = true
/-- The run of a region's operations. -/
inductive AR (P : Program) (H : Hn) (all : List Oper) : Nat → List Oper → St → Fp → St → Prop
 | nil (j : Nat) (st : St) : AR P H all j [] st [] st
 | skip (j : Nat) (o : Oper) (r : List Oper) (st st' : St) (F : Fp) (h : de all st.fr o = .skip) (hd : dstOk H.1 o.dst = true) (hr : AR P H all (j + 1) r (st.put o.dst .und) F st') : AR P H all j (o :: r) st F st'
 | op (j : Nat) (o : Oper) (r : List Oper) (st st1 st' : St) (F : Fp) (h : de all st.fr o = .op) (hd : dstOk H.1 o.dst = true) (hs : stepOp P H o st = some st1) (hr : AR P H all (j + 1) r st1 F st') : AR P H all j (o :: r) st (fpOf j o st ++ F) st'
 | call (j : Nat) (o : Oper) (r : List Oper) (st st' : St) (F : Fp) (fv : Operand) (args : Array Operand) (ts : Array TypeId) (f : FuncId) (first caps : List AV) (σ : Sg) (cargs : List AV) (mc mc' : Mem) (v : AV)
   (h : de all st.fr o = .call) (hd : dstOk H.1 o.dst = true) (hop : o.op = .call { callee := .value fv, args := args, argTypes := ts }) (hf : fnOf (oget st.fr fv) = some (f, first, caps)) (hcon : Con H.2.2 P f cargs mc v mc')
   (hargs : F2 LeA (first ++ args.toList.map (oget st.fr) ++ caps) (cargs.map (renA σ))) (hok : cargs.all (okA (inn σ mc)) = true) (hm : Fits σ mc st.mem) (ho : FitsOut σ mc mc' st.mem)
   (hr : AR P H all (j + 1) r ({ st with mem := back σ st.mem mc' }.put o.dst (renA σ v)) F st') : AR P H all j (o :: r) st (σ.map (fun q => (j, q.2.2.1, true)) ++ F) st'

/-- Does j stand behind i, by the edges? -/
def behind (all : List Oper) : Nat → Nat → Nat → Bool
 | 0, _, _ => false
 | n + 1, i, j => match all[j]? with
   | some o => o.after.any fun e => Region.binds .any e && (e.on == i || behind all n i e.on)
   | none => false
def chk (all : List Oper) (F : Fp) : Bool :=
  ((List.range all.length).all fun j => match all[j]? with | some o => o.after.all fun e => !Region.binds .any e || Nat.blt e.on j | none => true) &&
  (List.range all.length).all fun j => (List.range j).all fun i => behind all all.length i j ||
    ((match all[i]?, all[j]? with | some x, some y => x.apart all.toArray y | _, _ => true) &&
     F.all fun p => p.1 != i || F.all fun q => q.1 != j || p.2.1 != q.2.1 || !(p.2.2 || q.2.2))

end Go.Ab
