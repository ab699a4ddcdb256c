/- Abstract values and abstract memory: what a Go function's slots hold, told as plain data, and how its operations act on them. No condition. -/
import Derived.Orders
import Derived.RowKit3
namespace Go.Ab
set_option linter.unusedVariables false
set_option linter.unusedSimpArgs false

/-- Values that no later write turns: one cell each, or a slice whose rows stand. -/
inductive PV where
 | int (k : IntKind) (n : Int)
 | bool (b : Bool)
 | str (s : ByteArray)
 | nilS
 | lst (full : Bool) (rows : List (List PV))
 | nilI
 | nilP
 | nilF
 | fn (f : FuncId)
 | ifc (b : Bool)
 | nilM
abbrev Rows := List (List PV)
/-- A map's keys: of one kind of int, or texts. -/
inductive MK where
 | int (k : IntKind)
 | str
abbrev Ents := List (PV × List PV)
/-- What a slot or a cell of the function's own memory holds. -/
inductive AV where
 | u
 | und
 | p (v : PV)
 | agg (cs : List AV)
 | tup (vs : List AV)
 | ptr (k g off : Nat)
 | cptr (cells : List PV)
 | tip (k g : Nat) (rows : Rows)
 | buf (k g lo n : Nat)
 | eptr (k g i off : Nat)
 | clo (f : FuncId) (first caps : List AV)
 | mp (k g : Nat)
inductive Ob where
 | cells (cs : List AV)
 | tip (s n : Nat)
 | buf (s : Nat) (rows : Rows)
 | map (mk : MK) (ag : Bool) (es : Ents)
 | gone
abbrev Mem := List (Nat × (Nat × Ob))
structure St where
 fr : List (Nat × AV)
 mem : Mem

def lk {α : Type} : List (Nat × α) → Nat → Option α
 | [], _ => none
 | (k, v) :: r, t => bif k == t then some v else lk r t
def ent (m : Mem) (k : Nat) : Nat × Ob := (lk m k).getD (0, .gone)
def fget (fr : List (Nat × AV)) (t : Nat) : AV := (lk fr t).getD .u

def cell1 : Value → AV
 | .int k n => .p (.int k n)
 | .bool b => .p (.bool b)
 | .string s => .p (.str s)
 | .slice none 0 0 => .p .nilS
 | .nilIface => .p .nilI
 | .pointer none => .p .nilP
 | .map none => .p .nilM
 | .nilFunc => .p .nilF
 | .func (.func f) a b => bif a.isEmpty && b.isEmpty then .p (.fn f) else .u
 | _ => .u
def cellsC : List Value → Option (List AV)
 | [] => some []
 | .agg _ :: _ => none
 | .tuple _ :: _ => none
 | v :: r => (cellsC r).map (cell1 v :: ·)
def aggC : Option (List AV) → AV
 | some l => .agg l
 | none => .u
def ofConst : Value → AV
 | .agg cs => aggC (cellsC cs.toList)
 | v => cell1 v
def oget (fr : List (Nat × AV)) : Operand → AV
 | .tmp t => fget fr t
 | .const v => ofConst v
 | .func f => .p (.fn f)
 | .global _ => .u

def AV.cells : AV → Option (List AV)
 | .agg cs => some cs
 | .tup _ => none
 | .u => none
 | .und => none
 | v => some [v]
def PV.std : PV → PV
 | .nilS => .lst false []
 | .lst _ rows => .lst false rows
 | v => v
def AV.pv : AV → Option PV
 | .p v => some v.std
 | .tip _ _ rows => some (.lst false rows)
 | _ => none
def AV.rows : AV → Option Rows
 | .p .nilS => some []
 | .p (.lst _ rows) => some rows
 | .tip _ _ rows => some rows
 | _ => none
def pvs : List AV → Option (List PV)
 | [] => some []
 | a :: r => a.pv.bind fun x => (pvs r).map (x :: ·)

-- types
def zeroCells (P : Program) (t : TypeId) : Option (List AV) := ((P.info? t).bind (·.zero)).bind fun z => (ofConst z).cells
def isAggB (P : Program) (t : TypeId) : Option Bool := (P.underlying t).map fun | .struct _ | .array _ _ => true | _ => false
def tsize (P : Program) (t : TypeId) : Option Nat := (P.info? t).map (·.size)
def fieldOf (P : Program) (s : TypeId) (i : Nat) : Option (Nat × TypeId) :=
  match P.underlying s with
  | some (.struct fs) => (fs[i]?).map fun f => (f.offset, f.type)
  | _ => none
/-- The elements' type of a slice's type, and their size. -/
def sliceOf (P : Program) (t : TypeId) : Option Nat :=
  match P.underlying t with
  | some (.slice e) => (P.info? e).bind fun i => i.zero.bind fun z => if i.bytes ≤ 2048 ∧ z.cells.size = i.size then some i.size else none
  | _ => none
def notIntT (P : Program) (t : TypeId) : Bool := match P.underlying t with | some (.int _) => false | some _ => true | none => false
def arrOf (P : Program) (t : TypeId) : Option (Nat × Nat) :=
  match P.underlying t with
  | some (.array n e) => (tsize P e).map fun s => (n, s)
  | _ => none
inductive TK where
 | int (k : IntKind) | str | bytes | other
def tkind (P : Program) (t : TypeId) : TK :=
  match P.underlying t with
  | some (.int k) => .int k
  | some .string => .str
  | some (.slice e) => (match P.underlying e with | some (.int .u8) => .bytes | _ => .other)
  | _ => .other
def isBoolT (P : Program) (t : TypeId) : Bool := match P.underlying t with | some .bool => true | _ => false

-- partial operations, told over plain data
def isStrT (P : Program) (t : TypeId) : Bool := match P.underlying t with | some .string => true | _ => false
def ix {α : Type} (l : List α) (n : Int) : Option α := if 0 ≤ n then l[n.toNat]? else none
def bix (s : ByteArray) (n : Int) : Option Int := if 0 ≤ n then (s.data[n.toNat]?).map fun b => (b.toNat : Int) else none
def sub (s : ByteArray) (lo hi : Int) : Option ByteArray := if 0 ≤ lo ∧ lo ≤ hi ∧ hi ≤ s.size then some (s.extract lo.toNat hi.toNat) else none
def lsub {α : Type} (l : List α) (lo hi : Int) : Option (List α) := if 0 ≤ lo ∧ lo ≤ hi ∧ hi ≤ l.length then some ((l.drop lo.toNat).take (hi.toNat - lo.toNat)) else none
def cat (a b : ByteArray) : Option ByteArray := if a.size + b.size ≤ 9223372036854775807 then some (a ++ b) else none
def app {α : Type} (a b : List α) : Option (List α) := if a.length + b.length ≤ 68719476736 then some (a ++ b) else none
def istr (n : Int) : ByteArray := Utf8.encode n
def slt (a b : ByteArray) : Bool := Op.bytesLess a.toList b.toList
def quo (k : IntKind) (a b : Int) : Option Int := if b = 0 then none else some (k.wrap (a.tdiv b))
def rem (a b : Int) : Option Int := if b = 0 then none else some (a.tmod b)
def brow (b : UInt8) : List PV := [.int .u8 b.toNat]
def bytesOf (s : ByteArray) : Rows := s.data.toList.map brow
def irow (k : IntKind) (n : Int) : List PV := [.int k n]
def rowsOk (s : Nat) : Rows → Bool
 | [] => true
 | r :: rs => r.length == s && rowsOk s rs
def mks {α : Type} (z : α) (n c : Int) : Option (List α) := if 0 ≤ n ∧ n ≤ c ∧ c ≤ 68719476736 then some (List.replicate n.toNat z) else none
def bnd (lo hi n : Int) : Option Unit := if 0 ≤ lo ∧ lo ≤ hi ∧ hi ≤ n then some () else none
def inr (i : Int) (n : Nat) : Option Unit := if 0 ≤ i ∧ i < n then some () else none
def setr {α : Type} (l : List α) (i : Nat) (x : α) : List α := l.set i x
def unint (k : IntKind) : Rows → Option (List Int)
 | [] => some []
 | [.int k' n] :: r => if k = k' then (unint k r).map (n :: ·) else none
 | _ => none
def bstr (l : List Int) : ByteArray := ⟨(l.map fun n => UInt8.ofNat n.toNat).toArray⟩

-- maps, told as lists of entries, the oldest first
def keyEq : PV → PV → Bool
 | .int _ a, .int _ b => a == b
 | .str a, .str b => decide (a = b)
 | _, _ => false
def kOf : MK → PV → Bool
 | .int k, .int k' _ => decide (k = k')
 | .str, .str _ => true
 | _, _ => false
def mfind (key : PV) : Ents → Nat → Option (Nat × List PV)
 | [], _ => none
 | (k, v) :: r, i => bif keyEq key k then some (i, v) else mfind key r (i + 1)
def mrow (key : PV) (es : Ents) (z : List PV) : List PV := match mfind key es 0 with | some (_, v) => v | none => z
def mhas (key : PV) (es : Ents) : Bool := (mfind key es 0).isSome
def midx (key : PV) (es : Ents) : Nat := match mfind key es 0 with | some (i, _) => i | none => es.length
def ment (key : PV) (es : Ents) (z : List PV) : Ents := bif mhas key es then es else es ++ [(key, z)]
def mset1 (i : Nat) (v : List PV) (es : Ents) : Ents := es.modify i fun q => (q.1, v)
def mput (key : PV) (v : List PV) (es : Ents) : Ents := match mfind key es 0 with | some (i, _) => mset1 i v es | none => es ++ [(key, v)]
/-- .. and over lists of typed entries. -/
def tfind {α β : Type} [DecidableEq α] (key : α) : List (α × β) → Nat → Option (Nat × β)
 | [], _ => none
 | (k, v) :: r, i => bif decide (key = k) then some (i, v) else tfind key r (i + 1)
def tget {α β : Type} [DecidableEq α] (l : List (α × β)) (key : α) (z : β) : β := match tfind key l 0 with | some (_, v) => v | none => z
def thas {α β : Type} [DecidableEq α] (l : List (α × β)) (key : α) : Bool := (tfind key l 0).isSome
def tidx {α β : Type} [DecidableEq α] (l : List (α × β)) (key : α) : Nat := match tfind key l 0 with | some (i, _) => i | none => l.length
def tent {α β : Type} [DecidableEq α] (l : List (α × β)) (key : α) (z : β) : List (α × β) := bif thas l key then l else l ++ [(key, z)]
def tset1 {α β : Type} (l : List (α × β)) (i : Nat) (v : β) : List (α × β) := l.modify i fun q => (q.1, v)
def tput {α β : Type} [DecidableEq α] (l : List (α × β)) (key : α) (v : β) : List (α × β) := match tfind key l 0 with | some (i, _) => tset1 l i v | none => l ++ [(key, v)]
/-- Is the stamp one of an entry? -/
def tst {α : Type} (l : List α) (n : Int) : Option Unit := if 0 ≤ n ∧ n < l.length then some () else none
def ei {β : Type} (k : IntKind) (f : β → List PV) (q : Int × β) : PV × List PV := (.int k q.1, f q.2)
def es {β : Type} (f : β → List PV) (q : ByteArray × β) : PV × List PV := (.str q.1, f q.2)

def intOp (op : BinOp) (k : IntKind) (a b : Int) : Option AV :=
  match op with
  | .add => some (.p (.int k (k.wrap (a + b))))
  | .sub => some (.p (.int k (k.wrap (a - b))))
  | .mul => some (.p (.int k (k.wrap (a * b))))
  | .quo => (quo k a b).map fun n => .p (.int k n)
  | .rem => (rem a b).map fun n => .p (.int k n)
  | .eql => some (.p (.bool (a == b)))
  | .neq => some (.p (.bool (!(a == b))))
  | .lss => some (.p (.bool (decide (a < b))))
  | .leq => some (.p (.bool (decide (a ≤ b))))
  | .gtr => some (.p (.bool (decide (b < a))))
  | .geq => some (.p (.bool (decide (b ≤ a))))
  | _ => none
def strOp (op : BinOp) (a b : ByteArray) : Option AV :=
  match op with
  | .add => (cat a b).map fun s => .p (.str s)
  | .eql => some (.p (.bool (decide (a = b))))
  | .neq => some (.p (.bool (!decide (a = b))))
  | .lss => some (.p (.bool (slt a b)))
  | .leq => some (.p (.bool (!slt b a)))
  | .gtr => some (.p (.bool (slt b a)))
  | .geq => some (.p (.bool (!slt a b)))
  | _ => none
def constB : Operand → Bool
 | .const _ => true
 | _ => false
def isIfcT (P : Program) (t : TypeId) : Bool := match P.underlying t with | some (.interface _) => true | _ => false
def binop (P : Program) (op : BinOp) (t : TypeId) (x y : AV) : Option AV :=
  match x, y with
  | .p (.int k a), .p (.int k' b) => if k = k' then intOp op k a b else none
  | .p (.str a), .p (.str b) => strOp op a b
  | .p (.bool a), .p (.bool b) => bif isBoolT P t then (match op with | .eql => some (.p (.bool (a == b))) | .neq => some (.p (.bool (!(a == b)))) | _ => none) else none
  | _, _ => none
def unop (op : UnOp) (x : AV) : Option AV :=
  match op, x with
  | .not, .p (.bool b) => some (.p (.bool (!b)))
  | .neg, .p (.int k n) => some (.p (.int k (k.wrap (0 - n))))
  | _, _ => none

/-- The cells of a value of type t that stand from the head of this list on. -/
def ld (P : Program) (t : TypeId) (cs : List AV) : Option AV :=
  match isAggB P t with
  | some true => (tsize P t).bind fun s => if s ≤ cs.length then some (.agg (cs.take s)) else none
  | some false => cs.head?
  | none => none
def splice (cs : List AV) : Nat → List AV → List AV
 | _, [] => cs
 | o, v :: r => splice (cs.set o v) (o + 1) r
/-- Parts laid over the zero value's cells. -/
def fillP (place : Nat → Option (Nat × Nat)) (cs : List AV) : List (Nat × AV) → Option (List AV)
 | [] => some cs
 | (i, v) :: r => (place i).bind fun (o, s) => v.cells.bind fun vc => if vc.length = s ∧ o + s ≤ cs.length then fillP place (splice cs o vc) r else none
def rowsN (s : Nat) : Nat → List PV → Rows
 | 0, _ => []
 | n + 1, l => l.take s :: rowsN s n (l.drop s)
def placeOf (P : Program) (t : TypeId) (i : Nat) : Option (Nat × Nat) := (fieldOf P t i).bind fun (o, ft) => (tsize P ft).map fun s => (o, s)
def aplace (P : Program) (t : TypeId) (i : Nat) : Option (Nat × Nat) :=
  match arrOf P t with
  | some (_, s) => some (i * s, s)
  | none => placeOf P t i

def keyV : AV → Option Nat
 | .ptr k _ _ => some k
 | .eptr k _ _ _ => some k
 | .buf k _ _ _ => some k
 | .mp k _ => some k
 | _ => none
def keyL : List AV → Option Nat
 | [v] => keyV v
 | _ => none
def liveC (g : Nat) : Nat × Ob → Bool
 | (g', .cells _) => g == g'
 | _ => false
def liveB (g : Nat) : Nat × Ob → Bool
 | (g', .buf _ _) => g == g'
 | _ => false
def liveZ (g s : Nat) : Nat × Ob → Bool
 | (g', .buf z _) => g == g' && z == s
 | _ => false
def keyApp (d : Nat) : List AV → Option Nat
 | [] => none
 | .tip k _ _ :: _ => some k
 | .buf k _ _ _ :: _ => some k
 | _ :: _ => some d
def szPos (P : Program) (t : TypeId) : Bool := match tsize P t with | some s => decide (0 < s) | none => false
def sizedB (P : Program) (t : TypeId) : Bool :=
  match P.underlying t with
  | some (.struct fs) => fs.all fun f => (tsize P f.type).isSome
  | some (.array _ e) => (tsize P e).isSome
  | _ => false
/-- Which own object an operation touches. -/
def keyOf (op : Op) (g : Operand → AV) (d : Nat) : Option Nat :=
  match op with
  | .alloc _ | .box _ _ | .makeSlice _ _ _ | .makeMap _ _ => some d
  | .lookup _ x _ _ | .mapUpdate _ x _ _ | .insert _ x _ _ | .mapEntry _ x _ | .entryStore _ x _ _ => keyV (g x)
  | .load _ x => match g x with | .ptr k _ _ => some k | .eptr k _ _ _ => some k | _ => none
  | .store _ a _ => match g a with | .ptr k _ _ => some k | .eptr k _ _ _ => some k | _ => none
  | .nilCheck x | .fieldAddr _ x _ | .indexAddr _ x _ | .slice _ x _ _ _ => keyV (g x)
  | .call { callee := .builtin .append, args, .. } => keyApp d (args.toList.map g)
  | .call { callee := .builtin .len, args, .. } => keyL (args.toList.map g)
  | _ => none
def isAggV : Value → Bool
 | .agg _ => true
 | _ => false
def zeroAg (P : Program) (t : TypeId) : Option Bool := ((P.info? t).bind (·.zero)).map isAggV
/-- A map's type: its keys' kind, whether its values are of several cells, the zero value. -/
def mapTy (P : Program) (t : TypeId) : Option (MK × Bool × List PV) :=
  match P.underlying t with
  | some (.map k el) =>
    (match P.underlying k with | some (.int kk) => some (MK.int kk) | some .string => some MK.str | _ => none).bind fun mk =>
      (zeroAg P el).bind fun ag => (zeroCells P el).bind fun z => (pvs z).bind fun zr => bif ag || zr.length == 1 then some (mk, ag, zr) else none
  | _ => none
def mkEq : MK → MK → Bool
 | .int k, .int k' => decide (k = k')
 | .str, .str => true
 | _, _ => false
/-- What a map's entry holds, as a value. -/
def mval (ag : Bool) (row : List PV) : AV := bif ag then .agg (row.map .p) else (match row with | [p] => .p p | _ => .u)
/-- A value, as a map's entry holds it. -/
def mrowOf (ag : Bool) : AV → Option (List PV)
 | .agg cs => bif ag then pvs cs else none
 | v => bif ag then none else v.pv.map fun p => [p]
def mkeyOf (mk : MK) : AV → Option PV
 | .p pv => bif kOf mk pv then some pv else none
 | _ => none
def liveM (mk : MK) (ag : Bool) (gn : Nat) : Nat × Ob → Option Ents
 | (g', .map mk' ag' es) => bif gn == g' && mkEq mk mk' && ag == ag' then some es else none
 | _ => none
def tupIf (b : Bool) (v : AV) (ok : Bool) : AV := bif b then .tup [v, .p (.bool ok)] else v
/-- May the operation turn that object? -/
def writes : Op → Bool
  | .load .. | .nilCheck .. | .fieldAddr .. | .indexAddr .. | .slice .. | .lookup .. => false
  | .call { callee := .builtin .len, .. } => false
  | _ => true

abbrev Eff := Option (AV × Option (Nat × Ob))
def eff (a : Option AV) : Eff := a.map fun v => (v, none)
def oint (g : Operand → AV) (x : Option Operand) (dflt : Int) : Option Int :=
  match x with
  | none => some dflt
  | some o => match g o with | .p (.int _ n) => some n | _ => none

def appN (hb : Bool) (sz d : Nat) (r : Rows) (g' : Nat) (q : Rows) : Eff :=
  (app r q).bind fun rq => bif rowsOk sz rq then (bif hb && r.isEmpty then some (.buf d (g' + 1) 0 rq.length, some (g' + 1, .buf sz rq)) else some (.tip d (g' + 1) rq, some (g' + 1, .tip sz rq.length))) else none
/-- append: to the nil slice, to rows whose room is used up, to rows of which the function holds the end, to rows of its own. -/
def appC (hb : Bool) (sz d : Nat) : AV → (Nat × Ob) → Option Rows → Eff
 | .p .nilS, (g', _), some q => appN hb sz d [] g' q
 | .p (.lst true r), (g', _), some q => appN hb sz d r g' q
 | .tip k gn r, (g', .tip z n), some q => bif gn == g' && n == r.length && z == sz then (app r q).bind fun rq => bif rowsOk sz rq then some (.tip k gn rq, some (gn, .tip z rq.length)) else none else none
 | .buf k gn 0 n, (g', .buf z rows), some q => bif gn == g' && z == sz then (app (rows.take n) q).bind fun rq => bif rowsOk sz rq then some (.buf k (gn + 1) 0 rq.length, some (gn + 1, .buf z rq)) else none else none
 | _, _, _ => none
def lenA (P : Program) (t : TypeId) (e : Nat × Ob) : AV → Eff
 | .p (.str s) => bif isStrT P t then eff (some (.p (.int .i64 s.size))) else none
 | .buf _ gn _ n => (sliceOf P t).bind fun _ => bif liveB gn e then eff (some (.p (.int .i64 n))) else none
 | .mp _ gn => (mapTy P t).bind fun (mk, ag, _) => (liveM mk ag gn e).bind fun es => eff (some (.p (.int .i64 es.length)))
 | v => (sliceOf P t).bind fun _ => eff (v.rows.map fun r => .p (.int .i64 r.length))
def minA : AV → AV → Eff
 | .p (.int k a), .p (.int k' b) => if k = k' then eff (some (.p (.int k (min a b)))) else none
 | .p (.str a), .p (.str b) => eff (some (.p (.str (bif slt b a then b else a))))
 | _, _ => none
def maxA : AV → AV → Eff
 | .p (.int k a), .p (.int k' b) => if k = k' then eff (some (.p (.int k (max a b)))) else none
 | .p (.str a), .p (.str b) => eff (some (.p (.str (bif slt a b then b else a))))
 | _, _ => none
def rowsB : AV → Option Rows
 | .p (.str b) => some (bytesOf b)
 | v => v.rows
def appT (P : Program) (hb : Bool) (d : Nat) (e : Nat × Ob) (s x : AV) : List TypeId → Eff
 | [t, tx] => bif notIntT P tx then (sliceOf P t).bind fun sz => appC hb sz d s e (rowsB x) else none
 | _ => none
def coreB (P : Program) (hb : Bool) : Builtin → List AV → List TypeId → Nat → (Nat × Ob) → Eff
 | .len, [x], t :: _, _, e => lenA P t e x
 | .append, [s, x], ts, d, e => appT P hb d e s x ts
 | .min, [x, y], _, _, _ => minA x y
 | .max, [x, y], _, _, _ => maxA x y
 | _, _, _, _, _ => none
def core (P : Program) (hb : Bool) (op : Op) (g : Operand → AV) (d : Nat) (e : Nat × Ob) : Eff :=
  match op with
  | .move x | .assign x => eff (some (g x))
  | .pick c a b => match g c with | .p (.bool t) => eff (some (bif t then g a else g b)) | _ => none
  | .binOp op t x y _ => match constB y, g x, g y with
    | true, .p (.ifc b), .p .nilI => bif isIfcT P t then (match op with | .eql => eff (some (.p (.bool b))) | .neq => eff (some (.p (.bool (!b)))) | _ => none) else none
    | _, _, _ => eff (binop P op t (g x) (g y))
  | .unOp op _ x => eff (unop op (g x))
  | .convert s t x =>
    match tkind P s, tkind P t, g x with
    | .int _, .int k, .p (.int _ n) => eff (some (.p (.int k (k.wrap n))))
    | .str, .str, .p (.str b) => eff (some (.p (.str b)))
    | .bytes, .str, v => eff (v.rows.bind fun r => (unint .u8 r).map fun l => .p (.str (bstr l)))
    | .int _, .str, .p (.int _ n) => eff (some (.p (.str (istr n))))
    | .str, .bytes, .p (.str b) => eff (some (.p (.lst false (bytesOf b))))
    | _, _, _ => none
  | .alloc t => (zeroCells P t).map fun cs => (.ptr d (e.1 + 1) 0, some (e.1 + 1, .cells cs))
  | .box _ x => (g x).cells.map fun cs => (.ptr d (e.1 + 1) 0, some (e.1 + 1, .cells cs))
  | .build t parts => bif !sizedB P t then none else eff ((zeroCells P t).bind fun z => (fillP (aplace P t) z (parts.toList.map fun q => (q.1, g q.2))).map .agg)
  | .buildSlice t n parts =>
    eff <| (sliceOf P t).bind fun s => if 16777216 < n * s then none else (elemZero P t).bind fun z =>
      (fillP (fun i => some (i * s, s)) (List.replicate n z).flatten (parts.toList.map fun q => (q.1, g q.2))).bind fun cs => (pvs cs).map fun l => .p (.lst true (rowsN s n l))
  | .load t x =>
    match g x with
    | .ptr _ gn off => (match e with
      | (g', .cells cs) => bif gn == g' then eff (ld P t (cs.drop off)) else none
      | _ => none)
    | .eptr _ gn i off => (match e with
      | (g', .buf _ rows) => bif gn == g' then eff (rows[i]?.bind fun row => ld P t ((row.map .p).drop off)) else none
      | _ => none)
    | .cptr cells => eff (ld P t (cells.map .p))
    | _ => none
  | .store t a x =>
    match g a, e with
    | .eptr _ gn i off, (g', .buf z rows) =>
      bif gn == g' then (g x).cells.bind fun vc => (tsize P t).bind fun s => rows[i]?.bind fun row => if vc.length = s ∧ off + s ≤ row.length then (pvs (splice (row.map .p) off vc)).map fun r2 => (.u, some (g', .buf z (setr rows i r2))) else none
      else none
    | .ptr _ gn off, (g', .cells cs) =>
      bif gn == g' then (g x).cells.bind fun vc => (tsize P t).bind fun s => if vc.length = s ∧ off + s ≤ cs.length then some (.u, some (g', .cells (splice cs off vc))) else none
      else none
    | _, _ => none
  | .nilCheck x => match g x with | .ptr k gn off => bif liveC gn e then eff (some (.ptr k gn off)) else none | .cptr c => eff (some (.cptr c)) | .eptr k gn i off => bif liveB gn e then eff (some (.eptr k gn i off)) else none | _ => none
  | .fieldAddr s x f =>
    (fieldOf P s f).bind fun (o, ft) => bif !szPos P ft then none else match g x with
      | .ptr k gn off => bif liveC gn e then eff (some (.ptr k gn (off + o))) else none
      | .cptr c => eff (some (.cptr (c.drop o)))
      | .eptr k gn i off => bif liveB gn e then eff (some (.eptr k gn i (off + o))) else none
      | _ => none
  | .field s x f => (fieldOf P s f).bind fun (o, ft) => match g x with | .agg cs => eff (ld P ft (cs.drop o)) | _ => none
  | .indexAddr t x i =>
    match g i with
    | .p (.int _ n) => (match g x with
      | .ptr k gn off => (arrOf P t).bind fun (len, s) => if 0 ≤ n ∧ n < len then (bif liveC gn e then eff (some (.ptr k gn (off + n.toNat * s))) else none) else none
      | .buf k gn lo c => (sliceOf P t).bind fun s => (inr n c).bind fun _ => bif liveZ gn s e && decide (0 < s) then eff (some (.eptr k gn (lo + n.toNat) 0)) else none
      | v => (sliceOf P t).bind fun s => v.rows.bind fun r => (ix r n).bind fun row => if row.length = s ∧ 0 < s then eff (some (.cptr row)) else none)
    | _ => none
  | .index t x i =>
    match tkind P t, g x, g i with
    | .str, .p (.str b), .p (.int _ n) => eff ((bix b n).map fun c => .p (.int .u8 c))
    | _, _, _ => none
  | .slice t x lo hi mx =>
    match mx with
    | some _ => none
    | none => match g x with
      | .p (.str b) => bif !isStrT P t then none else eff ((oint g lo 0).bind fun l => (oint g hi b.size).bind fun h => (sub b l h).map fun s => .p (.str s))
      | .buf k gn l0 c => (sliceOf P t).bind fun s => eff ((oint g lo 0).bind fun l => (oint g hi c).bind fun h => (bnd l h c).bind fun _ => bif liveZ gn s e then some (.buf k gn (l0 + l.toNat) (h.toNat - l.toNat)) else none)
      | v => (sliceOf P t).bind fun s => v.rows.bind fun r => eff ((oint g lo 0).bind fun l => (oint g hi r.length).bind fun h => (lsub r l h).bind fun q => bif rowsOk s r then some (.p (.lst false q)) else none)
  | .makeMap t r => (oint g r 0).bind fun _ => (mapTy P t).map fun (mk, ag, _) => (.mp d (e.1 + 1), some (e.1 + 1, .map mk ag []))
  | .lookup t x i ok => match g x with
    | .mp _ gn => (mapTy P t).bind fun (mk, ag, z) => (liveM mk ag gn e).bind fun es => (mkeyOf mk (g i)).bind fun key => eff (some (tupIf ok (mval ag (mrow key es z)) (mhas key es)))
    | _ => none
  | .mapUpdate t x i y | .insert t x i y => match g x with
    | .mp _ gn => (mapTy P t).bind fun (mk, ag, z) => (liveM mk ag gn e).bind fun es => (mkeyOf mk (g i)).bind fun key => (mrowOf ag (g y)).map fun row => (.u, some (gn, .map mk ag (mput key row es)))
    | _ => none
  | .mapEntry t x i => match g x with
    | .mp _ gn => (mapTy P t).bind fun (mk, ag, z) => (liveM mk ag gn e).bind fun es => (mkeyOf mk (g i)).bind fun key => some (.tup [mval ag (mrow key es z), .p (.int .i64 (midx key es))], some (gn, .map mk ag (ment key es z)))
    | _ => none
  | .entryStore t x i y => match g x, g i with
    | .mp _ gn, .p (.int .i64 n) => (mapTy P t).bind fun (mk, ag, z) => (liveM mk ag gn e).bind fun es => (tst es n).bind fun _ => (mrowOf ag (g y)).map fun row => (.u, some (gn, .map mk ag (mset1 n.toNat row es)))
    | _, _ => none
  | .extract x i => match g x with | .tup vs => eff vs[i]? | _ => none
  | .makeFunc (.func f) first caps => eff (some (.clo f (first.toList.map g) (caps.toList.map g)))
  | .makeSlice t n c =>
    match g n, g c with
    | .p (.int _ n), .p (.int _ c) => (sliceOf P t).bind fun s => (elemZero P t).bind fun z => (pvs z).bind fun zr => if zr.length = s then (mks zr n c).map fun rows => (.buf d (e.1 + 1) 0 rows.length, some (e.1 + 1, .buf s rows)) else none
    | _, _ => none
  | .call { callee := .builtin b, args, argTypes } => coreB P hb b (args.toList.map g) argTypes.toList d e
  | _ => none
where
  elemZero (P : Program) (t : TypeId) : Option (List AV) :=
    match P.underlying t with
    | some (.slice e) => (zeroCells P e).bind fun z => if some z.length = tsize P e then some z else none
    | _ => none

def mset (m : Mem) (k : Nat) (v : Nat × Ob) : Mem := (k, v) :: m
def St.put (st : St) (dst : Option Tmp) (v : AV) : St := match dst with | some d => { st with fr := (d, v) :: st.fr } | none => st
def isCall : Op → Bool
  | .call { callee := .value _, .. } => true
  | _ => false
def entO (m : Mem) : Option Nat → Nat × Ob
 | some k => ent m k
 | none => (0, .gone)
def memPut (st : St) : Option Nat → Option (Nat × Ob) → St
 | some k, some n => { st with mem := mset st.mem k n }
 | _, _ => st
def finO (st : St) (dst : Option Tmp) (k : Option Nat) : Eff → Option St
 | some (v, w) => some ((memPut st k w).put dst v)
 | none => none
/-- Blocks of which it is known what they hold. -/
abbrev Kn := List (Nat × Obj)
abbrev Hn := Nat × List Nat × Kn
def dstOk (n : Nat) : Option Tmp → Bool
 | some d => decide (d < n)
 | none => true
/-- One operation that is no call of a Go function. -/
def stepOp (P : Program) (H : Hn) (o : Oper) (st : St) : Option St :=
  finO st o.dst (keyOf o.op (oget st.fr) (o.dst.getD 0)) (core P (H.2.1.contains (o.dst.getD 0)) o.op (oget st.fr) (o.dst.getD 0) (entO st.mem (keyOf o.op (oget st.fr) (o.dst.getD 0))))
/-- What is to be done with an operation. -/
inductive De where
 | op | call | skip | bad
def opD (op : Op) : De := bif isCall op then .call else .op
def deB (d : De) (b : Bool) : AV → De
 | .p (.bool true) => bif b then d else .skip
 | .p (.bool false) => bif b then .skip else d
 | .und => .skip
 | _ => .bad
def deT (d : De) (b : Bool) (fr : List (Nat × AV)) : Option (Option Tmp) → De
 | some (some t) => deB d b (fget fr t)
 | _ => .bad
def de (all : List Oper) (fr : List (Nat × AV)) (o : Oper) : De :=
  match o.guard with
  | none => opD o.op
  | some (j, b) => deT (opD o.op) b fr ((all[j]?).map (·.dst))
abbrev Fp := List (Nat × Nat × Bool)
def fpK (j : Nat) (op : Op) : Option Nat → Fp
 | some k => [(j, k, writes op)]
 | none => []
def fpOf (j : Nat) (o : Oper) (st : St) : Fp := fpK j o.op (keyOf o.op (oget st.fr) (o.dst.getD 0))
/-- A region's run: under way, or stopped ahead of these operations. -/
inductive RS where
 | go (F : Fp) (st : St)
 | stop (j : Nat) (l : List Oper) (F : Fp) (st : St)
 | fail
def ofO (F : Fp) : Option St → RS
 | some st => .go F st
 | none => .fail
def step1 (P : Program) (H : Hn) (j : Nat) (o : Oper) (r : List Oper) (F : Fp) (st : St) : De → RS
 | .op => bif dstOk H.1 o.dst then ofO (F ++ fpOf j o st) (stepOp P H o st) else .fail
 | .skip => bif dstOk H.1 o.dst then .go F (st.put o.dst .und) else .fail
 | .call => .stop j (o :: r) F st
 | .bad => .fail
def runO (P : Program) (H : Hn) (all : List Oper) : Nat → List Oper → RS → RS
 | _, _, .stop j l F st => .stop j l F st
 | _, _, .fail => .fail
 | j, [], .go F st => .stop j [] F st
 | j, o :: r, .go F st => runO P H all (j + 1) r (step1 P H j o r F st (de all st.fr o))
/-- A function's run: under way, or stopped. -/
inductive CF where
 | on (it : List Item) (st : St)
 | stop (it : List Item) (st : St)
 | fail
def afterR (id : Nat) (ops : Array Oper) (k : List Item) (st : St) : RS → CF
 | .stop _ [] _ st' => .on k st'
 | .stop _ (_ :: _) _ _ => .stop (.code (.region id ops false) :: k) st
 | _ => .fail
def condC (x y : Code) (k : List Item) (st : St) : AV → CF
 | .p (.bool true) => .on (.code x :: k) st
 | .p (.bool false) => .on (.code y :: k) st
 | _ => .fail
def exitC (st : St) : Option (List Item) → CF
 | some k => .on k st
 | none => .fail
def run (P : Program) (H : Hn) : Nat → CF → CF
 | 0, .on it st => .stop it st
 | _, .stop it st => .stop it st
 | _, .fail => .fail
 | n + 1, .on (.code .skip :: k) st => run P H n (.on k st)
 | n + 1, .on (.code (.seq a b) :: k) st => run P H n (.on (.code a :: .code b :: k) st)
 | n + 1, .on (.code (.cond c x y) :: k) st => run P H n (condC x y k st (oget st.fr c))
 | n + 1, .on (.code (.block id b) :: k) st => run P H n (.on (.code b :: .inBlock id :: k) st)
 | n + 1, .on (.inBlock _ :: k) st => run P H n (.on k st)
 | n + 1, .on (.code (.exit id) :: k) st => run P H n (exitC st (exitTo id k))
 | n + 1, .on (.code (.region id ops false) :: k) st => run P H n (afterR id ops k st (runO P H ops.toList 0 ops.toList (.go [] st)))
 | _, .on it st => .stop it st
end Go.Ab
