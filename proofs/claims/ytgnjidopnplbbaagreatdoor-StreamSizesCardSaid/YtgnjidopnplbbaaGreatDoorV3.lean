/- The V-model, part 3: what an operation does to abstract values. -/
import Derived.Test.YtgnjidopnplbbaaGreatDoorV2
import Derived.Laws.StructEq
import Derived.Laws.Tables
set_option linter.unusedSimpArgs false
set_option linter.unusedVariables false
namespace Go.V
open Go.RowKit

inductive Ann where
  | none | ref | frz
  deriving DecidableEq, Inhabited

/-- What is called: a function, or a loop's round. -/
inductive Tgt where
  | fn (f : Nat)
  | yield (id : Nat)

inductive Res where
  | ok (v : AV) (σ : State)
  | call (f : Tgt) (args : List AV)
  | fail

def av1 : Value → AV
  | .bool b => .bool b
  | .int k n => .int k n
  | .string s => .str s
  | .pointer none => .nilptr
  | .slice none 0 0 => .nilslice
  | .map none => .nilmap
  | .func fn fs cs => if fs.size = 0 ∧ cs.size = 0 then .func fn [] [] else .undef
  | .nilFunc => .nilfunc
  | .nilIface => .niliface
  | _ => .undef

def av : Value → AV
  | .agg cs => .agg (cs.toList.map av1)
  | .tuple cs => .tuple (cs.toList.map av1)
  | .iface t v => .iface t (av1 v)
  | v => av1 v

def aval (G : Nat → AV) (a : Nat → AV) : Operand → AV
  | .tmp t => a t
  | .const v => av v
  | .global g => G g
  | .func f => .func (.func f) [] []

section
variable (P : Program)

def szT (t : Nat) : Option Nat := (P.info? t).map (·.size)
def byT (t : Nat) : Option Nat := (P.info? t).map (·.bytes)
def zerT (t : Nat) : Option Value := (P.info? t).bind (·.zero)
/-- none: no type; some none: one cell; some (some n): an aggregate of n cells. -/
def kindT (t : Nat) : Option (Option Nat) :=
  match P.underlying t with
  | some (.struct _) | some (.array _ _) => (szT P t).map some
  | some _ => some none
  | none => none
def elT (t : Nat) : Option Nat := match P.underlying t with | some (.slice e) => some e | _ => none
def arrT (t : Nat) : Option (Nat × Nat) := match P.underlying t with | some (.array n e) => some (n, e) | _ => none
/-- A field's type, place and size. -/
def fldT (s f : Nat) : Option (Nat × Nat × Nat) :=
  match P.underlying s with
  | some (.struct fs) => match fs[f]? with
    | some fd => (szT P fd.type).map fun n => (fd.type, fd.offset, n)
    | none => none
  | _ => none
def flds (t : Nat) : List Field := (P.fieldsOf t).toList
def eqOk (t : Nat) : Bool := !(P.eqGuardType P.depth t) && !(P.stoodInHeld t)
def placesT (t : Nat) : Option (List (Nat × Nat)) :=
  match P.underlying t with
  | some (.struct fs) => fs.toList.mapM fun f => (P.info? f.type).map fun i => (f.offset, i.size)
  | _ => none

def apart (t : Nat) (cs : List AV) (off : Nat) : Option AV :=
  match kindT P t with
  | some (some n) => if off + n ≤ cs.length then some (.agg ((cs.drop off).take n)) else none
  | some none => cs[off]?
  | none => none

def asplice (cs : List AV) (off : Nat) (vs : List AV) : List AV := cs.take off ++ vs ++ cs.drop (off + vs.length)

def AV.isUndef : AV → Bool
  | .undef => true
  | _ => false

def afill (place : Nat → Option (Nat × Nat)) (cells : List AV) : List (Nat × AV) → Option (List AV)
  | [] => some cells
  | (i, v) :: rest =>
    match place i with
    | none => none
    | some (off, size) => if v.isUndef = false ∧ v.cells.length = size ∧ off + size ≤ cells.length then afill place (asplice cells off v.cells) rest else none

/-- The elements of a row of cells. -/
def chunk (k : Option Nat) : List AV → Nat → List AV
  | _, 0 => []
  | cs, n + 1 =>
    match k with
    | none => match cs with
      | [] => []
      | c :: r => c :: chunk k r n
    | some m => .agg (cs.take m) :: chunk k (cs.drop m) n

def bseq (a b : ByteArray) : Bool := a.data.toList == b.data.toList
def bslt (a b : ByteArray) : Bool := Op.bytesLess a.data.toList b.data.toList

def aint (op : BinOp) (k : IntKind) (a b : Int) : Option AV :=
  match op with
  | .add => some (.int k (k.wrap (a + b)))
  | .sub => some (.int k (k.wrap (a - b)))
  | .mul => some (.int k (k.wrap (a * b)))
  | .quo => if b = 0 then none else some (.int k (k.wrap (a.tdiv b)))
  | .rem => if b = 0 then none else some (.int k (a.tmod b))
  | .and => some (.int k (k.wrap (BitVec.ofInt k.bits a &&& BitVec.ofInt k.bits b).toNat))
  | .or => some (.int k (k.wrap (BitVec.ofInt k.bits a ||| BitVec.ofInt k.bits b).toNat))
  | .xor => some (.int k (k.wrap (BitVec.ofInt k.bits a ^^^ BitVec.ofInt k.bits b).toNat))
  | .eql => some (.bool (a == b))
  | .neq => some (.bool (a != b))
  | .lss => some (.bool (decide (a < b)))
  | .leq => some (.bool (decide (a ≤ b)))
  | .gtr => some (.bool (decide (a > b)))
  | .geq => some (.bool (decide (a ≥ b)))
  | _ => none

def ashift (op : BinOp) (k : IntKind) (a b : Int) : Option AV :=
  if b < 0 then none else
  match op with
  | .shl => some (.int k (k.wrap (a * 2 ^ (min b.toNat k.bits))))
  | .shr => some (.int k (a.fdiv (2 ^ (min b.toNat k.bits))))
  | _ => none

def astrop (op : BinOp) (a b : ByteArray) : Option AV :=
  match op with
  | .add => if a.size + b.size ≤ 4611686018427387904 then some (.str (a ++ b)) else none
  | .eql => some (.bool (bseq a b))
  | .neq => some (.bool (!bseq a b))
  | .lss => some (.bool (bslt a b))
  | .leq => some (.bool (bslt a b || bseq a b))
  | .gtr => some (.bool (!(bslt a b || bseq a b)))
  | .geq => some (.bool (!bslt a b))
  | _ => none

/-- A slice value that is surely not nil. -/
def nnil (m : Cap) (xs : List AV) : Bool :=
  match m, xs with
  | .any, [] => false
  | _, _ => true

/-- '==' where one side is nil. -/
def anil (t : Nat) (x y : AV) : Option Bool :=
  match P.underlying t, x, y with
  | some (.pointer _), .nilptr, .nilptr => some true
  | some (.pointer _), .nilptr, .ptr _ _ | some (.pointer _), .ptr _ _, .nilptr | some (.pointer _), .nilptr, .vptr _ | some (.pointer _), .vptr _, .nilptr => some false
  | some (.slice _), .nilslice, .nilslice => some true
  | some (.slice _), .nilslice, .slice _ xs m | some (.slice _), .slice _ xs m, .nilslice => if nnil m xs = true then some false else none
  | some (.slice _), .nilslice, .rslice _ _ _ | some (.slice _), .rslice _ _ _, .nilslice => some false
  | some (.map _ _), .nilmap, .nilmap => some true
  | some (.map _ _), .nilmap, .map _ | some (.map _ _), .map _, .nilmap => some false
  | some (.func _ _ _), .nilfunc, .nilfunc => some true
  | some (.func _ _ _), .nilfunc, .func _ _ _ | some (.func _ _ _), .func _ _ _, .nilfunc => some false
  | some (.interface _), .niliface, .iface _ _ | some (.interface _), .iface _ _, .niliface => some false
  | _, _, _ => none

/-- '==' of two values of one cell. -/
def aeq1 (t : Nat) (x y : AV) : Option Bool :=
  match P.underlying t, x, y with
  | some (.int _), .int k a, .int k' b => if k = k' then some (a == b) else none
  | some .string, .str a, .str b => some (bseq a b)
  | some .bool, .bool a, .bool b => some (a == b)
  | _, _, _ => none

def aeqF (xs ys : List AV) : List Field → Option Bool
  | [] => some true
  | f :: fs =>
    if f.name ≠ "_" then
      match apart P f.type xs f.offset, apart P f.type ys f.offset with
      | some x, some y => match aeq1 P f.type x y, aeqF xs ys fs with
        | some r, some s => some (r && s)
        | _, _ => none
      | _, _ => none
    else aeqF xs ys fs

def aeq (t : Nat) (x y : AV) : Option Bool :=
  match x, y with
  | .agg xs, .agg ys => if eqOk P t = true ∧ kindT P t = some (some xs.length) ∧ (arrT P t).isNone = true ∧ ys.length = xs.length then aeqF P xs ys (flds P t) else none
  | x, y => aeq1 P t x y

def isConst : Operand → Bool
  | .const _ => true
  | _ => false

def abin (op : BinOp) (t : Nat) (cst : Bool) (x y : AV) : Option AV :=
  match x, y with
  | .int k a, .int k' b => if op = .shl ∨ op = .shr then ashift op k a b else if k = k' then aint op k a b else none
  | .str a, .str b => astrop op a b
  | .niliface, .niliface =>
    if cst = true then
      match P.underlying t, op with
      | some (.interface _), .eql => some (.bool true)
      | some (.interface _), .neq => some (.bool false)
      | _, _ => none
    else none
  | x, y =>
    match op with
    | .eql => match anil P t x y with
      | some r => some (.bool r)
      | none => (aeq P t x y).map .bool
    | .neq => match anil P t x y with
      | some r => some (.bool (!r))
      | none => (aeq P t x y).map fun r => .bool (!r)
    | _ => none

def aun (op : UnOp) (x : AV) : Option AV :=
  match op, x with
  | .not, .bool b => some (.bool (!b))
  | .neg, .int k n => some (.int k (k.wrap (0 - n)))
  | _, _ => none

def aconv (src dst : Nat) (x : AV) : Option AV :=
  match P.underlying src, P.underlying dst, x with
  | some _, some (.int k), .int _ n => some (.int k (k.wrap n))
  | some _, some .string, .str s => some (.str s)
  | _, _, _ => none

def aload (σ : State) (t : Nat) (x : AV) : Option AV :=
  match x with
  | .vptr cs => apart P t cs 0
  | .ptr id off => match σ.objs id with
    | .cells cs _ _ _ => apart P t cs off
    | _ => none
  | _ => none

def astore (σ : State) (t : Nat) (x v : AV) : Res :=
  match x with
  | .ptr id off => match σ.objs id with
    | .cells cs e sz grow =>
      if v.isUndef = false ∧ szT P t = some v.cells.length ∧ v.cells.all AV.one = true ∧ off + v.cells.length ≤ cs.length then
        .ok .undef (σ.set id (.cells (asplice cs off v.cells) e sz grow))
      else .fail
    | _ => .fail
  | _ => .fail

def anew (σ : State) (e : Nat) (cs : List AV) : Res :=
  if cs.all AV.one = true ∧ cs.length ≤ 1048576 then .ok (.ptr σ.next 0) (σ.new (.cells cs e cs.length false)) else .fail

def abound (x : AV) (y : Nat) : Option Nat :=
  match x with
  | .int _ i => if 0 ≤ i ∧ i ≤ y then some i.toNat else none
  | _ => none

/-- Bounds of a slice expression: low, high, and the new capacity's end if it is told. -/
def abounds (len : Nat) (lo hi : Option AV) (top : Nat) : Option (Nat × Nat) :=
  match (match hi with | some v => abound v top | none => some len) with
  | some h => match (match lo with | some v => abound v h | none => some 0) with
    | some l => some (l, h)
    | none => none
  | none => none

/-- A slice of a string, of a slice, or of an array that is never written. -/
def aslice (σ : State) (t : Nat) (x : AV) (lo hi mx : Option AV) : Option AV :=
  match P.underlying t, x, mx with
  | some .string, .str s, none => match abounds s.size lo hi s.size with
    | some (l, h) => some (.str (s.extract l h))
    | none => none
  | some (.slice e), .nilslice, none =>
    match szT P e, abounds 0 lo hi 0 with
    | some _, some _ => some .nilslice
    | _, _ => none
  | some (.slice e), .nilslice, some v =>
    match szT P e, abound v 0, hi with
    | some _, some _, some _ => match abounds 0 lo hi 0 with
      | some _ => some .nilslice
      | none => none
    | _, _, _ => none
  | some (.slice e), .slice sz xs m, none =>
    if szT P e = some sz then
      match abounds xs.length lo hi xs.length with
      | some (l, h) => some (.slice sz ((xs.take h).drop l) (if m = .full ∧ h = xs.length then .full else if m = .any then .any else .nn))
      | none => none
    else none
  | some (.slice e), .slice sz xs m, some v =>
    if szT P e = some sz ∧ m ≠ .any then
      match abound v xs.length, hi with
      | some c, some _ => match abounds xs.length lo hi c with
        | some (l, h) => some (.slice sz ((xs.take h).drop l) (if h = c then .full else .nn))
        | none => none
      | _, _ => none
    else none
  | some (.slice e), .rslice id off len, none =>
    match σ.objs id with
    | .cells _ _ sz _ => if szT P e = some sz then
        match abounds len lo hi len with
        | some (l, h) => some (.rslice id (off + l) (h - l))
        | none => none
      else none
    | _ => none
  | some (.slice e), .rslice id off len, some v =>
    match σ.objs id with
    | .cells _ _ sz _ => if szT P e = some sz then
        match abound v len, hi with
        | some c, some _ => match abounds len lo hi c with
          | some (l, h) => some (.view id (off + l) (h - l))
          | none => none
        | _, _ => none
      else none
    | _ => none
  | _, _, _ => none

def afield (s f : Nat) (x : AV) : Option AV :=
  match x, fldT P s f with
  | .agg cs, some (t, off, _) => apart P t cs off
  | _, _ => none

def afieldAddr (s f : Nat) (x : AV) : Option AV :=
  match fldT P s f with
  | some (_, off, n) =>
    if n = 0 then none else
    match x with
    | .ptr id o => some (.ptr id (o + off))
    | .vptr cs => if off ≤ cs.length then some (.vptr (cs.drop off)) else none
    | _ => none
  | none => none

def aindexAddr (σ : State) (t : Nat) (x i : AV) : Option AV :=
  match i with
  | .int _ n =>
    match P.underlying t, x with
    | some (.slice e), .slice sz xs _ =>
      if 0 ≤ n ∧ n < xs.length ∧ szT P e = some sz ∧ 0 < sz then (match xs[n.toNat]? with | some v => some (.vptr v.cells) | none => none) else none
    | some (.slice e), .rslice id off len =>
      match σ.objs id with
      | .cells _ _ sz _ => if 0 ≤ n ∧ n < len ∧ szT P e = some sz then some (.ptr id ((off + n.toNat) * sz)) else none
      | _ => none
    | some (.array len e), .ptr id off => match szT P e with
      | some sz => if 0 ≤ n ∧ n < len then some (.ptr id (off + n.toNat * sz)) else none
      | none => none
    | some (.array len e), .vptr cs => match szT P e with
      | some sz => if 0 ≤ n ∧ n < len ∧ n.toNat * sz ≤ cs.length then some (.vptr (cs.drop (n.toNat * sz))) else none
      | none => none
    | _, _ => none
  | _ => none

def aindex (t : Nat) (x i : AV) : Option AV :=
  match i with
  | .int _ n =>
    match P.underlying t, x with
    | some (.array len e), .agg cs => match szT P e with
      | some sz => if 0 ≤ n ∧ n < len then apart P e cs (n.toNat * sz) else none
      | none => none
    | some .string, .str s => if 0 ≤ n then (match s.data.toList[n.toNat]? with | some b => some (.int .u8 b.toNat) | none => none) else none
    | _, _ => none
  | _ => none

def akey (k : Nat) (key : AV) : List (AV × AV) → Nat → Option (Option (Nat × AV))
  | [], _ => some none
  | e :: es, i => match aeq P k key e.1 with
    | some true => some (some (i, e.2))
    | some false => akey k key es (i + 1)
    | none => none

/-- A key that can be looked for: a scalar, or a struct of scalars. -/
def akeyOk (k : Nat) (key : AV) : Bool :=
  match P.underlying k, key with
  | some (.int _), .int _ _ => true
  | some .string, .str _ => true
  | some .bool, .bool _ => true
  | some (.struct fs), .agg cs => fs.toList.map (·.offset) == List.range cs.length && fs.toList.all fun f => f.name != "_" && match P.underlying f.type, apart P f.type cs f.offset with
    | some (.int _), some (.int _ _) => true
    | some .string, some (.str _) => true
    | some .bool, some (.bool _) => true
    | _, _ => false
  | _, _ => false

def amap (t : Nat) : Option (Nat × Nat) := match P.underlying t with | some (.map k e) => some (k, e) | _ => none

def amapOf (σ : State) (x : AV) : Option (List (AV × AV)) :=
  match x with
  | .nilmap => some []
  | .map id => match σ.objs id with
    | .map es => some es
    | _ => none
  | _ => none

def alookup (σ : State) (t : Nat) (x key : AV) (ok : Bool) : Option AV :=
  match amap P t with
  | some (k, e) =>
    if akeyOk P k key = true then
      match amapOf σ x with
      | some es => match akey P k key es 0 with
        | some (some (_, v)) => some (if ok then .tuple [v, .bool true] else v)
        | some none => match zerT P e with
          | some z => some (if ok then .tuple [av z, .bool false] else av z)
          | none => none
        | none => none
      | none => none
    else none
  | none => none

/-- A map of which the entries are known up to their order. -/
def acmapOf (σ : State) (x : AV) : Option (Nat × List (AV × AV)) :=
  match x with
  | .map id => match σ.objs id with
    | .cmap es => some (id, es)
    | _ => none
  | _ => none

/-- The values under a key; all entries must be comparable. -/
def akeyAny (k : Nat) (key : AV) : List (AV × AV) → Option (List AV)
  | [] => some []
  | e :: es => match aeq P k key e.1, akeyAny k key es with
    | some true, some r => some (e.2 :: r)
    | some false, some r => some r
    | _, _ => none

def aclookup (t : Nat) (es : List (AV × AV)) (key : AV) (ok : Bool) : Option AV :=
  match amap P t with
  | some (k, e) =>
    if akeyOk P k key = true then
      match akeyAny P k key es with
      | some [v] => some (if ok then .tuple [v, .bool true] else v)
      | some [] => match zerT P e with
        | some z => some (if ok then .tuple [av z, .bool false] else av z)
        | none => none
      | _ => none
    else none
  | none => none

def alook (σ : State) (t : Nat) (x key : AV) (ok : Bool) : Option AV :=
  match acmapOf σ x with
  | some (_, es) => aclookup P t es key ok
  | none => alookup P σ t x key ok

def amapSet (es : List (AV × AV)) (key v : AV) : Option (Nat × AV) → List (AV × AV)
  | some (i, _) => es.set i (key, v)
  | none => es ++ [(key, v)]

def amapUpdate (σ : State) (t : Nat) (x key v : AV) : Res :=
  match amap P t, x with
  | some (k, _), .map id =>
    if akeyOk P k key = true then
      match σ.objs id with
      | .map es => match akey P k key es 0 with
        | some r => .ok .undef (σ.set id (.map (amapSet es key v r)))
        | none => .fail
      | _ => .fail
    else .fail
  | _, _ => .fail

def aext (x : AV) (i : Nat) : Option AV :=
  match x with
  | .tuple vs => vs[i]?
  | _ => none

def alen (σ : State) (t : Nat) (x : AV) : Option Nat :=
  match P.underlying t, x with
  | some .string, .str s => some s.size
  | some (.array n _), _ => some n
  | some (.slice _), .nilslice => some 0
  | some (.slice _), .slice _ xs _ => some xs.length
  | some (.slice _), .rslice _ _ len => some len
  | some (.map _ _), .nilmap => some 0
  | some (.map _ _), .map id => match σ.objs id with
    | .map es => some es.length
    | _ => none
  | _, _ => none

/-- The elements that a slice holds, of size sz and kind k. -/
def aelems (σ : State) (k : Option Nat) (sz : Nat) (x : AV) : Option (List AV) :=
  match x with
  | .nilslice => some []
  | .slice s ys _ => if s = sz ∧ k.getD 1 = sz then some ys else none
  | .rslice id off len => match σ.objs id with
    | .cells cs _ s _ => if s = sz ∧ k.getD 1 = sz ∧ (off + len) * sz ≤ cs.length then some (chunk k ((cs.drop (off * sz)).take (len * sz)) len) else none
    | _ => none
  | .view id off len => match σ.objs id with
    | .cells cs _ s _ => if s = sz ∧ k.getD 1 = sz ∧ (off + len) * sz ≤ cs.length then some (chunk k ((cs.drop (off * sz)).take (len * sz)) len) else none
    | _ => none
  | _ => none

def aappend (σ : State) (ann : Ann) (t t' : Nat) (x y : AV) : Res :=
  match elT P t with
  | some e =>
    match szT P e, byT P e, zerT P e, kindT P e with
    | some sz, some by', some z, some k =>
      match aelems σ k sz y with
      | some ys =>
        if t' ≠ t then .fail else
        if ys.isEmpty = true then
          (match x with
          | .nilslice | .slice _ _ _ | .rslice _ _ _ => .ok x σ
          | _ => .fail)
        else
          if 0 < sz ∧ z.cells.size = sz then
          match x with
          | .nilslice =>
            if ys.length * by' ≤ 140737488355328 ∧ ys.length ≤ 4611686018427387904 then
              match ann with
              | .ref => .ok (.rslice σ.next 0 ys.length) (σ.new (.cells (flat ys) e sz true))
              | _ => .ok (.slice sz ys (.tok σ.next)) (σ.new (.tok ys.length e sz))
            else .fail
          | .slice s xs .full =>
            if s = sz ∧ (xs.length + ys.length) * by' ≤ 140737488355328 ∧ xs.length + ys.length ≤ 4611686018427387904 then
              match ann with
              | .ref => .ok (.rslice σ.next 0 (xs ++ ys).length) (σ.new (.cells (flat (xs ++ ys)) e sz true))
              | _ => .ok (.slice sz (xs ++ ys) (.tok σ.next)) (σ.new (.tok (xs.length + ys.length) e sz))
            else .fail
          | .slice s xs (.tok id) =>
            if s = sz ∧ (xs.length + ys.length) * by' ≤ 140737488355328 ∧ xs.length + ys.length ≤ 4611686018427387904 then
              match σ.objs id with
              | .tok n e' s' => if n = xs.length ∧ e' = e ∧ s' = sz then .ok (.slice sz (xs ++ ys) (.tok σ.next)) ((σ.set id .dead).new (.tok (xs.length + ys.length) e sz)) else .fail
              | _ => .fail
            else .fail
          | .rslice id off len =>
            if off = 0 ∧ (len + ys.length) * by' ≤ 140737488355328 ∧ len + ys.length ≤ 4611686018427387904 then
              match σ.objs id with
              | .cells cs e' s' _ => if e' = e ∧ s' = sz ∧ len * sz ≤ cs.length then .ok (.rslice σ.next 0 (len + ys.length)) ((σ.set id .dead).new (.cells (cs.take (len * sz) ++ flat ys) e sz true)) else .fail
              | _ => .fail
            else .fail
          | _ => .fail
          else .fail
      | none => .fail
    | _, _, _, _ => .fail
  | none => .fail

/-- append(s, make([]E, n)...), as the model writes it, onto nil. -/
def azeros (σ : State) (t t' : Nat) (x : AV) (l : Int) : Res :=
  match elT P t, P.underlying t', x with
  | some e, some (.int _), .nilslice =>
    match szT P e, byT P e, zerT P e with
    | some sz, some by', some z =>
      if 0 < l ∧ (by' : Int) * l ≤ 140737488355328 ∧ l ≤ 4611686018427387904 ∧ (av z).cells.length = sz ∧ (av z).isUndef = false ∧ (av z).cells.all AV.one = true ∧ 0 < sz then
        .ok (.rslice σ.next 0 l.toNat) (σ.new (.cells (List.replicate l.toNat (av z).cells).flatten e sz true))
      else .fail
    | _, _, _ => .fail
  | _, _, _ => .fail

def aappendZ (σ : State) (ann : Ann) (t t' : Nat) (x y : AV) : Res :=
  match y with
  | .int _ l => azeros P σ t t' x l
  | y => aappend P σ ann t t' x y

/-- A slice of an object's own row becomes a value: the object can't be written any more. -/
def afreeze (σ : State) (k : Option Nat) (x : AV) : Res :=
  match x with
  | .rslice id 0 len => match σ.objs id with
    | .cells cs e sz _ => if k.getD 1 = sz ∧ 0 < sz ∧ cs.length = len * sz then .ok (.slice sz (chunk k cs len) (.tok id)) (σ.set id (.tok len e sz)) else .fail
    | _ => .fail
  | .nilslice => .ok .nilslice σ
  | .slice sz xs m => .ok (.slice sz xs m) σ
  | _ => .fail

def amake (σ : State) (t : Nat) (l c : AV) : Res :=
  match elT P t, l, c with
  | some e, .int _ l, .int _ c =>
    match szT P e, byT P e, zerT P e with
    | some sz, some by', some z =>
      if 0 ≤ l ∧ l ≤ c ∧ (by' : Int) * c ≤ 140737488355328 ∧ c ≤ 4611686018427387904 ∧ (av z).cells.length = sz ∧ (av z).isUndef = false ∧ (av z).cells.all AV.one = true ∧ 0 < sz then
        .ok (.rslice σ.next 0 l.toNat) (σ.new (.cells (List.replicate c.toNat (av z).cells).flatten e sz false))
      else .fail
    | _, _, _ => .fail
  | _, _, _ => .fail

def abuild (t : Nat) (parts : List (Nat × AV)) : Option AV :=
  match zerT P t with
  | some z =>
    if (av z).isUndef = true then none else
    match placesT P t, arrT P t with
    | some places, _ => (afill (places[·]?) (av z).cells parts).map .agg
    | none, some (_, e) => match szT P e with
      | some sz => (afill (fun i => some (i * sz, sz)) (av z).cells parts).map .agg
      | none => none
    | _, _ => none
  | none => none

/-- Parts that are all there, in order. -/
def dense : Nat → List (Nat × AV) → Option (List AV)
  | _, [] => some []
  | i, (j, v) :: r => if j = i then (dense (i + 1) r).map (v :: ·) else none

def abuildSlice (σ : State) (ann : Ann) (t len : Nat) (parts : List (Nat × AV)) : Res :=
  match elT P t with
  | some e =>
    match szT P e, zerT P e, dense 0 parts with
    | some sz, some z, some xs =>
      if xs.length = len ∧ xs.all (fun x => x.cells.length == sz && x.cells.all AV.one) = true ∧ len * sz ≤ 16777216 ∧ 0 < sz ∧ z.cells.size = sz then
        match ann with
        | .ref => .ok (.rslice σ.next 0 len) (σ.new (.cells (flat xs) e sz false))
        | _ => .ok (.slice sz xs .full) σ
      else .fail
    | _, _, _ => .fail
  | none => .fail

def hasBody (f : Nat) : Bool := match P.funcs[f]? with
  | some fn => fn.body.isSome && !(fn.name == "runtime.NumGoroutine")
  | none => false

def amin2 (mx : Bool) : AV → AV → Option AV
  | .int k x, .int _ y => some (.int k (if mx then (if y > x then y else x) else (if y < x then y else x)))
  | _, _ => none

def acall (σ : State) (ann : Ann) (c : Call) (ρ : Operand → AV) : Res :=
  match c.callee with
  | .value f => match ρ f with
    | .func (.func f) first captured => if hasBody P f = true then .call (.fn f) (first ++ c.args.toList.map ρ ++ captured) else .fail
    | .yield id => .call (.yield id) (c.args.toList.map ρ)
    | _ => .fail
  | .builtin .len => match c.argTypes.toList, c.args.toList.map ρ with
    | [t], [x] => match alen P σ t x with
      | some n => .ok (.int .i64 n) σ
      | none => .fail
    | _, _ => .fail
  | .builtin .append => match c.argTypes.toList, c.args.toList.map ρ with
    | [t, t'], [x, y] => aappendZ P σ ann t t' x y
    | _, _ => .fail
  | .builtin .max => match c.args.toList.map ρ with
    | [x, y] => match amin2 true x y with
      | some v => .ok v σ
      | none => .fail
    | _ => .fail
  | .builtin .min => match c.args.toList.map ρ with
    | [x, y] => match amin2 false x y with
      | some v => .ok v σ
      | none => .fail
    | _ => .fail
  | .builtin .cap => match c.argTypes.toList, c.args.toList.map ρ with
    | [t], [.nilslice] => match P.underlying t with
      | some (.slice _) => .ok (.int .i64 0) σ
      | _ => .fail
    | _, _ => .fail
  | _ => .fail

def Res.of (σ : State) : Option AV → Res
  | some v => .ok v σ
  | none => .fail

def aop (ann : Ann) (o : Op) (ρ : Operand → AV) (σ : State) : Res :=
  match o with
  | .move x | .assign x => .ok (ρ x) σ
  | .pick c x y => match ρ c with
    | .bool b => .ok (if b then ρ x else ρ y) σ
    | _ => .fail
  | .alloc e => match zerT P e with
    | some z => anew σ e (av z).cells
    | none => .fail
  | .box e x => if (ρ x).isUndef = true then .fail else anew σ e (ρ x).cells
  | .build t parts => .of σ (abuild P t (parts.toList.map fun p => (p.1, ρ p.2)))
  | .buildSlice t len parts => abuildSlice P σ ann t len (parts.toList.map fun p => (p.1, ρ p.2))
  | .load t x => .of σ (aload P σ t (ρ x))
  | .store t x v => astore P σ t (ρ x) (ρ v)
  | .nilCheck x => match ρ x with
    | .ptr id off => .ok (.ptr id off) σ
    | .vptr cs => .ok (.vptr cs) σ
    | .func (.func f) a b => .ok (.func (.func f) a b) σ
    | .iface t v => .ok (.iface t v) σ
    | _ => .fail
  | .binOp op t x y _ => .of σ (abin P op t (isConst x || isConst y) (ρ x) (ρ y))
  | .unOp op _ x => .of σ (aun op (ρ x))
  | .convert s d x => .of σ (aconv P s d (ρ x))
  | .makeInterface t x => match P.underlying t with
    | some (.interface _) => .fail
    | some _ => .ok (.iface t (ρ x)) σ
    | none => .fail
  | .makeFunc fn first captured => .ok (.func fn (first.toList.map ρ) (captured.toList.map ρ)) σ
  | .makeMap t none => .ok (.map σ.next) (σ.new (.map []))
  | .makeSlice t l c => amake P σ t (ρ l) (ρ c)
  | .slice t x lo hi mx => .of σ (aslice P σ t (ρ x) (lo.map ρ) (hi.map ρ) (mx.map ρ))
  | .fieldAddr s x f => .of σ (afieldAddr P s f (ρ x))
  | .field s x f => .of σ (afield P s f (ρ x))
  | .indexAddr t x i => .of σ (aindexAddr P σ t (ρ x) (ρ i))
  | .index t x i => .of σ (aindex P t (ρ x) (ρ i))
  | .lookup t x k ok => .of σ (alook P σ t (ρ x) (ρ k) ok)
  | .mapUpdate t m k x | .insert t m k x => amapUpdate P σ t (ρ m) (ρ k) (ρ x)
  | .extract x i => .of σ (aext (ρ x) i)
  | .range t x => match P.underlying t, ρ x with
    | some .string, .str s => .ok (.ptr σ.next 0) (σ.new (.siter s 0))
    | _, _ => .fail
  | .next x isS => match ρ x with
    | .ptr id 0 => match σ.objs id, isS with
      | .siter s pos, true =>
        if pos < s.size then .ok (.tuple [.bool true, .int .i64 pos, .int .i32 (Utf8.decode s pos).1]) (σ.set id (.siter s (pos + (Utf8.decode s pos).2)))
        else .ok (.tuple [.bool false]) σ
      | _, _ => .fail
    | _ => .fail
  | .call c => acall P σ ann c ρ
  | _ => .fail

end
end Go.V
