/-
The code of the abstract machine, and how it comes of the model's. Conditions: none.
-/
import Derived.Below
import Derived.Orders
import Derived.Laws.AppendOwn
import Derived.Laws.Entries
import Derived.Laws.StructEq
import Derived.ChangeKeysEq
set_option linter.unusedSimpArgs false
set_option linter.unusedVariables false
set_option linter.unusedSectionVars false
namespace Go.Ab
open Go Go.RowKit

inductive AX where
  | t (n : Nat)
  | k (v : Value)
  | f (g : FuncId)
deriving Inhabited


inductive BK where
  | int | bool | str
deriving Inhabited, DecidableEq

/-- Operations on maps and the like that make a value and leave memory alone. -/
inductive XV where
  | lkp (ok : Bool) (zero : Value)
  | lenM
  | ent
  | capM
  | lkpS (ks : List BK) (ok : Bool) (zero : Value)
  | mki (t : TypeId)
  | ncl
deriving Inhabited

/-- Operations on maps and the like that change memory. -/
inductive XE where
  | mkm
  | mup
  | rngS
  | rngM
  | mks (e : TypeId) (sz bytes : Nat) (zero : List Value)
  | apz (e : TypeId) (sz bytes : Nat) (zero : List Value)
  | bsn (e : TypeId)
  | mupS (ks : List BK)
  | mentS (ks : List BK) (zero : Value)
  | ests
  | alcT (e : TypeId) (zero : List Value)
  | cvSB (e : TypeId)
deriving Inhabited

inductive AOp where
  | mv (x : AX)
  | pick (c x y : AX)
  | bin (op : BinOp) (x y : AX)
  | eqB (neg : Bool) (x y : AX)
  | eqg (neg : Bool) (ks : List BK) (x y : AX)
  | not (x : AX)
  | cvI (k : IntKind) (x : AX)
  | ext (x : AX) (i : Nat)
  | len (x : AX)
  | lenS (x : AX)
  | lenA (n : Nat)
  | mn (x y : AX)
  | mx (x y : AX)
  | mkf (f : Fn) (first cap : List AX)
  | bd (zero : List Value) (parts : List (Nat × Nat × AX))
  | fa (off : Nat) (x : AX)
  | ia (e : TypeId) (x i : AX)
  | iaA (n sz : Nat) (x i : AX)
  | ixS (x i : AX)
  | slc (e : TypeId) (x : AX) (lo hi : Option AX)
  | slS (x : AX) (lo hi : Option AX)
  | ld (sz : Option Nat) (x : AX)
  | fld (off : Nat) (sz : Option Nat) (x : AX)
  | cvBS (x : AX)
  | cvRS (x : AX)
  | cvIS (x : AX)
  | alc (e : TypeId) (zero : List Value)
  | box (e : TypeId) (x : AX)
  | st (n : Nat) (x y : AX)
  | bs (e : TypeId) (sz : Nat) (parts : List AX)
  | bs0 (e : TypeId) (sz : Nat) (parts : List AX)
  | lde (sz : Option Nat) (x : AX)
  | app (e : TypeId) (bytes : Nat) (x y : AX)
  | call (f : AX) (args : List AX)
  | callT (f : AX) (args : List AX)
  | ixA (n sz : Nat) (ag : Option Nat) (x i : AX)
  | xv (x : XV) (xs : List AX)
  | xe (x : XE) (xs : List AX)
  | nxt (str : Bool) (x : AX)
  | dead
deriving Inhabited


/-! ### From the model's operations -/

def cX : Operand → Option AX
  | .tmp t => some (.t t)
  | .const v => some (.k v)
  | .func g => some (.f g)
  | .global _ => none

def cXs : List Operand → Option (List AX)
  | [] => some []
  | x :: xs => match cX x, cXs xs with
    | some a, some b => some (a :: b)
    | _, _ => none

def cXo : Option Operand → Option (Option AX)
  | none => some none
  | some x => (cX x).map some

def isBasic (P : Program) (t : TypeId) : Bool :=
  match P.underlying t with
  | some (.int _) | some .bool | some .string => true
  | _ => false

def isBool (P : Program) (t : TypeId) : Bool :=
  match P.underlying t with
  | some .bool => true
  | _ => false

def isSliceT (P : Program) (t : TypeId) : Bool :=
  match P.underlying t with
  | some (.slice _) => true
  | _ => false

def isIntT (P : Program) (t : TypeId) : Bool :=
  match P.underlying t with
  | some (.int _) => true
  | _ => false

/-- A type that is no interface. -/
def isPlainT (P : Program) (t : TypeId) : Bool :=
  match P.underlying t with
  | some (.interface _) | none => false
  | _ => true

/-- How a value of the type is loaded: one cell, or a number of cells. -/
def szOf (P : Program) (t : TypeId) : Option (Option Nat) :=
  match P.underlying t, P.info? t with
  | some (.struct _), some i | some (.array _ _), some i => some (some i.size)
  | some _, some _ => some none
  | _, _ => none

def placesOf (P : Program) (t : TypeId) : Option (List Value × List (Nat × Nat)) :=
  match P.info? t, P.underlying t with
  | some it, some (.struct fields) => match it.zero, fields.toList.mapM (fun f => (P.info? f.type).map fun i => (f.offset, i.size)) with
    | some z, some places => some (z.cells.toList, places)
    | _, _ => none
  | some it, some (.array n e) => match it.zero, P.info? e with
    | some z, some ie => some (z.cells.toList, (List.range n).map fun i => (i * ie.size, ie.size))
    | _, _ => none
  | _, _ => none

def cParts (places : List (Nat × Nat)) : List (Nat × Operand) → Option (List (Nat × Nat × AX))
  | [] => some []
  | (i, x) :: rest => match places[i]?, cX x, cParts places rest with
    | some (off, sz), some a, some b => some ((off, sz, a) :: b)
    | _, _, _ => none


/-- Fields one behind the other, of kinds that g tells. -/
def flatFs (P : Program) (g : TypeId → Option (List BK)) : Nat → List Field → Option (List BK)
  | _, [] => some []
  | k, f :: fs => match g f.type, P.info? f.type with
    | some ks, some i => if f.offset = k ∧ f.name ≠ "_" ∧ i.size = ks.length then (flatFs P g (k + ks.length) fs).map (ks ++ ·) else none
    | _, _ => none

def isStruct (P : Program) (t : TypeId) : Bool :=
  match P.underlying t with
  | some (.struct _) | some (.array _ _) => true
  | _ => false

def flatT (P : Program) : Nat → TypeId → Option (List BK)
  | 0, _ => none
  | d + 1, t => match P.underlying t with
    | some (.int _) => some [.int]
    | some .bool => some [.bool]
    | some .string => some [.str]
    | some (.struct fs) => if P.stoodInHeld t then none else flatFs P (flatT P d) 0 fs.toList
    | some (.array n e) => match flatT P d e, P.info? e with
      | some [k], some i => if isStruct P e = false ∧ i.size = 1 then some (List.replicate n k) else none
      | _, _ => none
    | _ => none

def flatEq (P : Program) (t : TypeId) : Option (List BK) :=
  if isStruct P t && !P.eqGuardType P.depth t then flatT P 8 t else none

/-- Keys of a map that are rows of numbers. -/
def keyKs (P : Program) (kt : TypeId) : Option (List BK) :=
  match P.underlying kt, P.info? kt with
  | some (.struct fs), some i => if (fs.toList.all (fun f => isIntT P f.type) && fs.toList.all (fun f => decide (f.offset < i.size))) = true then (match flatEq P kt with
    | some ks => if ks.length = i.size then some ks else none
    | none => none) else none
  | _, _ => none

/-- Variables that hold pointers ahead: what points at them knows their type. -/
def selfPtr (P : Program) (e : TypeId) : Bool :=
  match P.underlying e with
  | some (.struct fs) => (match fs[0]? with
    | some f => (match P.underlying f.type with
      | some (.pointer _) => true
      | _ => false)
    | none => false)
  | _ => false

def cOp (P : Program) : Op → Option AOp
  | .move x | .assign x => (cX x).map .mv
  | .pick c x y => match cX c, cX x, cX y with
    | some a, some b, some d => some (.pick a b d)
    | _, _, _ => none
  | .binOp op t x y _ => match cX x, cX y with
    | some a, some b => if isBool P t then (match op with | .eql => some (.eqB false a b) | .neq => some (.eqB true a b) | _ => none) else if isBasic P t then some (.bin op a b) else (match flatEq P t, op with | some ks, .eql => some (.eqg false ks a b) | some ks, .neq => some (.eqg true ks a b) | _, _ => none)
    | _, _ => none
  | .unOp .not _ x => (cX x).map .not
  | .convert src dst x => match P.underlying src, P.underlying dst, cX x with
    | some (.int _), some (.int k), some a => some (.cvI k a)
    | some (.int _), some .string, some a => some (.cvIS a)
    | some (.slice e), some .string, some a => match P.underlying e, P.info? e with
      | some (.int .u8), some i => if i.size = 1 then some (.cvBS a) else none
      | some (.int .i32), some i => if i.size = 1 then some (.cvRS a) else none
      | _, _ => none
    | some .string, some (.slice e), some a => match P.underlying e, P.info? e with
      | some (.int .u8), some i => if i.size = 1 then some (.xe (.cvSB e) [a]) else none
      | _, _ => none
    | _, _, _ => none
  | .extract x i => (cX x).map fun a => .ext a i
  | .makeFunc f first cap => match cXs first.toList, cXs cap.toList with
    | some a, some b => some (.mkf f a b)
    | _, _ => none
  | .build t parts => match placesOf P t with
    | some (zero, places) => (cParts places parts.toList).map (.bd zero)
    | none => none
  | .fieldAddr t x f => match P.underlying t, cX x with
    | some (.struct fields), some a => match fields[f]? with
      | some fd => match P.info? fd.type with
        | some i => if i.size = 0 then none else some (.fa fd.offset a)
        | none => none
      | none => none
    | _, _ => none
  | .indexAddr t x i => match P.underlying t, cX x, cX i with
    | some (.slice e), some a, some b => if (P.info? e).isSome then some (.ia e a b) else none
    | some (.array n e), some a, some b => match P.info? e with
      | some ie => some (.iaA n ie.size a b)
      | none => none
    | _, _, _ => none
  | .index t x i => match P.underlying t, cX x, cX i with
    | some .string, some a, some b => some (.ixS a b)
    | some (.array n e), some a, some b => match szOf P e, P.info? e with
      | some ag, some ie => some (.ixA n ie.size ag a b)
      | _, _ => none
    | _, _, _ => none
  | .slice t x lo hi none => match P.underlying t, cX x, cXo lo, cXo hi with
    | some (.slice e), some a, some l, some h => if (P.info? e).isSome then some (.slc e a l h) else none
    | some .string, some a, some l, some h => some (.slS a l h)
    | _, _, _, _ => none
  | .load t x => match szOf P t, cX x with
    | some sz, some a => some (.ld sz a)
    | _, _ => none
  | .field t x f => match P.underlying t, cX x with
    | some (.struct fields), some a => match fields[f]? with
      | some fd => match szOf P fd.type with
        | some sz => some (.fld fd.offset sz a)
        | none => none
      | none => none
    | _, _ => none
  | .call cl => match cl.callee, cl.args.toList, cl.argTypes.toList with
    | .builtin .len, [x], [t] => match P.underlying t, cX x with
      | some (.slice _), some a => some (.len a)
      | some (.map _ _), some a => some (.xv .lenM [a])
      | some .string, some a => some (.lenS a)
      | some (.array n _), some _ => some (.lenA n)
      | _, _ => none
    | .builtin .cap, [x], [t] => match P.underlying t, cX x with
      | some (.slice _), some a => some (.xv .capM [a])
      | _, _ => none
    | .builtin .min, [x, y], _ => match cX x, cX y with
      | some a, some b => some (.mn a b)
      | _, _ => none
    | .builtin .max, [x, y], _ => match cX x, cX y with
      | some a, some b => some (.mx a b)
      | _, _ => none
    | .builtin .append, [x, y], [t, t'] => match P.underlying t, cX x, cX y with
      | some (.slice e), some a, some b => match P.info? e with
        | some i => match i.zero with
          | some z => if (t == t' && z.cells.size == i.size) = true then some (.app e i.bytes a b) else if isIntT P t' = true ∧ z.cells.size = i.size ∧ 0 < i.size then some (.xe (.apz e i.size i.bytes z.cells.toList) [a, b]) else none
          | none => none
        | none => none
      | _, _, _ => none
    | .value f, args, _ => match cX f, cXs args with
      | some a, some b => some (.call a b)
      | _, _ => none
    | .invoke r m, args, _ => match cX r, cXs args with
      | some a, some b => some (.call (.k (.func (.method m) #[] #[])) (a :: b))
      | _, _ => none
    | _, _, _ => none
  | .alloc e => match P.info? e with
    | some i => match i.zero with
      | some z => if selfPtr P e = true then some (.xe (.alcT e z.cells.toList) []) else some (.alc e z.cells.toList)
      | none => none
    | none => none
  | .box e x => (cX x).map (.box e)
  | .store t x y => match P.info? t, cX x, cX y with
    | some i, some a, some b => some (.st i.size a b)
    | _, _, _ => none
  | .buildSlice t n parts => match P.underlying t with
    | some (.slice e) => match P.info? e with
      | some i => match i.zero, cXs (parts.toList.map (·.2)) with
        | some z, some xs => if parts.toList.map (·.1) = List.range n ∧ z.cells.size = i.size ∧ 0 < i.size ∧ n * i.size ≤ 16777216 then (if isSliceT P e = true ∧ i.size = 1 then some (.xe (.bsn e) xs) else some (.bs e i.size xs)) else none
        | _, _ => none
      | none => none
    | _ => none
  | .lookup t x i ok => match P.underlying t, cX x, cX i with
    | some (.map kt et), some a, some b => if isIntT P kt then (match P.info? et with
      | some ie => ie.zero.map fun z => .xv (.lkp ok z) [a, b]
      | none => none) else (match keyKs P kt, P.info? et with
      | some ks, some ie => ie.zero.map fun z => .xv (.lkpS ks ok z) [a, b]
      | _, _ => none)
    | _, _, _ => none
  | .makeMap _ none => some (.xe .mkm [])
  | .makeSlice t l c => match P.underlying t, cX l, cX c with
    | some (.slice e), some a, some b => match P.info? e with
      | some i => match i.zero with
        | some z => if z.cells.size = i.size ∧ 0 < i.size then some (.xe (.mks e i.size i.bytes z.cells.toList) [a, b]) else none
        | none => none
      | none => none
    | _, _, _ => none
  | .mapUpdate t m k x | .insert t m k x => match P.underlying t, cX m, cX k, cX x with
    | some (.map kt _), some a, some b, some d => if isIntT P kt then some (.xe .mup [a, b, d]) else (keyKs P kt).map fun ks => .xe (.mupS ks) [a, b, d]
    | _, _, _, _ => none
  | .mapEntry t m k => match P.underlying t, cX m, cX k with
    | some (.map kt et), some a, some b => match keyKs P kt, P.info? et with
      | some ks, some ie => ie.zero.map fun z => .xe (.mentS ks z) [a, b]
      | _, _ => none
    | _, _, _ => none
  | .entryStore _ m s x => match cX m, cX s, cX x with
    | some a, some b, some d => some (.xe .ests [a, b, d])
    | _, _, _ => none
  | .range t x => match P.underlying t, cX x with
    | some (.map _ _), some a => some (.xe .rngM [a])
    | some .string, some a => some (.xe .rngS [a])
    | _, _ => none
  | .next x str => (cX x).map (.nxt str)
  | .entry x => (cX x).map fun a => .xv .ent [a]
  | .nilCheck x => (cX x).map fun a => .xv .ncl [a]
  | .makeInterface t x => match cX x with
    | some a => if isPlainT P t = true then some (.xv (.mki t) [a]) else none
    | none => none
  | _ => none


structure AOper where
  dst : Option Nat
  op : AOp
  guard : Option (Nat × Bool)
deriving Inhabited

/-! ### What an operation looks at -/

def AX.temps : AX → List Nat
  | .t n => [n]
  | _ => []

def tempsL : List AX → List Nat
  | [] => []
  | x :: l => x.temps ++ tempsL l

def tempsO : Option AX → List Nat
  | none => []
  | some x => x.temps

def tempsP : List (Nat × Nat × AX) → List Nat
  | [] => []
  | x :: l => x.2.2.temps ++ tempsP l

def AOp.temps : AOp → List Nat
  | .mv x | .not x | .cvI _ x | .ext x _ | .len x | .lenS x | .fa _ x | .ld _ x | .lde _ x | .fld _ _ x | .cvBS x | .cvRS x | .cvIS x | .box _ x | .nxt _ x => x.temps
  | .ixA _ _ _ x y | .bin _ x y | .eqB _ x y | .eqg _ _ x y | .mn x y | .mx x y | .ia _ x y | .iaA _ _ x y | .ixS x y | .st _ x y | .app _ _ x y => x.temps ++ y.temps
  | .pick c x y => c.temps ++ (x.temps ++ y.temps)
  | .lenA _ | .alc _ _ | .dead => []
  | .mkf _ a b => tempsL a ++ tempsL b
  | .bd _ ps => tempsP ps
  | .slc _ x a b | .slS x a b => x.temps ++ (tempsO a ++ tempsO b)
  | .bs _ _ xs | .bs0 _ _ xs => tempsL xs
  | .call f xs | .callT f xs => f.temps ++ tempsL xs
  | .xv _ xs | .xe _ xs => tempsL xs

/-- Whether it reads variables. -/
def AOp.reads : AOp → Bool
  | .ld _ _ | .call _ _ | .xv _ _ => true
  | _ => false

/-- 0: a value comes of it; 1: a row; 2: a variable; 3: a store. -/
def AOp.kind : AOp → Nat
  | .bs _ _ _ | .callT _ _ => 1
  | .alc _ _ | .box _ _ => 2
  | .st _ _ _ | .xe _ _ | .nxt _ _ | .app _ _ _ _ => 3
  | _ => 0

def AOper.looks (o : AOper) : List Nat := (match o.guard with | some (t, _) => [t] | none => []) ++ o.op.temps


def dstIn (d : Option Nat) (l : List Nat) : Bool :=
  match d with
  | some d => l.contains d
  | none => false

def sameDst : Option Nat → Option Nat → Bool
  | some d, some e => d == e
  | _, _ => false

def apartB (k j : AOper) : Bool := !dstIn k.dst j.looks && !dstIn j.dst k.looks && !sameDst k.dst j.dst

/-- Whether the two may change places. -/
def commB (k j : AOper) : Bool := apartB k j &&
  ((k.op.kind == 0 && (j.op.kind != 3 || !k.op.reads)) || (j.op.kind == 0 && (decide (k.op.kind ≤ 1) || !j.op.reads)))


/-- Who waits for an operation, directly or through others: gathered in the order of the text, and handed on. -/
def depGo (ops : Array Oper) (i : Nat) (f : List Nat → Bool) : Nat → Nat → List Nat → Bool
  | 0, _, D => f D
  | n + 1, k, D => match (match ops[k]? with
      | some o => o.after.any fun e => Region.binds .any e && (e.on == i || D.contains e.on)
      | none => false) with
    | true => depGo ops i f n (k + 1) (k :: D)
    | false => depGo ops i f n (k + 1) D

/-- The order of the text will do. -/
def lexAt (ops : Array Oper) (aops : List AOper) (listed : Array Bool) (i : Nat) : Bool :=
  (Region.ready .any ops listed).contains i && match aops[i]? with
    | none => false
    | some oi => depGo ops i (fun D => (List.range ops.size).all fun j => j == i || if listed.getD j true then !D.contains j else D.contains j || match aops[j]? with
      | some aj => commB oi aj
      | none => false) ops.size 0 []

def lexD (ops : Array Oper) (aops : List AOper) : Nat → Nat → Array Bool → Bool
  | 0, _, listed => (Region.ready .any ops listed).isEmpty
  | n + 1, k, listed => lexAt ops aops listed k && lexD ops aops n (k + 1) (listed.setIfInBounds k true)


/-- Whether a slice is but handed to an append, and no more. -/
def onlyPut (d : Option Nat) (l : List AOper) : Bool :=
  match d with
  | none => false
  | some t => l.any (fun o => match o.op with | .app _ _ _ (.t n) => n == t | _ => false) && l.all (fun o => match o.op with
    | .app _ _ x _ => !x.temps.contains t
    | op => !op.temps.contains t)

/-- Whether it is appended to. -/
def putOn (d : Option Nat) (l : List AOper) : Bool :=
  match d with
  | none => false
  | some t => l.any fun o => match o.op with | .app _ _ (.t n) _ => n == t | _ => false

/-- A slice literal that nobody appends to wants no name; what a call hands back, and is appended to, is a new row. -/
def unname (l : List AOper) (o : AOper) : AOper :=
  match o.op with
  | .bs e n xs => if onlyPut o.dst l = true then { o with op := .bs0 e n xs } else o
  | .call f xs => if putOn o.dst l = true then { o with op := .callT f xs } else o
  | _ => o

def unnamed (l : List AOper) : List AOper := l.map (unname l)

/-- What is read through the address of a cell of a slice stays: it may be read at any time, if the slice's cells are known. -/
def stays (l : List AOper) (o : AOper) : AOper :=
  match o.op with
  | .ld n (.t k) => if l.any (fun p => p.dst == some k && match p.op with | .ia _ _ _ => true | _ => false) = true then { o with op := .lde n (.t k) } else o
  | _ => unname l o
def settled (l : List AOper) : List AOper := l.map (stays l)

/-- The orders in which a region may be carried out, but for those that come to the same. -/
inductive ATree where
  | leaf
  | dead
  | top
  | one (o : AOper) (t : ATree)
  | both (a b : ATree)
deriving Inhabited

def mkT (ops : Array Oper) (aops : List AOper) : Nat → Array Bool → ATree
  | 0, listed => if (Region.ready .any ops listed).isEmpty then .leaf else .dead
  | n + 1, listed => match Region.ready .any ops listed with
    | [] => .leaf
    | i :: r => match (i :: r).find? (fun i => lexAt ops aops listed i) with
      | some i => (match aops[i]? with
        | some o => .one o (mkT ops aops n (listed.setIfInBounds i true))
        | none => .dead)
      | none => (i :: r).foldr (fun i t => .both (match aops[i]? with
        | some o => .one o (mkT ops aops n (listed.setIfInBounds i true))
        | none => .dead) t) .top

/-- How many orders are told. -/
def ATree.leaves : ATree → Nat
  | .leaf => 1
  | .dead => 0
  | .top => 0
  | .one _ t => t.leaves
  | .both a b => a.leaves + b.leaves

/-- The orders of a region, with reads that are settled, or without. -/
def pickT (ops : Array Oper) (l : List AOper) : ATree :=
  if (mkT ops (unnamed l) ops.size (Array.replicate ops.size false)).leaves ≤ (mkT ops (settled l) ops.size (Array.replicate ops.size false)).leaves then mkT ops (unnamed l) ops.size (Array.replicate ops.size false)
  else mkT ops (settled l) ops.size (Array.replicate ops.size false)

/-- A region whose last operation is held back for good. -/
def holdL (ops : Array Oper) (n : Nat) : Array Oper := ops.modify n fun o => { o with after := o.after ++ o.after.map fun e => { e with on := n } }

/-- The last operation is a call that waits for all others, directly or through others. -/
def lastB (ops : Array Oper) (l : List AOper) : Bool :=
  match ops.size, l.getLast? with
  | n + 1, some ⟨_, .call _ _, none⟩ => decide (0 < n) && (List.range n).all (fun j => depGo ops j (fun D => D.contains n) ops.size 0 []) && (List.range (n + 1)).all (fun j => match ops[j]? with
      | some o => o.after.all fun e => decide (e.on < j)
      | none => false) && lexD (holdL ops n) (unnamed l) n 0 (Array.replicate ops.size false)
  | _, _ => false

def ATree.live : ATree → Bool
  | .leaf => true
  | .dead => false
  | .top => true
  | .one _ t => t.live
  | .both a b => a.live && b.live

inductive ACode where
  | skip
  | reg (ops : List AOper)
  | dreg (ops : List AOper)
  | dtr (t : ATree)
  | seq (a b : ACode)
  | cond (c : AX) (a b : ACode)
  | block (id : Nat) (a : ACode)
  | loop (a : ACode)
  | rfn (g : AX) (n : Nat) (ps : List Nat) (a b : ACode)
  | exit (id : Nat)
  | ret
  | dead
deriving Inhabited


/-! ### From the model's code -/

def dstOK (N : Nat) : Option Nat → Bool
  | none => true
  | some d => decide (d < N)

/-- What the machine does not cover must not be come to. -/
def cOpD (P : Program) (op : Op) : AOp :=
  match cOp P op with
  | some ao => ao
  | none => .dead

def cOper (P : Program) (N : Nat) (ops : Array Oper) (o : Oper) : Option AOper :=
  if dstOK N o.dst = true then (match o.guard with
    | none => some ⟨o.dst, cOpD P o.op, none⟩
    | some (j, want) => match (ops[j]?).bind (·.dst) with
      | some t => if t < N then some ⟨o.dst, cOpD P o.op, some (t, want)⟩ else none
      | none => none) else none

def cOpers (P : Program) (N : Nat) (ops : Array Oper) : List Oper → Option (List AOper)
  | [] => some []
  | o :: rest => match cOper P N ops o, cOpers P N ops rest with
    | some a, some b => some (a :: b)
    | _, _ => none

def cCode (P : Program) (N : Nat) : Code → Option ACode
  | .skip => some .skip
  | .region _ ops false => (cOpers P N ops ops.toList).map .reg
  | .region _ ops true => match cOpers P N ops ops.toList with
    | some l => if (P.follows .mixedOrders && lexD ops (unnamed l) ops.size 0 (Array.replicate ops.size false)) = true then (if (P.follows .mixedOrders && lastB ops l) = true then some (.seq (.dreg ((unnamed l).take (ops.size - 1))) (.reg (l.drop (ops.size - 1)))) else some (.dreg (unnamed l))) else if (P.follows .mixedOrders && (pickT ops l).live) = true then some (.dtr (pickT ops l)) else none
    | none => none
  | .seq a b => match cCode P N a, cCode P N b with
    | some x, some y => some (.seq x y)
    | _, _ => none
  | .cond c a b => match cX c, cCode P N a, cCode P N b with
    | some z, some x, some y => some (.cond z x y)
    | _, _, _ => none
  | .block id a => (cCode P N a).map (.block id)
  | .loop a => (cCode P N a).map .loop
  | .rangeFunc g ps a b => match cX g, cCode P N a, cCode P N b with
    | some x, some y, some z => if ps.toList.all (fun p => decide (p < N)) = true then some (.rfn x N ps.toList y z) else none
    | _, _, _ => none
  | .exit id => some (.exit id)
  | .ret => some .ret
  | _ => some .dead


end Go.Ab
