/-
The operations of the abstract machine that make a value and leave memory alone. Conditions: none.
-/
import Derived.Test.YteekelelcbfekaaDoorAbRun
set_option linter.unusedSimpArgs false
set_option linter.unusedVariables false
set_option linter.unusedSectionVars false
namespace Go.Ab
open Go Go.RowKit

def State.ev (s : State) : AX → Option AV
  | .t n => look s.slots n
  | .k v => some (.lit v)
  | .f g => some (.fn (.func g) [] [])

def State.evs (s : State) : List AX → Option (List AV)
  | [] => some []
  | x :: xs => match s.ev x, s.evs xs with
    | some a, some b => some (a :: b)
    | _, _ => none

def State.evo (s : State) : Option AX → Option (Option AV)
  | none => some none
  | some x => match s.ev x with
    | some a => some (some a)
    | none => none

/-- The value's cells. -/
def AV.cells : AV → List AV
  | .lit (.agg cs) => cs.toList.map .lit
  | .ag l => l
  | x => [x]

def AV.one : AV → Bool
  | .lit v => v.oneCell'
  | .ag _ => false
  | .tu _ => false
  | _ => true

def setAll (cells : List AV) (off : Nat) : List AV → List AV
  | [] => cells
  | x :: xs => setAll (cells.set off x) (off + 1) xs

def fillA : List AV → List (Nat × Nat × AV) → Option (List AV)
  | cells, [] => some cells
  | cells, (off, sz, av) :: rest => if av.cells.length = sz ∧ off + sz ≤ cells.length then fillA (setAll cells off av.cells) rest else none

def evParts (s : State) : List (Nat × Nat × AX) → Option (List (Nat × Nat × AV))
  | [] => some []
  | (off, sz, x) :: rest => match s.ev x, evParts s rest with
    | some a, some b => some ((off, sz, a) :: b)
    | _, _ => none

/-- Literal values of cells. -/
def vals : List AV → Option (List Value)
  | [] => some []
  | .lit v :: xs => match vals xs with
    | some l => some (v :: l)
    | none => none
  | _ :: _ => none

/-- Elements of a literal slice. -/
def valsL : List AV → Option (List (List Value))
  | [] => some []
  | x :: xs => match vals x.cells, valsL xs with
    | some a, some b => some (a :: b)
    | _, _ => none

def oneV : List (List Value) → Bool
  | [] => true
  | x :: xs => x.all Value.oneCell' && oneV xs

def lenAll (n : Nat) : List (List Value) → Bool
  | [] => true
  | x :: xs => decide (x.length = n) && lenAll n xs

def andI (k : IntKind) (a b : Int) : Int := k.wrap (BitVec.ofInt k.bits a &&& BitVec.ofInt k.bits b).toNat
def orI (k : IntKind) (a b : Int) : Int := k.wrap (BitVec.ofInt k.bits a ||| BitVec.ofInt k.bits b).toNat
def xorI (k : IntKind) (a b : Int) : Int := k.wrap (BitVec.ofInt k.bits a ^^^ BitVec.ofInt k.bits b).toNat
def clrI (k : IntKind) (a b : Int) : Int := k.wrap (BitVec.ofInt k.bits a &&& ~~~BitVec.ofInt k.bits b).toNat

def binInt (op : BinOp) (k : IntKind) (a : Int) (k' : IntKind) (b : Int) : Option Value :=
  match op with
  | .shl => if b < 0 then none else some (.int k (k.wrap (a * 2 ^ (min b.toNat k.bits))))
  | .shr => if b < 0 then none else some (.int k (a.fdiv (2 ^ (min b.toNat k.bits))))
  | op => if k = k' then (match op with
    | .add => some (.int k (k.wrap (a + b)))
    | .sub => some (.int k (k.wrap (a - b)))
    | .mul => some (.int k (k.wrap (a * b)))
    | .quo => if b = 0 then none else some (.int k (k.wrap (a.tdiv b)))
    | .rem => if b = 0 then none else some (.int k (a.tmod b))
    | .and => some (.int k (andI k a b))
    | .or => some (.int k (orI k a b))
    | .xor => some (.int k (xorI k a b))
    | .andNot => some (.int k (clrI k a b))
    | .eql => some (.bool (a == b))
    | .neq => some (.bool (a != b))
    | .lss => some (.bool (decide (a < b)))
    | .leq => some (.bool (decide (a ≤ b)))
    | .gtr => some (.bool (decide (a > b)))
    | .geq => some (.bool (decide (a ≥ b)))
    | _ => none) else none

def binStr (op : BinOp) (a b : ByteArray) : Option Value :=
  match op with
  | .add => if ((a.size + b.size : Nat) : Int) > 9223372036854775807 then none else some (.string (a ++ b))
  | .eql => some (.bool (a.toList == b.toList))
  | .neq => some (.bool !(a.toList == b.toList))
  | .lss => some (.bool (Op.bytesLess a.toList b.toList))
  | .leq => some (.bool (Op.bytesLess a.toList b.toList || a.toList == b.toList))
  | .gtr => some (.bool !(Op.bytesLess a.toList b.toList || a.toList == b.toList))
  | .geq => some (.bool !(Op.bytesLess a.toList b.toList))
  | _ => none

def binV (op : BinOp) : Value → Value → Option Value
  | .int k a, .int k' b => binInt op k a k' b
  | .string a, .string b => binStr op a b
  | _, _ => none

/-- Equality of basic values. -/
def eqV : BK → Value → Value → Option Bool
  | .int, .int k a, .int k' b => if k = k' then some (a == b) else none
  | .bool, .bool a, .bool b => some (a == b)
  | .str, .string a, .string b => some (a.toList == b.toList)
  | _, _, _ => none

/-- Equality of cells of basic kinds. -/
def eqK : List BK → List Value → List Value → Option Bool
  | [], [], [] => some true
  | k :: ks, x :: xs, y :: ys => match eqV k x y, eqK ks xs ys with
    | some a, some b => some (a && b)
    | _, _ => none
  | _, _, _ => none

def idxOf : AV → Option Nat
  | .lit (.int _ i) => if 0 ≤ i then some i.toNat else none
  | _ => none

def loOf : Option AV → Option Nat
  | none => some 0
  | some x => idxOf x

def hiOf : Option AV → Nat → Option Nat
  | none, n => some n
  | some x, _ => idxOf x

def bnd (lv hv : Option AV) (n : Nat) : Option (Nat × Nat) :=
  match loOf lv, hiOf hv n with
  | some l, some u => if l ≤ u ∧ u ≤ n then some (l, u) else none
  | _, _ => none

/-- A slice's elements: nil has none. -/
def elsOf : AV → Option (List (List Value))
  | .sl _ els _ => some els
  | .lit (.slice none 0 0) => some []
  | _ => none

def bytesOf : List (List Value) → Option (List UInt8)
  | [] => some []
  | [.int .u8 n] :: rest => match bytesOf rest with
    | some l => some (UInt8.ofNat n.toNat :: l)
    | none => none
  | _ :: _ => none

def runesOf : List (List Value) → Option (List Int)
  | [] => some []
  | [.int .i32 n] :: rest => match runesOf rest with
    | some l => some (n :: l)
    | none => none
  | _ :: _ => none

/-- The bytes of code points. -/
def strOf (ns : List Int) : ByteArray := ns.foldl (fun r n => r ++ Utf8.encode n) ByteArray.empty

def takeCells (cells : List AV) (sz : Option Nat) : Option AV :=
  match sz with
  | none => cells[0]?
  | some n => if n ≤ cells.length then some (.ag (cells.take n)) else none

/-! ### Maps -/

/-- The value of a slice literal: an empty one may be made a row by an append. -/
def bsV (e : TypeId) (els : List (List Value)) (id : Nat) : AV :=
  match els with
  | [] => .vx .wrap [.sl e [] (some id)]
  | x :: l => .sl e (x :: l) (some id)

/-- A value, its cells told. -/
def litA : Value → AV
  | .agg cs => .ag (cs.toList.map .lit)
  | v => .lit v

def eqKey : Value → Value → Option Bool
  | .int k a, .int k' b => if k = k' then some (a == b) else none
  | _, _ => none

def isKey : Value → Bool
  | .int _ _ => true
  | _ => false

/-- Where a key stands, and what with it. -/
def findA (key : Value) : List AV → Nat → Option (Option (Nat × AV))
  | [], _ => some none
  | .lit kv :: v :: rest, i => match eqKey key kv with
    | some true => some (some (i, v))
    | some false => findA key rest (i + 1)
    | none => none
  | _, _ => none

def lkpV (ok : Bool) (zero : Value) : Option (Nat × AV) → AV
  | some (_, v) => if ok then .tu [v, .lit (.bool true)] else v
  | none => if ok then .tu [litA zero, .lit (.bool false)] else litA zero

/-- Where a key of several cells stands, and what with it. -/
def findS (ks : List BK) (xs : List Value) : List AV → Nat → Option (Option (Nat × AV))
  | [], _ => some none
  | .ag l :: v :: rest, i => match vals l with
    | some ys => match eqK ks xs ys with
      | some true => some (some (i, v))
      | some false => findS ks xs rest (i + 1)
      | none => none
    | none => none
  | _, _ => none

/-- A look into a map that nobody writes. -/
def lkpF (ok : Bool) (z : Value) : List AV → Option AV
  | [.vx (.map _) cells, .lit key] => match isKey key, findA key cells 0 with
    | true, some r => some (lkpV ok z r)
    | _, _ => none
  | _ => none

def lkpSV (ks : List BK) (ok : Bool) (z : Value) (bx : List (Nat × List AV)) : List AV → Option AV
  | [.rf .map id, .ag l] => match obAt bx id, vals l with
    | some (.ob (.map _ _ _) cells), some xs => if xs.length = ks.length then (findS ks xs cells 0).map (lkpV ok z) else none
    | _, _ => none
  | [.vx (.map _) cells, .ag l] => match vals l with
    | some xs => if xs.length = ks.length then (findS ks xs cells 0).map (lkpV ok z) else none
    | none => none
  | _ => none

def lenF : List AV → Option AV
  | [.vx (.map n) _] => some (.lit (.int .i64 n))
  | _ => none

/-- An interface's value. -/
def mkiV (t : TypeId) : List AV → Option AV
  | [av] => some (.vx (.iface t) [av])
  | _ => none

/-- A pointer that is not nil. -/
def nclV : List AV → Option AV
  | [.rf (.var _ _) id] => some (.bp id 0)
  | [.bp id off] => some (.bp id off)
  | _ => none

def XV.val2 (x : XV) (bx : List (Nat × List AV)) (avs : List AV) : Option AV :=
  match x with
  | .lkp ok z => lkpF ok z avs
  | .lkpS ks ok z => lkpSV ks ok z bx avs
  | .lenM => lenF avs
  | .mki t => mkiV t avs
  | .ncl => nclV avs
  | _ => none

def XV.val (x : XV) (bx : List (Nat × List AV)) (avs : List AV) : Option AV :=
  match x, avs with
  | .lkp ok z, [.rf .map id, .lit key] => match obAt bx id with
    | some (.ob (.map _ _ _) cells) => match isKey key, findA key cells 0 with
      | true, some r => some (lkpV ok z r)
      | _, _ => none
    | _ => none
  | .lkp ok z, [.lit (.map none), .lit key] => if isKey key then some (lkpV ok z none) else none
  | .lenM, [.rf .map id] => match obAt bx id with
    | some (.ob (.map _ _ n) _) => some (.lit (.int .i64 n))
    | _ => none
  | .lenM, [.lit (.map none)] => some (.lit (.int .i64 0))
  | .capM, [.lit (.slice none 0 0)] => some (.lit (.int .i64 0))
  | .ent, [.rf .iter id] => match obAt bx id with
    | some (.ob (.miter seen _ last) [.rf .map m]) => match obAt bx m with
      | some (.ob (.map _ _ n) cells) => match seen.getLast? with
        | some i => if n = last then (match cells[2 * i]?, cells[2 * i + 1]? with
          | some key, some v => some (.tu [key, v])
          | _, _ => none) else none
        | none => none
      | _ => none
    | _ => none
  | x, avs => x.val2 bx avs

/-- What a step makes: a value or none, and the memory behind it. -/
structure Upd where
  val : Option AV
  boxes : List (Nat × List AV)
  tips : List (Nat × TypeId)
  next : Nat

def Upd.ap (u : Upd) (d : Option Nat) (s : State) : State :=
  match u.val with
  | some av => ({ s with boxes := u.boxes, tips := u.tips, next := u.next }).put d av
  | none => ({ s with boxes := u.boxes, tips := u.tips, next := u.next }).del d

def allOneB : List AV → Bool
  | [] => true
  | x :: xs => x.one && allOneB xs

def mupSE (ks : List BK) (bx : List (Nat × List AV)) (tp : List (Nat × TypeId)) (nx : Nat) : List AV → Option Upd
  | [.rf .map id, .ag l, v] => match obAt bx id, vals l with
    | some (.ob (.map k e n) cells), some xs => if xs.length = ks.length then (match findS ks xs cells 0 with
      | some (some (i, _)) => some ⟨none, setBox bx id [.ob (.map k e n) (cells.set (2 * i + 1) v)], tp, nx⟩
      | some none => some ⟨none, setBox bx id [.ob (.map k e (n + 1)) (cells ++ [.ag l, v])], tp, nx⟩
      | none => none) else none
    | _, _ => none
  | _ => none

/-- An entry, to be written: its value, and when it was laid. -/
def mentSE (ks : List BK) (z : Value) (bx : List (Nat × List AV)) (tp : List (Nat × TypeId)) (nx : Nat) : List AV → Option Upd
  | [.rf .map id, .ag l] => match obAt bx id, vals l with
    | some (.ob (.map k e n) cells), some xs => if xs.length = ks.length then (match findS ks xs cells 0 with
      | some (some (i, .lit v)) => some ⟨some (.tu [.lit v, .lit (.int .i64 i)]), setBox bx id [.ob (.map k e n) cells], tp, nx⟩
      | some none => some ⟨some (.tu [.lit z, .lit (.int .i64 n)]), setBox bx id [.ob (.map k e (n + 1)) (cells ++ [.ag l, .lit z])], tp, nx⟩
      | _ => none) else none
    | _, _ => none
  | _ => none
def estsE (bx : List (Nat × List AV)) (tp : List (Nat × TypeId)) (nx : Nat) : List AV → Option Upd
  | [.rf .map id, .lit (.int .i64 j), v] => match obAt bx id with
    | some (.ob (.map k e n) cells) => if 0 ≤ j ∧ j < n then some ⟨none, setBox bx id [.ob (.map k e n) (cells.set (2 * j.toNat + 1) v)], tp, nx⟩ else none
    | _ => none
  | _ => none

/-- A text's bytes. -/
def strB (s : ByteArray) : List (List Value) := s.data.toList.map fun b => [.int .u8 b.toNat]
/-- A text's bytes as a slice that is nobody's to append to. -/
def cvSBE (e : TypeId) (bx : List (Nat × List AV)) (tp : List (Nat × TypeId)) (nx : Nat) : List AV → Option Upd
  | [.lit (.string s)] => some ⟨some (.sl e (strB s) none), bx, tp, nx⟩
  | _ => none

/-- A new variable, of which the type is known where it is pointed at. -/
def alcTE (e : TypeId) (zero : List Value) (bx : List (Nat × List AV)) (tp : List (Nat × TypeId)) (nx : Nat) : List AV → Option Upd
  | [] => some ⟨some (.rf (.var e zero.length) nx), (nx, zero.map .lit) :: bx, tp, nx + 1⟩
  | _ => none

def XE.eff2 (x : XE) (bx : List (Nat × List AV)) (tp : List (Nat × TypeId)) (nx : Nat) (avs : List AV) : Option Upd :=
  match x with
  | .mupS ks => mupSE ks bx tp nx avs
  | .mentS ks z => mentSE ks z bx tp nx avs
  | .ests => estsE bx tp nx avs
  | .alcT e z => alcTE e z bx tp nx avs
  | .cvSB e => cvSBE e bx tp nx avs
  | _ => none

def XE.eff (x : XE) (bx : List (Nat × List AV)) (tp : List (Nat × TypeId)) (nx : Nat) (avs : List AV) : Option Upd :=
  match x, avs with
  | .mkm, [] => some ⟨some (.rf .map nx), (nx, [.ob (.map 0 0 0) []]) :: bx, tp, nx + 1⟩
  | .mup, [.rf .map id, .lit key, v] => match obAt bx id with
    | some (.ob (.map k e n) cells) => match isKey key, findA key cells 0 with
      | true, some (some (i, _)) => some ⟨none, setBox bx id [.ob (.map k e n) (cells.set (2 * i + 1) v)], tp, nx⟩
      | true, some none => some ⟨none, setBox bx id [.ob (.map k e (n + 1)) (cells ++ [.lit key, v])], tp, nx⟩
      | _, _ => none
    | _ => none
  | .rngS, [.lit (.string b)] => some ⟨some (.rf .iter nx), (nx, [.ob (.iter b 0) []]) :: bx, tp, nx + 1⟩
  | .bsn e, avs => if allOneB avs = true then some ⟨some (.sn e avs), bx, tp, nx⟩ else none
  | .apz e sz bytes zero, [.lit (.slice none 0 0), .lit (.int _ n)] => if 0 < n ∧ n.toNat * bytes ≤ 140737488355328 ∧ n ≤ 9223372036854775807 then some ⟨some (.rf (.row e sz 0 n.toNat) nx), (nx, ((List.replicate n.toNat zero).flatten).map .lit) :: bx, tp, nx + 1⟩ else none
  | .mks e sz bytes zero, [.lit (.int _ l), .lit (.int _ c)] => if 0 ≤ l ∧ l ≤ c ∧ (bytes : Int) * c ≤ 281474976710656 ∧ c ≤ 9223372036854775807 then some ⟨some (.rf (.row e sz 0 l.toNat) nx), (nx, ((List.replicate l.toNat zero).flatten).map .lit) :: bx, tp, nx + 1⟩ else none
  | .rngM, [.rf .map id] => match obAt bx id with
    | some (.ob (.map _ _ n) _) => some ⟨some (.rf .iter nx), (nx, [.ob (.miter [] n n) [.rf .map id]]) :: bx, tp, nx + 1⟩
    | _ => none
  | x, avs => x.eff2 bx tp nx avs

/-- The next round of a loop over a string or a map: for a map, whichever entry is drawn. -/
def nextOf (str : Bool) (it : AV) (d : Option Nat) (s : State) (K : State → Prop) : Prop :=
  match it with
  | .rf .iter id => match obAt s.boxes id with
    | some (.ob (.iter b pos) _) => str = true ∧ (pos < b.size → K ({ s with boxes := setBox s.boxes id [.ob (.iter b (pos + (Utf8.decode b pos).2)) []] }.put d (.tu [.lit (.bool true), .lit (.int .i64 pos), .lit (.int .i32 (Utf8.decode b pos).1)]))) ∧
        (b.size ≤ pos → K (s.put d (.tu [.lit (.bool false)])))
    | some (.ob (.miter seen since last) [.rf .map m]) => match obAt s.boxes m with
      | some (.ob (.map _ _ n) cells) => str = false ∧ n ≤ since ∧ since ≤ last ∧
          (∀ (i : Nat) (key v : AV), i < n → i ∉ seen → cells[2 * i]? = some key → cells[2 * i + 1]? = some v → K ({ s with boxes := setBox s.boxes id [.ob (.miter (seen ++ [i]) since n) [.rf .map m]] }.put d (.tu [.lit (.bool true), key, v]))) ∧
          ((∀ i, i < n → i ∈ seen) → K (s.put d (.tu [.lit (.bool false)])))
      | _ => False
    | _ => False
  | _ => False

def vop (s : State) : AOp → Option AV
  | .xv x xs => match s.evs xs with
    | some avs => x.val s.boxes avs
    | none => none
  | .mv x => s.ev x
  | .pick c x y => match s.ev c with
    | some (.lit (.bool b)) => if b then s.ev x else s.ev y
    | _ => none
  | .bin op x y => match s.ev x, s.ev y with
    | some (.lit a), some (.lit b) => (binV op a b).map .lit
    | _, _ => none
  | .eqB neg x y => match s.ev x, s.ev y with
    | some (.lit (.bool a)), some (.lit (.bool b)) => some (.lit (.bool (if neg then !(a == b) else a == b)))
    | _, _ => none
  | .eqg neg ks x y => match s.ev x, s.ev y with
    | some (.ag a), some (.ag b) => match vals a, vals b with
      | some xs, some ys => (eqK ks xs ys).map fun t => .lit (.bool (if neg then !t else t))
      | _, _ => none
    | _, _ => none
  | .not x => match s.ev x with
    | some (.lit (.bool b)) => some (.lit (.bool !b))
    | _ => none
  | .cvI k x => match s.ev x with
    | some (.lit (.int _ n)) => some (.lit (.int k (k.wrap n)))
    | _ => none
  | .ext x i => match s.ev x with
    | some (.tu l) => l[i]?
    | _ => none
  | .len x => match s.ev x with
    | some (.sl _ els _) => some (.lit (.int .i64 els.length))
    | some (.lit (.slice none 0 0)) => some (.lit (.int .i64 0))
    | some (.rf (.row _ _ _ n) _) => some (.lit (.int .i64 n))
    | some (.sn _ l) => some (.lit (.int .i64 l.length))
    | some (.vx .wrap [.sl _ els _]) => some (.lit (.int .i64 els.length))
    | some (.vx .wrap [.lit (.slice none 0 0)]) => some (.lit (.int .i64 0))
    | _ => none
  | .lenS x => match s.ev x with
    | some (.lit (.string b)) => some (.lit (.int .i64 b.size))
    | _ => none
  | .lenA n => some (.lit (.int .i64 n))
  | .mn x y => match s.ev x, s.ev y with
    | some (.lit (.int k a)), some (.lit (.int _ b)) => some (.lit (.int k (if b < a then b else a)))
    | _, _ => none
  | .mx x y => match s.ev x, s.ev y with
    | some (.lit (.int k a)), some (.lit (.int _ b)) => some (.lit (.int k (if a < b then b else a)))
    | _, _ => none
  | .mkf f first cap => match s.evs first, s.evs cap with
    | some a, some b => some (.fn f a b)
    | _, _ => none
  | .bd zero parts => match evParts s parts with
    | some ps => (fillA (zero.map .lit) ps).map .ag
    | none => none
  | .fa off x => match s.ev x with
    | some (.bp id o) => some (.bp id (o + off))
    | some (.ep cells) => some (.ep (cells.drop off))
    | _ => none
  | .ia e x i => match s.ev x, s.ev i with
    | some (.sl e' els _), some iv => match idxOf iv with
      | some j => if e' = e then (els[j]?).map fun x => .ep (x.map .lit) else none
      | none => none
    | some (.rf (.row e' sz off n) id), some iv => match idxOf iv with
      | some j => if e' = e ∧ j < n then some (.bp id (off + j * sz)) else none
      | none => none
    | some (.sn e' l), some iv => match idxOf iv with
      | some j => if e' = e then (l[j]?).map fun x => .ep [x] else none
      | none => none
    | _, _ => none
  | .iaA n sz x i => match s.ev x, s.ev i with
    | some (.bp id o), some iv => match idxOf iv with
      | some j => if j < n then some (.bp id (o + j * sz)) else none
      | none => none
    | some (.ep cells), some iv => match idxOf iv with
      | some j => if j < n then some (.ep (cells.drop (j * sz))) else none
      | none => none
    | _, _ => none
  | .ixS x i => match s.ev x, s.ev i with
    | some (.lit (.string b)), some iv => match idxOf iv with
      | some j => (b[j]?).map fun u => .lit (.int .u8 u.toNat)
      | none => none
    | _, _ => none
  | .ixA n sz ag x i => match s.ev x, s.ev i with
    | some (.ag cells), some iv => match idxOf iv with
      | some j => if j < n then takeCells (cells.drop (j * sz)) ag else none
      | none => none
    | _, _ => none
  | .slc e x lo hi => match s.ev x, s.evo lo, s.evo hi with
    | some (.sl e' els _), some lv, some hv => match bnd lv hv els.length with
      | some (l, u) => if e' = e then some (.sl e ((els.take u).drop l) none) else none
      | none => none
    | some (.lit (.slice none 0 0)), some lv, some hv => match bnd lv hv 0 with
      | some _ => some (.lit (.slice none 0 0))
      | none => none
    | some (.rf (.row e' sz off n) id), some lv, some hv => match bnd lv hv n with
      | some (l, u) => if e' = e then some (.rf (.row e sz (off + l * sz) (u - l)) id) else none
      | none => none
    | _, _, _ => none
  | .slS x lo hi => match s.ev x, s.evo lo, s.evo hi with
    | some (.lit (.string b)), some lv, some hv => match bnd lv hv b.size with
      | some (l, u) => some (.lit (.string (b.extract l u)))
      | none => none
    | _, _, _ => none
  | .ld sz x => match s.ev x with
    | some (.bp id o) => match boxAt s.boxes id with
      | some cells => takeCells (cells.drop o) sz
      | none => none
    | some (.ep cells) => takeCells cells sz
    | _ => none
  | .fld off sz x => match s.ev x with
    | some (.ag cells) => takeCells (cells.drop off) sz
    | _ => none
  | .lde sz x => match s.ev x with
    | some (.ep cells) => takeCells cells sz
    | _ => none
  | .bs0 e n xs => match s.evs xs with
    | some avs => match valsL avs with
      | some els => if (lenAll n els && oneV els) = true then some (.sl e els none) else none
      | none => none
    | none => none
  | .cvBS x => match s.ev x with
    | some xv => match elsOf xv with
      | some els => (bytesOf els).map fun l => .lit (.string ⟨l.toArray⟩)
      | none => none
    | _ => none
  | .cvRS x => match s.ev x with
    | some xv => match elsOf xv with
      | some els => (runesOf els).map fun l => .lit (.string (strOf l))
      | none => none
    | _ => none
  | .cvIS x => match s.ev x with
    | some (.lit (.int _ n)) => some (.lit (.string (Utf8.encode n)))
    | _ => none
  | _ => none

/-! ### Appends to rows that may be written -/

def isRow : AV → Bool
  | .rf (.row _ _ _ _) _ => true
  | .vx .wrap _ => true
  | _ => false

/-- What an append brings: how many elements, and their cells. -/
def srcN (bx : List (Nat × List AV)) (e : TypeId) : AV → Option (Nat × List Value)
  | .sl e' els _ => if e' = e then some (els.length, els.flatten) else none
  | .lit (.slice none 0 0) => some (0, [])
  | .rf (.row e' sz off m) id => match boxAt bx id with
    | some cells => match vals ((cells.drop off).take (m * sz)) with
      | some vs => if e' = e ∧ vs.length = m * sz ∧ (vs.all Value.oneCell') = true then some (m, vs) else none
      | none => none
    | none => none
  | _ => none

structure RowApp where
  sz : Nat
  n : Nat
  m : Nat
  cells : List AV
  boxes : List (Nat × List AV)
  tips : List (Nat × TypeId)
  skip : Nat

/-- An append to such a row, or of one to nil. -/
def rowApp (bx : List (Nat × List AV)) (tp : List (Nat × TypeId)) (e : TypeId) : AV → AV → Option RowApp
  | .rf (.row e' sz off n) id, yv => match boxAt bx id, srcN bx e yv with
    | some cells, some (m, vs) => if e' = e ∧ off = 0 ∧ n * sz ≤ cells.length then some ⟨sz, n, m, cells.take (n * sz) ++ vs.map .lit, delBox bx id, tp, 0⟩ else none
    | _, _ => none
  | .lit (.slice none 0 0), .rf (.row e' sz off m') id => match srcN bx e (.rf (.row e' sz off m') id) with
    | some (m, vs) => if 0 < m then some ⟨sz, 0, m, vs.map .lit, bx, tp, 0⟩ else none
    | none => none
  | .vx .wrap [.lit (.slice none 0 0)], yv => match srcN bx e yv with
    | some (m, vs) => if 0 < m ∧ m ≤ vs.length then some ⟨vs.length / m, 0, m, vs.map .lit, bx, tp, 0⟩ else none
    | none => none
  | .vx .wrap [.sl e' [] (some id)], yv => match srcN bx e yv with
    | some (m, vs) => if 0 < m ∧ m ≤ vs.length ∧ e' = e ∧ hasTip tp id e = true then some ⟨vs.length / m, 0, m, vs.map .lit, bx, dropTip tp id, 1⟩ else none
    | none => none
  | _, _ => none

end Go.Ab
