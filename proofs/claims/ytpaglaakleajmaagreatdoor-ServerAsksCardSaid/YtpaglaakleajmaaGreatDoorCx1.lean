/- The executor: plain Lean functions that carry out the model's code over a heap of known blocks. -/
import Derived.Orders
import Derived.LoopN
import Derived.Tactics
import Derived.Laws.Cells
import Derived.Laws.Strings
set_option maxRecDepth 100000
set_option linter.unusedVariables false
set_option linter.unusedSimpArgs false
namespace Go.Cx

/-! ### tries -/
inductive Tr (α : Type) where
  | e
  | n (o : Option α) (l r : Tr α)
  deriving Inhabited
namespace Tr
variable {α : Type}
def get : Tr α → Nat → Option α
  | .e, _ => none
  | .n o l r, i => match i with
    | 0 => o
    | j + 1 => match j % 2 with
      | 0 => l.get (j / 2)
      | _ + 1 => r.get (j / 2)
def upd : Nat → Tr α → Nat → Option α → Tr α
  | 0, t, _, _ => t
  | f + 1, t, i, v => match t with
    | .e => match i with
      | 0 => .n v .e .e
      | j + 1 => match j % 2 with
        | 0 => .n none (upd f .e (j / 2) v) .e
        | _ + 1 => .n none .e (upd f .e (j / 2) v)
    | .n o l r => match i with
      | 0 => .n v l r
      | j + 1 => match j % 2 with
        | 0 => .n o (upd f l (j / 2) v) r
        | _ + 1 => .n o l (upd f r (j / 2) v)
def ofL : List α → Nat → Tr α → Tr α
  | [], _, t => t
  | x :: l, i, t => ofL l (i + 1) (upd 24 t i (some x))
end Tr
/-- the indices that a trie of 24 levels bears for sure -/
def lim : Nat := 1000000

/-! ### values -/
inductive SC where
  | undef
  | bool (b : Bool)
  | int (k : IntKind) (v : Nat) (c : Int)
  | str (l : List Nat)
  | pnil
  | ptr (b o : Nat)
  | snil
  | sl (b o len cap es : Nat) (ex : Bool)
  | mnil
  | map (b : Nat)
  | fnil
  | fn (f : Nat) (caps : List (Nat × Nat))
  | inil
  | opq (i : Nat)
  deriving Inhabited
inductive SA where
  | s (x : SC)
  | g (l : List SC)
  deriving Inhabited
inductive SV where
  | a (x : SA)
  | t (l : List SA)
  deriving Inhabited
def SA.cells : SA → List SC
  | .s x => [x]
  | .g l => l
inductive SO where
  | cells (c : Tr SC) (n : Nat) (elem : Nat)
  | map (es : List (SA × SA × Nat)) (clock : Nat)
  deriving Inhabited
abbrev Ts := Tr SV
abbrev Hp := Tr SO
structure St where
  t : Ts
  h : Hp
  n : Nat
  deriving Inhabited

/-- what is known of the variables: ρ v lies within rng v; ρ x - ρ y ≤ dif x y -/
structure Fx where
  rng : Nat → Option (Int × Int)
  dif : Nat → Nat → Option Int
  opl : Nat → Option Nat  -- an opaque slice's length: a variable
  rem : Nat → Option (Int × Int) := fun _ => none  -- a variable's rest: (m, r)

/-! ### numbers -/
def ub (F : Fx) (x y : Nat) : Option Int :=
  match x, y with
  | 0, 0 => some 0
  | _ + 1, 0 => (F.rng x).map (·.2)
  | 0, _ + 1 => (F.rng y).map fun p => -p.1
  | _ + 1, _ + 1 => F.dif x y
def natLt : Int → Int → Bool
  | .ofNat a, .ofNat b => Nat.blt a b
  | a, b => decide (a < b)
def natEq : Int → Int → Bool
  | .ofNat a, .ofNat b => Nat.beq a b
  | a, b => decide (a = b)
def ltI (F : Fx) (v : Nat) (c : Int) (w : Nat) (d : Int) : Option Bool :=
  match Nat.beq v w with
  | true => some (natLt c d)
  | false =>
    match ub F v w with
    | none => match ub F w v with
      | none => none
      | some u' => match decide (u' + d - c ≤ 0) with | true => some false | false => none
    | some u => match decide (u + c - d < 0) with
      | true => some true
      | false => match ub F w v with
        | none => none
        | some u' => match decide (u' + d - c ≤ 0) with | true => some false | false => none
def eqI (F : Fx) (v : Nat) (c : Int) (w : Nat) (d : Int) : Option Bool :=
  match Nat.beq v w with
  | true => some (natEq c d)
  | false => match ltI F v c w d with
    | some true => some false
    | _ => match ltI F w d v c with
      | some true => some false
      | _ => none
/-- a sum, held against the kind's range -/
def wrapS (F : Fx) (k : IntKind) (v : Nat) (c : Int) : Option SC :=
  match v with
  | 0 => match c with
    | .ofNat a => match Nat.blt a 100 with
      | true => some (.int k 0 c)
      | false => some (.int k 0 (k.wrap c))
    | c => some (.int k 0 (k.wrap c))
  | _ + 1 => match F.rng v with
    | some (lo, hi) => match decide (k.min ≤ lo + c) && decide (hi + c ≤ k.max) with
      | true => some (.int k v c)
      | false => none
    | none => none
def addS (F : Fx) (k : IntKind) (v : Nat) (c : Int) (w : Nat) (d : Int) : Option SC :=
  match w with
  | 0 => wrapS F k v (c + d)
  | _ + 1 => match v with
    | 0 => wrapS F k w (c + d)
    | _ + 1 => none
def subS (F : Fx) (k : IntKind) (v : Nat) (c : Int) (w : Nat) (d : Int) : Option SC :=
  match w with
  | 0 => wrapS F k v (c - d)
  | _ + 1 => match Nat.beq v w with
    | true => wrapS F k 0 (c - d)
    | false => none
def bitsS (op : BinOp) (k : IntKind) (x y : Int) : Option SC :=
  let a := BitVec.ofInt k.bits x
  let b := BitVec.ofInt k.bits y
  match op with
  | .and => some (.int k 0 (k.wrap (a &&& b).toNat))
  | .or => some (.int k 0 (k.wrap (a ||| b).toNat))
  | .xor => some (.int k 0 (k.wrap (a ^^^ b).toNat))
  | _ => none
def remS (F : Fx) (k : IntKind) (v : Nat) (c d : Int) : Option SC :=
  match F.rem v, F.rng v with
  | some (m, r), some (lo, _) => match decide (m = d) && (decide (0 < d) && decide (0 ≤ lo + c)) with
    | true => some (.int k 0 ((r + c) % d))
    | false => none
  | _, _ => none
def binI (F : Fx) (op : BinOp) (k : IntKind) (v : Nat) (c : Int) (w : Nat) (d : Int) : Option SC :=
  match op with
  | .add => addS F k v c w d
  | .sub => subS F k v c w d
  | .eql => (eqI F v c w d).map .bool
  | .neq => (eqI F v c w d).map fun b => .bool (!b)
  | .lss => (ltI F v c w d).map .bool
  | .geq => (ltI F v c w d).map fun b => .bool (!b)
  | .gtr => (ltI F w d v c).map .bool
  | .leq => (ltI F w d v c).map fun b => .bool (!b)
  | .rem => match v, w with
    | 0, 0 => match decide (d = 0) with | true => none | false => some (.int k 0 (c.tmod d))
    | v + 1, 0 => remS F k (v + 1) c d
    | _, _ => none
  | op => match v, w with
    | 0, 0 => match op with
      | .mul => wrapS F k 0 (c * d)
      | .quo => match decide (d = 0) with | true => none | false => some (.int k 0 (k.wrap (c.tdiv d)))
      | op => bitsS op k c d
    | _, _ => none
def shiftI (op : BinOp) (k : IntKind) (x y : Int) : Option SC :=
  match decide (y < 0) with
  | true => none
  | false =>
    let n := min y.toNat k.bits
    match op with
    | .shl => some (.int k 0 (k.wrap (x * 2 ^ n)))
    | .shr => some (.int k 0 (x.fdiv (2 ^ n)))
    | _ => none
def lEq : List Nat → List Nat → Bool
  | [], [] => true
  | a :: x, b :: y => match Nat.beq a b with | true => lEq x y | false => false
  | _, _ => false
def binS (F : Fx) (tk : Option TypeDesc) (op : BinOp) : SC → SC → Option SC
  | .int k v c, .int k' w d => match op with
    | .shl => match v, w with | 0, 0 => shiftI op k c d | _, _ => none
    | .shr => match v, w with | 0, 0 => shiftI op k c d | _, _ => none
    | op => match decide (k = k') with | true => binI F op k v c w d | false => none
  | .str a, .str b => match op with
    | .add => match Nat.blt (a.length + b.length) 1000000 with | true => some (.str (a ++ b)) | false => none
    | .eql => some (.bool (lEq a b))
    | .neq => some (.bool (!lEq a b))
    | _ => none
  | .bool a, .bool b => match tk with
    | some .bool => nilS op (a == b)
    | _ => none
  | .pnil, .pnil => isP (nilS op true)
  | .pnil, .ptr _ _ => isP (nilS op false)
  | .ptr _ _, .pnil => isP (nilS op false)
  | .snil, .snil => isS (nilS op true)
  | .sl .., .snil => isS (nilS op false)
  | .snil, .sl .. => isS (nilS op false)
  | .mnil, .mnil => isM (nilS op true)
  | .map _, .mnil => isM (nilS op false)
  | .mnil, .map _ => isM (nilS op false)
  | _, _ => none
  where
  nilS : BinOp → Bool → Option SC
  | .eql, b => some (.bool b)
  | .neq, b => some (.bool (!b))
  | _, _ => none
  isP (r : Option SC) : Option SC := match tk with | some (.pointer _) => r | _ => none
  isS (r : Option SC) : Option SC := match tk with | some (.slice _) => r | _ => none
  isM (r : Option SC) : Option SC := match tk with | some (.map _ _) => r | _ => none

/-! ### the program's constants -/
def ofC : Value → Option SC
  | .bool b => some (.bool b)
  | .int k n => some (.int k 0 n)
  | .string s => some (.str (s.data.toList.map (·.toNat)))
  | .pointer none => some .pnil
  | .slice none 0 0 => some .snil
  | .map none => some .mnil
  | .nilFunc => some .fnil
  | .nilIface => some .inil
  | .tuple vs => match vs.toList with | [] => some .undef | _ => none
  | _ => none
def ofCs : List Value → Option (List SC)
  | [] => some []
  | v :: l => match ofC v with
    | some x => match ofCs l with | some r => some (x :: r) | none => none
    | none => none
def ofV : Value → Option SV
  | .agg cs => (ofCs cs.toList).map fun l => .a (.g l)
  | v => (ofC v).map fun x => .a (.s x)
def ev : Operand → Ts → Option SV
  | .tmp t => fun T => T.get t
  | .const v => match ofV v with | some x => fun _ => some x | none => fun _ => none
  | .func f => fun _ => some (.a (.s (.fn f [])))
  | .global _ => fun _ => none
def evs : List Operand → Ts → Option (List SV)
  | [], _ => some []
  | x :: l, T => match ev x T with
    | some v => match evs l T with | some r => some (v :: r) | none => none
    | none => none
/-- one value -/
def evA (x : Operand) (T : Ts) : Option SA := match ev x T with | some (.a v) => some v | _ => none
def evC (x : Operand) (T : Ts) : Option SC := match ev x T with | some (.a (.s v)) => some v | _ => none

/-! ### cells -/
def loadN (c : Tr SC) : Nat → Nat → Option (List SC)
  | _, 0 => some []
  | o, n + 1 => match c.get o with
    | some x => match loadN c (o + 1) n with | some l => some (x :: l) | none => none
    | none => none
def storeN : List SC → Tr SC → Nat → Option (Tr SC)
  | [], c, _ => some c
  | .undef :: _, _, _ => none
  | x :: l, c, o => match c.get o with
    | some _ => storeN l (c.upd 24 o (some x)) (o + 1)
    | none => none
def isAgg? (P : Program) (t : TypeId) : Option Bool :=
  match P.underlying t with
  | some (.struct _) => some true
  | some (.array _ _) => some true
  | some _ => some false
  | none => none
def size? (P : Program) (t : TypeId) : Option Nat := (P.info? t).map (·.size)
def bytes? (P : Program) (t : TypeId) : Option Nat := (P.info? t).map (·.bytes)
def zero? (P : Program) (t : TypeId) : Option (List SC) := match P.info? t with
  | some i => match i.zero with
    | some v => ofCs v.cells.toList
    | none => none
  | none => none
def zeroA? (P : Program) (t : TypeId) : Option SA := match P.info? t with
  | some i => match i.zero with
    | some v => match ofV v with | some (.a x) => some x | _ => none
    | none => none
  | none => none
def shut (agg : Bool) (l : List SC) : Option SA := match agg with
  | true => some (.g l)
  | false => match l with | [x] => some (.s x) | _ => none
def loadAt (agg : Bool) (n : Nat) (h : Hp) (b o : Nat) : Option SA :=
  match h.get b with
  | some (.cells c _ _) => match loadN c o n with
    | some l => shut agg l
    | none => none
  | _ => none
def storeAt (h : Hp) (b o : Nat) (l : List SC) : Option Hp :=
  match h.get b with
  | some (.cells c n e) => match Nat.blt (o + l.length) lim with
    | true => match storeN l c o with
      | some c' => some (h.upd 24 b (some (.cells c' n e)))
      | none => none
    | false => none
  | _ => none
def mkCells (l : List SC) (e : TypeId) : SO := .cells (Tr.ofL l 0 .e) l.length e
/-- of a block that may be longer -/
def mkCellsA (l : List SC) (e : TypeId) : SO := .cells (Tr.ofL l 0 .e) 0 e

/-! ### operations -/
inductive OpK where
  | pure (f : Ts → Option SV)
  | read (f : Ts → Hp → Option SV)
  | make (f : Ts → Nat → Option (SV × SO))
  | chg (f : Ts → Hp → Nat → Option (SV × Hp × Nat))

def sc (x : SC) : SV := .a (.s x)

def pickF (c a b : Operand) (T : Ts) : Option SV := match evC c T with
  | some (.bool true) => ev a T
  | some (.bool false) => ev b T
  | _ => none
def splice {α : Type} : List α → Nat → List α → List α
  | cs, 0, [] => cs
  | _ :: cs, 0, x :: l => x :: splice cs 0 l
  | [], 0, _ :: _ => []
  | c :: cs, o + 1, l => c :: splice cs o l
  | [], _ + 1, _ => []
def fillS (T : Ts) : List (Nat × Nat × Operand) → List SC → Option (List SC)
  | [], cs => some cs
  | (o, n, x) :: r, cs => match evA x T with
    | some v => match Nat.beq v.cells.length n && Nat.ble (o + n) cs.length with
      | true => fillS T r (splice cs o v.cells)
      | false => none
    | none => none
def partsOf (place : Nat → Option (Nat × Nat)) : List (Nat × Operand) → Option (List (Nat × Nat × Operand))
  | [] => some []
  | (i, x) :: r => match place i with
    | some (o, n) => match partsOf place r with | some q => some ((o, n, x) :: q) | none => none
    | none => none
def fieldsOf (P : Program) : List Field → Option (List (Nat × Nat))
  | [] => some []
  | f :: r => match size? P f.type with
    | some n => match fieldsOf P r with | some q => some ((f.offset, n) :: q) | none => none
    | none => none
def buildK (P : Program) (t : TypeId) (parts : Array (Nat × Operand)) : Option OpK :=
  match zero? P t with
  | some z => match P.underlying t with
    | some (.struct fields) => match fieldsOf P fields.toList with
      | some pl => match partsOf (pl[·]?) parts.toList with
        | some ps => some (.pure fun T => match fillS T ps z with | some l => some (.a (.g l)) | none => none)
        | none => none
      | none => none
    | some (.array _ e) => match size? P e with
      | some n => match partsOf (fun i => some (i * n, n)) parts.toList with
        | some ps => some (.pure fun T => match fillS T ps z with | some l => some (.a (.g l)) | none => none)
        | none => none
      | none => none
    | _ => none
  | none => none
def repL {α : Type} (z : List α) : Nat → List α
  | 0 => []
  | n + 1 => z ++ repL z n
def buildSliceK (P : Program) (t : TypeId) (len : Nat) (parts : Array (Nat × Operand)) : Option OpK :=
  match P.underlying t with
  | some (.slice e) => match size? P e, zero? P e with
    | some n, some z => match Nat.beq z.length n && Nat.ble (len * n) 1000 && Nat.blt 0 n, partsOf (fun i => some (i * n, n)) parts.toList with
      | true, some ps => some (.make fun T k => match fillS T ps (repL z len) with | some l => some (sc (.sl k 0 len len n true), mkCells l e) | none => none)
      | _, _ => none
    | _, _ => none
  | _ => none
def natOf : SC → Option Nat
  | .int _ 0 (.ofNat n) => some n
  | _ => none
def makeSliceK (P : Program) (t : TypeId) (x y : Operand) : Option OpK :=
  match P.underlying t with
  | some (.slice e) => match size? P e, zero? P e, bytes? P e with
    | some n, some z, some by_ => match Nat.beq z.length n && Nat.blt 0 n && Nat.ble by_ 10000 with
      | true => some (.make fun T k => match evC x T, evC y T with
        | some i, some j => match natOf i, natOf j with
          | some l, some c => match Nat.ble l c && Nat.ble c 100000 with
            | true => some (sc (.sl k 0 l c n true), mkCells (repL z c) e)
            | false => none
          | _, _ => none
        | _, _ => none)
      | false => none
    | _, _, _ => none
  | _ => none
def loadK (P : Program) (t : TypeId) (x : Operand) : Option OpK :=
  match isAgg? P t, size? P t with
  | some g, some n => match g || Nat.beq n 1 with
    | true => some (.read fun T h => match evC x T with
      | some (.ptr b o) => match loadAt g n h b o with | some v => some (.a v) | none => none
      | _ => none)
    | false => none
  | _, _ => none
def storeK (P : Program) (t : TypeId) (x y : Operand) : Option OpK :=
  match size? P t with
  | some n => some (.chg fun T h k => match evC x T with
    | some (.ptr b o) => match evA y T with
      | some v => match Nat.beq v.cells.length n with
        | true => match storeAt h b o v.cells with | some h' => some (sc .undef, h', k) | none => none
        | false => none
      | none => none
    | _ => none)
  | none => none
def nilCheckF (x : Operand) (T : Ts) : Option SV := match evC x T with
  | some (.ptr b o) => some (sc (.ptr b o))
  | some (.fn f c) => some (sc (.fn f c))
  | _ => none
def unF (op : UnOp) (x : Operand) (T : Ts) : Option SV := match op with
  | .not => match evC x T with | some (.bool b) => some (sc (.bool (!b))) | _ => none
  | .xor => match evC x T with
    | some (.int k 0 c) => match bitsS .xor k (if k.signed then -1 else k.max) c with | some r => some (sc r) | none => none
    | _ => none
  | .neg => match evC x T with
    | some (.int k 0 c) => some (sc (.int k 0 (k.wrap (0 - c))))
    | _ => none
  | _ => none
def convK (P : Program) (F : Fx) (src dst : TypeId) (x : Operand) : Option OpK :=
  match P.underlying src, P.underlying dst with
  | some (.int _), some (.int k) => some (.pure fun T => match evC x T with
    | some (.int _ v c) => match wrapS F k v c with | some r => some (sc r) | none => none
    | _ => none)
  | some .string, some .string => some (.pure fun T => match evC x T with | some (.str l) => some (sc (.str l)) | _ => none)
  | some .string, some (.slice e) => match P.underlying e with
    | some (.int .u8) => some (.make fun T k => match evC x T with
      | some (.str l) => some (sc (.sl k 0 l.length l.length 1 false), mkCellsA (l.map fun b => .int .u8 0 (Int.ofNat b)) e)
      | _ => none)
    | _ => none
  | some (.slice _), some (.slice e) => match Nat.beq src dst, P.underlying e with
    | true, some (.int .u8) => some (.chg fun T h n => match evC x T with
      | some (.sl b o len cap es ex) => match (h.get b).isSome with
        | true => some (sc (.sl b o len cap es ex), h, n)
        | false => none
      | _ => none)
    | _, _ => none
  | some (.slice e), some .string => match P.underlying e with
    | some (.int .u8) => some (.read fun T h => match evC x T with
      | some .snil => some (sc (.str []))
      | some (.sl b o len _ _ _) => match h.get b with
        | some (.cells c _ _) => match loadN c o len with
          | some l => match bytesOf l with | some r => some (sc (.str r)) | none => none
          | none => none
        | _ => none
      | _ => none)
    | _ => none
  | _, _ => none
  where
  bytesOf : List SC → Option (List Nat)
  | [] => some []
  | .int .u8 0 (.ofNat n) :: l => match Nat.blt n 256 with
    | true => match bytesOf l with | some r => some (n :: r) | none => none
    | false => none
  | _ => none
def capsOf (T : Ts) : List Operand → Option (List (Nat × Nat))
  | [] => some []
  | x :: l => match evC x T with
    | some (.ptr b o) => match capsOf T l with | some r => some ((b, o) :: r) | none => none
    | _ => none
def makeFuncK (fn : Fn) (first captured : Array Operand) : Option OpK := match fn, first.toList with
  | .func f, [] => some (.pure fun T => match capsOf T captured.toList with | some c => some (sc (.fn f c)) | none => none)
  | _, _ => none
def bnd (T : Ts) (x : Option Operand) (d : Nat) : Option Nat := match x with
  | none => some d
  | some y => match evC y T with | some v => natOf v | none => none
def sliceK (P : Program) (t : TypeId) (x : Operand) (lo hi mx : Option Operand) : Option OpK :=
  match mx with
  | some _ => none
  | none => match P.underlying t with
    | some .string => some (.pure fun T => match evC x T with
      | some (.str l) => match bnd T hi l.length with
        | some j => match bnd T lo 0 with
          | some i => match Nat.ble i j && Nat.ble j l.length with
            | true => some (sc (.str ((l.drop i).take (j - i))))
            | false => none
          | none => none
        | none => none
      | _ => none)
    | some (.slice e) => match size? P e with
      | some n => some (.pure fun T => match evC x T with
        | some .snil => match bnd T hi 0 with
          | some 0 => match bnd T lo 0 with | some 0 => some (sc .snil) | _ => none
          | _ => none
        | some (.sl b o len cap es ex) => match Nat.beq es n, bnd T hi len with
          | true, some j => match bnd T lo 0 with
            | some i => match Nat.ble i j && Nat.ble j cap && (ex || Nat.blt i cap || Nat.beq i 0) with
              | true => some (sc (.sl b (match ex && Nat.beq i cap with | true => o | false => o + i * n) (j - i) (cap - i) es ex))
              | false => none
            | none => none
          | _, _ => none
        | _ => none)
      | none => none
    | some (.array m e) => match size? P e with
      | some n => some (.pure fun T => match evC x T with
        | some (.ptr b o) => match bnd T hi m with
          | some j => match bnd T lo 0 with
            | some i => match Nat.ble i j && Nat.ble j m with
              | true => some (sc (.sl b (match Nat.beq i m with | true => o | false => o + i * n) (j - i) (m - i) n true))
              | false => none
            | none => none
          | none => none
        | _ => none)
      | none => none
    | _ => none
def fieldAddrK (P : Program) (t : TypeId) (x : Operand) (f : Nat) : Option OpK :=
  match P.underlying t with
  | some (.struct fields) => match fields[f]? with
    | some fd => match size? P fd.type with
      | some (_ + 1) => some (.pure fun T => match evC x T with | some (.ptr b o) => some (sc (.ptr b (o + fd.offset))) | _ => none)
      | _ => none
    | none => none
  | _ => none
def fieldK (P : Program) (t : TypeId) (x : Operand) (f : Nat) : Option OpK :=
  match P.underlying t with
  | some (.struct fields) => match fields[f]? with
    | some fd => match isAgg? P fd.type, size? P fd.type with
      | some g, some n => match g || Nat.beq n 1 with
        | true => some (.pure fun T => match evA x T with
          | some (.g l) => match Nat.ble (fd.offset + n) l.length with
            | true => match shut g ((l.drop fd.offset).take n) with | some v => some (.a v) | none => none
            | false => none
          | _ => none)
        | false => none
      | _, _ => none
    | none => none
  | _ => none
def indexAddrK (P : Program) (t : TypeId) (x i : Operand) : Option OpK :=
  match P.underlying t with
  | some (.array m e) => match size? P e with
    | some n => some (.pure fun T => match evC x T, evC i T with
      | some (.ptr b o), some j => match natOf j with
        | some j => match Nat.blt j m with | true => some (sc (.ptr b (o + j * n))) | false => none
        | none => none
      | _, _ => none)
    | none => none
  | some (.slice e) => match size? P e with
    | some n => some (.pure fun T => match evC x T, evC i T with
      | some (.sl b o len _ _ _), some j => match natOf j with
        | some j => match Nat.blt j len with | true => some (sc (.ptr b (o + j * n))) | false => none
        | none => none
      | _, _ => none)
    | none => none
  | _ => none
def indexK (P : Program) (t : TypeId) (x i : Operand) : Option OpK :=
  match P.underlying t with
  | some .string => some (.pure fun T => match evC x T, evC i T with
    | some (.str l), some j => match natOf j with
      | some j => match l[j]? with | some b => some (sc (.int .u8 0 (Int.ofNat b))) | none => none
      | none => none
    | _, _ => none)
  | some (.array m e) => match isAgg? P e, size? P e with
    | some g, some n => match g || Nat.beq n 1 with
      | true => some (.pure fun T => match evA x T, evC i T with
        | some (.g l), some j => match natOf j with
          | some j => match Nat.blt j m && Nat.ble (j * n + n) l.length with
            | true => match shut g ((l.drop (j * n)).take n) with | some v => some (.a v) | none => none
            | false => none
          | none => none
        | _, _ => none)
      | false => none
    | _, _ => none
  | _ => none

/-! ### maps -/
def eqC (F : Fx) : SC → SC → Option Bool
  | .int k v c, .int k' w d => match decide (k = k') with | true => eqI F v c w d | false => none
  | .str a, .str b => some (lEq a b)
  | _, _ => none
def eqL (F : Fx) : List SC → List SC → Option Bool
  | [], [] => some true
  | x :: xs, y :: ys => match eqC F x y with
    | some false => some false
    | some true => eqL F xs ys
    | none => none
  | _, _ => none
/-- structs all of integers: their kinds -/
def flat (P : Program) : Nat → TypeId → Option (List IntKind)
  | 0, _ => none
  | d + 1, t => match P.underlying t with
    | some (.int k) => some [k]
    | some (.struct fs) => match P.stoodInHeld t with
      | true => none
      | false => flatFs (flat P d) (isAgg? P) (size? P) fs.toList 0
    | _ => none
  where
  flatFs (fl : TypeId → Option (List IntKind)) (ag : TypeId → Option Bool) (sz : TypeId → Option Nat) : List Field → Nat → Option (List IntKind)
  | [], _ => some []
  | f :: r, o => match Nat.beq f.offset o && decide (f.name ≠ "_"), fl f.type, ag f.type, sz f.type with
    | true, some ks, some g, some m => match Nat.beq ks.length m && (g || Nat.beq m 1), flatFs fl ag sz r (o + m) with
      | true, some q => some (ks ++ q)
      | _, _ => none
    | _, _, _, _ => none
inductive KeyK where
  | ints
  | strs
  | cells (ks : List IntKind)
def keyK (P : Program) (t : TypeId) : Option KeyK := match P.underlying t with
  | some (.int _) => some .ints
  | some .string => some .strs
  | some (.struct _) => match flat P 20 t with | some ks => some (.cells ks) | none => none
  | _ => none
def kindsOk : List IntKind → List SC → Bool
  | [], [] => true
  | k :: ks, .int k' _ _ :: l => match decide (k = k') with | true => kindsOk ks l | false => false
  | _, _ => false
def keyOk : KeyK → SA → Option (List SC)
  | .ints, .s (.int k v c) => some [.int k v c]
  | .strs, .s (.str l) => some [.str l]
  | .cells ks, .g l => match kindsOk ks l with | true => some l | false => none
  | _, _ => none
def findE (F : Fx) (K : KeyK) (k : List SC) : List (SA × SA × Nat) → Nat → Option (Option (Nat × SA))
  | [], _ => some none
  | (k', v, _) :: r, i => match keyOk K k' with
    | some l => match eqL F k l with
      | some true => some (some (i, v))
      | some false => findE F K k r (i + 1)
      | none => none
    | none => none
def mapOf (h : Hp) : SC → Option (List (SA × SA × Nat))
  | .mnil => some []
  | .map b => match h.get b with | some (.map es _) => some es | _ => none
  | _ => none
def lookupK (P : Program) (F : Fx) (t : TypeId) (x i : Operand) (ok : Bool) : Option OpK :=
  match P.underlying t with
  | some (.map kt e) => match keyK P kt, zeroA? P e with
    | some K, some z => some (.read fun T h => match evC x T, evA i T with
      | some m, some k => match mapOf h m, keyOk K k with
        | some es, some kl => match findE F K kl es 0 with
          | some (some (_, v)) => some (match ok with | true => .t [v, .s (.bool true)] | false => .a v)
          | some none => some (match ok with | true => .t [z, .s (.bool false)] | false => .a z)
          | none => none
        | _, _ => none
      | _, _ => none)
    | _, _ => none
  | _ => none
def setE : List (SA × SA × Nat) → Nat → SA → SA → List (SA × SA × Nat)
  | [], _, _, _ => []
  | (_, _, b) :: r, 0, k, v => (k, v, b) :: r
  | e :: r, i + 1, k, v => e :: setE r i k v
def delE : List (SA × SA × Nat) → Nat → List (SA × SA × Nat)
  | [], _ => []
  | _ :: r, 0 => r
  | e :: r, i + 1 => e :: delE r i
def mapUpdateK (P : Program) (F : Fx) (t : TypeId) (x i y : Operand) : Option OpK :=
  match P.underlying t with
  | some (.map kt _) => match keyK P kt with
    | some K => some (.chg fun T h n => match evC x T, evA i T, evA y T with
      | some (.map b), some k, some v => match h.get b, keyOk K k with
        | some (.map es clock), some kl => match findE F K kl es 0 with
          | some (some (j, _)) => some (sc .undef, h.upd 24 b (some (.map (setE es j k v) clock)), n)
          | some none => some (sc .undef, h.upd 24 b (some (.map (es ++ [(k, v, clock)]) (clock + 1))), n)
          | none => none
        | _, _ => none
      | _, _, _ => none)
    | none => none
  | _ => none

/-! ### built-ins -/
def intV (n : Nat) : SV := sc (.int .i64 0 (Int.ofNat n))
def lenK (P : Program) (F : Fx) (ts : Array TypeId) (x : Operand) : Option OpK :=
  match ts[0]? with
  | none => none
  | some t => match P.underlying t with
    | some .string => some (.pure fun T => match evC x T with | some (.str l) => some (intV l.length) | _ => none)
    | some (.array n _) => some (.pure fun _ => some (intV n))
    | some (.slice _) => some (.pure fun T => match evC x T with
      | some .snil => some (intV 0)
      | some (.sl _ _ len _ _ _) => some (intV len)
      | some (.opq i) => match F.opl i with | some v => some (sc (.int .i64 v 0)) | none => none
      | _ => none)
    | some (.map _ _) => some (.read fun T h => match evC x T with
      | some m => match mapOf h m with | some es => some (intV es.length) | none => none
      | none => none)
    | _ => none
/-- the cells that are appended or copied -/
def srcOf (h : Hp) (es : Nat) : SC → Option (Nat × List SC)
  | .snil => some (0, [])
  | .sl b o len _ es' _ => match Nat.beq es es', h.get b with
    | true, some (.cells c _ _) => match loadN c o (len * es) with | some l => some (len, l) | none => none
    | _, _ => none
  | .str l => match Nat.beq es 1 with
    | true => some (l.length, l.map fun b => .int .u8 0 (Int.ofNat b))
    | false => none
  | _ => none
def noUndef : List SC → Bool
  | [] => true
  | .undef :: _ => false
  | _ :: l => noUndef l
def appendF (es : Nat) (e : TypeId) (by_ : Nat) (x y : Operand) (T : Ts) (h : Hp) (n : Nat) : Option (SV × Hp × Nat) :=
  match evC x T, evC y T with
  | some s, some u => match srcOf h es u with
    | some (m, l) => match s with
      | .snil => match m with
        | 0 => some (sc .snil, h, n)
        | _ + 1 => match Nat.blt (m * by_) 1000000 && Nat.blt n lim with
          | true => some (sc (.sl n 0 m m es false), h.upd 24 n (some (mkCellsA l e)), n + 1)
          | false => none
      | .sl b o len cap es' ex => match Nat.beq es es' with
        | false => none
        | true => match Nat.ble (len + m) cap with
          | true => match storeAt h b (o + len * es) l with
            | some h' => some (sc (.sl b o (len + m) cap es ex), h', n)
            | none => none
          | false => match Nat.blt ((len + m) * by_) 1000000 && Nat.blt n lim, h.get b with
            | true, some (.cells c _ e0) => match ex with
              | true => match loadN c o (len * es) with
                | some old => some (sc (.sl n 0 (len + m) (len + m) es false), h.upd 24 n (some (mkCellsA (old ++ l) e)), n + 1)
                | none => none
              | false => match Nat.beq o 0 && Nat.beq e e0 && noUndef l, loadN c 0 (len * es) with
                | true, some old => some (sc (.sl n 0 (len + m) (len + m) es false), (h.upd 24 b none).upd 24 n (some (mkCellsA (old ++ l) e)), n + 1)
                | _, _ => none
            | _, _ => none
      | _ => none
    | none => none
  | _, _ => none
def appendK (P : Program) (ts : Array TypeId) (x y : Operand) : Option OpK :=
  match ts[0]?, ts[1]? with
  | some t, some u => match P.underlying t, P.underlying u with
    | _, some (.int _) => none
    | some (.slice e), some _ => match size? P e, bytes? P e with
      | some es, some by_ => match zero? P e with
        | some z => match Nat.blt 0 es && Nat.blt 0 by_ && Nat.beq z.length es with
          | true => some (.chg (appendF es e by_ x y))
          | false => none
        | none => none
      | _, _ => none
    | _, _ => none
  | _, _ => none
def copyK (P : Program) (ts : Array TypeId) (x y : Operand) : Option OpK :=
  match ts[0]? with
  | some t => match P.underlying t with
    | some (.slice e) => match size? P e with
      | some es => some (.chg fun T h n => match evC x T, evC y T with
        | some .snil, some u => match srcOf h es u with | some _ => some (intV 0, h, n) | none => none
        | some (.sl b o len _ es' _), some u => match Nat.beq es es', srcOf h es u with
          | true, some (m, l) => match storeAt h b o (l.take (min m len * es)) with
            | some h' => some (intV (min m len), h', n)
            | none => none
          | _, _ => none
        | _, _ => none)
      | none => none
    | _ => none
  | none => none
def deleteK (P : Program) (F : Fx) (ts : Array TypeId) (x i : Operand) : Option OpK :=
  match ts[0]? with
  | some t => match P.underlying t with
    | some (.map kt _) => match keyK P kt with
      | some K => some (.chg fun T h n => match evC x T, evA i T with
        | some (.map b), some k => match h.get b, keyOk K k with
          | some (.map es clock), some kl => match findE F K kl es 0 with
            | some (some (j, _)) => some (.t [], h.upd 24 b (some (.map (delE es j) clock)), n)
            | some none => some (.t [], h, n)
            | none => none
          | _, _ => none
        | _, _ => none)
      | none => none
    | _ => none
  | none => none
def clearK (P : Program) (ts : Array TypeId) (x : Operand) : Option OpK :=
  match ts[0]? with
  | some t => match P.underlying t with
    | some (.slice e) => match size? P e, zero? P e with
      | some es, some z => match Nat.beq z.length es with
        | true => some (.chg fun T h n => match evC x T with
          | some .snil => some (.t [], h, n)
          | some (.sl b o len _ es' _) => match Nat.beq es es' with
            | true => match storeAt h b o (repL z len) with | some h' => some (.t [], h', n) | none => none
            | false => none
          | _ => none)
        | false => none
      | _, _ => none
    | _ => none
  | none => none
def minF (F : Fx) (x y : Operand) (T : Ts) : Option SV := match evC x T, evC y T with
  | some (.int k v c), some (.int _ w d) => match ltI F w d v c with
    | some true => some (sc (.int k w d))
    | some false => some (sc (.int k v c))
    | none => none
  | _, _ => none
def maxF (F : Fx) (x y : Operand) (T : Ts) : Option SV := match evC x T, evC y T with
  | some (.int k v c), some (.int _ w d) => match ltI F v c w d with
    | some true => some (sc (.int k w d))
    | some false => some (sc (.int k v c))
    | none => none
  | _, _ => none
def minL (F : Fx) : SC → List Operand → Ts → Option SC
  | x, [], _ => some x
  | .int k v c, y :: r, T => match evC y T with
    | some (.int _ w d) => match ltI F w d v c with
      | some true => minL F (.int k w d) r T
      | some false => minL F (.int k v c) r T
      | none => none
    | _ => none
  | _, _, _ => none
def sliceDataF (x : Operand) (T : Ts) : Option SV := match evC x T with
  | some .snil => some (sc .pnil)
  | some (.sl b o _ cap _ _) => match cap with | 0 => none | _ + 1 => some (sc (.ptr b o))
  | _ => none
def unStrK (P : Program) (ts : Array TypeId) (x i : Operand) : Option OpK :=
  match ts.toList with
  | [pt, _] => match P.underlying pt with
    | some (.pointer u) => match Nat.beq (P.cellsOf u) 1 with
      | true => some (.chg fun T h n => match evC x T, evC i T with
        | some (.ptr b 0), some (.int .i64 0 (.ofNat k)) => match h.get b with
          | some (.cells c _ e) => match Nat.beq e u && (Nat.blt 0 k && Nat.ble k 1000000) with
            | true => match loadN c 0 k with
              | some l => match convK.bytesOf l with | some r => some (sc (.str r), h.upd 24 b none, n) | none => none
              | none => none
            | false => none
          | _ => none
        | _, _ => none)
      | false => none
    | _ => none
  | _ => none
abbrev CallF := Nat → List SV → Hp → Nat → Option (SV × Hp × Nat)
def builtinK (P : Program) (F : Fx) (b : Builtin) (ts : Array TypeId) (args : List Operand) : Option OpK :=
  match b, args with
  | .len, [x] => lenK P F ts x
  | .append, [x, y] => appendK P ts x y
  | .copy, [x, y] => copyK P ts x y
  | .delete, [x, y] => deleteK P F ts x y
  | .clear, [x] => clearK P ts x
  | .min, x :: r => some (.pure fun T => match evC x T with
    | some v => match minL F v r T with | some u => some (sc u) | none => none
    | none => none)
  | .max, [x, y] => some (.pure (maxF F x y))
  | .unsafeSliceData, [x] => some (.pure (sliceDataF x))
  | .unsafeString, [x, y] => unStrK P ts x y
  | _, _ => none
def callK (P : Program) (F : Fx) (call : CallF) (c : Call) : Option OpK :=
  match c.callee with
  | .builtin b => builtinK P F b c.argTypes c.args.toList
  | .value f => some (.chg fun T h n => match evC f T with
    | some (.fn g caps) => match evs c.args.toList T with
      | some args => call g (args ++ caps.map fun p => sc (.ptr p.1 p.2)) h n
      | none => none
    | _ => none)
  | .invoke _ _ => none
def opK (P : Program) (F : Fx) (call : CallF) : Op → Option OpK
  | .move x => some (.pure (ev x))
  | .assign x => some (.pure (ev x))
  | .pick c a b => some (.pure (pickF c a b))
  | .alloc e => match zero? P e with
    | some z => some (.make fun _ n => some (sc (.ptr n 0), mkCells z e))
    | none => none
  | .box e x => some (.make fun T n => match evA x T with | some v => some (sc (.ptr n 0), mkCells v.cells e) | none => none)
  | .build t parts => buildK P t parts
  | .buildSlice t len parts => buildSliceK P t len parts
  | .load t x => loadK P t x
  | .store t x y => storeK P t x y
  | .nilCheck x => some (.pure (nilCheckF x))
  | .binOp op t x y _ => some (.pure fun T => match evC x T, evC y T with
    | some a, some b => match binS F (P.underlying t) op a b with | some r => some (sc r) | none => none
    | _, _ => none)
  | .unOp op _ x => some (.pure (unF op x))
  | .convert s d x => convK P F s d x
  | .makeFunc fn a b => makeFuncK fn a b
  | .makeMap _ none => some (.make fun _ n => some (sc (.map n), .map [] 0))
  | .makeSlice t l c => makeSliceK P t l c
  | .slice t x lo hi mx => sliceK P t x lo hi mx
  | .fieldAddr t x f => fieldAddrK P t x f
  | .field t x f => fieldK P t x f
  | .indexAddr t x i => indexAddrK P t x i
  | .index t x i => indexK P t x i
  | .lookup t x i ok => lookupK P F t x i ok
  | .mapUpdate t m k v => mapUpdateK P F t m k v
  | .extract x i => some (.pure fun T => match ev x T with
    | some (.t l) => match l[i]? with | some v => some (.a v) | none => none
    | _ => none)
  | .call c => callK P F call c
  | _ => none

/-! ### regions -/
structure OC where
  dst : Option Nat
  guard : Option (Nat × Bool)   -- the temporary that is looked at
  k : OpK
inductive Res where
  | bad
  | nrm (s : St)
  | brk (id : Nat) (s : St)
  | ret (s : St)
def putS (dst : Option Nat) (v : SV) (T : Ts) : Ts := match dst with
  | some d => T.upd 24 d (some v)
  | none => T
def runK (k : OpK) (T : Ts) (h : Hp) (n : Nat) : Option (SV × Hp × Nat) := match k with
  | .pure f => match f T with | some v => some (v, h, n) | none => none
  | .read f => match f T h with | some v => some (v, h, n) | none => none
  | .make f => match Nat.blt n lim with
    | true => match f T n with | some (v, o) => some (v, h.upd 24 n (some o), n + 1) | none => none
    | false => none
  | .chg f => f T h n
/-- is the operation wanted? -/
def wants (g : Option (Nat × Bool)) (T : Ts) : Option Bool := match g with
  | none => some true
  | some (t, b) => match T.get t with
    | some (.a (.s (.bool c))) => some (match b with | true => c | false => !c)
    | some (.a (.s .undef)) => some false
    | _ => none
def stepOC (o : OC) (s : St) : Option St := match s with
  | ⟨T, h, n⟩ => match wants o.guard T with
    | some true => match runK o.k T h n with
      | some (v, h', n') => some ⟨putS o.dst v T, h', n'⟩
      | none => none
    | some false => some ⟨putS o.dst (sc .undef) T, h, n⟩
    | none => none
def runOCs : List OC → St → Option St
  | [], s => some s
  | o :: r, s => match stepOC o s with
    | some s' => runOCs r s'
    | none => none
def compOC (P : Program) (F : Fx) (call : CallF) (nt : Nat) (ops : Array Oper) (o : Oper) : Option OC :=
  match opK P F call o.op with
  | some k =>
    match (match o.dst with | none => true | some d => Nat.blt d nt && Nat.blt d lim) with
    | true => match o.guard with
      | none => some ⟨o.dst, none, k⟩
      | some (j, b) => match ops[j]? with
        | some oj => match oj.dst with
          | some t => (match Nat.blt t nt with | true => some ⟨o.dst, some (t, b), k⟩ | false => none)
          | none => none
        | none => none
    | false => none
  | none => none
def compOCs (P : Program) (F : Fx) (call : CallF) (nt : Nat) (ops : Array Oper) : List Oper → Option (List OC)
  | [] => some []
  | o :: r => match compOC P F call nt ops o with
    | some c => match compOCs P F call nt ops r with | some q => some (c :: q) | none => none
    | none => none

/-! ### regions that draw -/
/-- of an operation of a drawn region: the temporaries that it may look at; the events that it is not ordered with; its kind (0: it changes no memory, 1: it makes a block, 2: it may change all) -/
structure DE where
  looks : List Nat
  un : List Nat
  kd : Nat
/-- the operations that each one waits for, as bits, all told -/
def predsOf : List Oper → List Nat → List Nat
  | [], acc => acc
  | o :: r, acc => predsOf r (acc ++ [o.after.toList.foldl (fun s e => match Region.binds .any e with | true => s ||| 2 ^ e.on ||| acc.getD e.on 0 | false => s) 0])
def bit (m i : Nat) : Bool := Nat.beq (m / 2 ^ i % 2) 1
def scEq : SC → SC → Bool
  | .undef, .undef => true
  | .bool a, .bool b => a == b
  | .int k v c, .int k' v' c' => decide (k = k') && Nat.beq v v' && natEq c c'
  | .str a, .str b => lEq a b
  | .pnil, .pnil => true
  | .ptr b o, .ptr b' o' => Nat.beq b b' && Nat.beq o o'
  | .snil, .snil => true
  | .sl b o l c s x, .sl b' o' l' c' s' x' => Nat.beq b b' && Nat.beq o o' && Nat.beq l l' && Nat.beq c c' && Nat.beq s s' && (x == x')
  | .mnil, .mnil => true
  | .map b, .map b' => Nat.beq b b'
  | .fnil, .fnil => true
  | .fn f c, .fn f' c' => Nat.beq f f' && c == c'
  | .inil, .inil => true
  | .opq i, .opq j => Nat.beq i j
  | _, _ => false
def scLEq : List SC → List SC → Bool
  | [], [] => true
  | a :: x, b :: y => scEq a b && scLEq x y
  | _, _ => false
def saEq : SA → SA → Bool
  | .s a, .s b => scEq a b
  | .g a, .g b => scLEq a b
  | _, _ => false
def saLEq : List SA → List SA → Bool
  | [], [] => true
  | a :: x, b :: y => saEq a b && saLEq x y
  | _, _ => false
def svEq : SV → SV → Bool
  | .a x, .a y => saEq x y
  | .t x, .t y => saLEq x y
  | _, _ => false
/-- what a read gives: the same ahead of and behind each event that it is not ordered with -/
def svIs (x : Option SV) (v : SV) : Bool := match x with | some a => svEq a v | none => false
def sameAt (f : Hp → Option SV) (v : SV) (un : List Nat) : List (Nat × Hp × Hp) → Bool
  | [] => true
  | (k, h0, h1) :: r => (match un.contains k with | true => svIs (f h0) v && svIs (f h1) v | false => true) && sameAt f v un r
structure Rd where
  un : List Nat
  f : Hp → Option SV
  v : SV
def sameAll (snaps : List (Nat × Hp × Hp)) : List Rd → Bool
  | [] => true
  | r :: l => sameAt r.f r.v r.un snaps && sameAll snaps l
/-- the temporaries that are looked at -/
def only : List Nat → Ts → Ts → Ts
  | [], _, acc => acc
  | t :: r, T, acc => match T.get t with
    | some v => only r T (acc.upd 24 t (some v))
    | none => only r T acc
def runDraw : List OC → List DE → Nat → St → List (Nat × Hp × Hp) → List Rd → Option St
  | [], [], _, s, snaps, rds => match sameAll snaps rds with
    | true => some s
    | false => none
  | c :: cs, d :: ds, i, s, snaps, rds => match wants c.guard (only d.looks s.t .e) with
    | some false => runDraw cs ds (i + 1) ⟨putS c.dst (sc .undef) s.t, s.h, s.n⟩ snaps rds
    | none => none
    | some true => match c.k with
      | .pure f => match f (only d.looks s.t .e) with
        | some v => runDraw cs ds (i + 1) ⟨putS c.dst v s.t, s.h, s.n⟩ snaps rds
        | none => none
      | .read f => match d.kd with
        | 0 => match f (only d.looks s.t .e) s.h with
          | some v => runDraw cs ds (i + 1) ⟨putS c.dst v s.t, s.h, s.n⟩ snaps (match d.un with | [] => rds | _ :: _ => ⟨d.un, f (only d.looks s.t .e), v⟩ :: rds)
          | none => none
        | _ + 1 => none
      | .make f => match Nat.blt 0 d.kd && Nat.blt s.n lim with
        | true => match f (only d.looks s.t .e) s.n with
          | some (v, o) => runDraw cs ds (i + 1) ⟨putS c.dst v s.t, s.h.upd 24 s.n (some o), s.n + 1⟩ ((i, s.h, s.h.upd 24 s.n (some o)) :: snaps) rds
          | none => none
        | false => none
      | .chg f => match Nat.beq d.kd 2 with
        | true => match f (only d.looks s.t .e) s.h s.n with
          | some (v, h', n') => match Nat.ble s.n n' with
            | true => runDraw cs ds (i + 1) ⟨putS c.dst v s.t, h', n'⟩ ((i, s.h, h') :: snaps) rds
            | false => none
          | none => none
        | false => none
  | _, _, _, _, _, _ => none
/-- is the table right? -/
def drawT (ops : Array Oper) (ds : List DE) : Bool :=
  let l := ops.toList
  let ps := predsOf l []
  let z := (l.zip (ds.zip ps)).zipIdx
  Nat.beq ds.length l.length &&
  (l.zipIdx.all fun p => p.1.after.toList.all fun e => match Region.binds .any e with | true => Nat.blt e.on p.2 | false => true) &&
  (z.all fun p => z.all fun q => Nat.beq p.2 q.2 || (
    (match p.1.1.dst with
      | none => true
      | some t => (match q.1.1.dst with | some u => !Nat.beq t u | none => true)) &&
    (match Nat.blt 0 p.1.2.1.kd with
      | true => match q.1.2.1.kd with
        | 0 => bit q.1.2.2 p.2 || bit p.1.2.2 q.2 || q.1.2.1.un.contains p.2
        | 2 => Nat.ble q.2 p.2 || bit q.1.2.2 p.2
        | _ => true
      | false => true))) &&
  (z.all fun p => p.1.2.1.looks.all fun t => z.all fun q => match q.1.1.dst with
    | none => true
    | some u => match Nat.beq t u with
      | false => true
      | true => (Nat.blt p.2 q.2 && bit q.1.2.2 p.2) || (Nat.blt q.2 p.2 && bit p.1.2.2 q.2 && (match q.1.2.1.kd with
        | 0 => true
        | _ => z.all fun r => Nat.ble q.2 r.2 || Nat.beq r.1.2.1.kd 0 || bit p.1.2.2 r.2)))
def codeT (tab : Nat → Option (List DE)) : Code → Bool
  | .seq a b => codeT tab a && codeT tab b
  | .cond _ a b => codeT tab a && codeT tab b
  | .block _ a => codeT tab a
  | .loop a => codeT tab a
  | .region id ops true => match tab id with | some ds => drawT ops ds | none => true
  | _ => true

/-! ### code -/
abbrev D := St → Res
def badD : D := fun _ => .bad
def ofOpt : Option St → Res
  | some s => .nrm s
  | none => .bad
def seqD (f g : D) : D := fun s => match f s with
  | .nrm s' => g s'
  | r => r
def condD (c : Operand) (f g : D) : D := fun s => match evC c s.t with
  | some (.bool true) => f s
  | some (.bool false) => g s
  | _ => .bad
def blockD (id : Nat) (f : D) : D := fun s => match f s with
  | .brk i s' => match Nat.beq i id with | true => .nrm s' | false => .brk i s'
  | r => r
def loopD (f : D) : Nat → D
  | 0 => badD
  | k + 1 => fun s => match f s with
    | .nrm s' => loopD f k s'
    | r => r
def rounds : Nat := 5000
def compC (P : Program) (F : Fx) (call : CallF) (tab : Nat → Option (List DE)) (nt : Nat) : Code → D
  | .skip => .nrm
  | .seq a b => seqD (compC P F call tab nt a) (compC P F call tab nt b)
  | .cond c a b => condD c (compC P F call tab nt a) (compC P F call tab nt b)
  | .block id a => blockD id (compC P F call tab nt a)
  | .loop a => loopD (compC P F call tab nt a) rounds
  | .exit id => .brk id
  | .ret => .ret
  | .region id ops draw => match compOCs P F call nt ops ops.toList with
    | some cs => match draw with
      | false => fun s => ofOpt (runOCs cs s)
      | true => match tab id with
        | some ds => fun s => ofOpt (runDraw cs ds 0 s [] [])
        | none => badD
    | none => badD
  | _ => badD
/-- the results -/
def resV (P : Program) (T : Ts) (h : Hp) : ResultVar → Option SA
  | .tmp t => match T.get t with | some (.a v) => some v | _ => none
  | .cell a t => match T.get a with
    | some (.a (.s (.ptr b o))) => match isAgg? P t, size? P t with
      | some g, some n => match g || Nat.beq n 1 with | true => loadAt g n h b o | false => none
      | _, _ => none
    | _ => none
def resVs (P : Program) (T : Ts) (h : Hp) : List ResultVar → Option (List SA)
  | [] => some []
  | r :: l => match resV P T h r with
    | some v => match resVs P T h l with | some q => some (v :: q) | none => none
    | none => none
def resS (P : Program) (rs : List ResultVar) (s : St) : Option (SV × Hp × Nat) := match s with
  | ⟨T, h, n⟩ => match resVs P T h rs with
    | some [v] => some (.a v, h, n)
    | some l => some (.t l, h, n)
    | none => none
def setArgs : List SV → Nat → Ts → Ts
  | [], _, T => T
  | v :: l, i, T => setArgs l (i + 1) (T.upd 24 i (some v))
def runFn (P : Program) (fn : Func) (d : D) (args : List SV) (h : Hp) (n : Nat) : Option (SV × Hp × Nat) :=
  match Nat.ble args.length fn.ntmps && Nat.blt args.length lim with
  | true => match d ⟨setArgs args 0 .e, h, n⟩ with
    | .nrm s => resS P fn.results.toList s
    | .ret s => resS P fn.results.toList s
    | _ => none
  | false => none
def callable (P : Program) (f : Nat) : Bool := match P.funcs[f]? with
  | some fn => fn.body.isSome && !(fn.name == "runtime.NumGoroutine")
  | none => false
def callD (P : Program) (F : Fx) (tab : Nat → Nat → Option (List DE)) (ext : Nat → Option (List SV → Hp → Nat → Option (SV × Hp × Nat))) : Nat → CallF
  | 0, _ => fun _ _ _ => none
  | k + 1, f => match callable P f with
   | false => fun _ _ _ => none
   | true => match ext f with
    | some e => e
    | none => match P.funcs[f]? with
      | some fn => match fn.body with
        | some c => runFn P fn (compC P F (callD P F tab ext k) (tab f) fn.ntmps c)
        | none => fun _ _ _ => none
      | none => fun _ _ _ => none
end Go.Cx
/- The executor's values and heaps, held against the model's. -/
namespace Go.Cx

/-! ### tries -/
section
variable {α : Type}
theorem Tr.get_e (i : Nat) : (Tr.e : Tr α).get i = none := rfl
theorem Tr.get_n0 (o : Option α) (l r : Tr α) : (Tr.n o l r).get 0 = o := rfl
theorem Tr.get_nl (o : Option α) (l r : Tr α) (j : Nat) (h : j % 2 = 0) : (Tr.n o l r).get (j + 1) = l.get (j / 2) := by
  simp only [Tr.get, h]
theorem Tr.get_nr (o : Option α) (l r : Tr α) (j : Nat) (h : j % 2 = 1) : (Tr.n o l r).get (j + 1) = r.get (j / 2) := by
  simp only [Tr.get, h]
/-- a trie's head and its two halves -/
def Tr.hd : Tr α → Option α | .e => none | .n o _ _ => o
def Tr.lf : Tr α → Tr α | .e => .e | .n _ l _ => l
def Tr.rt : Tr α → Tr α | .e => .e | .n _ _ r => r
theorem Tr.get_hd (t : Tr α) : t.get 0 = t.hd := by cases t <;> rfl
theorem Tr.get_lf (t : Tr α) (j : Nat) (h : j % 2 = 0) : t.get (j + 1) = t.lf.get (j / 2) := by
  cases t with
  | e => rfl
  | n o l r => exact Tr.get_nl o l r j h
theorem Tr.get_rt (t : Tr α) (j : Nat) (h : j % 2 = 1) : t.get (j + 1) = t.rt.get (j / 2) := by
  cases t with
  | e => rfl
  | n o l r => exact Tr.get_nr o l r j h
theorem Tr.upd_zero (f : Nat) (t : Tr α) (v : Option α) : Tr.upd (f + 1) t 0 v = .n v t.lf t.rt := by cases t <;> rfl
theorem Tr.upd_lf (f : Nat) (t : Tr α) (j : Nat) (v : Option α) (h : j % 2 = 0) : Tr.upd (f + 1) t (j + 1) v = .n t.hd (Tr.upd f t.lf (j / 2) v) t.rt := by
  cases t <;> simp only [Tr.upd, h] <;> rfl
theorem Tr.upd_rt (f : Nat) (t : Tr α) (j : Nat) (v : Option α) (h : j % 2 = 1) : Tr.upd (f + 1) t (j + 1) v = .n t.hd t.lf (Tr.upd f t.rt (j / 2) v) := by
  cases t <;> simp only [Tr.upd, h] <;> rfl
/-- what a trie bears behind an update: at another place what it bore; at the place the new one, or (too deep) what it bore -/
theorem Tr.get_upd_ne : ∀ (f : Nat) (t : Tr α) (i j : Nat) (v : Option α), i ≠ j → (Tr.upd f t i v).get j = t.get j
  | 0, _, _, _, _, _ => rfl
  | f + 1, t, 0, 0, v, h => absurd rfl h
  | f + 1, t, 0, j + 1, v, _ => by
    rw [Tr.upd_zero]
    rcases Nat.mod_two_eq_zero_or_one j with hj | hj
    · rw [Tr.get_nl _ _ _ _ hj, Tr.get_lf t j hj]
    · rw [Tr.get_nr _ _ _ _ hj, Tr.get_rt t j hj]
  | f + 1, t, i + 1, 0, v, _ => by
    rcases Nat.mod_two_eq_zero_or_one i with hi | hi
    · rw [Tr.upd_lf _ _ _ _ hi, Tr.get_n0, Tr.get_hd]
    · rw [Tr.upd_rt _ _ _ _ hi, Tr.get_n0, Tr.get_hd]
  | f + 1, t, i + 1, j + 1, v, h => by
    rcases Nat.mod_two_eq_zero_or_one i with hi | hi <;> rcases Nat.mod_two_eq_zero_or_one j with hj | hj
    · rw [Tr.upd_lf _ _ _ _ hi, Tr.get_nl _ _ _ _ hj, Tr.get_lf t j hj, Tr.get_upd_ne f _ _ _ _ (by omega)]
    · rw [Tr.upd_lf _ _ _ _ hi, Tr.get_nr _ _ _ _ hj, Tr.get_rt t j hj]
    · rw [Tr.upd_rt _ _ _ _ hi, Tr.get_nl _ _ _ _ hj, Tr.get_lf t j hj]
    · rw [Tr.upd_rt _ _ _ _ hi, Tr.get_nr _ _ _ _ hj, Tr.get_rt t j hj, Tr.get_upd_ne f _ _ _ _ (by omega)]
theorem Tr.get_upd_or : ∀ (f : Nat) (t : Tr α) (i : Nat) (v : Option α), (Tr.upd f t i v).get i = v ∨ Tr.upd f t i v = t ∨ (Tr.upd f t i v).get i = t.get i
  | 0, _, _, _ => .inr (.inl rfl)
  | f + 1, t, 0, v => .inl (by rw [Tr.upd_zero, Tr.get_n0])
  | f + 1, t, i + 1, v => by
    rcases Nat.mod_two_eq_zero_or_one i with hi | hi
    · rw [Tr.upd_lf _ _ _ _ hi, Tr.get_nl _ _ _ _ hi, Tr.get_lf t i hi]
      rcases Tr.get_upd_or f t.lf (i / 2) v with h | h | h
      · exact .inl h
      · exact .inr (.inr (by rw [h]))
      · exact .inr (.inr h)
    · rw [Tr.upd_rt _ _ _ _ hi, Tr.get_nr _ _ _ _ hi, Tr.get_rt t i hi]
      rcases Tr.get_upd_or f t.rt (i / 2) v with h | h | h
      · exact .inl h
      · exact .inr (.inr (by rw [h]))
      · exact .inr (.inr h)
theorem Tr.get_upd_deep : ∀ (f : Nat) (t : Tr α) (i : Nat) (v : Option α), i + 1 < 2 ^ f → (Tr.upd f t i v).get i = v
  | 0, _, _, _, h => by simp at h
  | f + 1, t, 0, v, _ => by rw [Tr.upd_zero, Tr.get_n0]
  | f + 1, t, i + 1, v, h => by
    have h' : i / 2 + 1 < 2 ^ f := by rw [Nat.pow_succ] at h; omega
    rcases Nat.mod_two_eq_zero_or_one i with hi | hi
    · rw [Tr.upd_lf _ _ _ _ hi, Tr.get_nl _ _ _ _ hi, Tr.get_upd_deep f _ _ _ h']
    · rw [Tr.upd_rt _ _ _ _ hi, Tr.get_nr _ _ _ _ hi, Tr.get_upd_deep f _ _ _ h']
theorem Tr.get_upd_same {t : Tr α} {i : Nat} {v : Option α} (h : i < lim) : (Tr.upd 24 t i v).get i = v :=
  Tr.get_upd_deep 24 t i v (by unfold lim at h; omega)
theorem Tr.get_upd {t : Tr α} {i j : Nat} {v : Option α} (h : i < lim) : (Tr.upd 24 t i v).get j = if i = j then v else t.get j := by
  split
  · subst_vars; exact Tr.get_upd_same h
  · exact Tr.get_upd_ne 24 t i j v ‹_›
/-- whatever the place: what is found was put or was there -/
theorem Tr.get_upd_some {t : Tr α} {i j : Nat} {x y : α} (h : (Tr.upd 24 t i (some x)).get j = some y) : (i = j ∧ x = y) ∨ t.get j = some y := by
  by_cases e : i = j
  · subst e
    rcases Tr.get_upd_or 24 t i (some x) with h' | h' | h'
    · rw [h'] at h; exact .inl ⟨rfl, by simpa using h⟩
    · rw [h'] at h; exact .inr h
    · rw [h'] at h; exact .inr h
  · rw [Tr.get_upd_ne _ _ _ _ _ e] at h; exact .inr h
theorem Tr.get_ofL : ∀ (l : List α) (i : Nat) (t : Tr α) (j : Nat) (x : α), (Tr.ofL l i t).get j = some x → (i ≤ j ∧ l[j - i]? = some x) ∨ t.get j = some x
  | [], _, _, _, _, h => .inr h
  | y :: l, i, t, j, x, h => by
    rcases Tr.get_ofL l (i + 1) _ j x h with ⟨h1, h2⟩ | h'
    · refine .inl ⟨by omega, ?_⟩
      rw [show j - i = (j - (i + 1)) + 1 by omega]
      simpa using h2
    · rcases Tr.get_upd_some h' with ⟨rfl, rfl⟩ | h''
      · exact .inl ⟨Nat.le_refl _, by simp⟩
      · exact .inr h''
end

/-! ### lists, held against each other -/
def LR {α β : Type} (R : α → β → Prop) : List α → List β → Prop
  | [], [] => True
  | a :: l, b :: r => R a b ∧ LR R l r
  | _, _ => False
namespace LR
variable {α β : Type} {R R' : α → β → Prop}
theorem mono (h : ∀ a b, R a b → R' a b) : ∀ {l : List α} {r : List β}, LR R l r → LR R' l r
  | [], [], _ => trivial
  | _ :: _, _ :: _, ⟨h1, h2⟩ => ⟨h _ _ h1, mono h h2⟩
  | [], _ :: _, h => h.elim
  | _ :: _, [], h => h.elim
theorem length : ∀ {l : List α} {r : List β}, LR R l r → l.length = r.length
  | [], [], _ => rfl
  | _ :: _, _ :: _, ⟨_, h2⟩ => by simp [length h2]
  | [], _ :: _, h => h.elim
  | _ :: _, [], h => h.elim
theorem get : ∀ {l : List α} {r : List β}, LR R l r → ∀ {i : Nat} {a : α}, l[i]? = some a → ∃ b, r[i]? = some b ∧ R a b
  | [], [], _, _, _, h => by simp at h
  | x :: l, y :: r, ⟨h1, h2⟩, 0, a, h => ⟨y, by simp, by simp at h; exact h ▸ h1⟩
  | x :: l, y :: r, ⟨h1, h2⟩, i + 1, a, h => by simpa using get h2 (by simpa using h)
  | [], _ :: _, h, _, _, _ => h.elim
  | _ :: _, [], h, _, _, _ => h.elim
theorem append : ∀ {l : List α} {r : List β} {l' : List α} {r' : List β}, LR R l r → LR R l' r' → LR R (l ++ l') (r ++ r')
  | [], [], _, _, _, h' => h'
  | _ :: _, _ :: _, _, _, ⟨h1, h2⟩, h' => ⟨h1, append h2 h'⟩
  | [], _ :: _, _, _, h, _ => h.elim
  | _ :: _, [], _, _, h, _ => h.elim
theorem take : ∀ {l : List α} {r : List β} (n : Nat), LR R l r → LR R (l.take n) (r.take n)
  | [], [], _, _ => by simp [LR]
  | _ :: _, _ :: _, 0, _ => by simp [LR]
  | _ :: _, _ :: _, n + 1, ⟨h1, h2⟩ => by simp only [List.take_succ_cons]; exact ⟨h1, take n h2⟩
  | [], _ :: _, _, h => h.elim
  | _ :: _, [], _, h => h.elim
theorem drop : ∀ {l : List α} {r : List β} (n : Nat), LR R l r → LR R (l.drop n) (r.drop n)
  | [], [], _, _ => by simp [LR]
  | _ :: _, _ :: _, 0, h => h
  | _ :: _, _ :: _, n + 1, ⟨_, h2⟩ => by simp only [List.drop_succ_cons]; exact drop n h2
  | [], _ :: _, _, h => h.elim
  | _ :: _, [], _, h => h.elim
theorem one {a : α} {r : List β} (h : LR R [a] r) : ∃ b, r = [b] ∧ R a b := by
  match r, h with
  | [b], ⟨h, _⟩ => exact ⟨b, rfl, h⟩
theorem nil {r : List β} (h : LR R [] r) : r = [] := by
  match r, h with
  | [], _ => rfl
theorem cons {a : α} {l : List α} {r : List β} (h : LR R (a :: l) r) : ∃ b r', r = b :: r' ∧ R a b ∧ LR R l r' := by
  match r, h with
  | b :: r', ⟨h1, h2⟩ => exact ⟨b, r', rfl, h1, h2⟩
end LR

/-! ### values -/
structure Env where
  ρ : Nat → Int
  η : Nat → Value
def Env.val (E : Env) : Nat → Int
  | 0 => 0
  | v + 1 => E.ρ (v + 1)
structure Be where
  β : Nat → Nat
  cp : Nat → Nat
def bs (l : List Nat) : ByteArray := ⟨(l.map UInt8.ofNat).toArray⟩
def FxOk (F : Fx) (E : Env) : Prop :=
  (∀ v lo hi, F.rng v = some (lo, hi) → lo ≤ E.val v ∧ E.val v ≤ hi) ∧ (∀ x y d, F.dif x y = some d → E.val x - E.val y ≤ d) ∧
  (∀ i v, F.opl i = some v → ∃ a len cap, E.η i = .slice a len cap ∧ E.val v = len) ∧
  (∀ v m r, F.rem v = some (m, r) → E.val v % m = r)
/-- a scalar (n: the blocks that there are) -/
def VC (E : Env) (B : Be) (n : Nat) : SC → Value → Prop
  | .undef, v => v = undef
  | .bool b, v => v = .bool b
  | .int k x c, v => v = .int k (E.val x + c)
  | .str l, v => v = .string (bs l) ∧ ∀ b ∈ l, b < 256
  | .pnil, v => v = .pointer none
  | .ptr b o, v => b < n ∧ v = .pointer (some ⟨B.β b, o, none⟩)
  | .snil, v => v = .slice none 0 0
  | .sl b o len cap es ex, v => b < n ∧ ∃ cap', v = .slice (some ⟨B.β b, o, none⟩) len cap' ∧ (ex = true → cap' = cap) ∧ (ex = false → cap ≤ cap' ∧ o + cap' * es ≤ B.cp b)
  | .mnil, v => v = .map none
  | .map b, v => b < n ∧ v = .map (some (B.β b))
  | .fnil, v => v = .nilFunc
  | .fn f caps, v => (∀ p ∈ caps, p.1 < n) ∧ v = .func (.func f) #[] (caps.map fun p => Value.pointer (some ⟨B.β p.1, p.2, none⟩)).toArray
  | .inil, v => v = .nilIface
  | .opq i, v => v = E.η i ∧ v.oneCell' = true
def VA (E : Env) (B : Be) (n : Nat) : SA → Value → Prop
  | .s x, v => VC E B n x v
  | .g l, v => ∃ vs, v = .agg vs ∧ LR (VC E B n) l vs.toList
def VV (E : Env) (B : Be) (n : Nat) : SV → Value → Prop
  | .a x, v => VA E B n x v
  | .t l, v => ∃ vs, v = .tuple vs ∧ LR (VA E B n) l vs.toList
/-- the blocks below n are as they were -/
def Ext (B B' : Be) (n : Nat) : Prop := ∀ b, b < n → B'.β b = B.β b ∧ B'.cp b = B.cp b
theorem Ext.refl (B : Be) (n : Nat) : Ext B B n := fun _ _ => ⟨rfl, rfl⟩
theorem Ext.trans {B B' B'' : Be} {n n' : Nat} (h : Ext B B' n) (h' : Ext B' B'' n') (hn : n ≤ n') : Ext B B'' n :=
  fun b hb => ⟨(h' b (by omega)).1.trans (h b hb).1, (h' b (by omega)).2.trans (h b hb).2⟩
theorem Ext.mono {B B' : Be} {n n' : Nat} (h : Ext B B' n') (hn : n ≤ n') : Ext B B' n := fun b hb => h b (by omega)
section
variable {E : Env} {B B' : Be} {n n' : Nat}
theorem VC.ext (h : Ext B B' n) (hn : n ≤ n') : ∀ {x : SC} {v : Value}, VC E B n x v → VC E B' n' x v
  | .undef, _, hv => hv
  | .bool _, _, hv => hv
  | .int .., _, hv => hv
  | .str _, _, hv => hv
  | .pnil, _, hv => hv
  | .ptr b o, _, ⟨h1, h2⟩ => ⟨by omega, by rw [h2, (h b h1).1]⟩
  | .snil, _, hv => hv
  | .sl b .., _, ⟨h1, cap', h2, h3, h4⟩ => ⟨by omega, cap', by rw [h2, (h b h1).1], h3, fun e => by rw [(h b h1).2]; exact h4 e⟩
  | .mnil, _, hv => hv
  | .map b, _, ⟨h1, h2⟩ => ⟨by omega, by rw [h2, (h b h1).1]⟩
  | .fnil, _, hv => hv
  | .fn f caps, _, ⟨h1, h2⟩ => ⟨fun p hp => by have := h1 p hp; omega, by
      rw [h2]; congr 2; exact List.map_congr_left fun p hp => by rw [(h p.1 (h1 p hp)).1]⟩
  | .inil, _, hv => hv
  | .opq _, _, hv => hv
theorem VA.ext (h : Ext B B' n) (hn : n ≤ n') : ∀ {x : SA} {v : Value}, VA E B n x v → VA E B' n' x v
  | .s _, _, hv => VC.ext h hn hv
  | .g _, _, ⟨vs, h1, h2⟩ => ⟨vs, h1, h2.mono fun _ _ => VC.ext h hn⟩
theorem VV.ext (h : Ext B B' n) (hn : n ≤ n') : ∀ {x : SV} {v : Value}, VV E B n x v → VV E B' n' x v
  | .a _, _, hv => VA.ext h hn hv
  | .t _, _, ⟨vs, h1, h2⟩ => ⟨vs, h1, h2.mono fun _ _ => VA.ext h hn⟩
end

/-! ### heaps -/
def ER (E : Env) (B : Be) (n : Nat) (e : SA × SA × Nat) (m : MapEntry) : Prop := VA E B n e.1 m.key ∧ VA E B n e.2.1 m.val ∧ m.born = e.2.2
def HO (E : Env) (B : Be) (n b : Nat) : SO → Obj → Prop
  | .cells c m e, o => ∃ cs fr, o = .cells cs e fr ∧ (cs.size = B.cp b ∧ (m = 0 ∨ cs.size = m)) ∧ (fr.1 = fr.2 ∨ cs.size ≤ fr.1) ∧ ∀ i x, c.get i = some x → ∃ v, cs[i]? = some v ∧ VC E B n x v
  | .map es clock, o => ∃ ms, o = .map ms clock ∧ LR (ER E B n) es ms.toList
theorem HO.ext {E : Env} {B B' : Be} {n n' b : Nat} (h : Ext B B' n) (hn : n ≤ n') (hb : b < n) : ∀ {x : SO} {o : Obj}, HO E B n b x o → HO E B' n' b x o
  | .cells .., _, ⟨cs, fr, h1, h2, h3, h4⟩ => ⟨cs, fr, h1, ⟨h2.1.trans (h b hb).2.symm, h2.2⟩, h3, fun i x hx => let ⟨v, e1, e2⟩ := h4 i x hx; ⟨v, e1, e2.ext h hn⟩⟩
  | .map .., _, ⟨ms, h1, h2⟩ => ⟨ms, h1, h2.mono fun _ _ ⟨a, b, c⟩ => ⟨a.ext h hn, b.ext h hn, c⟩⟩
/-- the heap (X: what may not be touched) -/
structure HR (E : Env) (B : Be) (X : Nat → Prop) (n : Nat) (h : Hp) (w : World) : Prop where
  live : ∀ b o, h.get b = some o → b < n ∧ ¬ X (B.β b) ∧ ∃ o', w.heap[B.β b]? = some o' ∧ HO E B n b o o'
  inj : ∀ b b' o o', h.get b = some o → h.get b' = some o' → B.β b = B.β b' → b = b'
  top : n ≤ lim
  out : ∀ r, X r → r < w.heap.size
/-- what was not to be touched was not -/
structure FR (X : Nat → Prop) (w w' : World) : Prop where
  os : w'.os = w.os
  tape : w'.tape = w.tape
  output : w'.output = w.output
  size : w.heap.size ≤ w'.heap.size
  block : ∀ r, X r → w'.heap[r]? = w.heap[r]?
theorem FR.refl (X : Nat → Prop) (w : World) : FR X w w := ⟨rfl, rfl, rfl, Nat.le_refl _, fun _ _ => rfl⟩
theorem FR.trans {X : Nat → Prop} {a b c : World} (h : FR X a b) (k : FR X b c) : FR X a c :=
  ⟨k.os.trans h.os, k.tape.trans h.tape, k.output.trans h.output, Nat.le_trans h.size k.size, fun r hr => (k.block r hr).trans (h.block r hr)⟩
theorem FR.mono {X Y : Nat → Prop} {a b : World} (h : FR X a b) (k : ∀ r, Y r → X r) : FR Y a b := ⟨h.os, h.tape, h.output, h.size, fun r hr => h.block r (k r hr)⟩
/-- the temporaries -/
def TR (E : Env) (B : Be) (n : Nat) (T : Ts) (tmps : Array Value) : Prop := ∀ t x, T.get t = some x → ∃ v, tmps[t]? = some v ∧ VV E B n x v
theorem TR.ext {E : Env} {B B' : Be} {n n' : Nat} {T : Ts} {tmps : Array Value} (h : Ext B B' n) (hn : n ≤ n') (ht : TR E B n T tmps) : TR E B' n' T tmps :=
  fun t x hx => let ⟨v, e1, e2⟩ := ht t x hx; ⟨v, e1, e2.ext h hn⟩
theorem HR.lt_size {E : Env} {B : Be} {X : Nat → Prop} {n : Nat} {h : Hp} {w : World} (H : HR E B X n h w) {b : Nat} {o : SO} (hb : h.get b = some o) : B.β b < w.heap.size := by
  obtain ⟨_, _, o', ho, _⟩ := H.live b o hb
  rcases Nat.lt_or_ge (B.β b) w.heap.size with h' | h'
  · exact h'
  · rw [Array.getElem?_eq_none h'] at ho; cases ho
/-- a world of which the heap alone counts -/
theorem HR.world {E : Env} {B : Be} {X : Nat → Prop} {n : Nat} {h : Hp} {w w' : World} (H : HR E B X n h w) (e : w'.heap = w.heap) : HR E B X n h w' :=
  ⟨by rw [e]; exact H.live, H.inj, H.top, by rw [e]; exact H.out⟩
end Go.Cx
/- Loads, stores and new blocks. -/
namespace Go.Cx
variable {E : Env} {B : Be} {X : Nat → Prop} {n : Nat} {h : Hp} {w w' : World} {P : Program}

theorem VC.one : ∀ {x : SC} {v : Value}, VC E B n x v → x ≠ .undef → v.oneCell' = true
  | .undef, _, _, hx => absurd rfl hx
  | .bool _, _, hv, _ => by rw [show _ = _ from hv]; rfl
  | .int .., _, hv, _ => by rw [show _ = _ from hv]; rfl
  | .str _, _, hv, _ => by rw [hv.1]; rfl
  | .pnil, _, hv, _ => by rw [show _ = _ from hv]; rfl
  | .ptr .., _, hv, _ => by rw [hv.2]; rfl
  | .snil, _, hv, _ => by rw [show _ = _ from hv]; rfl
  | .sl .., _, ⟨_, _, hv, _⟩, _ => by rw [hv]; rfl
  | .mnil, _, hv, _ => by rw [show _ = _ from hv]; rfl
  | .map _, _, hv, _ => by rw [hv.2]; rfl
  | .fnil, _, hv, _ => by rw [show _ = _ from hv]; rfl
  | .fn .., _, hv, _ => by rw [hv.2]; rfl
  | .inil, _, hv, _ => by rw [show _ = _ from hv]; rfl
  | .opq _, _, hv, _ => hv.2
/-- no scalar is an aggregate -/
theorem VC.cells : ∀ {x : SC} {v : Value}, VC E B n x v → v.cells = #[v]
  | .undef, _, hv => by rw [show _ = _ from hv]; rfl
  | .bool _, _, hv => by rw [show _ = _ from hv]; rfl
  | .int .., _, hv => by rw [show _ = _ from hv]; rfl
  | .str _, _, hv => by rw [hv.1]; rfl
  | .pnil, _, hv => by rw [show _ = _ from hv]; rfl
  | .ptr .., _, hv => by rw [hv.2]; rfl
  | .snil, _, hv => by rw [show _ = _ from hv]; rfl
  | .sl .., _, ⟨_, _, hv, _⟩ => by rw [hv]; rfl
  | .mnil, _, hv => by rw [show _ = _ from hv]; rfl
  | .map _, _, hv => by rw [hv.2]; rfl
  | .fnil, _, hv => by rw [show _ = _ from hv]; rfl
  | .fn .., _, hv => by rw [hv.2]; rfl
  | .inil, _, hv => by rw [show _ = _ from hv]; rfl
  | .opq _, v, hv => by
      have := hv.2
      cases v <;> first | rfl | (simp [Value.oneCell'] at this)
theorem VA.cells : ∀ {x : SA} {v : Value}, VA E B n x v → LR (VC E B n) x.cells v.cells.toList
  | .s x, v, hv => by rw [VC.cells hv]; exact ⟨hv, trivial⟩
  | .g l, v, ⟨vs, h1, h2⟩ => by rw [h1]; exact h2
theorem VA.csize {x : SA} {v : Value} (hv : VA E B n x v) : v.cells.size = x.cells.length := by rw [← Array.length_toList, ← (VA.cells hv).length]

theorem add_at (b o j : Nat) : (⟨b, o, none⟩ : Addr).add j = ⟨b, o + j, none⟩ := by
  unfold Addr.add
  split
  · subst_vars; rfl
  · rfl

/-! ### loads -/
theorem HR.cell (H : HR E B X n h w) {b : Nat} {c : Tr SC} {m e : Nat} (hb : h.get b = some (.cells c m e)) {i : Nat} {x : SC} (hx : c.get i = some x) :
    ∃ v, w.cell? ⟨B.β b, i, none⟩ = some v ∧ VC E B n x v := by
  obtain ⟨_, _, o', ho, cs, fr, rfl, _, _, h4⟩ := H.live b _ hb
  obtain ⟨v, hv, hV⟩ := h4 i x hx
  exact ⟨v, by simp [World.cell?, ho, hv], hV⟩
theorem HR.frozen (H : HR E B X n h w) {b : Nat} {c : Tr SC} {m e : Nat} (hb : h.get b = some (.cells c m e)) {i : Nat} {x : SC} (hx : c.get i = some x) :
    w.frozen? ⟨B.β b, i, none⟩ = false := by
  obtain ⟨_, _, o', ho, cs, fr, rfl, _, h3, h4⟩ := H.live b _ hb
  obtain ⟨v, hv, _⟩ := h4 i x hx
  have hi : i < cs.size := by
    rcases Nat.lt_or_ge i cs.size with h' | h'
    · exact h'
    · rw [Array.getElem?_eq_none h'] at hv; cases hv
  obtain ⟨lo, hi'⟩ := fr
  simp only [World.frozen?, ho]
  simp only at h3
  by_cases h1 : lo ≤ i <;> by_cases h2 : i < hi' <;> simp [h1, h2] <;> omega
theorem HR.loadN (H : HR E B X n h w) {b : Nat} {c : Tr SC} {m e : Nat} (hb : h.get b = some (.cells c m e)) :
    ∀ (k o : Nat) (l : List SC), loadN c o k = some l → ∃ vs : List Value, vs.length = k ∧ LR (VC E B n) l vs ∧ ∀ j v, vs[j]? = some v → w.cell? ⟨B.β b, o + j, none⟩ = some v
  | 0, o, l, hl => by
    simp only [Cx.loadN, Option.some.injEq] at hl
    subst hl
    exact ⟨[], rfl, trivial, fun j v hv => by simp at hv⟩
  | k + 1, o, l, hl => by
    simp only [Cx.loadN] at hl
    split at hl
    · rename_i x hx
      split at hl
      · rename_i l' hl'
        simp only [Option.some.injEq] at hl
        subst hl
        obtain ⟨v, hv, hV⟩ := H.cell hb hx
        obtain ⟨vs, e1, e2, e3⟩ := HR.loadN H hb k (o + 1) l' hl'
        refine ⟨v :: vs, by simp [e1], ⟨hV, e2⟩, fun j u hu => ?_⟩
        cases j with
        | zero => simp at hu; subst hu; exact hv
        | succ j => rw [show o + (j + 1) = o + 1 + j by omega]; exact e3 j u (by simpa using hu)
      · cases hl
    · cases hl
theorem run_info {t : TypeId} {i : TypeInfo} (h : P.info? t = some i) (w : World) : (typeInfo t).run P w = .ok i w := by simp [typeInfo, h]
theorem run_size {t : TypeId} {k : Nat} (h : size? P t = some k) (w : World) : (sizeOf t).run P w = .ok k w := by
  unfold size? at h
  obtain ⟨i, hi, rfl⟩ := Option.map_eq_some_iff.1 h
  simp [sizeOf, run_info hi]
theorem run_under {t : TypeId} {d : TypeDesc} (h : P.underlying t = some d) (w : World) : (underlying t).run P w = .ok d w := by simp [underlying, h]
theorem run_agg {t : TypeId} {g : Bool} (h : isAgg? P t = some g) (w : World) : (isAgg t).run P w = .ok g w := by
  unfold isAgg? at h
  cases hu : P.underlying t with
  | none => rw [hu] at h; cases h
  | some d =>
    rw [hu] at h
    simp only [isAgg, Sem.run_bind, run_under hu, Result.andThen_ok]
    cases d <;> simp_all
theorem run_cells (b o : Nat) (vs : List Value) (hc : ∀ j v, vs[j]? = some v → w.cell? ⟨b, o + j, none⟩ = some v) (k : Nat) (hk : vs.length = k) :
    (loadCells ⟨b, o, none⟩ k).run P w = .ok vs.toArray w := by
  subst hk
  exact run_loadCells_list w _ vs fun j v hj => by rw [add_at]; exact hc j v hj
theorem shut_VA {g : Bool} {l : List SC} {x : SA} (hs : shut g l = some x) : (g = true ∧ x = .g l) ∨ (g = false ∧ ∃ y, l = [y] ∧ x = .s y) := by
  cases g with
  | true => simp only [shut, Option.some.injEq] at hs; exact .inl ⟨rfl, hs.symm⟩
  | false =>
    simp only [shut] at hs
    split at hs
    · rename_i y; simp only [Option.some.injEq] at hs; exact .inr ⟨rfl, y, rfl, hs.symm⟩
    · cases hs
theorem HR.load (H : HR E B X n h w) {t : TypeId} {g : Bool} {k b o : Nat} {x : SA} (hg : isAgg? P t = some g) (hk : size? P t = some k) (hx : loadAt g k h b o = some x) :
    ∃ v, (loadVar t ⟨B.β b, o, none⟩).run P w = .ok v w ∧ VA E B n x v := by
  unfold loadAt at hx
  split at hx
  · rename_i c m e hb
    split at hx
    · rename_i l hl
      obtain ⟨vs, e1, e2, e3⟩ := HR.loadN H hb k o l hl
      rcases shut_VA hx with ⟨rfl, rfl⟩ | ⟨rfl, y, rfl, rfl⟩
      · refine ⟨.agg vs.toArray, ?_, vs.toArray, rfl, by simpa using e2⟩
        simp [loadVar, run_agg hg, run_size hk, run_cells _ _ vs e3 k e1]
      · obtain ⟨v, rfl, hv⟩ := e2.one
        refine ⟨v, ?_, hv⟩
        have := e3 0 v (by simp)
        simp only [Nat.add_zero] at this
        simp [loadVar, run_agg hg, this]
    · cases hx
  · cases hx

/-! ### blocks that are put -/
theorem HR.congr {h' : Hp} (H : HR E B X n h w) (e : ∀ b, h'.get b = h.get b) : HR E B X n h' w :=
  ⟨fun b o hb => H.live b o (e b ▸ hb), fun b b' o o' hb hb' => H.inj b b' o o' (e b ▸ hb) (e b' ▸ hb'), H.top, H.out⟩
theorem HR.put (H : HR E B X n h w) {b : Nat} {o o2 : SO} {o2' : Obj} (hb : h.get b = some o) (hs : w'.heap.size = w.heap.size) (hr : ∀ r, r ≠ B.β b → w'.heap[r]? = w.heap[r]?)
    (hn : w'.heap[B.β b]? = some o2') (ho : HO E B n b o2 o2') : HR E B X n (h.upd 24 b (some o2)) w' := by
  have hbn := (H.live b o hb).1
  have hlim : b < lim := Nat.lt_of_lt_of_le hbn H.top
  refine ⟨fun b' x hx => ?_, fun b1 b2 x1 x2 h1 h2 hβ => ?_, H.top, by rw [hs]; exact H.out⟩
  · rw [Tr.get_upd hlim] at hx
    split at hx
    · subst_vars
      simp only [Option.some.injEq] at hx
      subst hx
      exact ⟨hbn, (H.live _ o hb).2.1, o2', hn, ho⟩
    · rename_i hne
      obtain ⟨e1, e2, o', e3, e4⟩ := H.live b' x hx
      exact ⟨e1, e2, o', by rw [hr _ (fun e => hne (H.inj _ _ _ _ hb hx e.symm)), e3], e4⟩
  · rw [Tr.get_upd hlim] at h1 h2
    have g1 : ∃ y, h.get b1 = some y := by
      split at h1
      · subst_vars; exact ⟨o, hb⟩
      · exact ⟨x1, h1⟩
    have g2 : ∃ y, h.get b2 = some y := by
      split at h2
      · subst_vars; exact ⟨o, hb⟩
      · exact ⟨x2, h2⟩
    obtain ⟨y1, g1⟩ := g1
    obtain ⟨y2, g2⟩ := g2
    exact H.inj _ _ _ _ g1 g2 hβ
theorem HR.kill (H : HR E B X n h w) (b : Nat) : HR E B X n (h.upd 24 b none) w := by
  have key : ∀ {b' : Nat} {o : SO}, (h.upd 24 b none).get b' = some o → h.get b' = some o := by
    intro b' o hg
    by_cases e : b = b'
    · subst e
      rcases Tr.get_upd_or 24 h b none with h' | h' | h'
      · rw [h'] at hg; cases hg
      · rwa [h'] at hg
      · rwa [h'] at hg
    · rwa [Tr.get_upd_ne _ _ _ _ _ e] at hg
  exact ⟨fun b' o hb => H.live b' o (key hb), fun b1 b2 o1 o2 h1 h2 => H.inj b1 b2 o1 o2 (key h1) (key h2), H.top, H.out⟩
def Be.add (B : Be) (n r c : Nat) : Be := ⟨fun b => if b = n then r else B.β b, fun b => if b = n then c else B.cp b⟩
theorem Be.add_ext (B : Be) (n r c : Nat) : Ext B (B.add n r c) n := fun b hb => by
  have : b ≠ n := by omega
  simp [Be.add, this]
theorem Be.add_new (B : Be) (n r c : Nat) : (B.add n r c).β n = r ∧ (B.add n r c).cp n = c := by simp [Be.add]
theorem HR.new (H : HR E B X n h w) (hn : n < lim) {o : SO} {o' : Obj} {c : Nat} (hw : w'.heap = w.heap.push o') (ho : HO E (B.add n w.heap.size c) (n + 1) n o o') :
    HR E (B.add n w.heap.size c) X (n + 1) (h.upd 24 n (some o)) w' := by
  have hfree : h.get n = none := by
    cases e : h.get n with
    | none => rfl
    | some y => have := (H.live n y e).1; omega
  have hold : ∀ r, r < w.heap.size → w'.heap[r]? = w.heap[r]? := fun r hr => by rw [hw, Array.getElem?_push, if_neg (by omega)]
  refine ⟨fun b x hx => ?_, fun b1 b2 x1 x2 h1 h2 hβ => ?_, hn, fun r hr => by rw [hw, Array.size_push]; have := H.out r hr; omega⟩
  · rw [Tr.get_upd hn] at hx
    split at hx
    · subst_vars
      simp only [Option.some.injEq] at hx
      subst hx
      refine ⟨by omega, ?_, o', ?_, ho⟩
      · rw [(Be.add_new B _ _ _).1]; exact fun hX => by have := H.out _ hX; omega
      · rw [(Be.add_new B _ _ _).1, hw, Array.getElem?_push]; simp
    · obtain ⟨e1, e2, y, e3, e4⟩ := H.live b x hx
      have hβb := (Be.add_ext B n w.heap.size c b e1).1
      exact ⟨by omega, by rw [hβb]; exact e2, y, by rw [hβb, hold _ (H.lt_size hx), e3], e4.ext (Be.add_ext B _ _ _) (by omega) e1⟩
  · rw [Tr.get_upd hn] at h1 h2
    split at h1 <;> split at h2
    · omega
    · subst_vars
      have e1 := (H.live b2 x2 h2).1
      rw [(Be.add_new B _ _ _).1, (Be.add_ext B _ _ _ b2 e1).1] at hβ
      have := H.lt_size h2
      omega
    · subst_vars
      have e1 := (H.live b1 x1 h1).1
      rw [(Be.add_new B _ _ _).1, (Be.add_ext B _ _ _ b1 e1).1] at hβ
      have := H.lt_size h1
      omega
    · have e1 := (H.live b1 x1 h1).1
      have e2 := (H.live b2 x2 h2).1
      rw [(Be.add_ext B _ _ _ b1 e1).1, (Be.add_ext B _ _ _ b2 e2).1] at hβ
      exact H.inj _ _ _ _ h1 h2 hβ
theorem FR.push {o' : Obj} (H : HR E B X n h w) (hw : w'.heap = w.heap.push o') (h1 : w'.os = w.os) (h2 : w'.tape = w.tape) (h3 : w'.output = w.output) : FR X w w' :=
  ⟨h1, h2, h3, by rw [hw, Array.size_push]; omega, fun r hr => by have := H.out r hr; rw [hw, Array.getElem?_push, if_neg (by omega)]⟩
theorem FR.put (H : HR E B X n h w) {b : Nat} {o : SO} (hb : h.get b = some o) (hs : w'.heap.size = w.heap.size) (hr : ∀ r, r ≠ B.β b → w'.heap[r]? = w.heap[r]?)
    (h1 : w'.os = w.os) (h2 : w'.tape = w.tape) (h3 : w'.output = w.output) : FR X w w' :=
  ⟨h1, h2, h3, by omega, fun r hr' => hr r fun e => (H.live b o hb).2.1 (e ▸ hr')⟩

/-! ### stores -/
theorem setCell_heap (w : World) (b i : Nat) (v : Value) (cs : Array Value) (e : TypeId) (fr : Nat × Nat) (hb : w.heap[b]? = some (.cells cs e fr)) :
    (w.setCell ⟨b, i, none⟩ v).heap[b]? = some (.cells (cs.setIfInBounds i v) e fr) ∧ (∀ r, r ≠ b → (w.setCell ⟨b, i, none⟩ v).heap[r]? = w.heap[r]?) := by
  refine ⟨?_, fun r hr => ?_⟩
  · simp [World.setCell, Array.getElem?_modify, hb]
  · simp only [World.setCell, Array.getElem?_modify]
    rw [if_neg (by omega)]
theorem HR.setCell (H : HR E B X n h w) {b : Nat} {c : Tr SC} {m e i : Nat} {x y : SC} {v : Value} (hb : h.get b = some (.cells c m e)) (hi : c.get i = some y) (hlim : i < lim) (hv : VC E B n x v) :
    HR E B X n (h.upd 24 b (some (.cells (c.upd 24 i (some x)) m e))) (w.setCell ⟨B.β b, i, none⟩ v) ∧ FR X w (w.setCell ⟨B.β b, i, none⟩ v) := by
  obtain ⟨hbn, _, o', ho, cs, fr, rfl, h2, h3, h4⟩ := H.live b _ hb
  obtain ⟨e1, e2⟩ := setCell_heap w (B.β b) i v cs e fr ho
  refine ⟨H.put hb (by simp) e2 e1 ⟨_, fr, rfl, by simpa using h2, by simpa using h3, fun j z hz => ?_⟩, FR.put H hb (by simp) e2 rfl rfl rfl⟩
  obtain ⟨u, hu, _⟩ := h4 i y hi
  have hisz : i < cs.size := by
    rcases Nat.lt_or_ge i cs.size with h' | h'
    · exact h'
    · rw [Array.getElem?_eq_none h'] at hu; cases hu
  rw [Tr.get_upd hlim] at hz
  split at hz
  · subst_vars
    simp only [Option.some.injEq] at hz
    subst hz
    exact ⟨v, by simp [hisz], hv⟩
  · rename_i hne
    obtain ⟨u', hu', hU⟩ := h4 j z hz
    exact ⟨u', by rw [Array.getElem?_setIfInBounds_ne hne]; exact hu', hU⟩
theorem HR.storeN (hX : True) : ∀ (l : List SC) (vs : List Value) (c c' : Tr SC) (b o i m e : Nat) (h : Hp) (w : World), HR E B X n h w → h.get b = some (.cells c m e) → storeN l c (o + i) = some c' →
    o + i + l.length < lim → LR (VC E B n) l vs → ∃ w', (storeCells ⟨B.β b, o, none⟩ vs i).run P w = .ok () w' ∧ HR E B X n (h.upd 24 b (some (.cells c' m e))) w' ∧ FR X w w' ∧ w'.heap.size = w.heap.size
  | [], vs, c, c', b, o, i, m, e, h, w, H, hb, hs, hl, hv => by
    obtain rfl := hv.nil
    simp only [Cx.storeN, Option.some.injEq] at hs
    subst hs
    refine ⟨w, by simp [storeCells], H.congr fun b' => ?_, FR.refl _ _, rfl⟩
    have hlim : b < lim := Nat.lt_of_lt_of_le (H.live b _ hb).1 H.top
    rw [Tr.get_upd hlim]
    split
    · subst_vars; rw [hb]
    · rfl
  | x :: l, vs, c, c', b, o, i, m, e, h, w, H, hb, hs, hl, hv => by
    obtain ⟨v, vs', rfl, hv1, hv2⟩ := hv.cons
    have hnu : x ≠ .undef := by rintro rfl; simp [Cx.storeN] at hs
    have hs' : (match c.get (o + i) with | some _ => Cx.storeN l (c.upd 24 (o + i) (some x)) (o + i + 1) | none => none) = some c' := by
      cases x <;> first | exact absurd rfl hnu | exact hs
    split at hs'
    · rename_i y hy
      have hil : o + i < lim := by simp at hl; omega
      obtain ⟨H1, F1⟩ := H.setCell hb hy hil hv1
      have hlim : b < lim := Nat.lt_of_lt_of_le (H.live b _ hb).1 H.top
      obtain ⟨w2, r2, H2, F2, s2⟩ := HR.storeN hX l vs' (c.upd 24 (o + i) (some x)) c' b o (i + 1) m e _ _ H1 (Tr.get_upd_same hlim) (by simpa [Nat.add_assoc] using hs') (by simp at hl; omega) hv2
      obtain ⟨u, hu, _⟩ := H.cell hb hy
      refine ⟨w2, ?_, H2.congr fun b' => ?_, F1.trans F2, s2.trans (by simp)⟩
      · simp only [storeCells, Sem.run_bind, add_at, run_store P w _ v .plain (VC.one hv1 hnu), hu, H.frozen hb hy]
        simp only [Bool.false_eq_true, if_false, Result.andThen_ok]
        exact r2
      · rw [Tr.get_upd hlim, Tr.get_upd hlim]
        split
        · rfl
        · rename_i hne; rw [Tr.get_upd_ne _ _ _ _ _ hne]
    · cases hs'
theorem HR.store (H : HR E B X n h w) {b o : Nat} {l : List SC} {vs : List Value} {h' : Hp} (hs : storeAt h b o l = some h') (hv : LR (VC E B n) l vs) :
    ∃ w', (storeCells ⟨B.β b, o, none⟩ vs).run P w = .ok () w' ∧ HR E B X n h' w' ∧ FR X w w' ∧ w'.heap.size = w.heap.size := by
  unfold storeAt at hs
  split at hs
  · rename_i c m e hb
    split at hs
    · rename_i hlt
      split at hs
      · rename_i c' hc
        simp only [Option.some.injEq] at hs
        subst hs
        exact HR.storeN trivial l vs c c' b o 0 m e h w H hb (by simpa using hc) (by simpa [Nat.blt_eq] using hlt) hv
      · cases hs
    · cases hs
  · cases hs
/-- the cells of a block that is made -/
theorem mkCellsM_HO {m : Nat} {l : List SC} {vs : List Value} {e b c : Nat} {rest : List Value} {fr : Nat × Nat} (hv : LR (VC E B n) l vs) (hc : (vs ++ rest).length = B.cp b) (hf : fr.1 = fr.2 ∨ (vs ++ rest).length ≤ fr.1) (_hcc : c = c) (hm : m = 0 ∨ (vs ++ rest).length = m) :
    HO E B n b (.cells (Tr.ofL l 0 .e) m e) (.cells (vs ++ rest).toArray e fr) := by
  refine ⟨_, fr, rfl, ⟨by simpa using hc, by simpa using hm⟩, by simpa using hf, fun i x hx => ?_⟩
  rcases Tr.get_ofL l 0 .e i x hx with ⟨_, h2⟩ | h2
  · rw [Nat.sub_zero] at h2
    obtain ⟨v, hv1, hv2⟩ := hv.get h2
    refine ⟨v, ?_, hv2⟩
    have hi : i < vs.length := by
      rcases Nat.lt_or_ge i vs.length with h' | h'
      · exact h'
      · rw [List.getElem?_eq_none h'] at hv1; cases hv1
    simp [List.getElem?_append_left hi, hv1]
  · simp [Tr.get_e] at h2
theorem mkCells_HO {l : List SC} {vs : List Value} {e b c : Nat} {rest : List Value} {fr : Nat × Nat} (hv : LR (VC E B n) l vs) (hc : (vs ++ rest).length = B.cp b) (hf : fr.1 = fr.2 ∨ (vs ++ rest).length ≤ fr.1) (_hcc : c = c) (hr : rest = [] := by rfl) :
    HO E B n b (mkCells l e) (.cells (vs ++ rest).toArray e fr) := mkCellsM_HO hv hc hf _hcc (.inr (by rw [hr, List.append_nil, hv.length]))
theorem mkCellsA_HO {l : List SC} {vs : List Value} {e b c : Nat} {rest : List Value} {fr : Nat × Nat} (hv : LR (VC E B n) l vs) (hc : (vs ++ rest).length = B.cp b) (hf : fr.1 = fr.2 ∨ (vs ++ rest).length ≤ fr.1) (_hcc : c = c) :
    HO E B n b (mkCellsA l e) (.cells (vs ++ rest).toArray e fr) := mkCellsM_HO hv hc hf _hcc (.inl rfl)
end Go.Cx
/- The operations, one by one: what they come to in the model. First part: values, loads, stores, new blocks. -/
namespace Go.Cx
variable {P : Program} {E : Env} {F : Fx}

/-! ### what is asked of an operation -/
def PureOk (P : Program) (E : Env) (f : Ts → Option SV) (o : Oper) : Prop :=
  ∀ (B : Be) (n : Nat) (T : Ts) (a : Act) (x : SV), f T = some x → TR E B n T a.tmps → ∀ w, ∃ v, (execOp a.eval o).run P w = .ok (.value v) w ∧ VV E B n x v
def ReadOk (P : Program) (E : Env) (f : Ts → Hp → Option SV) (o : Oper) : Prop :=
  ∀ (B : Be) (X : Nat → Prop) (n : Nat) (T : Ts) (h : Hp) (a : Act) (w : World) (x : SV), f T h = some x → TR E B n T a.tmps → HR E B X n h w → ∃ v, (execOp a.eval o).run P w = .ok (.value v) w ∧ VV E B n x v
def MakeOk (P : Program) (E : Env) (f : Ts → Nat → Option (SV × SO)) (o : Oper) : Prop :=
  ∀ (B : Be) (n : Nat) (T : Ts) (a : Act) (w : World) (x : SV) (so : SO), f T n = some (x, so) → TR E B n T a.tmps →
    ∃ v o' c w', (execOp a.eval o).run P w = .ok (.value v) w' ∧ w'.heap = w.heap.push o' ∧ w'.os = w.os ∧ w'.tape = w.tape ∧ w'.output = w.output ∧
      VV E (B.add n w.heap.size c) (n + 1) x v ∧ HO E (B.add n w.heap.size c) (n + 1) n so o'
def ChgOk (P : Program) (E : Env) (f : Ts → Hp → Nat → Option (SV × Hp × Nat)) (o : Oper) : Prop :=
  ∀ (B : Be) (X : Nat → Prop) (n : Nat) (T : Ts) (h : Hp) (a : Act) (w : World) (x : SV) (h' : Hp) (n' : Nat), f T h n = some (x, h', n') → TR E B n T a.tmps → HR E B X n h w →
    ∀ (next : Act → World → Prop) (Q : Exit → Act → World → Prop), (∀ B' v w', Ext B B' n → n ≤ n' → HR E B' X n' h' w' → FR X w w' → VV E B' n' x v → next (a.put o.dst v) w') → o.wp P a w next Q
def KOk (P : Program) (E : Env) (k : OpK) (o : Oper) : Prop := match k with
  | .pure f => PureOk P E f o
  | .read f => ReadOk P E f o
  | .make f => MakeOk P E f o
  | .chg f => ChgOk P E f o

/-! ### operands -/
theorem bs_of (s : ByteArray) : bs (s.data.toList.map (·.toNat)) = s := by
  obtain ⟨d⟩ := s
  unfold bs
  congr 1
  apply Array.ext'
  simp only [List.map_map]
  rw [show (UInt8.ofNat ∘ fun x : UInt8 => x.toNat) = id from funext fun b => by simp]
  simp
theorem ofC_VC {B : Be} {n : Nat} : ∀ {v : Value} {x : SC}, ofC v = some x → VC E B n x v
  | .bool b, x, h => by simp only [ofC, Option.some.injEq] at h; subst h; rfl
  | .int k c, x, h => by simp only [ofC, Option.some.injEq] at h; subst h; simp [VC, Env.val]
  | .string s, x, h => by
    simp only [ofC, Option.some.injEq] at h; subst h
    exact ⟨by rw [bs_of], fun b hb => by
      obtain ⟨u, _, rfl⟩ := List.mem_map.1 hb
      exact u.toNat_lt⟩
  | .pointer none, x, h => by simp only [ofC, Option.some.injEq] at h; subst h; rfl
  | .pointer (some _), x, h => by simp [ofC] at h
  | .slice none 0 0, x, h => by simp only [ofC, Option.some.injEq] at h; subst h; rfl
  | .slice none 0 (_ + 1), x, h => by simp [ofC] at h
  | .slice none (_ + 1) _, x, h => by simp [ofC] at h
  | .slice (some _) _ _, x, h => by simp [ofC] at h
  | .map none, x, h => by simp only [ofC, Option.some.injEq] at h; subst h; rfl
  | .map (some _), x, h => by simp [ofC] at h
  | .nilFunc, x, h => by simp only [ofC, Option.some.injEq] at h; subst h; rfl
  | .nilIface, x, h => by simp only [ofC, Option.some.injEq] at h; subst h; rfl
  | .tuple vs, x, h => by
    cases e : vs.toList with
    | nil =>
      simp only [ofC, e, Option.some.injEq] at h
      subst h
      have : vs = #[] := Array.ext' (by simpa using e)
      subst this; rfl
    | cons y l => simp [ofC, e] at h
  | .float .., x, h => by simp [ofC] at h
  | .complex .., x, h => by simp [ofC] at h
  | .chan _, x, h => by simp [ofC] at h
  | .func .., x, h => by simp [ofC] at h
  | .iface .., x, h => by simp [ofC] at h
  | .agg _, x, h => by simp [ofC] at h
theorem ofCs_LR {B : Be} {n : Nat} : ∀ {vs : List Value} {l : List SC}, ofCs vs = some l → LR (VC E B n) l vs
  | [], l, h => by simp only [ofCs, Option.some.injEq] at h; subst h; trivial
  | v :: vs, l, h => by
    simp only [ofCs] at h
    split at h
    · rename_i x hx
      split at h
      · rename_i r hr
        simp only [Option.some.injEq] at h; subst h
        exact ⟨ofC_VC hx, ofCs_LR hr⟩
      · cases h
    · cases h
theorem ofV_VV {B : Be} {n : Nat} {v : Value} {x : SV} (h : ofV v = some x) : VV E B n x v := by
  cases v
  case agg cs =>
    simp only [ofV] at h
    obtain ⟨l, hl, rfl⟩ := Option.map_eq_some_iff.1 h
    exact ⟨cs, rfl, ofCs_LR hl⟩
  all_goals
    simp only [ofV] at h
    obtain ⟨y, hy, rfl⟩ := Option.map_eq_some_iff.1 h
    exact ofC_VC hy
theorem TR.ev {B : Be} {n : Nat} {T : Ts} {a : Act} (ht : TR E B n T a.tmps) : ∀ {o : Operand} {x : SV}, ev o T = some x → VV E B n x (a.eval o)
  | .tmp t, x, h => by
    obtain ⟨v, e1, e2⟩ := ht t x h
    simp only [Act.eval, Array.getD_eq_getD_getElem?, e1, Option.getD_some]
    exact e2
  | .const v, x, h => by
    cases hy : ofV v with
    | none => simp [Cx.ev, hy] at h
    | some y =>
      simp only [Cx.ev, hy, Option.some.injEq] at h; subst h
      exact ofV_VV hy
  | .func f, x, h => by
    simp only [Cx.ev, Option.some.injEq] at h; subst h
    exact ⟨fun p hp => (by cases hp), rfl⟩
  | .global g, x, h => by simp [Cx.ev] at h
theorem TR.evA {B : Be} {n : Nat} {T : Ts} {a : Act} (ht : TR E B n T a.tmps) {o : Operand} {x : SA} (h : evA o T = some x) : VA E B n x (a.eval o) := by
  unfold Cx.evA at h
  split at h
  · rename_i v hv
    simp only [Option.some.injEq] at h; subst h
    exact ht.ev hv
  · cases h
theorem TR.evC {B : Be} {n : Nat} {T : Ts} {a : Act} (ht : TR E B n T a.tmps) {o : Operand} {x : SC} (h : evC o T = some x) : VC E B n x (a.eval o) := by
  unfold Cx.evC at h
  split at h
  · rename_i v hv
    simp only [Option.some.injEq] at h; subst h
    exact ht.ev hv
  · cases h
theorem TR.evs {B : Be} {n : Nat} {T : Ts} {a : Act} (ht : TR E B n T a.tmps) : ∀ {os : List Operand} {l : List SV}, evs os T = some l → LR (VV E B n) l (os.map a.eval)
  | [], l, h => by simp only [Cx.evs, Option.some.injEq] at h; subst h; trivial
  | o :: os, l, h => by
    simp only [Cx.evs] at h
    split at h
    · rename_i v hv
      split at h
      · rename_i r hr
        simp only [Option.some.injEq] at h; subst h
        exact ⟨ht.ev hv, ht.evs hr⟩
      · cases h
    · cases h
/-- an operation that hands back a value -/
theorem run_value {s : Sem Value} {w w' : World} {v : Value} (h : s.run P w = .ok v w') : (do pure (Next.value (← s)) : Sem Next).run P w = .ok (.value v) w' := by
  simp [h]
theorem run_unit {s : Sem Unit} {w w' : World} (h : s.run P w = .ok () w') : (do s; pure Next.skip : Sem Next).run P w = .ok .skip w' := by
  simp [h]

variable {dst : Option Tmp} {ty : TypeId} {pos : String} {after : Array Edge} {guard : Option (Nat × Bool)}

theorem move_ok (x : Operand) : PureOk P E (ev x) (Oper.mk dst (.move x) ty pos after guard) := fun _ _ _ a y hy ht w =>
  ⟨a.eval x, rfl, ht.ev hy⟩
theorem assign_ok (x : Operand) : PureOk P E (ev x) (Oper.mk dst (.assign x) ty pos after guard) := fun _ _ _ a y hy ht w =>
  ⟨a.eval x, rfl, ht.ev hy⟩
theorem pick_ok (c x y : Operand) : PureOk P E (pickF c x y) (Oper.mk dst (.pick c x y) ty pos after guard) := by
  intro B n T a z hz ht w
  unfold pickF at hz
  split at hz
  · rename_i hc
    have e := ht.evC hc
    simp only [VC] at e
    exact ⟨a.eval x, by simp [execOp, e, asBool], ht.ev hz⟩
  · rename_i hc
    have e := ht.evC hc
    simp only [VC] at e
    exact ⟨a.eval y, by simp [execOp, e, asBool], ht.ev hz⟩
  · cases hz
theorem zero_run {e : TypeId} {z : List SC} (h : zero? P e = some z) : ∃ v, (∀ w, (zeroValue e).run P w = .ok v w) ∧ ∀ (B : Be) (n : Nat), LR (VC E B n) z v.cells.toList := by
  unfold zero? at h
  split at h
  · rename_i i hi
    split at h
    · rename_i v hv
      exact ⟨v, fun w => by simp [zeroValue, run_info hi, hv], fun B n => ofCs_LR h⟩
    · cases h
  · cases h
theorem alloc_ok {e : TypeId} {z : List SC} (hz : zero? P e = some z) : MakeOk P E (fun _ n => some (sc (.ptr n 0), mkCells z e)) (Oper.mk dst (.alloc e) ty pos after guard) := by
  intro B n T a w x so hf ht
  simp only [Option.some.injEq, Prod.mk.injEq] at hf
  obtain ⟨rfl, rfl⟩ := hf
  obtain ⟨v, hv, hl⟩ := zero_run (E := E) hz
  refine ⟨.pointer (some ⟨w.heap.size, 0, none⟩), .cells v.cells e, v.cells.size, w.alloc (.cells v.cells e), ?_, rfl, rfl, rfl, rfl, ⟨by omega, by rw [(Be.add_new B _ _ _).1]⟩, ?_⟩
  · simp [execOp, Instr.alloc, hv, newVar, newRow]
  · have := mkCells_HO (E := E) (B := B.add n w.heap.size v.cells.size) (n := n + 1) (e := e) (b := n) (c := 0) (rest := []) (fr := (0, 0)) (hl (B.add n w.heap.size v.cells.size) (n + 1)) (by simp [Be.add]) (.inl rfl) rfl
    simpa using this
theorem box_ok (e : TypeId) (y : Operand) : MakeOk P E (fun T n => match evA y T with | some v => some (sc (.ptr n 0), mkCells v.cells e) | none => none) (Oper.mk dst (.box e y) ty pos after guard) := by
  intro B n T a w x so hf ht
  dsimp only at hf
  split at hf
  · rename_i z hz
    simp only [Option.some.injEq, Prod.mk.injEq] at hf
    obtain ⟨rfl, rfl⟩ := hf
    have hv := ht.evA hz
    refine ⟨.pointer (some ⟨w.heap.size, 0, none⟩), .cells (a.eval y).cells e, (a.eval y).cells.size, w.alloc (.cells (a.eval y).cells e), ?_, rfl, rfl, rfl, rfl, ⟨by omega, by rw [(Be.add_new B _ _ _).1]⟩, ?_⟩
    · simp [execOp, Instr.box, newVar, newRow]
    · have := mkCells_HO (E := E) (B := B.add n w.heap.size (a.eval y).cells.size) (n := n + 1) (e := e) (b := n) (c := 0) (rest := []) (fr := (0, 0))
        (VA.cells (hv.ext (Be.add_ext B n w.heap.size (a.eval y).cells.size) (Nat.le_succ n))) (by simp [Be.add]) (.inl rfl) rfl
      simpa using this
  · cases hf
theorem makeMap_ok (t : TypeId) : MakeOk P E (fun _ n => some (sc (.map n), .map [] 0)) (Oper.mk dst (.makeMap t none) ty pos after guard) := by
  intro B n T a w x so hf ht
  simp only [Option.some.injEq, Prod.mk.injEq] at hf
  obtain ⟨rfl, rfl⟩ := hf
  refine ⟨.map (some w.heap.size), .map #[] 0, 0, w.alloc (.map #[] 0), ?_, rfl, rfl, rfl, rfl, ⟨by omega, by rw [(Be.add_new B _ _ _).1]⟩, #[], rfl, trivial⟩
  simp [execOp, Instr.makeMap]
theorem load_ok {t : TypeId} {y : Operand} {k : OpK} (hk : loadK P t y = some k) : KOk P E k (Oper.mk dst (.load t y) ty pos after guard) := by
  unfold loadK at hk
  split at hk
  · rename_i g m hg hm
    split at hk
    · simp only [Option.some.injEq] at hk; subst hk
      intro B X n T h a w x hf ht H
      dsimp only at hf
      split at hf
      · rename_i b o hp
        split at hf
        · rename_i v hv
          simp only [Option.some.injEq] at hf; subst hf
          obtain ⟨u, r, hu⟩ := H.load hg hm hv
          have e := (ht.evC hp).2
          exact ⟨u, by simp [execOp, Instr.loadAt, e, Instr.sureAddr, r], hu⟩
        · cases hf
      · cases hf
    · cases hk
  · cases hk
theorem store_ok {t : TypeId} {y z : Operand} {k : OpK} (hk : storeK P t y z = some k) : KOk P E k (Oper.mk dst (.store t y z) ty pos after guard) := by
  unfold storeK at hk
  split at hk
  · rename_i m hm
    simp only [Option.some.injEq] at hk; subst hk
    intro B X n T h a w x h' n' hf ht H next Q hq
    dsimp only at hf
    split at hf
    · rename_i b o hp
      split at hf
      · rename_i v hv
        split at hf
        · rename_i hlen
          split at hf
          · rename_i h2 hs
            simp only [Option.some.injEq, Prod.mk.injEq] at hf
            obtain ⟨rfl, rfl, rfl⟩ := hf
            have hV := ht.evA hv
            obtain ⟨w', r, H', F', _⟩ := H.store (P := P) hs (VA.cells hV)
            have e := (ht.evC hp).2
            have hl : v.cells.length = m := Nat.eq_of_beq_eq_true hlen
            unfold Oper.wp
            have : (execOp a.eval (Oper.mk dst (.store t y z) ty pos after guard)).run P w = .ok .skip w' := by
              have hc : (a.eval z).cells.size = m := by rw [VA.csize hV, hl]
              simp [execOp, Instr.storeAt, e, Instr.sureAddr, storeVar, run_size hm, hc, r]
            rw [this]
            exact hq B undef w' (Ext.refl _ _) (Nat.le_refl _) H' F' rfl
          · cases hf
        · cases hf
      · cases hf
    · cases hf
  · cases hk
theorem nilCheck_ok (y : Operand) : PureOk P E (nilCheckF y) (Oper.mk dst (.nilCheck y) ty pos after guard) := by
  intro B n T a x hx ht w
  unfold nilCheckF at hx
  split at hx
  · rename_i b o hp
    simp only [Option.some.injEq] at hx; subst hx
    have e := ht.evC hp
    exact ⟨a.eval y, by simp [execOp, e.2], e⟩
  · rename_i f c hp
    simp only [Option.some.injEq] at hx; subst hx
    have e := ht.evC hp
    exact ⟨a.eval y, by simp [execOp, e.2], e⟩
  · cases hx
theorem makeFunc_ok {fn : Fn} {first captured : Array Operand} {k : OpK} (hk : makeFuncK fn first captured = some k) : KOk P E k (Oper.mk dst (.makeFunc fn first captured) ty pos after guard) := by
  unfold makeFuncK at hk
  split at hk
  · rename_i f hfirst
    simp only [Option.some.injEq] at hk; subst hk
    intro B n T a x hx ht w
    dsimp only at hx
    split at hx
    · rename_i c hc
      simp only [Option.some.injEq] at hx; subst hx
      have hf0 : first = #[] := Array.ext' (by simpa using hfirst)
      have key : ∀ (os : List Operand) (c : List (Nat × Nat)), capsOf T os = some c → (∀ p ∈ c, p.1 < n) ∧ os.map a.eval = c.map fun p => Value.pointer (some ⟨B.β p.1, p.2, none⟩) := by
        intro os
        induction os with
        | nil => intro c hc; simp only [capsOf, Option.some.injEq] at hc; subst hc; simp
        | cons o os ih =>
          intro c hc
          simp only [capsOf] at hc
          split at hc
          · rename_i b q hp
            split at hc
            · rename_i r hr
              simp only [Option.some.injEq] at hc; subst hc
              obtain ⟨i1, i2⟩ := ih r hr
              obtain ⟨e1, e2⟩ := ht.evC hp
              refine ⟨fun p hp => ?_, by simp [e2, i2]⟩
              rcases List.mem_cons.1 hp with rfl | hp
              · exact e1
              · exact i1 p hp
            · cases hc
          · cases hc
      obtain ⟨k1, k2⟩ := key _ _ hc
      refine ⟨_, rfl, k1, ?_⟩
      subst hf0
      simp only [List.map_toArray, List.map_nil]
      congr 1
      rw [← k2]
      apply Array.ext'
      simp
    · cases hx
  · cases hk
theorem extract_ok (y : Operand) (i : Nat) : PureOk P E (fun T => match ev y T with
    | some (.t l) => match l[i]? with | some v => some (.a v) | none => none
    | _ => none) (Oper.mk dst (.extract y i) ty pos after guard) := by
  intro B n T a x hx ht w
  dsimp only at hx
  split at hx
  · rename_i l hl
    split at hx
    · rename_i v hv
      simp only [Option.some.injEq] at hx; subst hx
      obtain ⟨vs, e1, e2⟩ := ht.ev hl
      obtain ⟨u, hu, hU⟩ := e2.get hv
      exact ⟨u, by simp [execOp, Instr.extract, e1, show vs[i]? = some u by simpa using hu], hU⟩
    · cases hx
  · cases hx
theorem fieldAddr_ok {t : TypeId} {y : Operand} {f : Nat} {k : OpK} (hk : fieldAddrK P t y f = some k) : KOk P E k (Oper.mk dst (.fieldAddr t y f) ty pos after guard) := by
  unfold fieldAddrK at hk
  split at hk
  · rename_i fields hu
    split at hk
    · rename_i fd hfd
      split at hk
      · rename_i m hm
        simp only [Option.some.injEq] at hk; subst hk
        intro B n T a x hx ht w
        dsimp only at hx
        split at hx
        · rename_i b o hp
          simp only [Option.some.injEq] at hx; subst hx
          obtain ⟨e1, e2⟩ := ht.evC hp
          refine ⟨.pointer (some ⟨B.β b, o + fd.offset, none⟩), ?_, e1, rfl⟩
          simp [execOp, Instr.fieldAt, run_under hu, hfd, e2, Instr.sureAddr, fieldPlace, add_at, run_size hm]
        · cases hx
      · cases hk
    · cases hk
  · cases hk
end Go.Cx
/- The operations: numbers, comparisons, strings. -/
namespace Go.Cx
variable {P : Program} {E : Env} {F : Fx}

theorem ub_ok (hF : FxOk F E) : ∀ {x y : Nat} {d : Int}, ub F x y = some d → E.val x - E.val y ≤ d
  | 0, 0, d, h => by simp only [ub, Option.some.injEq] at h; subst h; simp
  | x + 1, 0, d, h => by
    simp only [ub] at h
    obtain ⟨p, hp, rfl⟩ := Option.map_eq_some_iff.1 h
    have := (hF.1 _ p.1 p.2 hp).2
    simp only [show E.val 0 = 0 from rfl]; omega
  | 0, y + 1, d, h => by
    simp only [ub] at h
    obtain ⟨p, hp, rfl⟩ := Option.map_eq_some_iff.1 h
    have := (hF.1 _ p.1 p.2 hp).1
    simp only [show E.val 0 = 0 from rfl]; omega
  | x + 1, y + 1, d, h => hF.2.1 _ _ _ h
theorem natLt_eq (a b : Int) : natLt a b = decide (a < b) := by
  unfold natLt
  split
  · rename_i x y
    rw [Bool.eq_iff_iff]
    simp [Nat.blt_eq]
  · rfl
theorem natEq_eq (a b : Int) : natEq a b = decide (a = b) := by
  unfold natEq
  split
  · rename_i x y
    rw [Bool.eq_iff_iff]
    simp
    omega
  · rfl
theorem ltI_ok (hF : FxOk F E) {v w : Nat} {c d : Int} {b : Bool} (h : ltI F v c w d = some b) : b = decide (E.val v + c < E.val w + d) := by
  unfold ltI at h
  split at h
  · rename_i e
    have e := Nat.eq_of_beq_eq_true e
    subst e
    simp only [Option.some.injEq, natLt_eq] at h
    subst h
    rw [Bool.eq_iff_iff]; simp
  · split at h
    · split at h
      · cases h
      · rename_i u' hu'
        have := ub_ok hF hu'
        split at h
        · rename_i hd
          simp only [Option.some.injEq] at h; subst h
          have hd := of_decide_eq_true hd
          symm; rw [decide_eq_false_iff_not]; omega
        · cases h
    · rename_i u hu
      have h1 := ub_ok hF hu
      split at h
      · rename_i hd
        simp only [Option.some.injEq] at h; subst h
        have hd := of_decide_eq_true hd
        symm; rw [decide_eq_true_eq]; omega
      · split at h
        · cases h
        · rename_i u' hu'
          have := ub_ok hF hu'
          split at h
          · rename_i hd
            simp only [Option.some.injEq] at h; subst h
            have hd := of_decide_eq_true hd
            symm; rw [decide_eq_false_iff_not]; omega
          · cases h
theorem eqI_ok (hF : FxOk F E) {v w : Nat} {c d : Int} {b : Bool} (h : eqI F v c w d = some b) : b = decide (E.val v + c = E.val w + d) := by
  unfold eqI at h
  split at h
  · rename_i e
    have e := Nat.eq_of_beq_eq_true e
    subst e
    simp only [Option.some.injEq, natEq_eq] at h
    subst h
    rw [Bool.eq_iff_iff]; simp
  · split at h
    · rename_i hl
      have := ltI_ok hF hl
      simp only [Option.some.injEq] at h; subst h
      have := of_decide_eq_true this.symm
      symm; rw [decide_eq_false_iff_not]; omega
    · split at h
      · rename_i hl
        have := ltI_ok hF hl
        simp only [Option.some.injEq] at h; subst h
        have := of_decide_eq_true this.symm
        symm; rw [decide_eq_false_iff_not]; omega
      · cases h
theorem wrap_id (k : IntKind) (n : Int) (h1 : k.min ≤ n) (h2 : n ≤ k.max) : k.wrap n = n := by
  cases k <;> simp [IntKind.min, IntKind.max, IntKind.signed, IntKind.bits] at h1 h2 <;> simp [IntKind.wrap, IntKind.signed, IntKind.bits] <;> omega
theorem wrap_small (k : IntKind) (n : Nat) (h : n < 100) : k.wrap (n : Int) = n := by
  cases k <;> simp [IntKind.wrap, IntKind.signed, IntKind.bits] <;> omega
theorem wrapS_ok (hF : FxOk F E) {B : Be} {n : Nat} {k : IntKind} {v : Nat} {c : Int} {x : SC} (h : wrapS F k v c = some x) : VC E B n x (.int k (k.wrap (E.val v + c))) := by
  unfold wrapS at h
  split at h
  · rw [show E.val 0 + c = c by simp [Env.val]]
    split at h
    · rename_i a
      split at h
      · rename_i hb
        simp only [Option.some.injEq] at h; subst h
        have : a < 100 := by simpa [Nat.blt_eq] using hb
        simp only [VC, show E.val 0 = 0 from rfl, Int.zero_add]
        rw [show k.wrap (Int.ofNat a) = (a : Int) from wrap_small k a this]
        rfl
      · simp only [Option.some.injEq] at h; subst h
        simp [VC, Env.val]
    · simp only [Option.some.injEq] at h; subst h
      simp [VC, Env.val]
  · split at h
    · rename_i lo hi hr
      split at h
      · rename_i hb
        simp only [Option.some.injEq] at h; subst h
        simp only [Bool.and_eq_true, decide_eq_true_eq] at hb
        obtain ⟨r1, r2⟩ := hF.1 _ _ _ hr
        simp only [VC]
        rw [wrap_id k _ (by omega) (by omega)]
      · cases h
    · cases h
theorem addS_ok (hF : FxOk F E) {B : Be} {n : Nat} {k : IntKind} {v w : Nat} {c d : Int} {x : SC} (h : addS F k v c w d = some x) : VC E B n x (.int k (k.wrap (E.val v + c + (E.val w + d)))) := by
  cases w with
  | zero =>
    have := wrapS_ok hF (B := B) (n := n) (show wrapS F k v (c + d) = some x from h)
    rwa [show E.val v + (c + d) = E.val v + c + (E.val 0 + d) by simp only [show E.val 0 = 0 from rfl]; omega] at this
  | succ w' =>
    cases v with
    | zero =>
      have := wrapS_ok hF (B := B) (n := n) (show wrapS F k (w' + 1) (c + d) = some x from h)
      rwa [show E.val (w' + 1) + (c + d) = E.val 0 + c + (E.val (w' + 1) + d) by simp only [show E.val 0 = 0 from rfl]; omega] at this
    | succ v' => simp [addS] at h
theorem subS_ok (hF : FxOk F E) {B : Be} {n : Nat} {k : IntKind} {v w : Nat} {c d : Int} {x : SC} (h : subS F k v c w d = some x) : VC E B n x (.int k (k.wrap (E.val v + c - (E.val w + d)))) := by
  cases w with
  | zero =>
    have := wrapS_ok hF (B := B) (n := n) (show wrapS F k v (c - d) = some x from h)
    rwa [show E.val v + (c - d) = E.val v + c - (E.val 0 + d) by simp only [show E.val 0 = 0 from rfl]; omega] at this
  | succ w' =>
    simp only [subS] at h
    split at h
    · rename_i hb
      have e := Nat.eq_of_beq_eq_true hb
      subst e
      have := wrapS_ok hF (B := B) (n := n) h
      rwa [show E.val 0 + (c - d) = E.val (w' + 1) + c - (E.val (w' + 1) + d) by simp only [show E.val 0 = 0 from rfl]; omega] at this
    · cases h
theorem int0 {B : Be} {n : Nat} (k : IntKind) (c : Int) : VC E B n (.int k 0 c) (.int k c) := by simp [VC, Env.val]
theorem val0 (c : Int) : E.val 0 + c = c := by simp [Env.val]
theorem bitsS_ok {B : Be} {n : Nat} {op : BinOp} {k : IntKind} {c d : Int} {x : SC} (h : bitsS op k c d = some x) (w : World) : ∃ v, (Op.intBits op k c d).run P w = .ok v w ∧ VC E B n x v := by
  unfold bitsS at h
  cases op <;> simp only [Option.some.injEq] at h <;> first | (subst h; exact ⟨_, rfl, int0 k _⟩) | cases h
theorem remS_ok (hF : FxOk F E) {B : Be} {n : Nat} {k : IntKind} {v : Nat} {c d : Int} {x : SC} (h : remS F k v c d = some x) : d ≠ 0 ∧ VC E B n x (.int k ((E.val v + c).tmod d)) := by
  unfold remS at h
  split at h
  · rename_i m r lo hi h1 h2
    split at h
    · rename_i hb
      simp only [Option.some.injEq] at h; subst h
      simp only [Bool.and_eq_true, decide_eq_true_eq] at hb
      obtain ⟨rfl, b1, b2⟩ := hb
      have r1 := (hF.1 _ _ _ h2).1
      have r2 := hF.2.2.2 _ _ _ h1
      refine ⟨by omega, ?_⟩
      rw [Int.tmod_eq_emod_of_nonneg (by omega), ← r2, Int.emod_add_emod]
      exact int0 k _
    · cases h
  · cases h
theorem binI_ok (hF : FxOk F E) {B : Be} {n : Nat} {op : BinOp} {k : IntKind} {v w : Nat} {c d : Int} {x : SC} (hs1 : op ≠ .shl) (hs2 : op ≠ .shr) (h : binI F op k v c w d = some x) (t : TypeId) (W : World) :
    ∃ u, (binOp op t (.int k (E.val v + c)) (.int k (E.val w + d))).run P W = .ok u W ∧ VC E B n x u := by
  have heq : ∀ {b : Bool}, eqI F v c w d = some b → b = (E.val v + c == E.val w + d) := fun hb => by
    rw [eqI_ok hF hb]; rfl
  cases op <;> simp only [binI] at h
  case shl => exact absurd rfl hs1
  case shr => exact absurd rfl hs2
  case add => exact ⟨_, by simp [binOp, Op.intArith], addS_ok hF h⟩
  case sub => exact ⟨_, by simp [binOp, Op.intArith], subS_ok hF h⟩
  case eql =>
    obtain ⟨b, hb, rfl⟩ := Option.map_eq_some_iff.1 h
    exact ⟨.bool (E.val v + c == E.val w + d), by simp [binOp, Op.intCmp], by rw [heq hb]; rfl⟩
  case neq =>
    obtain ⟨b, hb, rfl⟩ := Option.map_eq_some_iff.1 h
    exact ⟨.bool (E.val v + c != E.val w + d), by simp [binOp, Op.intCmp], by rw [heq hb]; rfl⟩
  case lss =>
    obtain ⟨b, hb, rfl⟩ := Option.map_eq_some_iff.1 h
    exact ⟨.bool (decide (E.val v + c < E.val w + d)), by simp [binOp, Op.intCmp], by rw [ltI_ok hF hb]; rfl⟩
  case geq =>
    obtain ⟨b, hb, rfl⟩ := Option.map_eq_some_iff.1 h
    refine ⟨.bool (decide (E.val v + c ≥ E.val w + d)), by simp [binOp, Op.intCmp], ?_⟩
    rw [ltI_ok hF hb]
    simp only [VC, Value.bool.injEq]
    rw [Bool.eq_iff_iff]; simp
  case gtr =>
    obtain ⟨b, hb, rfl⟩ := Option.map_eq_some_iff.1 h
    exact ⟨.bool (decide (E.val v + c > E.val w + d)), by simp [binOp, Op.intCmp], by rw [ltI_ok hF hb]; rfl⟩
  case leq =>
    obtain ⟨b, hb, rfl⟩ := Option.map_eq_some_iff.1 h
    refine ⟨.bool (decide (E.val v + c ≤ E.val w + d)), by simp [binOp, Op.intCmp], ?_⟩
    rw [ltI_ok hF hb]
    simp only [VC, Value.bool.injEq]
    rw [Bool.eq_iff_iff]; simp
  case rem =>
    split at h
    · simp only [val0]
      split at h
      · cases h
      · rename_i hd
        have hd := of_decide_eq_false hd
        simp only [Option.some.injEq] at h; subst h
        exact ⟨_, by simp [binOp, Op.intDiv, hd], int0 k _⟩
    · obtain ⟨h1, h2⟩ := remS_ok hF (B := B) (n := n) h
      exact ⟨_, by simp [binOp, Op.intDiv, val0, h1], h2⟩
    · cases h
  all_goals
    split at h
    · simp only [val0]
      first
        | (have := wrapS_ok hF (B := B) (n := n) h; rw [val0] at this; exact ⟨_, by simp [binOp, Op.intArith], this⟩)
        | (split at h
           · cases h
           · rename_i hd
             have hd := of_decide_eq_false hd
             simp only [Option.some.injEq] at h; subst h
             exact ⟨_, by simp [binOp, Op.intDiv, hd], int0 k _⟩)
        | (obtain ⟨u, r, hu⟩ := bitsS_ok (P := P) (E := E) (B := B) (n := n) h W; exact ⟨u, by simpa [binOp] using r, hu⟩)
        | (simp [bitsS] at h)
    · cases h
theorem shiftI_ok {B : Be} {n : Nat} {op : BinOp} {k yk : IntKind} {c d : Int} {x : SC} (h : shiftI op k c d = some x) (W : World) : ∃ u, (Op.shift op k c yk d).run P W = .ok u W ∧ VC E B n x u := by
  unfold shiftI at h
  split at h
  · cases h
  · rename_i hd
    have hd := of_decide_eq_false hd
    cases op <;> simp only [Option.some.injEq] at h <;> first | (subst h; exact ⟨_, by simp [Op.shift, hd], int0 k _⟩) | cases h
theorem lEq_ok : ∀ {a b : List Nat}, lEq a b = decide (a = b)
  | [], [] => by simp [lEq]
  | [], _ :: _ => by simp [lEq]
  | _ :: _, [] => by simp [lEq]
  | x :: a, y :: b => by
    simp only [lEq]
    split
    · rename_i e
      have e := Nat.eq_of_beq_eq_true e
      subst e
      rw [lEq_ok]; simp
    · rename_i e
      have e := Nat.ne_of_beq_eq_false e
      simp [e]
theorem bs_inj {a b : List Nat} (ha : ∀ x ∈ a, x < 256) (hb : ∀ x ∈ b, x < 256) : (bs a).toList = (bs b).toList ↔ a = b := by
  constructor
  · intro h
    have key : ∀ l : List Nat, (bs l).toList = l.map UInt8.ofNat := fun l => by
      simp only [bs, ByteArray.toList_mk]
    rw [key, key] at h
    have inj : ∀ (a b : List Nat), (∀ x ∈ a, x < 256) → (∀ x ∈ b, x < 256) → a.map UInt8.ofNat = b.map UInt8.ofNat → a = b := by
      intro a
      induction a with
      | nil => intro b _ _ h; cases b with | nil => rfl | cons => simp at h
      | cons x a ih =>
        intro b ha hb h
        cases b with
        | nil => simp at h
        | cons y b =>
          simp only [List.map_cons, List.cons.injEq] at h
          have hx := ha x (by simp)
          have hy := hb y (by simp)
          have e : x = y := by
            have := congrArg UInt8.toNat h.1
            simp only [UInt8.toNat_ofNat'] at this
            omega
          rw [e, ih b (fun z hz => ha z (by simp [hz])) (fun z hz => hb z (by simp [hz])) h.2]
    exact inj a b ha hb h
  · rintro rfl; rfl
theorem bs_size (l : List Nat) : (bs l).size = l.length := by simp [bs, ByteArray.size]
theorem bs_append (a b : List Nat) : bs a ++ bs b = bs (a ++ b) := by
  apply ByteArray.ext
  simp [bs]

theorem eqGuard_none {op : BinOp} {t : TypeId} {x y : Operand} {a b : Value} (h1 : a ≠ .nilIface) (h2 : ∀ cs, a ≠ .agg cs) (w : World) : (eqGuard op t x y a b).run P w = .ok () w := by
  cases a <;> first | exact absurd rfl h1 | exact absurd rfl (h2 _) | (cases op <;> simp [eqGuard])
theorem equal_run {tk : TypeDesc} {t : TypeId} (ht : P.underlying t = some tk) {a b : Value} {r : Bool} (h : ∀ d w, (Op.equalIn (d + 1) t a b).run P w = .ok r w) {op : BinOp} {x : SC} (hx : binS.nilS op r = some x)
    (hni : ∀ k n, a ≠ .int k n) (hns : ∀ s, a ≠ .string s) (hnf : ∀ k n, a ≠ .float k n) (hnc : ∀ k m n, a ≠ .complex k m n) (w : World) {B : Be} {n : Nat} :
    ∃ u, (binOp op t a b).run P w = .ok u w ∧ VC E B n x u := by
  have h' : ∀ w, (Op.equal t a b).run P w = .ok r w := fun w => h 9999 w
  cases op <;> simp only [binS.nilS, Option.some.injEq] at hx
  case eql =>
    subst hx
    refine ⟨.bool r, ?_, rfl⟩
    unfold binOp
    cases a <;> first | exact absurd rfl (hni _ _) | exact absurd rfl (hns _) | exact absurd rfl (hnf _ _) | exact absurd rfl (hnc _ _ _) | (simp [h'])
  case neq =>
    subst hx
    refine ⟨.bool (!r), ?_, rfl⟩
    unfold binOp
    cases a <;> first | exact absurd rfl (hni _ _) | exact absurd rfl (hns _) | exact absurd rfl (hnf _ _) | exact absurd rfl (hnc _ _ _) | (simp [h'])
  all_goals cases hx

variable {dst : Option Tmp} {ty : TypeId} {pos : String} {after : Array Edge} {guard : Option (Nat × Bool)}
set_option maxHeartbeats 800000 in
theorem binS_ok (hF : FxOk F E) {B : Be} {n : Nat} {op : BinOp} {t : TypeId} {p q : SC} {x : SC} (h : binS F (P.underlying t) op p q = some x) {a b : Value} (ha : VC E B n p a) (hb : VC E B n q b) (w : World) :
    (a ≠ .nilIface ∧ ∀ cs, a ≠ .agg cs) ∧ ∃ u, (binOp op t a b).run P w = .ok u w ∧ VC E B n x u := by
  have P0 : ∀ {p q : SC} {r : Bool}, (∃ y, p = y) → True := fun _ => trivial
  cases p <;> cases q <;> simp only [binS] at h <;> try cases h
  case int k v c k' v' c' =>
    simp only [VC] at ha hb
    subst ha; subst hb
    refine ⟨⟨by simp, by simp⟩, ?_⟩
    cases op
    case shl =>
      simp only [] at h
      split at h
      · obtain ⟨u, r, hu⟩ := shiftI_ok (P := P) (E := E) (B := B) (n := n) (yk := k') h w
        exact ⟨u, by simpa [binOp, val0] using r, hu⟩
      · cases h
    case shr =>
      simp only [] at h
      split at h
      · obtain ⟨u, r, hu⟩ := shiftI_ok (P := P) (E := E) (B := B) (n := n) (yk := k') h w
        exact ⟨u, by simpa [binOp, val0] using r, hu⟩
      · cases h
    all_goals
      simp only [] at h
      split at h
      · rename_i hk
        have hk := of_decide_eq_true hk
        subst hk
        exact binI_ok hF (by simp) (by simp) h t w
      · cases h
  case str l m =>
    obtain ⟨ha, ha'⟩ := ha
    obtain ⟨hb, hb'⟩ := hb
    subst ha; subst hb
    refine ⟨⟨by simp, by simp⟩, ?_⟩
    have he : ((bs l).toList == (bs m).toList) = lEq l m := by
      rw [lEq_ok, Bool.eq_iff_iff]
      simp only [beq_iff_eq, decide_eq_true_eq]
      exact bs_inj ha' hb'
    cases op <;> simp only [] at h <;> try cases h
    case add =>
      split at h
      · rename_i hl
        simp only [Option.some.injEq] at h; subst h
        have hl : l.length + m.length < 1000000 := by simpa [Nat.blt_eq] using hl
        refine ⟨.string (bs (l ++ m)), ?_, rfl, fun y hy => (List.mem_append.1 hy).elim (ha' y) (hb' y)⟩
        have : ¬ (((bs l).size + (bs m).size : Nat) : Int) > IntKind.i64.max := by
          rw [bs_size, bs_size]; simp [IntKind.max, IntKind.signed, IntKind.bits]; omega
        simp only [binOp, Op.stringOp, if_neg this, Sem.run_pure, bs_append]
      · cases h
    case eql => exact ⟨.bool (lEq l m), by simp [binOp, Op.stringOp, he], rfl⟩
    case neq => exact ⟨.bool (!lEq l m), by simp [binOp, Op.stringOp, he], rfl⟩
  case bool c d =>
    simp only [VC] at ha hb
    subst ha; subst hb
    refine ⟨⟨by simp, by simp⟩, ?_⟩
    split at h
    · rename_i hu
      exact equal_run hu (fun d w => by simp [Op.equalIn, run_under hu]) h (by simp) (by simp) (by simp) (by simp) w
    · cases h
  case pnil.pnil =>
    simp only [VC] at ha hb
    subst ha; subst hb
    refine ⟨⟨by simp, by simp⟩, ?_⟩
    unfold binS.isP at h
    split at h
    · rename_i hu
      exact equal_run hu (fun d w => by simp [Op.equalIn, run_under hu]) h (by simp) (by simp) (by simp) (by simp) w
    · cases h
  case pnil.ptr =>
    simp only [VC] at ha hb
    obtain ⟨_, hb⟩ := hb
    subst ha; subst hb
    refine ⟨⟨by simp, by simp⟩, ?_⟩
    unfold binS.isP at h
    split at h
    · rename_i hu
      exact equal_run hu (fun d w => by simp [Op.equalIn, run_under hu]) h (by simp) (by simp) (by simp) (by simp) w
    · cases h
  case ptr.pnil =>
    simp only [VC] at ha hb
    obtain ⟨_, ha⟩ := ha
    subst ha; subst hb
    refine ⟨⟨by simp, by simp⟩, ?_⟩
    unfold binS.isP at h
    split at h
    · rename_i hu
      exact equal_run hu (fun d w => by simp [Op.equalIn, run_under hu]) h (by simp) (by simp) (by simp) (by simp) w
    · cases h
  case snil.snil =>
    simp only [VC] at ha hb
    subst ha; subst hb
    refine ⟨⟨by simp, by simp⟩, ?_⟩
    unfold binS.isS at h
    split at h
    · rename_i hu
      exact equal_run hu (fun d w => by simp [Op.equalIn, run_under hu]) h (by simp) (by simp) (by simp) (by simp) w
    · cases h
  case snil.sl =>
    simp only [VC] at ha
    obtain ⟨_, _, hb, _⟩ := hb
    subst ha; subst hb
    refine ⟨⟨by simp, by simp⟩, ?_⟩
    unfold binS.isS at h
    split at h
    · rename_i hu
      exact equal_run hu (fun d w => by simp [Op.equalIn, run_under hu]) h (by simp) (by simp) (by simp) (by simp) w
    · cases h
  case sl.snil =>
    simp only [VC] at hb
    obtain ⟨_, _, ha, _⟩ := ha
    subst ha; subst hb
    refine ⟨⟨by simp, by simp⟩, ?_⟩
    unfold binS.isS at h
    split at h
    · rename_i hu
      exact equal_run hu (fun d w => by simp [Op.equalIn, run_under hu]) h (by simp) (by simp) (by simp) (by simp) w
    · cases h
  case mnil.mnil =>
    simp only [VC] at ha hb
    subst ha; subst hb
    refine ⟨⟨by simp, by simp⟩, ?_⟩
    unfold binS.isM at h
    split at h
    · rename_i hu
      exact equal_run hu (fun d w => by simp [Op.equalIn, run_under hu]) h (by simp) (by simp) (by simp) (by simp) w
    · cases h
  case mnil.map =>
    simp only [VC] at ha hb
    obtain ⟨_, hb⟩ := hb
    subst ha; subst hb
    refine ⟨⟨by simp, by simp⟩, ?_⟩
    unfold binS.isM at h
    split at h
    · rename_i hu
      exact equal_run hu (fun d w => by simp [Op.equalIn, run_under hu]) h (by simp) (by simp) (by simp) (by simp) w
    · cases h
  case map.mnil =>
    simp only [VC] at ha hb
    obtain ⟨_, ha⟩ := ha
    subst ha; subst hb
    refine ⟨⟨by simp, by simp⟩, ?_⟩
    unfold binS.isM at h
    split at h
    · rename_i hu
      exact equal_run hu (fun d w => by simp [Op.equalIn, run_under hu]) h (by simp) (by simp) (by simp) (by simp) w
    · cases h
theorem binOp_ok (hF : FxOk F E) (op : BinOp) (t u : TypeId) (x y : Operand) : PureOk P E (fun T => match evC x T, evC y T with
    | some a, some b => match binS F (P.underlying t) op a b with | some r => some (sc r) | none => none
    | _, _ => none) (Oper.mk dst (.binOp op t x y u) ty pos after guard) := by
  intro B n T a z hz ht w
  dsimp only at hz
  split at hz
  · rename_i p q hp hq
    split at hz
    · rename_i r hr
      simp only [Option.some.injEq] at hz; subst hz
      obtain ⟨⟨h1, h2⟩, v, hv, hV⟩ := binS_ok hF hr (ht.evC hp) (ht.evC hq) w
      exact ⟨v, by simp [execOp, eqGuard_none h1 h2, hv], hV⟩
    · cases hz
  · cases hz
theorem unOp_ok (op : UnOp) (t : TypeId) (x : Operand) : PureOk P E (unF op x) (Oper.mk dst (.unOp op t x) ty pos after guard) := by
  intro B n T a z hz ht w
  unfold unF at hz
  cases op <;> simp only [] at hz
  case not =>
    split at hz
    · rename_i b hb
      simp only [Option.some.injEq] at hz; subst hz
      have e := ht.evC hb
      simp only [VC] at e
      exact ⟨.bool (!b), by simp [execOp, e, Op.unary], rfl⟩
    · cases hz
  case xor =>
    split at hz
    · rename_i k c hc
      split at hz
      · rename_i r hr
        simp only [Option.some.injEq] at hz; subst hz
        have e := ht.evC hc
        simp only [VC, val0] at e
        obtain ⟨v, rv, hV⟩ := bitsS_ok (P := P) (E := E) (B := B) (n := n) hr w
        exact ⟨v, by simp only [execOp, e, Op.unary, Sem.run_bind, rv, Result.andThen_ok, Sem.run_pure], hV⟩
      · cases hz
    · cases hz
  case neg =>
    split at hz
    · rename_i k c hc
      simp only [Option.some.injEq] at hz; subst hz
      have e := ht.evC hc
      simp only [VC, val0] at e
      exact ⟨.int k (k.wrap (0 - c)), by simp [execOp, e, Op.unary, Op.intArith], int0 (B := B) (n := n) k _⟩
    · cases hz
  case plus => cases hz
theorem minL_ok (hF : FxOk F E) {B : Be} {n : Nat} {T : Ts} {a : Act} (ht : TR E B n T a.tmps) (w : World) : ∀ (r : List Operand) (x z : SC) (v : Value), minL F x r T = some z → VC E B n x v →
    ∃ u, ((r.map a.eval).foldlM Builtin.min2 v).run P w = .ok u w ∧ VC E B n z u
  | [], x, z, v, h, hv => by
    simp only [minL, Option.some.injEq] at h; subst h
    exact ⟨v, by simp, hv⟩
  | y :: r, x, z, v, h, hv => by
    cases x <;> simp only [minL] at h <;> try cases h
    rename_i k i c
    split at h
    · rename_i k' j d hy
      have ey := ht.evC hy
      simp only [VC] at ey hv
      split at h
      · rename_i hl
        have hl := of_decide_eq_true (ltI_ok hF hl).symm
        obtain ⟨u, ru, hu⟩ := minL_ok hF ht w r _ z (.int k (E.val j + d)) h rfl
        refine ⟨u, ?_, hu⟩
        simp only [List.map_cons, List.foldlM_cons, Sem.run_bind, hv, ey, Builtin.min2, if_pos hl, Sem.run_pure, Result.andThen_ok, ru]
      · rename_i hl
        have hl := of_decide_eq_false (ltI_ok hF hl).symm
        obtain ⟨u, ru, hu⟩ := minL_ok hF ht w r _ z (.int k (E.val i + c)) h rfl
        refine ⟨u, ?_, hu⟩
        simp only [List.map_cons, List.foldlM_cons, Sem.run_bind, hv, ey, Builtin.min2, if_neg hl, Sem.run_pure, Result.andThen_ok, ru]
      · cases h
    · cases h
end Go.Cx
/- The operations: aggregates, slices, conversions. -/
namespace Go.Cx
variable {P : Program} {E : Env} {F : Fx}
variable {dst : Option Tmp} {ty : TypeId} {pos : String} {after : Array Edge} {guard : Option (Nat × Bool)}

/-! ### lists -/
theorem LR.splice {α β : Type} {R : α → β → Prop} : ∀ {a : List α} {b : List β} (o : Nat) {l : List α} {m : List β}, LR R a b → LR R l m → LR R (splice a o l) (splice b o m)
  | [], [], 0, [], [], _, _ => trivial
  | [], [], 0, _ :: _, _ :: _, _, _ => trivial
  | [], [], _ + 1, _, _, _, _ => trivial
  | _ :: _, _ :: _, 0, [], [], h, _ => h
  | _ :: _, _ :: _, 0, _ :: _, _ :: _, ⟨_, h⟩, ⟨k1, k2⟩ => ⟨k1, LR.splice 0 h k2⟩
  | _ :: _, _ :: _, o + 1, _, _, ⟨h1, h2⟩, k => ⟨h1, LR.splice o h2 k⟩
  | [], _ :: _, _, _, _, h, _ => h.elim
  | _ :: _, [], _, _, _, h, _ => h.elim
  | [], [], 0, [], _ :: _, _, h => h.elim
  | [], [], 0, _ :: _, [], _, h => h.elim
  | _ :: _, _ :: _, 0, [], _ :: _, _, h => h.elim
  | _ :: _, _ :: _, 0, _ :: _, [], _, h => h.elim
theorem splice_nil {α : Type} : ∀ (a : List α) (o : Nat), splice a o [] = a
  | [], 0 => rfl
  | [], _ + 1 => rfl
  | _ :: _, 0 => rfl
  | x :: a, o + 1 => by simp only [splice]; rw [splice_nil a o]
theorem splice_set {α : Type} : ∀ (a : List α) (o : Nat) (x : α) (l : List α), o < a.length → splice (a.set o x) (o + 1) l = splice a o (x :: l)
  | [], _, _, _, h => by simp at h
  | y :: a, 0, x, l, _ => by simp only [List.set_cons_zero, splice]
  | y :: a, o + 1, x, l, h => by
    simp only [List.set_cons_succ, splice]
    rw [splice_set a o x l (by simpa using h)]
theorem foldl_set (off : Nat) : ∀ (l : List Value) (j : Nat) (cs : Array Value), off + j + l.length ≤ cs.size →
    ((l.zipIdx j).foldl (fun (cs : Array Value) (p : Value × Nat) => cs.setIfInBounds (off + p.2) p.1) cs).toList = splice cs.toList (off + j) l
  | [], j, cs, _ => by simp [splice_nil]
  | x :: l, j, cs, h => by
    simp only [List.zipIdx_cons, List.foldl_cons]
    have hlt : off + j < cs.size := by simp at h; omega
    rw [foldl_set off l (j + 1) _ (by simp at h ⊢; omega)]
    rw [Array.toList_setIfInBounds, show off + (j + 1) = off + j + 1 by omega]
    exact splice_set _ _ _ _ (by simpa using hlt)
theorem fill_ok {B : Be} {n : Nat} {T : Ts} {a : Act} (ht : TR E B n T a.tmps) (place : Nat → Option (Nat × Nat)) : ∀ (parts : List (Nat × Operand)) (ps : List (Nat × Nat × Operand)) (z l : List SC) (cells : Array Value),
    partsOf place parts = some ps → fillS T ps z = some l → LR (VC E B n) z cells.toList →
    ∃ c, Instr.fill place cells (parts.map fun p => (p.1, a.eval p.2)) = some c ∧ LR (VC E B n) l c.toList
  | [], ps, z, l, cells, hp, hf, hz => by
    simp only [partsOf, Option.some.injEq] at hp; subst hp
    simp only [fillS, Option.some.injEq] at hf; subst hf
    exact ⟨cells, rfl, hz⟩
  | (i, x) :: parts, ps, z, l, cells, hp, hf, hz => by
    simp only [partsOf] at hp
    split at hp
    · rename_i o m hpl
      split at hp
      · rename_i q hq
        simp only [Option.some.injEq] at hp; subst hp
        simp only [fillS] at hf
        split at hf
        · rename_i v hv
          split at hf
          · rename_i hc
            simp only [Bool.and_eq_true, Nat.ble_eq] at hc
            have hc1 := Nat.eq_of_beq_eq_true hc.1
            have hV := ht.evA hv
            have hsz := VA.csize hV
            have hlen := hz.length
            have hb : o + (a.eval x).cells.size ≤ cells.size := by rw [hsz, hc1, ← Array.length_toList, ← hlen]; exact hc.2
            have hfold := foldl_set o (a.eval x).cells.toList 0 cells (by simpa using hb)
            obtain ⟨c, hc', hl⟩ := fill_ok ht place parts q (splice z o v.cells) l _ hq hf (by rw [hfold]; exact LR.splice o hz (VA.cells hV))
            refine ⟨c, ?_, hl⟩
            simp only [List.map_cons, Instr.fill, hpl]
            rw [if_neg (by rw [hsz, hc1]; simp; rw [← Array.length_toList, ← hlen]; exact hc.2)]
            rw [← hc']
            congr 1
            rw [← Array.foldl_toList, Array.toList_zipIdx]
          · cases hf
        · cases hf
      · cases hp
    · cases hp
theorem mapM_fields : ∀ (l : List Field) (pl : List (Nat × Nat)), fieldsOf P l = some pl → ∀ w, (l.mapM fun f => (do pure (f.offset, ← sizeOf f.type) : Sem (Nat × Nat))).run P w = .ok pl w
  | [], pl, h, w => by simp only [fieldsOf, Option.some.injEq] at h; subst h; simp
  | f :: l, pl, h, w => by
    simp only [fieldsOf] at h
    split at h
    · rename_i m hm
      split at h
      · rename_i q hq
        simp only [Option.some.injEq] at h; subst h
        have ih := mapM_fields l q hq w
        simp only [List.mapM_cons, Sem.run_bind, run_size hm, Result.andThen_ok, Sem.run_pure, ih]
      · cases h
    · cases h
theorem build_ok {t : TypeId} {parts : Array (Nat × Operand)} {k : OpK} (hk : buildK P t parts = some k) : KOk P E k (Oper.mk dst (.build t parts) ty pos after guard) := by
  unfold buildK at hk
  split at hk
  · rename_i z hz
    obtain ⟨v, hv, hl⟩ := zero_run (E := E) hz
    split at hk
    · rename_i fields hu
      split at hk
      · rename_i pl hpl
        split at hk
        · rename_i ps hps
          simp only [Option.some.injEq] at hk; subst hk
          intro B n T a x hx ht w
          dsimp only at hx
          split at hx
          · rename_i l hf
            simp only [Option.some.injEq] at hx; subst hx
            obtain ⟨c, hc, hL⟩ := fill_ok ht (pl[·]?) parts.toList ps z l v.cells hps hf (hl B n)
            refine ⟨.agg c, ?_, c, rfl, hL⟩
            have hm := mapM_fields fields.toList pl hpl w
            simp only [execOp, Instr.build, Sem.run_bind, hv, Result.andThen_ok, run_under hu, Array.mapM_eq_mapM_toList, Sem.run_map, hm, Array.toList_map, List.getElem?_toArray, hc, Sem.run_pure]
          · cases hx
        · cases hk
      · cases hk
    · rename_i len e hu
      split at hk
      · rename_i m hm
        split at hk
        · rename_i ps hps
          simp only [Option.some.injEq] at hk; subst hk
          intro B n T a x hx ht w
          dsimp only at hx
          split at hx
          · rename_i l hf
            simp only [Option.some.injEq] at hx; subst hx
            obtain ⟨c, hc, hL⟩ := fill_ok ht (fun i => some (i * m, m)) parts.toList ps z l v.cells hps hf (hl B n)
            refine ⟨.agg c, ?_, c, rfl, hL⟩
            simp only [execOp, Instr.build, Sem.run_bind, hv, Result.andThen_ok, run_under hu, run_size hm, Array.toList_map, hc, Sem.run_pure]
          · cases hx
        · cases hk
      · cases hk
    · cases hk
  · cases hk
theorem range_rep (z : Array Value) (hz : 0 < z.size) : ∀ (len : Nat), ((Array.range (len * z.size)).map (fun i => z[i % z.size]!)).toList = repL z.toList len
  | 0 => by simp [repL]
  | len + 1 => by
    simp only [repL]
    rw [← range_rep z hz len]
    simp only [Array.toList_map, Array.toList_range]
    rw [show (len + 1) * z.size = z.size + len * z.size by rw [Nat.add_mul]; omega, List.range_add, List.map_append, List.map_map]
    congr 1
    · apply List.ext_getElem?
      intro i
      by_cases hi : i < z.size
      · simp [hi, Nat.mod_eq_of_lt hi, getElem!_pos, List.getElem?_range]
      · simp [hi, Array.getElem?_eq_none (Nat.le_of_not_lt hi), List.getElem?_eq_none]
    · apply List.map_congr_left
      intro i _
      simp
theorem LR.rep {α β : Type} {R : α → β → Prop} {z : List α} {y : List β} (h : LR R z y) : ∀ k, LR R (repL z k) (repL y k)
  | 0 => trivial
  | k + 1 => h.append (LR.rep h k)
theorem repL_length {α : Type} (z : List α) : ∀ k, (repL z k).length = k * z.length
  | 0 => by simp [repL]
  | k + 1 => by simp only [repL, List.length_append, repL_length z k]; rw [Nat.add_mul]; omega
theorem buildSlice_ok {t : TypeId} {len : Nat} {parts : Array (Nat × Operand)} {k : OpK} (hk : buildSliceK P t len parts = some k) : KOk P E k (Oper.mk dst (.buildSlice t len parts) ty pos after guard) := by
  unfold buildSliceK at hk
  split at hk
  · rename_i e hu
    split at hk
    · rename_i m z hm hz
      obtain ⟨v, hv, hl⟩ := zero_run (E := E) hz
      split at hk
      · rename_i ps hc hps
        simp only [Bool.and_eq_true, Nat.ble_eq, Nat.blt_eq] at hc
        obtain ⟨⟨hc1, hc2⟩, hc3⟩ := hc
        have hc1 := Nat.eq_of_beq_eq_true hc1
        simp only [Option.some.injEq] at hk; subst hk
        intro B n T a w x so hx ht
        dsimp only at hx
        split at hx
        · rename_i l hf
          simp only [Option.some.injEq, Prod.mk.injEq] at hx
          obtain ⟨rfl, rfl⟩ := hx
          have hvs : v.cells.size = m := by rw [← Array.length_toList, ← (hl B n).length, hc1]
          let zc : Array Value := if len * m = 0 then #[] else v.cells
          let base : Array Value := (Array.range (len * m)).map (fun i => zc[i % zc.size]!)
          have hbase : base.toList = repL v.cells.toList len := by
            by_cases h0 : len * m = 0
            · have : len = 0 := by
                rcases Nat.mul_eq_zero.1 h0 with h | h
                · exact h
                · omega
              subst this
              simp [base, repL]
            · have : zc = v.cells := by simp only [zc, if_neg h0]
              simp only [base, this]
              rw [← range_rep v.cells (by omega) len, hvs]
          obtain ⟨c, hc, hL⟩ := fill_ok ht (fun i => some (i * m, m)) parts.toList ps (repL z len) l base hps hf (by rw [hbase]; exact (hl B n).rep len)
          refine ⟨.slice (some ⟨w.heap.size, 0, none⟩) len len, .cells c e, c.size, w.alloc (.cells c e), ?_, rfl, rfl, rfl, rfl, ?_, ?_⟩
          · simp only [execOp, Instr.buildSlice, Sem.run_bind, run_under hu, Result.andThen_ok, run_size hm]
            rw [if_neg (by omega)]
            by_cases h0 : len * m = 0
            · simp only [base, zc, if_pos h0] at hc
              rw [if_pos h0]
              simp only [Sem.run_bind, Sem.run_pure, Result.andThen_ok, Array.toList_map, hc]
              simp [newRow]
            · simp only [base, zc, if_neg h0] at hc
              rw [if_neg h0]
              simp only [Sem.run_bind, Sem.run_pure, Result.andThen_ok, Array.toList_map, hv, hc]
              simp [newRow]
          · exact ⟨by omega, len, by rw [(Be.add_new B _ _ _).1], fun _ => rfl, fun h => by cases h⟩
          · have := mkCells_HO (E := E) (B := B.add n w.heap.size c.size) (n := n + 1) (e := e) (b := n) (c := 0) (rest := []) (fr := (0, 0))
              (hL.mono fun _ _ => VC.ext (Be.add_ext B n w.heap.size c.size) (Nat.le_succ n)) (by simp [Be.add]) (.inl rfl) rfl
            simpa using this
        · cases hx
      · cases hk
    · cases hk
  · cases hk
end Go.Cx
/- The operations: slices, indexes, conversions, lengths. -/
namespace Go.Cx
variable {P : Program} {E : Env} {F : Fx}
variable {dst : Option Tmp} {ty : TypeId} {pos : String} {after : Array Edge} {guard : Option (Nat × Bool)}

theorem beq_ne {a b : Nat} (h : ¬ a = b) : Nat.beq a b = false := by
  cases e : Nat.beq a b with
  | false => rfl
  | true => exact absurd (Nat.eq_of_beq_eq_true e) h
theorem natOf_ok {B : Be} {n : Nat} {x : SC} {j : Nat} (h : natOf x = some j) {v : Value} (hv : VC E B n x v) : ∃ k, v = .int k (j : Int) := by
  unfold natOf at h
  split at h
  · rename_i k m
    simp only [Option.some.injEq] at h; subst h
    simp only [VC, val0] at hv
    exact ⟨k, hv⟩
  · cases h
theorem bnd_ok {B : Be} {n : Nat} {T : Ts} {a : Act} (ht : TR E B n T a.tmps) {x : Option Operand} {d j : Nat} (h : bnd T x d = some j) : (x = none ∧ j = d) ∨ ∃ y k, x = some y ∧ a.eval y = .int k (j : Int) := by
  unfold bnd at h
  split at h
  · simp only [Option.some.injEq] at h; exact .inl ⟨rfl, h.symm⟩
  · rename_i y
    split at h
    · rename_i v hv
      obtain ⟨k, hk⟩ := natOf_ok h (ht.evC hv)
      exact .inr ⟨y, k, rfl, hk⟩
    · cases h
theorem run_bound {k : IntKind} {j y : Nat} {code : BoundsCode} (h : j ≤ y) (w : World) : (Instr.sliceBound (.int k (j : Int)) y code).run P w = .ok j w := by
  have : (0 : Int) ≤ (j : Int) ∧ (j : Int) ≤ (y : Int) := ⟨by omega, by omega⟩
  simp [Instr.sliceBound, asIntOf, this, h]
theorem run_bounds {B : Be} {n : Nat} {T : Ts} {a : Act} (ht : TR E B n T a.tmps) {lo hi : Option Operand} {i j len cap : Nat} (b : Bool) (hj : bnd T hi len = some j) (hi' : bnd T lo 0 = some i) (h1 : i ≤ j) (h2 : j ≤ cap) (w : World) :
    (Instr.sliceBounds b len cap (lo.map a.eval) (hi.map a.eval) none).run P w = .ok (i, j, cap) w := by
  rcases bnd_ok ht hj with ⟨rfl, rfl⟩ | ⟨y, k, rfl, e⟩ <;> rcases bnd_ok ht hi' with ⟨rfl, rfl⟩ | ⟨z, k', rfl, e'⟩
  · simp [Instr.sliceBounds]
  · have r1 := fun code => run_bound (P := P) (k := k') (code := code) h1 w
    simp [Instr.sliceBounds, e', r1]
  · have r2 := fun code => run_bound (P := P) (k := k) (code := code) h2 w
    simp [Instr.sliceBounds, e, r2]
  · have r1 := fun code => run_bound (P := P) (k := k') (code := code) h1 w
    have r2 := fun code => run_bound (P := P) (k := k) (code := code) h2 w
    simp [Instr.sliceBounds, e, e', r1, r2]
theorem makeSlice_ok {t : TypeId} {y z : Operand} {k : OpK} (hk : makeSliceK P t y z = some k) : KOk P E k (Oper.mk dst (.makeSlice t y z) ty pos after guard) := by
  unfold makeSliceK at hk
  split at hk
  · rename_i e hu
    split at hk
    · rename_i m zc by_ hm hz hb
      obtain ⟨v, hv, hl⟩ := zero_run (E := E) hz
      split at hk
      · rename_i hc
        simp only [Bool.and_eq_true, Nat.ble_eq, Nat.blt_eq] at hc
        obtain ⟨⟨hc1, hc2⟩, hc3⟩ := hc
        have hc1 := Nat.eq_of_beq_eq_true hc1
        simp only [Option.some.injEq] at hk; subst hk
        intro B n T a w x so hx ht
        dsimp only at hx
        split at hx
        · rename_i i j hi hj
          split at hx
          · rename_i l c hil hjc
            split at hx
            · rename_i hlc
              simp only [Bool.and_eq_true, Nat.ble_eq] at hlc
              obtain ⟨hlc, hcc⟩ := hlc
              simp only [Option.some.injEq, Prod.mk.injEq] at hx
              obtain ⟨rfl, rfl⟩ := hx
              obtain ⟨k1, e1⟩ := natOf_ok hil (ht.evC hi)
              obtain ⟨k2, e2⟩ := natOf_ok hjc (ht.evC hj)
              have hvs : v.cells.size = m := by rw [← Array.length_toList, ← (hl B n).length, hc1]
              unfold bytes? at hb
              obtain ⟨inf, hinf, rfl⟩ := Option.map_eq_some_iff.1 hb
              have hmul : inf.bytes * c ≤ 10000 * 100000 := Nat.mul_le_mul hc3 hcc
              have hwl : IntKind.i64.wrap (l : Int) = l := wrap_id .i64 _ (by simp [IntKind.min, IntKind.signed, IntKind.bits]; try omega) (by simp [IntKind.max, IntKind.signed, IntKind.bits]; try omega)
              have hwc : IntKind.i64.wrap (c : Int) = c := wrap_id .i64 _ (by simp [IntKind.min, IntKind.signed, IntKind.bits]; try omega) (by simp [IntKind.max, IntKind.signed, IntKind.bits]; try omega)
              have hbig : ¬ ((inf.bytes : Int) * (c : Int) > 2 ^ 48) := by
                have : (inf.bytes : Int) * (c : Int) = ((inf.bytes * c : Nat) : Int) := by simp
                rw [this]; omega
              let cells : Array Value := if c * m = 0 then (Array.range (c * m)).map (fun i => (#[] : Array Value)[i % 0]!) else (Array.range (c * m)).map (fun i => v.cells[i % v.cells.size]!)
              have hcells : cells.toList = repL v.cells.toList c := by
                simp only [cells]
                split
                · rename_i h0
                  have : c = 0 := by rcases Nat.mul_eq_zero.1 h0 with h | h; exact h; omega
                  subst this; simp [repL]
                · rw [← range_rep v.cells (by omega) c, hvs]
              refine ⟨.slice (some ⟨w.heap.size, 0, none⟩) l c, .cells cells e, cells.size, w.alloc (.cells cells e), ?_, rfl, rfl, rfl, rfl, ?_, ?_⟩
              · simp only [execOp, Instr.makeSlice, Sem.run_bind, run_under hu, Result.andThen_ok, e1, e2, asInt, asIntOf, Sem.run_pure, run_info hinf, hwl, hwc]
                rw [if_neg]
                · by_cases h0 : c * m = 0
                  · have : cells = (Array.range (c * m)).map (fun i => (#[] : Array Value)[i % 0]!) := by simp only [cells, if_pos h0]
                    simp only [Sem.run_bind, run_askRoom, Result.andThen_ok, run_size hm, Int.toNat_natCast, if_pos h0, Sem.run_pure, newRow, run_newObj]
                    rw [this]; rfl
                  · have : cells = (Array.range (c * m)).map (fun i => v.cells[i % v.cells.size]!) := by simp only [cells, if_neg h0]
                    simp only [Sem.run_bind, run_askRoom, Result.andThen_ok, run_size hm, Int.toNat_natCast, if_neg h0, Sem.run_pure, newRow, run_newObj, hv]
                    rw [this]; rfl
                · simp only [Bool.or_eq_true, decide_eq_true_eq, not_or]
                  refine ⟨⟨⟨by omega, hbig⟩, by omega⟩, by omega⟩
              · exact ⟨by omega, c, by rw [(Be.add_new B _ _ _).1], fun _ => rfl, fun h => by cases h⟩
              · have := mkCells_HO (E := E) (B := B.add n w.heap.size cells.size) (n := n + 1) (e := e) (b := n) (c := 0) (rest := []) (fr := (0, 0)) (l := repL zc c) (vs := cells.toList)
                  (by rw [hcells]; exact (hl _ _).rep c) (by simp [Be.add]) (.inl rfl) rfl
                simpa using this
            · cases hx
          · cases hx
        · cases hx
      · cases hk
    · cases hk
  · cases hk
theorem indexAddr_ok {t : TypeId} {y z : Operand} {k : OpK} (hk : indexAddrK P t y z = some k) : KOk P E k (Oper.mk dst (.indexAddr t y z) ty pos after guard) := by
  unfold indexAddrK at hk
  split at hk
  · rename_i m e hu
    split at hk
    · rename_i s hs
      simp only [Option.some.injEq] at hk; subst hk
      intro B n T a x hx ht w
      dsimp only at hx
      split at hx
      · rename_i b o i hp hi
        split at hx
        · rename_i j hj
          split at hx
          · rename_i hlt
            have hlt : j < m := by simpa [Nat.blt_eq] using hlt
            simp only [Option.some.injEq] at hx; subst hx
            obtain ⟨e1, e2⟩ := ht.evC hp
            obtain ⟨k2, e3⟩ := natOf_ok hj (ht.evC hi)
            refine ⟨.pointer (some ⟨B.β b, o + j * s, none⟩), ?_, e1, rfl⟩
            have hc : (0 : Int) ≤ (j : Int) ∧ (j : Int) < (m : Int) := ⟨by omega, by omega⟩
            simp [execOp, Instr.indexAt, e2, e3, asIntOf, run_under hu, Instr.sureAddr, hlt, run_size hs, add_at]
          · cases hx
        · cases hx
      · cases hx
    · cases hk
  · rename_i e hu
    split at hk
    · rename_i s hs
      simp only [Option.some.injEq] at hk; subst hk
      intro B n T a x hx ht w
      dsimp only at hx
      split at hx
      · rename_i b o len cap es ex i hp hi
        split at hx
        · rename_i j hj
          split at hx
          · rename_i hlt
            have hlt : j < len := by simpa [Nat.blt_eq] using hlt
            simp only [Option.some.injEq] at hx; subst hx
            obtain ⟨e1, cap', e2, _⟩ := ht.evC hp
            obtain ⟨k2, e3⟩ := natOf_ok hj (ht.evC hi)
            refine ⟨.pointer (some ⟨B.β b, o + j * s, none⟩), ?_, e1, rfl⟩
            simp [execOp, Instr.indexAt, e2, e3, asIntOf, run_under hu, hlt, run_size hs, add_at]
          · cases hx
        · cases hx
      · cases hx
    · cases hk
  · cases hk
theorem part_ok {B : Be} {n : Nat} {t : TypeId} {g : Bool} {m o : Nat} (hg : isAgg? P t = some g) (hm : size? P t = some m) {l : List SC} {vs : Array Value} (hl : LR (VC E B n) l vs.toList) {x : SA} (hx : shut g ((l.drop o).take m) = some x) (hb : o + m ≤ l.length) (hgm : (g || Nat.beq m 1) = true) (w : World) :
    ∃ v, (part t vs o).run P w = .ok v w ∧ VA E B n x v := by
  have hd := (hl.drop o).take m
  rcases shut_VA hx with ⟨rfl, rfl⟩ | ⟨rfl, y, hy, rfl⟩
  · refine ⟨.agg (vs.extract o (o + m)), by simp [part, run_agg hg, run_size hm], vs.extract o (o + m), rfl, ?_⟩
    have : (vs.extract o (o + m)).toList = (vs.toList.drop o).take m := by
      rw [Array.toList_extract, List.extract_eq_take_drop]
      congr 1; omega
    rw [this]; exact hd
  · rw [hy] at hd
    obtain ⟨v, hv, hV⟩ := hd.one
    refine ⟨v, ?_, hV⟩
    have h1 : vs.toList[o]? = some v := by
      have : ((vs.toList.drop o).take m)[0]? = some v := by rw [hv]; rfl
      have hm1 : m = 1 := by simpa using hgm
      subst hm1
      simpa using this
    have h2 : vs[o]? = some v := by simpa using h1
    simp [part, run_agg hg, h2]
theorem field_ok {t : TypeId} {y : Operand} {f : Nat} {k : OpK} (hk : fieldK P t y f = some k) : KOk P E k (Oper.mk dst (.field t y f) ty pos after guard) := by
  unfold fieldK at hk
  split at hk
  · rename_i fields hu
    split at hk
    · rename_i fd hfd
      split at hk
      · rename_i g m hg hm
        split at hk
        · rename_i hgm
          simp only [Option.some.injEq] at hk; subst hk
          intro B n T a x hx ht w
          dsimp only at hx
          split at hx
          · rename_i l hl
            split at hx
            · rename_i hb
              simp only [Nat.ble_eq] at hb
              split at hx
              · rename_i v hv
                simp only [Option.some.injEq] at hx; subst hx
                obtain ⟨vs, e1, e2⟩ := ht.evA hl
                obtain ⟨u, r, hu'⟩ := part_ok hg hm e2 hv hb hgm w
                exact ⟨u, by simp [execOp, Instr.field, run_under hu, hfd, e1, asAgg, r], hu'⟩
              · cases hx
            · cases hx
          · cases hx
        · cases hk
      · cases hk
    · cases hk
  · cases hk
theorem bs_get (l : List Nat) (j : Nat) : (bs l)[j]? = l[j]?.map UInt8.ofNat := by
  have : (bs l)[j]? = (bs l).data[j]? := by
    rcases Nat.lt_or_ge j (bs l).size with h | h
    · rw [getElem?_pos (bs l) j h, getElem?_pos (bs l).data j h]; rfl
    · rw [getElem?_neg (bs l) j (fun h' => absurd h' (Nat.not_lt.2 h)), getElem?_neg (bs l).data j (fun h' => absurd h' (Nat.not_lt.2 h))]
  rw [this]
  simp [bs]
theorem index_ok {t : TypeId} {y z : Operand} {k : OpK} (hk : indexK P t y z = some k) : KOk P E k (Oper.mk dst (.index t y z) ty pos after guard) := by
  unfold indexK at hk
  split at hk
  · rename_i hu
    simp only [Option.some.injEq] at hk; subst hk
    intro B n T a x hx ht w
    dsimp only at hx
    split at hx
    · rename_i l i hl hi
      split at hx
      · rename_i j hj
        split at hx
        · rename_i b hb
          simp only [Option.some.injEq] at hx; subst hx
          obtain ⟨e1, e2⟩ := ht.evC hl
          obtain ⟨k2, e3⟩ := natOf_ok hj (ht.evC hi)
          have hb256 : b < 256 := e2 b (List.mem_of_getElem? hb)
          refine ⟨.int .u8 (b : Int), ?_, by simp [VV, VA, VC, Env.val, sc]⟩
          simp [execOp, Instr.index, e1, e3, asIntOf, run_under hu, bs_get, hb]
          omega
        · cases hx
      · cases hx
    · cases hx
  · rename_i m e hu
    split at hk
    · rename_i g s hg hs
      split at hk
      · rename_i hgm
        simp only [Option.some.injEq] at hk; subst hk
        intro B n T a x hx ht w
        dsimp only at hx
        split at hx
        · rename_i l i hl hi
          split at hx
          · rename_i j hj
            split at hx
            · rename_i hb
              simp only [Bool.and_eq_true, Nat.ble_eq, Nat.blt_eq] at hb
              split at hx
              · rename_i v hv
                simp only [Option.some.injEq] at hx; subst hx
                obtain ⟨vs, e1, e2⟩ := ht.evA hl
                obtain ⟨k2, e3⟩ := natOf_ok hj (ht.evC hi)
                obtain ⟨u, r, hu'⟩ := part_ok hg hs e2 hv hb.2 hgm w
                exact ⟨u, by simp [execOp, Instr.index, e1, e3, asIntOf, run_under hu, hb.1, run_size hs, r], hu'⟩
              · cases hx
            · cases hx
          · cases hx
        · cases hx
      · cases hk
    · cases hk
  · cases hk
theorem bs_extract (l : List Nat) (i j : Nat) : (bs l).extract i j = bs ((l.drop i).take (j - i)) := by
  apply ByteArray.ext
  simp only [ByteArray.data_extract, bs]
  apply Array.ext'
  simp [List.map_take, List.map_drop]
theorem slice_ok {t : TypeId} {y : Operand} {lo hi mx : Option Operand} {k : OpK} (hk : sliceK P t y lo hi mx = some k) : KOk P E k (Oper.mk dst (.slice t y lo hi mx) ty pos after guard) := by
  unfold sliceK at hk
  split at hk
  · cases hk
  · split at hk
    · rename_i hu
      simp only [Option.some.injEq] at hk; subst hk
      intro B n T a x hx ht w
      dsimp only at hx
      split at hx
      · rename_i l hl
        split at hx
        · rename_i j hj
          split at hx
          · rename_i i hi'
            split at hx
            · rename_i hb
              simp only [Bool.and_eq_true, Nat.ble_eq] at hb
              simp only [Option.some.injEq] at hx; subst hx
              obtain ⟨e1, e2⟩ := ht.evC hl
              have hbs := run_bounds (P := P) ht (len := (bs l).size) (cap := (bs l).size) false (by rw [bs_size]; exact hj) hi' hb.1 (by rw [bs_size]; exact hb.2) w
              refine ⟨.string (bs ((l.drop i).take (j - i))), ?_, rfl, fun z hz => e2 z (List.drop_subset _ _ (List.take_subset _ _ hz))⟩
              simp only [execOp, Instr.sliceAt, Sem.run_bind, run_under hu, Result.andThen_ok, Instr.slice, e1, Option.map_none, Option.isSome_none, Bool.false_eq_true, if_false, Sem.run_pure, hbs, bs_extract]
            · cases hx
          · cases hx
        · cases hx
      · cases hx
    · rename_i e hu
      split at hk
      · rename_i s hs
        simp only [Option.some.injEq] at hk; subst hk
        intro B n T a x hx ht w
        dsimp only at hx
        split at hx
        · rename_i hl
          split at hx
          · rename_i hj
            split at hx
            · rename_i hi'
              simp only [Option.some.injEq] at hx; subst hx
              have e1 := ht.evC hl
              simp only [VC] at e1
              have hbs := run_bounds (P := P) ht (len := 0) (cap := 0) true hj hi' (Nat.le_refl _) (Nat.le_refl _) w
              refine ⟨.slice none 0 0, ?_, rfl⟩
              simp [execOp, Instr.sliceAt, run_under hu, Instr.slice, e1, hbs, run_size hs]
            · cases hx
          · cases hx
        · rename_i b o len cap es ex hl
          split at hx
          · rename_i j hes hj
            split at hx
            · rename_i i hi'
              split at hx
              · rename_i hb
                simp only [Bool.and_eq_true, Nat.ble_eq] at hb
                simp only [Option.some.injEq] at hx; subst hx
                have hes := Nat.eq_of_beq_eq_true hes
                subst hes
                obtain ⟨e0, cap', e1, e2, e3⟩ := ht.evC hl
                have hcap : cap ≤ cap' := by
                  cases ex with
                  | true => rw [e2 rfl]; exact Nat.le_refl _
                  | false => exact (e3 rfl).1
                have hbs := run_bounds (P := P) ht (len := len) (cap := cap') true hj hi' hb.1.1 (by omega) w
                refine ⟨.slice (some (if cap' = i then ⟨B.β b, o, none⟩ else ⟨B.β b, o + i * es, none⟩)) (j - i) (cap' - i), ?_, e0, cap' - i, ?_, fun hx => by rw [e2 hx], fun hx => ?_⟩
                · simp only [execOp, Instr.sliceAt, Sem.run_bind, run_under hu, Result.andThen_ok, Instr.slice, e1, Option.map_none, hbs, run_size hs, Sem.run_pure, Option.map_some, add_at]
                  by_cases hc : cap' = i <;> simp [hc]
                · cases ex with
                  | true =>
                    rw [e2 rfl]
                    simp only [Bool.true_and]
                    by_cases hc : cap = i
                    · subst hc; simp
                    · have : Nat.beq i cap = false := beq_ne (fun e => hc e.symm)
                      simp [hc, this]
                  | false =>
                    simp only [Bool.false_and, Bool.false_or, Bool.or_eq_true, Nat.blt_eq] at hb ⊢
                    have hb2 := hb.2
                    rcases hb2 with h1 | h1
                    · have : ¬ cap' = i := by omega
                      simp [this]
                    · have h1 := Nat.eq_of_beq_eq_true h1
                      subst h1
                      simp
                · have := e3 hx
                  subst hx
                  refine ⟨by omega, ?_⟩
                  simp only [Bool.false_and]
                  have hi2 : i ≤ cap' := by omega
                  have : i * es + (cap' - i) * es = cap' * es := by rw [← Nat.add_mul]; congr 1; omega
                  omega
              · cases hx
            · cases hx
          · cases hx
        · cases hx
      · cases hk
    · rename_i m e hu
      split at hk
      · rename_i s hs
        simp only [Option.some.injEq] at hk; subst hk
        intro B n T a x hx ht w
        dsimp only at hx
        split at hx
        · rename_i b o hl
          split at hx
          · rename_i j hj
            split at hx
            · rename_i i hi'
              split at hx
              · rename_i hb
                simp only [Bool.and_eq_true, Nat.ble_eq] at hb
                simp only [Option.some.injEq] at hx; subst hx
                obtain ⟨e0, e1⟩ := ht.evC hl
                have hbs := run_bounds (P := P) ht (len := m) (cap := m) false hj hi' hb.1 hb.2 w
                refine ⟨.slice (some (if m = i then ⟨B.β b, o, none⟩ else ⟨B.β b, o + i * s, none⟩)) (j - i) (m - i), ?_, e0, m - i, ?_, fun _ => rfl, fun h => by cases h⟩
                · simp only [execOp, Instr.sliceAt, Sem.run_bind, run_under hu, Result.andThen_ok, e1, Instr.sureAddr, Option.map_none, hbs, run_size hs, Sem.run_pure, add_at]
                · by_cases hc : m = i
                  · subst hc; simp
                  · have : Nat.beq i m = false := beq_ne (fun e => hc e.symm)
                    simp [hc, this]
              · cases hx
            · cases hx
          · cases hx
        · cases hx
      · cases hk
    · cases hk
end Go.Cx
/- The operations: conversions, lengths, append, copy, clear. -/
namespace Go.Cx
variable {P : Program} {E : Env} {F : Fx}
variable {dst : Option Tmp} {ty : TypeId} {pos : String} {after : Array Edge} {guard : Option (Nat × Bool)}

/-- a change that hands back a value -/
theorem chg_value {B : Be} {X : Nat → Prop} {n n' : Nat} {h' : Hp} {a : Act} {w w' : World} {x : SV} {o : Oper} {v : Value} {B' : Be} (hr : (execOp a.eval o).run P w = .ok (.value v) w') (he : Ext B B' n) (hn : n ≤ n') (hH : HR E B' X n' h' w') (hf : FR X w w') (hv : VV E B' n' x v)
    {next : Act → World → Prop} {Q : Exit → Act → World → Prop} (hq : ∀ B' v w', Ext B B' n → n ≤ n' → HR E B' X n' h' w' → FR X w w' → VV E B' n' x v → next (a.put o.dst v) w') : o.wp P a w next Q := by
  unfold Oper.wp
  rw [hr]
  exact hq B' v w' he hn hH hf hv
theorem chg_skip {B : Be} {X : Nat → Prop} {n n' : Nat} {h' : Hp} {a : Act} {w w' : World} {o : Oper} {B' : Be} (hr : (execOp a.eval o).run P w = .ok .skip w') (he : Ext B B' n) (hn : n ≤ n') (hH : HR E B' X n' h' w') (hf : FR X w w')
    {next : Act → World → Prop} {Q : Exit → Act → World → Prop} (hq : ∀ B' v w', Ext B B' n → n ≤ n' → HR E B' X n' h' w' → FR X w w' → VV E B' n' (sc .undef) v → next (a.put o.dst v) w') : o.wp P a w next Q := by
  unfold Oper.wp
  rw [hr]
  exact hq B' undef w' he hn hH hf rfl
/-! ### conversions -/
theorem bytesOf_ok {B : Be} {n : Nat} : ∀ {l : List SC} {r : List Nat} {vs : List Value} (s : ByteArray), convK.bytesOf l = some r → LR (VC E B n) l vs → (∀ x ∈ r, x < 256) ∧
    ∀ w, (forIn vs s fun (c : Value) (s : ByteArray) => (match c with
      | Value.int IntKind.u8 n => pure (ForInStep.yield (s.push (UInt8.ofNat n.toNat)))
      | _ => do
        (stuck "bytesToString: byte expected" : Sem PUnit)
        pure (ForInStep.yield s) : Sem (ForInStep ByteArray))).run P w = .ok (s ++ bs r) w
  | [], r, vs, s, h, hl => by
    simp only [convK.bytesOf, Option.some.injEq] at h; subst h
    obtain rfl := hl.nil
    refine ⟨fun x hx => (by cases hx), fun w => ?_⟩
    simp only [List.forIn_nil, Sem.run_pure]
    congr 1
    apply ByteArray.ext
    simp [bs]
  | x :: l, r, vs, s, h, hl => by
    obtain ⟨v, vs', rfl, hv, hl'⟩ := hl.cons
    unfold convK.bytesOf at h
    split at h
    · cases ‹_ :: _ = []›
    · rename_i m l' e
      injection e with e1 e2
      subst e1; subst e2
      split at h
      · rename_i hm
        have hm : m < 256 := by simpa [Nat.blt_eq] using hm
        split at h
        · rename_i r' hr'
          simp only [Option.some.injEq] at h; subst h
          obtain ⟨i1, i2⟩ := bytesOf_ok (s.push (UInt8.ofNat m)) hr' hl'
          refine ⟨fun y hy => ?_, fun w => ?_⟩
          · rcases List.mem_cons.1 hy with rfl | hy
            · exact hm
            · exact i1 y hy
          · simp only [VC, val0] at hv
            subst hv
            simp only [List.forIn_cons, Sem.run_bind, Sem.run_pure, Result.andThen_ok, i2, Int.toNat_natCast, Int.ofNat_eq_natCast]
            congr 1
            apply ByteArray.ext
            simp [bs]
        · cases h
      · cases h
    · cases h
theorem run_markStringish {B : Be} {X : Nat → Prop} {n : Nat} {h : Hp} {w : World} (H : HR E B X n h w) {b o : Nat} (hb : (h.get b).isSome = true) :
    ∃ w', (markStringish ⟨B.β b, o, none⟩).run P w = .ok () w' ∧ HR E B X n h w' ∧ FR X w w' := by
  obtain ⟨so, hso⟩ := Option.isSome_iff_exists.1 hb
  obtain ⟨e1, e2, o', e3, e4⟩ := H.live b so hso
  unfold markStringish
  simp only [Sem.run_bind, run_shape, Result.andThen_ok]
  cases so with
  | map es cl =>
    obtain ⟨ms, rfl, _⟩ := e4
    have : w.shape? (B.β b) = none := by simp [World.shape?, e3]
    rw [this]
    exact ⟨w, rfl, H, FR.refl _ _⟩
  | cells c m e =>
    obtain ⟨cs, fr, rfl, h2, h3, h4⟩ := e4
    have hsh : w.shape? (B.β b) = some (e, cs.size) := by simp [World.shape?, e3]
    rw [hsh]
    simp only [run_freeze]
    refine ⟨_, rfl, ?_, ?_⟩
    all_goals
      have hfz : w.freeze ⟨B.β b, cs.size, none⟩ 1 = { w with heap := w.heap.modify (B.β b) fun
        | .cells c elem (lo, hi) => .cells c elem (if lo == hi then (cs.size, cs.size + 1) else (min lo cs.size, max hi (cs.size + 1)))
        | o => o } := rfl
      have hr : ∀ r, r ≠ B.β b → (w.freeze ⟨B.β b, cs.size, none⟩ 1).heap[r]? = w.heap[r]? := fun r hr => by
        rw [hfz]; simp only [Array.getElem?_modify]; rw [if_neg (by omega)]
      have hs : (w.freeze ⟨B.β b, cs.size, none⟩ 1).heap.size = w.heap.size := by rw [hfz]; simp
      have hnew : (w.freeze ⟨B.β b, cs.size, none⟩ 1).heap[B.β b]? = some (.cells cs e (if fr.1 == fr.2 then (cs.size, cs.size + 1) else (min fr.1 cs.size, max fr.2 (cs.size + 1)))) := by
        rw [hfz]; simp [Array.getElem?_modify, e3]
    · refine (H.put (o2 := .cells c m e) hso hs hr hnew ⟨cs, _, rfl, h2, ?_, h4⟩).congr fun b' => ?_
      · right
        rcases h3 with h3 | h3
        · simp [h3]
        · by_cases hq : fr.1 = fr.2
          · simp [hq]
          · simp only [beq_iff_eq, hq, if_false]; omega
      · rw [Tr.get_upd (Nat.lt_of_lt_of_le e1 H.top)]
        split
        · subst_vars; exact hso
        · rfl
    · exact FR.put H hso hs hr rfl rfl rfl
theorem conv_ok (hF : FxOk F E) {s d : TypeId} {y : Operand} {k : OpK} (hk : convK P F s d y = some k) : KOk P E k (Oper.mk dst (.convert s d y) ty pos after guard) := by
  unfold convK at hk
  split at hk
  · -- integers
    rename_i k1 k2 hs hd
    simp only [Option.some.injEq] at hk; subst hk
    intro B n T a x hx ht w
    dsimp only at hx
    split at hx
    · rename_i k3 v c hc
      split at hx
      · rename_i r hr
        simp only [Option.some.injEq] at hx; subst hx
        have e := ht.evC hc
        simp only [VC] at e
        exact ⟨_, by simp [execOp, convert, run_under hs, run_under hd, e, Conv.intToInt], wrapS_ok hF hr⟩
      · cases hx
    · cases hx
  · -- strings
    rename_i hs hd
    simp only [Option.some.injEq] at hk; subst hk
    intro B n T a x hx ht w
    dsimp only at hx
    split at hx
    · rename_i l hl
      simp only [Option.some.injEq] at hx; subst hx
      have e := ht.evC hl
      exact ⟨a.eval y, by simp [execOp, convert, run_under hs, run_under hd, e.1], e⟩
    · cases hx
  · -- a string to bytes
    rename_i e hs hd
    split at hk
    · rename_i he
      simp only [Option.some.injEq] at hk; subst hk
      intro B n T a w x so hx ht
      dsimp only at hx
      split at hx
      · rename_i l hl
        simp only [Option.some.injEq, Prod.mk.injEq] at hx
        obtain ⟨rfl, rfl⟩ := hx
        obtain ⟨e1, e2⟩ := ht.evC hl
        let cap := (Question.appendCap (bs l).size 0 e).cut (w.tape w.drawn (.appendCap (bs l).size 0 e))
        have hcap : (bs l).size ≤ cap := by simp only [cap, Question.cut]; omega
        let cells : Array Value := ((bs l).data.map fun b => Value.int .u8 b.toNat) ++ Array.replicate (cap - (bs l).size) (.int .u8 0)
        have hcs : cells.size = cap := by
          simp only [cells, Array.size_append, Array.size_map, Array.size_replicate]
          have : (bs l).data.size = (bs l).size := rfl
          omega
        refine ⟨.slice (some ⟨w.heap.size, 0, none⟩) (bs l).size cap, .cells cells e (cap, cap + 1), cells.size, { w with drawn := w.drawn + 1, heap := w.heap.push (.cells cells e (cap, cap + 1)) }, ?_, rfl, rfl, rfl, rfl, ?_, ?_⟩
        · simp only [execOp, convert, Sem.run_bind, run_under hs, run_under hd, Result.andThen_ok, e1, run_under he, Conv.stringToBytes, run_choose, Question.forced, Bool.false_eq_true, if_false, newRow, run_newObj, Sem.run_pure]
          have hsh : (World.mk (w.heap.push (.cells cells e)) w.tape (w.drawn + 1) w.os w.output).shape? w.heap.size = some (e, cells.size) := by simp [World.shape?]
          simp only [markStringish, Sem.run_bind, run_shape, Result.andThen_ok]
          rw [show (World.shape? { heap := Array.push w.heap (Obj.cells (((bs l).data.map fun b => Value.int .u8 b.toNat) ++ Array.replicate (cap - (bs l).size) (.int .u8 0)) e), tape := w.tape, drawn := w.drawn + 1, os := w.os, output := w.output } w.heap.size) = some (e, cells.size) from hsh]
          simp only [run_freeze, Result.andThen_ok, Sem.run_pure]
          congr 1
          simp only [World.freeze, if_neg (show ¬ (1 : Nat) = 0 by omega)]
          congr 1
          apply Array.ext_getElem?
          intro i
          simp only [Array.getElem?_modify, Array.getElem?_push]
          by_cases hi : i = w.heap.size
          · subst hi; simp [hcs, cells]; rfl
          · have hi' : ¬ w.heap.size = i := fun e => hi e.symm
            simp [hi, hi']
        · refine ⟨by omega, cap, by rw [(Be.add_new B _ _ _).1, bs_size], fun h => (by cases h), fun _ => ⟨by rw [bs_size] at hcap; exact hcap, ?_⟩⟩
          rw [(Be.add_new B _ _ _).2, hcs]; omega
        · have hrest : cells = ((l.map fun b => Value.int .u8 ((UInt8.ofNat b).toNat : Int)) ++ List.replicate (cap - (bs l).size) (Value.int .u8 0)).toArray := by
            apply Array.ext'
            simp only [cells, bs, Array.toList_append, Array.toList_map, List.map_map, Array.toList_replicate]
            rfl
          have hlr : LR (VC E (B.add n w.heap.size cells.size) (n + 1)) (l.map fun b => SC.int .u8 0 (Int.ofNat b)) (l.map fun b => Value.int .u8 ((UInt8.ofNat b).toNat : Int)) := by
            have : ∀ (l : List Nat), (∀ b ∈ l, b < 256) → LR (VC E (B.add n w.heap.size cells.size) (n + 1)) (l.map fun b => SC.int .u8 0 (Int.ofNat b)) (l.map fun b => Value.int .u8 ((UInt8.ofNat b).toNat : Int)) := by
              intro l
              induction l with
              | nil => intro _; trivial
              | cons b l ih =>
                intro hb
                have h256 := hb b (by simp)
                refine ⟨?_, ih fun c hc => hb c (by simp [hc])⟩
                simp only [VC, val0, UInt8.toNat_ofNat', Value.int.injEq, true_and]
                rw [show b % 2 ^ 8 = b by omega]; rfl
            exact this l e2
          have := mkCellsA_HO (E := E) (B := B.add n w.heap.size cells.size) (n := n + 1) (e := e) (b := n) (c := 0) (rest := List.replicate (cap - (bs l).size) (.int .u8 0)) (fr := (cap, cap + 1)) hlr
            (by rw [(Be.add_new B _ _ _).2, hrest]; simp) (.inr (by
              have := congrArg Array.size hrest
              simp only [List.size_toArray] at this
              rw [← this, hcs]; exact Nat.le_refl _)) rfl
          rw [hrest]
          rw [hrest] at this
          exact this
      · cases hx
    · cases hk
  · -- the same bytes, marked
    rename_i e0 e hs hd
    split at hk
    · rename_i hsd he
      have hsd := Nat.eq_of_beq_eq_true hsd
      subst hsd
      simp only [Option.some.injEq] at hk; subst hk
      intro B X n T h a w x h' n' hx ht H next Q hq
      dsimp only at hx
      split at hx
      · rename_i b o len cap es ex hc
        split at hx
        · rename_i hlive
          simp only [Option.some.injEq, Prod.mk.injEq] at hx
          obtain ⟨rfl, rfl, rfl⟩ := hx
          have hV := ht.evC hc
          obtain ⟨e0, cap', e1, _⟩ := hV
          obtain ⟨w', r, H', F'⟩ := run_markStringish (P := P) (o := o) H hlive
          rw [hs] at hd
          injection hd with hd
          injection hd with hd
          subst hd
          exact chg_value (v := a.eval y) (x := sc (.sl b o len cap es ex)) (by simp [execOp, convert, run_under hs, e1, run_under he, r]) (Ext.refl _ _) (Nat.le_refl _) H' F' (ht.evC hc) hq
        · cases hx
      · cases hx
    · cases hk
  · -- bytes to a string
    rename_i e hs hd
    split at hk
    · rename_i he
      simp only [Option.some.injEq] at hk; subst hk
      intro B X n T h a w x hx ht H
      dsimp only at hx
      split at hx
      · rename_i hc
        simp only [Option.some.injEq] at hx; subst hx
        have e1 := ht.evC hc
        simp only [VC] at e1
        exact ⟨.string .empty, by simp [execOp, convert, run_under hs, run_under hd, e1, run_under he, Conv.bytesToString], rfl, fun b hb => (by cases hb)⟩
      · rename_i b o len cap es ex hc
        split at hx
        · rename_i c m e' hb
          split at hx
          · rename_i l hl
            split at hx
            · rename_i r hr
              simp only [Option.some.injEq] at hx; subst hx
              obtain ⟨e0, cap', e1, _⟩ := ht.evC hc
              obtain ⟨vs, i1, i2, i3⟩ := HR.loadN H hb len o l hl
              obtain ⟨j1, j2⟩ := bytesOf_ok (P := P) ByteArray.empty hr i2
              refine ⟨.string (bs r), ?_, rfl, j1⟩
              have hcells := run_cells (P := P) (B.β b) o vs i3 len i1
              have j3 := j2 w
              simp only [execOp, convert, Sem.run_bind, run_under hs, run_under hd, Result.andThen_ok, e1, run_under he, Conv.bytesToString, hcells]
              rw [List.forIn_toArray]
              refine (congrArg (fun r : Result ByteArray => ((r.andThen fun a w' => Sem.run P (pure (Value.string a)) w').andThen fun a w' => Sem.run P (pure (Next.value a)) w')) j3).trans ?_
              simp
            · cases hx
          · cases hx
        · cases hx
      · cases hx
    · cases hk
  · cases hk
end Go.Cx
/- The operations: lengths, append, copy, clear. -/
namespace Go.Cx
variable {P : Program} {E : Env} {F : Fx}
variable {dst : Option Tmp} {ty : TypeId} {pos : String} {after : Array Edge} {guard : Option (Nat × Bool)}

theorem exec_builtin (ρ : Operand → Value) (b : Builtin) (args : Array Operand) (ts : Array TypeId) :
    ∃ consts, execOp ρ (Oper.mk dst (.call ⟨.builtin b, args, ts⟩) ty pos after guard) = builtin b ts ty consts (args.map ρ) :=
  ⟨args.map fun x => match x with | .const _ => true | _ => false, by simp only [execOp, resolve, invoke, pure_bind]; rfl⟩
theorem args1 {args : Array Operand} {x : Operand} (h : args.toList = [x]) (ρ : Operand → Value) : args.map ρ = #[ρ x] := by
  have : args = #[x] := Array.ext' (by simpa using h)
  subst this; simp
theorem args2 {args : Array Operand} {x y : Operand} (h : args.toList = [x, y]) (ρ : Operand → Value) : args.map ρ = #[ρ x, ρ y] := by
  have : args = #[x, y] := Array.ext' (by simpa using h)
  subst this; simp
theorem mapOf_ok {B : Be} {X : Nat → Prop} {n : Nat} {h : Hp} {w : World} (H : HR E B X n h w) {m : SC} {es : List (SA × SA × Nat)} (hm : mapOf h m = some es) {v : Value} (hv : VC E B n m v) :
    (v = .map none ∧ es = []) ∨ ∃ r ms clock, v = .map (some r) ∧ w.heap[r]? = some (.map ms clock) ∧ LR (ER E B n) es ms.toList := by
  unfold mapOf at hm
  split at hm
  · simp only [Option.some.injEq] at hm
    exact .inl ⟨hv, hm.symm⟩
  · rename_i b
    split at hm
    · rename_i es' clock hb
      simp only [Option.some.injEq] at hm; subst hm
      obtain ⟨_, _, o', ho, ms, rfl, hl⟩ := H.live b _ hb
      exact .inr ⟨_, ms, clock, hv.2, ho, hl⟩
    · cases hm
  · cases hm
theorem run_getObj_map {w : World} {r : Nat} {ms : Array MapEntry} {clock : Nat} (h : w.heap[r]? = some (.map ms clock)) : (getObj r).run P w = .ok (.map ms clock) w := by
  simp only [getObj, Sem.run, h]
theorem len_ok (hF : FxOk F E) {ts : Array TypeId} {args : Array Operand} {y : Operand} {k : OpK} (hargs : args.toList = [y]) (hk : lenK P F ts y = some k) : KOk P E k (Oper.mk dst (.call ⟨.builtin .len, args, ts⟩) ty pos after guard) := by
  have hex : ∀ (a : Act), ∃ consts, execOp a.eval (Oper.mk dst (.call ⟨.builtin .len, args, ts⟩) ty pos after guard) = builtin .len ts ty consts #[a.eval y] := fun a => by
    obtain ⟨c, hc⟩ := exec_builtin (dst := dst) (ty := ty) (pos := pos) (after := after) (guard := guard) a.eval .len args ts
    exact ⟨c, by rw [hc, args1 hargs]⟩
  unfold lenK at hk
  split at hk
  · cases hk
  · rename_i t htt
    split at hk
    · rename_i hu
      simp only [Option.some.injEq] at hk; subst hk
      intro B n T a x hx ht w
      dsimp only at hx
      split at hx
      · rename_i l hl
        simp only [Option.some.injEq] at hx; subst hx
        have e := ht.evC hl
        obtain ⟨c, hc⟩ := hex a
        refine ⟨goInt (bs l).size, ?_, ?_⟩
        · rw [hc]; simp [builtin, Builtin.len_, htt, run_under hu, e.1]
        · rw [bs_size]; simp [intV, sc, VV, VA, VC, val0, goInt]
      · cases hx
    · rename_i m e hu
      simp only [Option.some.injEq] at hk; subst hk
      intro B n T a x hx ht w
      simp only [Option.some.injEq] at hx; subst hx
      obtain ⟨c, hc⟩ := hex a
      refine ⟨goInt m, ?_, by simp [intV, sc, VV, VA, VC, val0, goInt]⟩
      rw [hc]
      simp [builtin, Builtin.len_, htt, run_under hu]
    · rename_i e hu
      simp only [Option.some.injEq] at hk; subst hk
      intro B n T a x hx ht w
      obtain ⟨c, hc⟩ := hex a
      dsimp only at hx
      split at hx
      · rename_i hl
        simp only [Option.some.injEq] at hx; subst hx
        have e1 := ht.evC hl
        simp only [VC] at e1
        refine ⟨goInt (0 : Nat), ?_, by simp [intV, sc, VV, VA, VC, Env.val, goInt]⟩
        rw [hc]; simp [builtin, Builtin.len_, htt, run_under hu, e1]
      · rename_i len _ _ _ hl
        simp only [Option.some.injEq] at hx; subst hx
        obtain ⟨_, cap', e1, _⟩ := ht.evC hl
        refine ⟨goInt len, ?_, by simp [intV, sc, VV, VA, VC, val0, goInt]⟩
        rw [hc]; simp [builtin, Builtin.len_, htt, run_under hu, e1]
      · rename_i i hl
        split at hx
        · rename_i v hv
          simp only [Option.some.injEq] at hx; subst hx
          obtain ⟨e1, _⟩ := ht.evC hl
          obtain ⟨b, len, cap, e2, e3⟩ := hF.2.2.1 i v hv
          refine ⟨goInt len, ?_, by simp [sc, VV, VA, VC, goInt, e3]⟩
          rw [hc]; simp [builtin, Builtin.len_, htt, run_under hu, e1, e2]
        · cases hx
      · cases hx
    · rename_i kt et hu
      simp only [Option.some.injEq] at hk; subst hk
      intro B X n T h a w x hx ht H
      obtain ⟨c, hc⟩ := hex a
      dsimp only at hx
      split at hx
      · rename_i m hm
        split at hx
        · rename_i es hes
          simp only [Option.some.injEq] at hx; subst hx
          have hV := ht.evC hm
          rcases mapOf_ok H hes hV with ⟨e1, rfl⟩ | ⟨r, ms, clock, e1, e2, e3⟩
          · refine ⟨goInt (0 : Nat), ?_, by simp [intV, sc, VV, VA, VC, Env.val, goInt]⟩
            rw [hc]; simp [builtin, Builtin.len_, htt, run_under hu, e1]
          · refine ⟨goInt ms.size, ?_, by simp [intV, sc, VV, VA, VC, val0, goInt, e3.length]⟩
            rw [hc]; simp [builtin, Builtin.len_, htt, run_under hu, e1, run_getObj_map e2]
        · cases hx
      · cases hx
    · cases hk
/-- what append and copy read -/
theorem srcOf_ok {B : Be} {X : Nat → Prop} {n : Nat} {h : Hp} {w : World} (H : HR E B X n h w) {es m : Nat} {u : SC} {l : List SC} (hs : srcOf h es u = some (m, l)) {v : Value} (hv : VC E B n u v) :
    (Builtin.lenOf v).run P w = .ok m w ∧ l.length = m * es ∧ ∀ k, k ≤ m → ∃ vs : Array Value, (Builtin.firstCells es k v).run P w = .ok vs w ∧ LR (VC E B n) (l.take (k * es)) vs.toList := by
  unfold srcOf at hs
  split at hs
  · simp only [Option.some.injEq, Prod.mk.injEq] at hs
    obtain ⟨rfl, rfl⟩ := hs
    simp only [VC] at hv
    subst hv
    refine ⟨by simp [Builtin.lenOf], by simp, fun k hk => ⟨#[], by simp [Builtin.firstCells], by simp [LR]⟩⟩
  · rename_i b o len cap es' ex
    split at hs
    · rename_i c m' e hes hb
      split at hs
      · rename_i l' hl
        simp only [Option.some.injEq, Prod.mk.injEq] at hs
        obtain ⟨rfl, rfl⟩ := hs
        obtain ⟨e0, cap', e1, _⟩ := hv
        subst e1
        obtain ⟨vs, i1, i2, i3⟩ := HR.loadN H hb (len * es) o l' hl
        refine ⟨by simp [Builtin.lenOf], by rw [i2.length, i1], fun k hk => ⟨(vs.take (k * es)).toArray, ?_, by simpa using i2.take (k * es)⟩⟩
        simp only [Builtin.firstCells]
        refine run_cells (P := P) (B.β b) o _ (fun j v hj => ?_) (k * es) ?_
        · rw [List.getElem?_take] at hj
          split at hj
          · exact i3 j v hj
          · cases hj
        · rw [List.length_take, i1]
          have := Nat.mul_le_mul_right es hk
          omega
      · cases hs
    · cases hs
  · rename_i s
    split at hs
    · rename_i hes
      have hes := Nat.eq_of_beq_eq_true hes
      subst hes
      simp only [Option.some.injEq, Prod.mk.injEq] at hs
      obtain ⟨rfl, rfl⟩ := hs
      obtain ⟨e1, e2⟩ := hv
      subst e1
      refine ⟨by simp [Builtin.lenOf, bs_size], by simp, fun k hk => ⟨((bs s).extract 0 k).data.map fun b => .int .u8 b.toNat, by simp [Builtin.firstCells], ?_⟩⟩
      rw [bs_extract]
      simp only [List.drop_zero, Nat.sub_zero, Nat.mul_one, bs, Array.toList_map, ← List.map_take]
      have : ∀ (l : List Nat), (∀ b ∈ l, b < 256) → LR (VC E B n) (l.map fun b => SC.int .u8 0 (Int.ofNat b)) ((l.map UInt8.ofNat).map fun b => Value.int .u8 (b.toNat : Int)) := by
        intro l
        induction l with
        | nil => intro _; trivial
        | cons b l ih =>
          intro hb
          have h256 := hb b (by simp)
          refine ⟨?_, ih fun c hc => hb c (by simp [hc])⟩
          simp only [VC, val0, UInt8.toNat_ofNat', Value.int.injEq, true_and]
          rw [show b % 2 ^ 8 = b by omega]; rfl
      exact this _ fun b hb => e2 b (List.take_subset _ _ hb)
    · cases hs
  · cases hs
theorem run_storeCells_real : ∀ (vs : List Value) (b o i : Nat) (cs : Array Value) (e : TypeId) (fr : Nat × Nat) (w : World), w.heap[b]? = some (.cells cs e fr) → o + i + vs.length ≤ cs.size → (fr.1 = fr.2 ∨ cs.size ≤ fr.1) → (∀ v ∈ vs, v.oneCell' = true) →
    ∃ w', (storeCells ⟨b, o, none⟩ vs i).run P w = .ok () w' ∧ w'.heap[b]? = some (.cells (splice cs.toList (o + i) vs).toArray e fr) ∧ (∀ r, r ≠ b → w'.heap[r]? = w.heap[r]?) ∧ w'.heap.size = w.heap.size ∧ w'.os = w.os ∧ w'.tape = w.tape ∧ w'.output = w.output
  | [], b, o, i, cs, e, fr, w, hb, _, _, _ => ⟨w, by simp [storeCells], by rw [hb, splice_nil], fun _ _ => rfl, rfl, rfl, rfl, rfl⟩
  | v :: vs, b, o, i, cs, e, fr, w, hb, hl, hf, h1 => by
    have hlt : o + i < cs.size := by simp at hl; omega
    obtain ⟨e1, e2⟩ := setCell_heap w b (o + i) v cs e fr hb
    obtain ⟨w2, r2, g1, g2, g3, g4, g5, g6⟩ := run_storeCells_real vs b o (i + 1) (cs.setIfInBounds (o + i) v) e fr (w.setCell ⟨b, o + i, none⟩ v) e1 (by simp at hl ⊢; omega) (by simpa using hf) (fun u hu => h1 u (by simp [hu]))
    refine ⟨w2, ?_, ?_, fun r hr => (g2 r hr).trans (e2 r hr), g3.trans (by simp), g4, g5, g6⟩
    · have hc : w.cell? ⟨b, o + i, none⟩ = some cs[o + i] := by simp [World.cell?, hb, hlt]
      have hz : w.frozen? ⟨b, o + i, none⟩ = false := by
        obtain ⟨lo, hi⟩ := fr
        simp only [World.frozen?, hb]
        simp only at hf
        by_cases q1 : lo ≤ o + i <;> by_cases q2 : o + i < hi <;> simp [q1, q2] <;> omega
      simp only [storeCells, Sem.run_bind, add_at, run_store P w _ v .plain (h1 v (by simp)), hc, hz, Bool.false_eq_true, if_false, Result.andThen_ok]
      exact r2
    · rw [g1, Array.toList_setIfInBounds, show o + (i + 1) = o + i + 1 by omega, splice_set _ _ _ _ (by simpa using hlt)]
theorem LR.one_all {B : Be} {n : Nat} : ∀ {l : List SC} {vs : List Value}, noUndef l = true → LR (VC E B n) l vs → ∀ v ∈ vs, v.oneCell' = true
  | [], vs, _, h, v, hv => by rw [h.nil] at hv; cases hv
  | x :: l, vs, hn, h, v, hv => by
    obtain ⟨u, vs', rfl, h1, h2⟩ := h.cons
    have hx : x ≠ .undef := by rintro rfl; simp [noUndef] at hn
    have hl : noUndef l = true := by cases x <;> first | exact absurd rfl hx | exact hn
    rcases List.mem_cons.1 hv with rfl | hv
    · exact VC.one h1 hx
    · exact LR.one_all hl h2 v hv
theorem splice_length {α : Type} : ∀ (a : List α) (o : Nat) (l : List α), (splice a o l).length = a.length
  | [], 0, [] => rfl
  | [], 0, _ :: _ => rfl
  | [], _ + 1, _ => rfl
  | _ :: _, 0, [] => rfl
  | _ :: a, 0, _ :: l => by simp [splice, splice_length a 0 l]
  | _ :: a, o + 1, l => by simp [splice, splice_length a o l]
theorem splice_get_lt {α : Type} : ∀ (a : List α) (o : Nat) (l : List α) (i : Nat), i < o → (splice a o l)[i]? = a[i]?
  | [], 0, _, _, h => by omega
  | [], _ + 1, _, _, _ => rfl
  | _ :: _, 0, _, _, h => by omega
  | x :: a, o + 1, l, 0, _ => rfl
  | x :: a, o + 1, l, i + 1, h => by simp only [splice, List.getElem?_cons_succ]; exact splice_get_lt a o l i (by omega)
theorem splice_get_in {α : Type} : ∀ (a : List α) (o : Nat) (l : List α) (i : Nat), i < l.length → o + l.length ≤ a.length → (splice a o l)[o + i]? = l[i]?
  | [], o, l, i, h1, h2 => by simp only [List.length_nil] at h2; omega
  | x :: a, 0, y :: l, 0, _, _ => rfl
  | x :: a, 0, y :: l, i + 1, h1, h2 => by
    have := splice_get_in a 0 l i (by simpa using h1) (by simp at h2; omega)
    simpa [splice] using this
  | x :: a, 0, [], i, h1, _ => by simp at h1
  | x :: a, o + 1, l, i, h1, h2 => by
    have := splice_get_in a o l i h1 (by simp at h2; omega)
    rw [show o + 1 + i = (o + i) + 1 by omega]
    simpa [splice] using this
theorem growBy_le (newLen : Nat) : ∀ (r c : Nat), c ≤ 2 * newLen + 200 → Builtin.growBy newLen r c ≤ 2 * newLen + 200
  | 0, c, h => h
  | r + 1, c, h => by
    unfold Builtin.growBy
    split
    · exact h
    · exact growBy_le newLen r _ (by omega)
theorem nextcap_le {need cap : Nat} (h : cap < need) : Builtin.nextslicecap need cap ≤ 2 * need + 200 := by
  unfold Builtin.nextslicecap
  split
  · omega
  · split
    · omega
    · exact growBy_le _ _ _ (by omega)

theorem copy_ok {ts : Array TypeId} {args : Array Operand} {y z : Operand} {k : OpK} (hargs : args.toList = [y, z]) (hk : copyK P ts y z = some k) : KOk P E k (Oper.mk dst (.call ⟨.builtin .copy, args, ts⟩) ty pos after guard) := by
  unfold copyK at hk
  split at hk
  · rename_i t htt
    split at hk
    · rename_i e hu
      split at hk
      · rename_i es hes
        simp only [Option.some.injEq] at hk; subst hk
        intro B X n T h a w x h' n' hx ht H next Q hq
        obtain ⟨c, hc⟩ := exec_builtin (dst := dst) (ty := ty) (pos := pos) (after := after) (guard := guard) a.eval .copy args ts
        rw [args2 hargs] at hc
        dsimp only at hx
        split at hx
        · rename_i u hs0 hu0
          split at hx
          · rename_i p hp
            simp only [Option.some.injEq, Prod.mk.injEq] at hx
            obtain ⟨rfl, rfl, rfl⟩ := hx
            have e1 := ht.evC hs0
            simp only [VC] at e1
            obtain ⟨i1, i2, i3⟩ := srcOf_ok (P := P) H (m := p.1) (l := p.2) hp (ht.evC hu0)
            obtain ⟨vs, j1, j2⟩ := i3 0 (by omega)
            refine chg_value (v := goInt (0 : Nat)) (x := intV 0) (B' := B) (w' := w) ?_ (Ext.refl _ _) (Nat.le_refl _) H (FR.refl _ _) (by simp [intV, sc, VV, VA, VC, Env.val, goInt]) hq
            have hmin : Nat.min p.1 0 = 0 := by simp
            rw [hc]
            simp [builtin, Builtin.copy_, htt, run_under hu, e1, i1, run_size hes, j1]
          · cases hx
        · rename_i b o len cap es' ex u hs0 hu0
          split at hx
          · rename_i m l hee hsrc
            split at hx
            · rename_i h2 hst
              simp only [Option.some.injEq, Prod.mk.injEq] at hx
              obtain ⟨rfl, rfl, rfl⟩ := hx
              obtain ⟨e0, cap', e1, _⟩ := ht.evC hs0
              obtain ⟨i1, i2, i3⟩ := srcOf_ok (P := P) H hsrc (ht.evC hu0)
              obtain ⟨vs, j1, j2⟩ := i3 (min m len) (Nat.min_le_left _ _)
              obtain ⟨w', r, H', F', _⟩ := H.store (P := P) hst j2
              refine chg_value (v := goInt (min m len : Nat)) (x := intV (min m len)) (B' := B) (w' := w') ?_ (Ext.refl _ _) (Nat.le_refl _) H' F' (by simp only [intV, sc, VV, VA, VC, val0, goInt]; rfl) hq
              rw [hc]
              have hmin : Nat.min m len = min m len := rfl
              simp only [builtin, Builtin.copy_, Sem.run_bind]
              simp [htt, run_under hu, e1, i1, run_size hes, hmin, j1, r]
            · cases hx
          · cases hx
        · cases hx
      · cases hk
    · cases hk
  · cases hk
theorem zeroCells_rep (z : Array Value) (hz : 0 < z.size) (k : Nat) : (Builtin.zeroCells z k).toList = repL z.toList k := range_rep z hz k
theorem clear_ok {ts : Array TypeId} {args : Array Operand} {y : Operand} {k : OpK} (hargs : args.toList = [y]) (hk : clearK P ts y = some k) : KOk P E k (Oper.mk dst (.call ⟨.builtin .clear, args, ts⟩) ty pos after guard) := by
  unfold clearK at hk
  split at hk
  · rename_i t htt
    split at hk
    · rename_i e hu
      split at hk
      · rename_i es z hes hz
        obtain ⟨v, hv, hl⟩ := zero_run (E := E) hz
        split at hk
        · rename_i hzl
          have hzl := Nat.eq_of_beq_eq_true hzl
          simp only [Option.some.injEq] at hk; subst hk
          intro B X n T h a w x h' n' hx ht H next Q hq
          obtain ⟨c, hc⟩ := exec_builtin (dst := dst) (ty := ty) (pos := pos) (after := after) (guard := guard) a.eval .clear args ts
          rw [args1 hargs] at hc
          have hun : VV E B n (.t []) (.tuple #[]) := ⟨#[], rfl, trivial⟩
          dsimp only at hx
          split at hx
          · rename_i hs0
            simp only [Option.some.injEq, Prod.mk.injEq] at hx
            obtain ⟨rfl, rfl, rfl⟩ := hx
            have e1 := ht.evC hs0
            simp only [VC] at e1
            refine chg_value (v := .tuple #[]) (x := .t []) (B' := B) (w' := w) ?_ (Ext.refl _ _) (Nat.le_refl _) H (FR.refl _ _) hun hq
            rw [hc]
            simp [builtin, Builtin.clear_, htt, run_under hu, e1]
          · rename_i b o len cap es' ex hs0
            split at hx
            · rename_i hee
              split at hx
              · rename_i h2 hst
                simp only [Option.some.injEq, Prod.mk.injEq] at hx
                obtain ⟨rfl, rfl, rfl⟩ := hx
                obtain ⟨e0, cap', e1, _⟩ := ht.evC hs0
                have hrl : LR (VC E B n) (repL z len) (repL v.cells.toList len) := (hl B n).rep len
                obtain ⟨w', r, H', F', _⟩ := H.store (P := P) hst hrl
                refine chg_value (v := .tuple #[]) (x := .t []) (B' := B) (w' := w') ?_ (Ext.refl _ _) (Nat.le_refl _) H' F' hun hq
                rw [hc]
                cases len with
                | zero =>
                  simp only [repL, storeCells] at r
                  have r : (pure () : Sem Unit).run P w = .ok () w' := r
                  simp only [Sem.run_pure, Result.ok.injEq, true_and] at r
                  subst r
                  simp [builtin, Builtin.clear_, htt, run_under hu, e1]
                | succ len =>
                  have hvs : v.cells.size = es := by rw [← Array.length_toList, ← (hl B n).length, hzl]
                  by_cases h0 : es = 0
                  · have hz0 : (Builtin.zeroCells v.cells (len + 1)).toList = repL v.cells.toList (len + 1) := by
                      have hvn : v.cells = #[] := Array.ext' (by simpa using List.eq_nil_of_length_eq_zero (show v.cells.toList.length = 0 by rw [Array.length_toList]; omega))
                      rw [hvn]
                      have : ∀ k, repL ([] : List Value) k = [] := by
                        intro k
                        induction k with
                        | zero => rfl
                        | succ k ih => simpa [repL] using ih
                      rw [show (#[] : Array Value).toList = [] from rfl, this]
                      simp [Builtin.zeroCells]
                    simp [builtin, Builtin.clear_, htt, run_under hu, e1, hv, hz0, r]
                  · have hz0 := zeroCells_rep v.cells (by omega) (len + 1)
                    simp [builtin, Builtin.clear_, htt, run_under hu, e1, hv, hz0, r]
              · cases hx
            · cases hx
          · cases hx
        · cases hk
      · cases hk
    · cases hk
  · cases hk
theorem min_ok (hF : FxOk F E) {ts : Array TypeId} {args : Array Operand} {y : Operand} {r : List Operand} (hargs : args.toList = y :: r) : KOk P E (.pure fun T => match evC y T with
    | some v => match minL F v r T with | some u => some (sc u) | none => none
    | none => none) (Oper.mk dst (.call ⟨.builtin .min, args, ts⟩) ty pos after guard) := by
  intro B n T a x hx ht w
  obtain ⟨c, hc⟩ := exec_builtin (dst := dst) (ty := ty) (pos := pos) (after := after) (guard := guard) a.eval .min args ts
  dsimp only at hx
  split at hx
  · rename_i p hp
    split at hx
    · rename_i u hu
      simp only [Option.some.injEq] at hx; subst hx
      obtain ⟨v, r1, hV⟩ := minL_ok (P := P) hF ht w r p u (a.eval y) hu (ht.evC hp)
      refine ⟨v, ?_, hV⟩
      rw [hc]
      have : (args.map a.eval).toList = a.eval y :: r.map a.eval := by simp [hargs]
      simp only [builtin, Builtin.min_, this, Sem.run_bind, r1, Result.andThen_ok, Sem.run_pure]
    · cases hx
  · cases hx
theorem max_ok (hF : FxOk F E) {ts : Array TypeId} {args : Array Operand} {y z : Operand} (hargs : args.toList = [y, z]) : KOk P E (.pure (maxF F y z)) (Oper.mk dst (.call ⟨.builtin .max, args, ts⟩) ty pos after guard) := by
  intro B n T a x hx ht w
  obtain ⟨c, hc⟩ := exec_builtin (dst := dst) (ty := ty) (pos := pos) (after := after) (guard := guard) a.eval .max args ts
  rw [args2 hargs] at hc
  unfold maxF at hx
  split at hx
  · rename_i k v c1 k' v' d hy hz
    have ey := ht.evC hy
    have ez := ht.evC hz
    simp only [VC] at ey ez
    split at hx
    · rename_i hl
      have hl := of_decide_eq_true (ltI_ok hF hl).symm
      simp only [Option.some.injEq] at hx; subst hx
      refine ⟨.int k (E.val v' + d), ?_, rfl⟩
      rw [hc]
      have : E.val v' + d > E.val v + c1 := hl
      simp [builtin, Builtin.max_, Builtin.max2, ey, ez, this]
    · rename_i hl
      have hl := of_decide_eq_false (ltI_ok hF hl).symm
      simp only [Option.some.injEq] at hx; subst hx
      refine ⟨.int k (E.val v + c1), ?_, rfl⟩
      rw [hc]
      have : ¬ E.val v' + d > E.val v + c1 := hl
      simp only [builtin, Builtin.max_, Builtin.max2, ey, ez, List.foldlM_cons, List.foldlM_nil, Sem.run_bind, Sem.run_pure, if_neg this, Result.andThen_ok]
    · cases hx
  · cases hx
end Go.Cx
