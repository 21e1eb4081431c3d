/- The check that the model's code is the executor's code: by looking alone. -/
import Derived.Test.YtoijhndfkfliiaaTri
namespace Go.Sep
set_option linter.unusedVariables false
set_option linter.unusedSimpArgs false

def chkZero (P : Program) (t : TypeId) (zero : List AV) : Bool :=
  match P.info? t with
  | some i => i.size == zero.length && zero.all cellOk && (match i.zero with
    | some z => chkVs zero z.cells.toList
    | none => false)
  | none => false

def sizeIs (P : Program) (t : TypeId) (n : Nat) : Bool := (P.info? t).map (·.size) == some n
def bytesIs (P : Program) (t : TypeId) (n : Nat) : Bool := (P.info? t).map (·.bytes) == some n

def elemOf? (P : Program) (t : TypeId) : Option TypeId :=
  match P.underlying t with
  | some (.slice e) => some e
  | _ => none

def fieldsOf (P : Program) (t : TypeId) : Option (Array Field) :=
  match P.underlying t with
  | some (.struct fs) => some fs
  | _ => none

def isStr (P : Program) (t : TypeId) : Bool := match P.underlying t with | some .string => true | _ => false
def isBool (P : Program) (t : TypeId) : Bool := match P.underlying t with | some .bool => true | _ => false
def isInt (P : Program) (t : TypeId) : Bool := match P.underlying t with | some (.int _) => true | _ => false
def isIface (P : Program) (t : TypeId) : Bool := match P.underlying t with | some (.interface _) => true | _ => false

def chkO (num : Nat → Nat) : Option Operand → Option Arg → Bool
  | none, none => true
  | some x, some y => chkA num x y
  | _, _ => false

def chkParts (P : Program) (num : Nat → Nat) (fs : Array Field) : List (Nat × Operand) → List (Nat × Nat × Arg) → Bool
  | [], [] => true
  | (i, x) :: ps, (off, sz, y) :: qs => (match fs[i]? with | some f => f.offset == off && sizeIs P f.type sz | none => false) && chkA num x y && chkParts P num fs ps qs
  | _, _ => false

def chkRows (num : Nat → Nat) : List (Nat × Operand) → List (Nat × Arg) → Bool
  | [], [] => true
  | (i, x) :: ps, (j, y) :: qs => i == j && chkA num x y && chkRows num ps qs
  | _, _ => false

/-- Fields of one cell each, of whole numbers (true) or bools (false), one behind the other. -/
def flatFields (P : Program) : Nat → List Bool → List Field → Bool
  | _, [], [] => true
  | i, k :: ks, f :: fs => f.name != "_" && f.offset == i && (if k then isInt P f.type else isBool P f.type) && flatFields P (i + 1) ks fs
  | _, _, _ => false

def chkOp (P : Program) (num : Nat → Nat) : MOp → Op → Bool
  | .mv y, op => (match op with | .move x | .assign x => chkA num x y | _ => false)
  | .pick c a b, op => (match op with | .pick c' a' b' => chkA num c' c && chkA num a' a && chkA num b' b | _ => false)
  | .alloc zero, op => (match op with | .alloc t => chkZero P t zero | _ => false)
  | .box y, op => (match op with | .box _ x => chkA num x y | _ => false)
  | .build zero parts, op => (match op with
    | .build t ps => chkZero P t zero && (match fieldsOf P t with
      | some fs => fs.toList.all (fun f => (P.info? f.type).isSome) && chkParts P num fs ps.toList parts
      | none => false)
    | _ => false)
  | .mkSl zero len parts, op => (match op with
    | .buildSlice t l ps => l == len && (match elemOf? P t with
      | some el => chkZero P el zero && decide (0 < zero.length) && decide (len * zero.length ≤ 2 ^ 24) && chkRows num ps.toList parts
      | none => false)
    | _ => false)
  | .load n ag y, op => (match op with | .load t x => chkA num x y && sizeIs P t n && aggB P t == some ag && (ag || n == 1) | _ => false)
  | .store n y z, op => (match op with | .store t x v => chkA num x y && chkA num v z && sizeIs P t n | _ => false)
  | .nilck y, op => (match op with | .nilCheck x => chkA num x y | _ => false)
  | .bin b y z, op => (match op with | .binOp b' t x v _ => b == b' && chkA num x y && chkA num v z | _ => false)
  | .eqS neg ks y z, op => (match op with
    | .binOp b t x v _ => (if neg then b == .neq else b == .eql) && chkA num x y && chkA num v z && (match fieldsOf P t with
      | some fs => flatFields P 0 ks fs.toList && !P.stoodInHeld t && !P.eqGuardType P.depth t
      | none => false)
    | _ => false)
  | .eqB neg y z, op => (match op with | .binOp b t x v _ => (if neg then b == .neq else b == .eql) && chkA num x y && chkA num v z && isBool P t | _ => false)
  | .neNil y, op => (match op with | .binOp .neq t x (.const .nilIface) _ => chkA num x y && isIface P t | _ => false)
  | .un u y, op => (match op with | .unOp u' _ x => u == u' && chkA num x y | _ => false)
  | .cvi k y, op => (match op with | .convert s d x => chkA num x y && (match P.underlying s, P.underlying d with | some _, some (.int k') => k == k' | _, _ => false) | _ => false)
  | .cvs y, op => (match op with | .convert s d x => chkA num x y && isStr P d && (match elemOf? P s with | some el => (match P.underlying el with | some (.int .u8) => true | _ => false) | none => false) | _ => false)
  | .mkS zero bytes l c, op => (match op with
    | .makeSlice t l' c' => chkA num l' l && chkA num c' c && (match elemOf? P t with | some el => chkZero P el zero && decide (0 < zero.length) && bytesIs P el bytes | none => false)
    | _ => false)
  | .cut sz y lo hi, op => (match op with
    | .slice t x l h none => chkA num x y && chkO num l lo && chkO num h hi && (match elemOf? P t with | some el => sizeIs P el sz | none => false)
    | _ => false)
  | .cutS y lo hi, op => (match op with | .slice t x l h none => chkA num x y && chkO num l lo && chkO num h hi && isStr P t | _ => false)
  | .fad off y, op => (match op with
    | .fieldAddr s x f => chkA num x y && (match fieldsOf P s with | some fs => (match fs[f]? with | some g => g.offset == off && (match P.info? g.type with | some i => i.size != 0 | none => false) | none => false) | none => false)
    | _ => false)
  | .fld off n ag y, op => (match op with
    | .field t x f => chkA num x y && (match fieldsOf P t with | some fs => (match fs[f]? with | some g => g.offset == off && sizeIs P g.type n && aggB P g.type == some ag && (ag || n == 1) | none => false) | none => false)
    | _ => false)
  | .iad sz y z, op => (match op with | .indexAddr t x i => chkA num x y && chkA num i z && (match elemOf? P t with | some el => sizeIs P el sz | none => false) | _ => false)
  | .idx y z, op => (match op with | .index t x i => chkA num x y && chkA num i z && isStr P t | _ => false)
  | .ext y i, op => (match op with | .extract x j => chkA num x y && i == j | _ => false)
  | .len y, op => (match op with | .call { callee := .builtin .len, args, argTypes } => (match args.toList, argTypes[0]? with | [x], some t => chkA num x y && (elemOf? P t).isSome | _, _ => false) | _ => false)
  | .lenS y, op => (match op with | .call { callee := .builtin .len, args, argTypes } => (match args.toList, argTypes[0]? with | [x], some t => chkA num x y && isStr P t | _, _ => false) | _ => false)
  | .mx y z, op => (match op with | .call { callee := .builtin .max, args, argTypes } => (match args.toList with | [x, v] => chkA num x y && chkA num v z | _ => false) | _ => false)
  | .app sz bytes y z, op => (match op with
    | .call { callee := .builtin .append, args, argTypes } => (match args.toList, argTypes[0]?, argTypes[1]? with
      | [x, v], some t, some u => chkA num x y && chkA num v z && (elemOf? P u).isSome && (match elemOf? P t with | some el => sizeIs P el sz && bytesIs P el bytes && (match P.info? el with | some i => (match i.zero with | some z => z.cells.size == sz | none => false) | none => false) | none => false)
      | _, _, _ => false)
    | _ => false)
  | .call g _ ys, op => (match op with | .call { callee := .value (.func f), args, argTypes } => f == num g && chkAs num args.toList ys | _ => false)
  | .calv y ys, op => (match op with | .call { callee := .value x, args, argTypes } => chkA num x y && chkAs num args.toList ys | _ => false)

def chkOper (P : Program) (num : Nat → Nat) (ops : Array Oper) (m : MOper) (o : Oper) : Bool :=
  o.dst == m.dst && chkOp P num m.op o.op &&
  (match o.guard, m.guard with
  | none, none => true
  | some (j, w), some (t, w') => w == w' && (ops[j]?).bind (·.dst) == some t
  | _, _ => false)

def chkOpers (P : Program) (num : Nat → Nat) (ops : Array Oper) : List MOper → List Oper → Bool
  | [], [] => true
  | m :: ms, o :: os => chkOper P num ops m o && chkOpers P num ops ms os
  | _, _ => false

end Go.Sep
