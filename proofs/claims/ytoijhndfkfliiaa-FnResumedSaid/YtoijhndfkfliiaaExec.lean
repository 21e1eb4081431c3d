/- The executor: operations in a small form of their own, and what each of them does to symbolic values and named rows. -/
import Derived.Test.YtoijhndfkfliiaaFrame
namespace Go.Sep
set_option linter.unusedVariables false
set_option linter.unusedSimpArgs false

inductive Arg where
  | t (n : Nat)
  | c (v : AV)

inductive MOp where
  | mv (x : Arg)
  | pick (c a b : Arg)
  | alloc (zero : List AV)
  | box (x : Arg)
  | build (zero : List AV) (parts : List (Nat × Nat × Arg))
  | mkSl (zero : List AV) (len : Nat) (parts : List (Nat × Arg))
  | load (n : Nat) (ag : Bool) (a : Arg)
  | store (n : Nat) (a v : Arg)
  | nilck (x : Arg)
  | bin (op : BinOp) (x y : Arg)
  | eqS (neg : Bool) (ks : List Bool) (x y : Arg)
  | eqB (neg : Bool) (x y : Arg)
  | neNil (x : Arg)
  | un (op : UnOp) (x : Arg)
  | cvi (k : IntKind) (x : Arg)
  | cvs (x : Arg)
  | mkS (zero : List AV) (bytes : Nat) (l c : Arg)
  | cut (sz : Nat) (x : Arg) (lo hi : Option Arg)
  | cutS (x : Arg) (lo hi : Option Arg)
  | fad (off : Nat) (x : Arg)
  | fld (off n : Nat) (ag : Bool) (x : Arg)
  | iad (sz : Nat) (x i : Arg)
  | idx (x i : Arg)
  | ext (x : Arg) (i : Nat)
  | len (x : Arg)
  | lenS (x : Arg)
  | mx (x y : Arg)
  | app (sz bytes : Nat) (s x : Arg)
  | call (f : Nat) (ps : List Bool) (xs : List Arg)
  | calv (g : Arg) (xs : List Arg)

structure MOper where
  dst : Option Nat
  op : MOp
  guard : Option (Nat × Bool) := none

/-- The order in which a drawn region is walked: reads that are taken early; the one that may come up; two that may come up. -/
inductive DTree where
  | done
  | take (i : Nat) (o : MOper) (k : DTree)
  | only (i : Nat) (deps : List Nat) (o : MOper) (k : DTree)
  | both (i : Nat) (di : List Nat) (o : MOper) (k : DTree) (j : Nat) (dj : List Nat) (p : MOper) (l : DTree)

inductive MCode where
  | skip
  | dreg (tr : DTree)
  | reg (draw : Bool) (ops : List MOper)
  | seq (a b : MCode)
  | cond (x : Nat) (a b : MCode)
  | blk (id : Nat) (a : MCode)
  | loop (a : MCode)
  | exit (id : Nat)
  | ret

inductive MRes where
  | t (n : Nat)
  | cell (a n : Nat) (ag : Bool)

structure MFn where
  ntmps : Nat
  results : List MRes
  body : MCode

/-- The state: temporaries, named rows, the next name. (Two constructors: so no state but one that is told opens by itself.) -/
inductive AS where
  | mk (t : List (Nat × AV)) (h : Heap) (nx : Nat)
  | bad

def lookT : List (Nat × AV) → Nat → AV
  | [], _ => .any
  | (m, v) :: l, n => if n = m then v else lookT l n

def putT (l : List (Nat × AV)) (n : Nat) (v : AV) : List (Nat × AV) := (n, v) :: l

def putD (l : List (Nat × AV)) : Option Nat → AV → List (Nat × AV)
  | none, _ => l
  | some n, v => putT l n v

def Arg.ev (ρ : Nat → AV) : Arg → AV
  | .t n => ρ n
  | .c v => v

def put : Heap → Nat → Row → Heap
  | [], n, r => [(n, r)]
  | (m, s) :: h, n, r => if n = m then (m, r) :: h else (m, s) :: put h n r

def del : Heap → Nat → Heap
  | [], _ => []
  | (m, s) :: h, n => if n = m then del h n else (m, s) :: del h n

/-- What a step does to the rows: their names, as they were, as they are. -/
abbrev FP := List (Nat × Option Row × Option Row)

def app1 (h : Heap) : FP → Heap
  | [] => h
  | (n, _, some r) :: fp => app1 (put h n r) fp
  | (n, _, none) :: fp => app1 (del h n) fp

def cellsOf : AV → List AV
  | .agg cs => cs
  | v => [v]

/-- Slices of our own that stand in cells get names. -/
def openL : Nat → List AV → List AV × List (Nat × Row) × Nat
  | n, [] => ([], [], n)
  | n, .sl .own sz rows :: l => (.ns n 0 rows.length :: (openL (n + 1) l).1, (n, (sz, rows)) :: (openL (n + 1) l).2.1, (openL (n + 1) l).2.2)
  | n, v :: l => (v :: (openL n l).1, (openL n l).2.1, (openL n l).2.2)

def fresh (l : List (Nat × Row)) : FP := l.map fun x => (x.1, none, some x.2)

def splice (r : List AV) (f : Nat) (cs : List AV) : List AV := r.take f ++ cs ++ r.drop (f + cs.length)

def fillA (ρ : Nat → AV) : List AV → List (Nat × Nat × Arg) → List AV
  | cs, [] => cs
  | cs, (off, _, x) :: l => fillA ρ (splice cs off (cellsOf (x.ev ρ))) l

def fillOk (ρ : Nat → AV) (n : Nat) : List (Nat × Nat × Arg) → Prop
  | [] => True
  | (off, sz, x) :: l => ((cellsOf (x.ev ρ)).length = sz ∧ (cellsOf (x.ev ρ)).all cellOk = true ∧ off + sz ≤ n) ∧ fillOk ρ n l

def fillR (ρ : Nat → AV) : List (List AV) → List (Nat × Arg) → List (List AV)
  | rs, [] => rs
  | rs, (i, x) :: l => fillR ρ (rs.set i (cellsOf (x.ev ρ))) l

def fillROk (ρ : Nat → AV) (n sz : Nat) : List (Nat × Arg) → Prop
  | [] => True
  | (i, x) :: l => (i < n ∧ (cellsOf (x.ev ρ)).length = sz ∧ (cellsOf (x.ev ρ)).all cellOk = true) ∧ fillROk ρ n sz l

def isOwn : AV → Bool
  | .sl .own _ _ => true
  | .agg _ | .tup _ | .fn _ _ => true
  | _ => false

/-- No cell owns anything. -/
def free (rows : List (List AV)) : Prop := ∀ r ∈ rows, ∀ c ∈ r, isOwn c = false

/-- Are cells alike, whole numbers (true) and bools (false)? -/
def eqC : List Bool → List AV → List AV → Option Bool
  | [], [], [] => some true
  | true :: ks, .int k a :: xs, .int k' b :: ys => if k = k' then (eqC ks xs ys).map (fun r => decide (a = b) && r) else none
  | false :: ks, .bool a :: xs, .bool b :: ys => (eqC ks xs ys).map (fun r => (a == b) && r)
  | _, _, _ => none

abbrev Out := Option (Prop × AV × FP × Nat)

def ok (v : AV) (n : Nat) : Out := some (True, v, [], n)

def bAnd (k : IntKind) (a b : Int) : Int := k.wrap (BitVec.ofInt k.bits a &&& BitVec.ofInt k.bits b).toNat
def bOr (k : IntKind) (a b : Int) : Int := k.wrap (BitVec.ofInt k.bits a ||| BitVec.ofInt k.bits b).toNat
def bXor (k : IntKind) (a b : Int) : Int := k.wrap (BitVec.ofInt k.bits a ^^^ BitVec.ofInt k.bits b).toNat
def bShl (k : IntKind) (a b : Int) : Int := k.wrap (a * 2 ^ (min b.toNat k.bits))
def bShr (k : IntKind) (a b : Int) : Int := a.fdiv (2 ^ (min b.toNat k.bits))

/-- A shift by a number of another kind. -/
def shiftA (op : BinOp) (k : IntKind) (a b : Int) : Option (Prop × AV) :=
  match op with
  | .shl => some (0 ≤ b, .int k (bShl k a b))
  | .shr => some (0 ≤ b, .int k (bShr k a b))
  | _ => none

def binA (op : BinOp) (x y : AV) : Option (Prop × AV) :=
  match x, y with
  | .int k a, .int k' b =>
    if k = k' then
      match op with
      | .add => some (True, .int k (k.wrap (a + b)))
      | .sub => some (True, .int k (k.wrap (a - b)))
      | .mul => some (True, .int k (k.wrap (a * b)))
      | .quo => some (b ≠ 0, .int k (k.wrap (a.tdiv b)))
      | .rem => some (b ≠ 0, .int k (a.tmod b))
      | .eql => some (True, .bool (decide (a = b)))
      | .neq => some (True, .bool (!decide (a = b)))
      | .lss => some (True, .bool (decide (a < b)))
      | .leq => some (True, .bool (decide (a ≤ b)))
      | .gtr => some (True, .bool (decide (b < a)))
      | .geq => some (True, .bool (decide (b ≤ a)))
      | .and => some (True, .int k (bAnd k a b))
      | .or => some (True, .int k (bOr k a b))
      | .xor => some (True, .int k (bXor k a b))
      | .shl => some (0 ≤ b, .int k (bShl k a b))
      | .shr => some (0 ≤ b, .int k (bShr k a b))
      | _ => none
    else shiftA op k a b
  | .str a, .str b =>
    match op with
    | .add => some (((a.size + b.size : Nat) : Int) ≤ 9223372036854775807, .str (a ++ b))
    | .eql => some (True, .bool (decide (a = b)))
    | .neq => some (True, .bool (!decide (a = b)))
    | _ => none
  | _, _ => none

/-- The elements of a slice, its rows that are read, the conditions. -/
def srcA (h : Heap) (sz : Nat) : AV → Option (Prop × List (List AV) × FP)
  | .nil => some (True, [], [])
  | .ns nm off len => (look h nm).map fun row => (row.1 = sz ∧ off + len ≤ row.2.length ∧ free ((row.2.drop off).take len), (row.2.drop off).take len, [(nm, some row, some row)])
  | .sl .bw s rows => some (s = sz ∧ free rows, rows, [])
  | .sl .fz s rows => some (s = sz ∧ free rows, rows, [])
  | _ => none

def bytesOf : List (List AV) → Option (List UInt8)
  | [] => some []
  | [.int .u8 n] :: l => (bytesOf l).map (UInt8.ofNat n.toNat :: ·)
  | _ => none

/-- A bound of a cut; the default, where there is none. -/
def bnd? (ρ : Nat → AV) (d : Int) : Option Arg → Option Int
  | none => some d
  | some a => match a.ev ρ with
    | .int _ n => some n
    | _ => none

/-- What an operation does: a condition, its value, the rows, the next name. -/
def plan (ρ : Nat → AV) (h : Heap) (nx : Nat) : MOp → Out
  | .mv x => ok (x.ev ρ) nx
  | .pick c a b => match c.ev ρ with
    | .bool q => match a.ev ρ, b.ev ρ with
      | .bool x, .bool y => ok (.bool (bif q then x else y)) nx
      | x, y => ok (bif q then x else y) nx
    | _ => none
  | .alloc zero => some (0 < zero.length, .ptr nx 0 0, [(nx, none, some (zero.length, [zero]))], nx + 1)
  | .box x => some ((cellsOf (x.ev ρ)).all cellOk = true ∧ 0 < (cellsOf (x.ev ρ)).length, .ptr nx 0 0, [(nx, none, some ((cellsOf (x.ev ρ)).length, [cellsOf (x.ev ρ)]))], nx + 1)
  | .build zero parts => some (fillOk ρ zero.length parts, .agg (fillA ρ zero parts), [], nx)
  | .mkSl zero len parts => some (fillROk ρ len zero.length parts, .ns nx 0 len, [(nx, none, some (zero.length, fillR ρ (List.replicate len zero) parts))], nx + 1)
  | .load n ag a => match a.ev ρ with
    | .ptr nm i f => (look h nm).map fun row =>
      let o := openL nx (((row.2.getD i []).drop f).take n)
      (i < row.2.length ∧ f + n ≤ (row.2.getD i []).length, if ag then .agg o.1 else o.1.getD 0 .any,
        (nm, some row, some (if o.2.1.isEmpty then row else (row.1, row.2.set i (splice (row.2.getD i []) f o.1)))) :: fresh o.2.1, o.2.2)
    | .fptr m cells f => some (f + n ≤ cells.length, if ag then .agg ((cells.drop f).take n) else ((cells.drop f).take n).getD 0 .any, [], nx)
    | _ => none
  | .store n a v => match a.ev ρ with
    | .ptr nm i f => (look h nm).map fun row =>
      ((cellsOf (v.ev ρ)).length = n ∧ (cellsOf (v.ev ρ)).all cellOk = true ∧ i < row.2.length ∧ f + n ≤ (row.2.getD i []).length, .any,
        [(nm, some row, some (row.1, row.2.set i (splice (row.2.getD i []) f (cellsOf (v.ev ρ)))))], nx)
    | _ => none
  | .nilck x => match x.ev ρ with
    | .ptr nm i f => (look h nm).map fun row => (True, .ptr nm i f, [(nm, some row, some row)], nx)
    | .fptr m cs f => ok (.fptr m cs f) nx
    | _ => none
  | .bin op x y => (binA op (x.ev ρ) (y.ev ρ)).map fun r => (r.1, r.2, [], nx)
  | .eqS neg ks x y => match x.ev ρ, y.ev ρ with
    | .agg xs, .agg ys => (eqC ks xs ys).map fun r => (True, .bool (if neg then !r else r), [], nx)
    | _, _ => none
  | .eqB neg x y => match x.ev ρ, y.ev ρ with
    | .bool a, .bool b => ok (.bool (if neg then !(a == b) else a == b)) nx
    | _, _ => none
  | .neNil x => match x.ev ρ with
    | .nilI => ok (.bool false) nx
    | .ifc => ok (.bool true) nx
    | _ => none
  | .un op x => match op, x.ev ρ with
    | .not, .bool b => ok (.bool !b) nx
    | .neg, .int k n => ok (.int k (k.wrap (0 - n))) nx
    | _, _ => none
  | .cvi k x => match x.ev ρ with
    | .int _ n => ok (.int k (k.wrap n)) nx
    | _ => none
  | .cvs x => (srcA h 1 (x.ev ρ)).bind fun r => (bytesOf r.2.1).map fun l => (r.1, .str ⟨l.toArray⟩, r.2.2, nx)
  | .mkS zero bytes l c => match l.ev ρ, c.ev ρ with
    | .int .i64 a, .int .i64 b => some (a = b ∧ 0 ≤ a ∧ (bytes : Int) * a ≤ 2 ^ 47 ∧ a ≤ 2 ^ 47, .ns nx 0 a.toNat, [(nx, none, some (zero.length, List.replicate a.toNat zero))], nx + 1)
    | _, _ => none
  | .cut sz x lo hi => (bnd? ρ 0 lo).bind fun l =>
      match x.ev ρ with
      | .nil => (bnd? ρ 0 hi).map fun h => (l = 0 ∧ h = 0, .nil, [], nx)
      | .ns nm off len => (look h nm).bind fun row => (bnd? ρ len hi).map fun h =>
          (row.1 = sz ∧ off + len ≤ row.2.length ∧ 0 ≤ l ∧ l ≤ h ∧ h ≤ len, .ns nm (off + l.toNat) (h.toNat - l.toNat), [(nm, some row, some row)], nx)
      | .sl .bw s rows => (bnd? ρ rows.length hi).map fun h => (s = sz ∧ 0 ≤ l ∧ l ≤ h ∧ h ≤ rows.length, .sl .bw s ((rows.drop l.toNat).take (h.toNat - l.toNat)), [], nx)
      | .sl .fz s rows => (bnd? ρ rows.length hi).map fun h => (s = sz ∧ 0 ≤ l ∧ l ≤ h ∧ h ≤ rows.length, .sl .fz s ((rows.drop l.toNat).take (h.toNat - l.toNat)), [], nx)
      | _ => none
  | .cutS x lo hi => (bnd? ρ 0 lo).bind fun l =>
      match x.ev ρ with
      | .str s => (bnd? ρ s.size hi).map fun h => (0 ≤ l ∧ l ≤ h ∧ h ≤ s.size, .str (s.extract l.toNat h.toNat), [], nx)
      | _ => none
  | .fad off x => match x.ev ρ with
    | .ptr nm i f => (look h nm).map fun row => (True, .ptr nm i (f + off), [(nm, some row, some row)], nx)
    | .fptr m cs f => ok (.fptr m cs (f + off)) nx
    | _ => none
  | .fld off n ag x => match x.ev ρ with
    | .agg cs => some (off + n ≤ cs.length, if ag then .agg ((cs.drop off).take n) else cs.getD off .any, [], nx)
    | _ => none
  | .iad sz x i => match x.ev ρ, i.ev ρ with
    | .ns nm off len, .int _ j => (look h nm).map fun row => (row.1 = sz ∧ off + len ≤ row.2.length ∧ 0 ≤ j ∧ j < len, .ptr nm (off + j.toNat) 0, [(nm, some row, some row)], nx)
    | .sl .bw s rows, .int _ j => some (s = sz ∧ 0 ≤ j ∧ j < rows.length, .fptr .bw (rows.getD j.toNat []) 0, [], nx)
    | .sl .fz s rows, .int _ j => some (s = sz ∧ 0 ≤ j ∧ j < rows.length, .fptr .fz (rows.getD j.toNat []) 0, [], nx)
    | _, _ => none
  | .idx x i => match x.ev ρ, i.ev ρ with
    | .str s, .int _ j => some (0 ≤ j ∧ j < s.size, .int .u8 ((s.data.getD j.toNat 0).toNat : Nat), [], nx)
    | _, _ => none
  | .ext x i => match x.ev ρ with
    | .tup vs => some (i < vs.length, vs.getD i .any, [], nx)
    | _ => none
  | .len x => match x.ev ρ with
    | .nil => ok (.int .i64 0) nx
    | .ns nm off l => (look h nm).map fun row => (True, .int .i64 l, [(nm, some row, some row)], nx)
    | .sl .bw _ rows => ok (.int .i64 rows.length) nx
    | .sl .fz _ rows => ok (.int .i64 rows.length) nx
    | _ => none
  | .lenS x => match x.ev ρ with
    | .str s => ok (.int .i64 s.size) nx
    | _ => none
  | .mx x y => match x.ev ρ, y.ev ρ with
    | .int k a, .int k' b => if k = k' then ok (.int k (if b > a then b else a)) nx else none
    | _, _ => none
  | .app sz bytes s x => (srcA h sz (x.ev ρ)).bind fun r =>
    match s.ev ρ with
    | .nil => some (r.1 ∧ 0 < sz ∧ bytes * r.2.1.length ≤ 2 ^ 47 ∧ r.2.1.length ≤ 2 ^ 47, .ns nx 0 r.2.1.length, r.2.2 ++ [(nx, none, some (sz, r.2.1))], nx + 1)
    | .ns nm off len => (look h nm).map fun row => (r.1 ∧ 0 < sz ∧ row.1 = sz ∧ off + len = row.2.length ∧ (∀ x ∈ r.2.2, x.1 ≠ nm) ∧ bytes * (len + r.2.1.length) ≤ 2 ^ 47 ∧ len + r.2.1.length ≤ 2 ^ 47,
        .ns nx 0 (len + r.2.1.length), r.2.2 ++ [(nm, some row, none), (nx, none, some (sz, row.2.drop off ++ r.2.1))], nx + 1)
    | _ => none
  | .call _ _ _ | .calv _ _ => none

def isRead : MOp → Bool
  | .alloc _ | .box _ | .mkSl .. | .store .. | .mkS .. | .app .. | .call .. | .calv .. => false
  | _ => true

def isCall : MOp → Bool
  | .call .. | .calv .. => true
  | _ => false

end Go.Sep
