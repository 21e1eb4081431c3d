/- What is to be shown of a code, told by the executor; and that it suffices. -/
import Derived.Test.YtoijhndfkfliiaaState
namespace Go.Sep
set_option linter.unusedVariables false
set_option linter.unusedSimpArgs false

/-- What agrees with s agrees with s'. -/
def Sub (s s' : AS) : Prop := ∀ (B : Base) (a : Act) (w : World), St B s a w → St B s' a w

theorem Sub.refl (s : AS) : Sub s s := fun _ _ _ h => h
theorem Sub.trans {s s' s'' : AS} (h : Sub s s') (h' : Sub s' s'') : Sub s s'' := fun B a w k => h' B a w (h B a w k)

/-- A call takes s to s'. -/
def CallTo (P : Program) (num : Nat → Nat) (m : MOp) (dst : Option Nat) (s s' : AS) : Prop :=
  ∀ (B : Base) (o : Oper) (a : Act) (w : World) (K : Act → World → Prop) (Q : Exit → Act → World → Prop), B.num = num → chkOp P num m o.op = true → o.dst = dst → dstOk B.nt dst = true → St B s a w →
    (∀ a' w', St B s' a' w' → K a' w') → o.wp P a w K Q

theorem CallTo.sub {P : Program} {num : Nat → Nat} {m : MOp} {dst : Option Nat} {s s1 s' : AS} (h : Sub s s1) (k : CallTo P num m dst s1 s') : CallTo P num m dst s s' :=
  fun B o a w K Q h1 h2 h3 h4 hs hk => k B o a w K Q h1 h2 h3 h4 (h B a w hs) hk

/-- A call, told like an operation: its value, the rows, the next name. -/
def CallR (P : Program) (num : Nat → Nat) (m : MOp) (t : List (Nat × AV)) (h : Heap) (nx : Nat) (v : AV) (fp : FP) (nx' : Nat) : Prop :=
  HB h nx → (∀ n, bnd (· < nx) (lookT t n)) → PB h nx v fp nx' ∧ ∀ (B : Base) (o : Oper) (a : Act) (w : World) (φ : Nat → Spot) (Lf : Nat → List Nat) (K : Act → World → Prop) (Q : Exit → Act → World → Prop), B.num = num → chkOp P num m o.op = true → Lies B t h nx a w φ Lf →
    (∀ e3 Lf3 v', Turns (B.env w φ) (look h) Lf (fun n => n ∈ fp.map (·.1)) e3 (upH (look h) fp) Lf3 → RV e3 v v' [] → K (a.put o.dst v') e3.w) → o.wp P a w K Q

inductive It where
  | draw (tr : DTree) (pend : List (Nat × List Nat))
  | code (m : MCode)
  | ops (l : List MOper)
  | blk (id : Nat)
  | stop (J : AS → Prop)

def osz : List MOper → Nat
  | [] => 1
  | o :: os => (match o.guard with | none => 1 | some _ => 2) + osz os

def gsz (o : MOper) : Nat := match o.guard with | none => 1 | some _ => 2

def DTree.sz : DTree → Nat
  | .done => 1
  | .take _ o k => gsz o + k.sz
  | .only _ _ o k => gsz o + k.sz
  | .both _ _ o k _ _ p l => gsz o + gsz p + k.sz + l.sz + 2

def MCode.sz : MCode → Nat
  | .skip | .exit _ | .ret => 1
  | .dreg tr => tr.sz + 1
  | .reg _ ops => osz ops + 1
  | .seq a b => a.sz + b.sz + 1
  | .cond _ a b => a.sz + b.sz + 1
  | .blk _ a => a.sz + 2
  | .loop a => a.sz + 2

def It.sz : It → Nat
  | .code m => m.sz
  | .ops l => osz l
  | .draw tr _ => tr.sz
  | .blk _ => 1
  | .stop _ => 0

def szs : List It → Nat
  | [] => 0
  | i :: k => i.sz + szs k

/-- What a guard's place holds: a bool, or nothing at all, where it was skipped. -/
def gv (v : AV) (q : Option Bool) : Prop := (∃ b, v = .bool b ∧ q = some b) ∨ (v = .tup [] ∧ q = none)

def exitIt (id : Nat) : List It → List It
  | [] => [.stop fun _ => False]
  | .blk j :: k => if j = id then k else exitIt id k
  | _ :: k => exitIt id k

theorem exitIt_sz (id : Nat) : ∀ k, szs (exitIt id k) ≤ szs k
  | [] => by simp [exitIt, szs, It.sz]
  | .blk j :: k => by
    have := exitIt_sz id k
    simp only [exitIt]
    split <;> simp only [szs] <;> omega
  | .code _ :: k => by have := exitIt_sz id k; simp only [exitIt, szs]; omega
  | .ops _ :: k => by have := exitIt_sz id k; simp only [exitIt, szs]; omega
  | .draw _ _ :: k => by have := exitIt_sz id k; simp only [exitIt, szs]; omega
  | .stop _ :: k => by have := exitIt_sz id k; simp only [exitIt, szs]; omega

theorem MCode.sz_pos (m : MCode) : 0 < m.sz := by cases m <;> simp [MCode.sz]

/-- Rows that a read needs. -/
def needs (fp : FP) : List Nat := (fp.filter fun x => x.2.1.isSome).map (·.1)

/-- The reads' rows are still there. -/
def alive (pend : List (Nat × List Nat)) (h : Heap) : Prop := ∀ p ∈ pend, ∀ n ∈ p.2, look h n ≠ none

/-- A write touches none of the rows that reads need. -/
def apart (pend : List (Nat × List Nat)) (fp : FP) : Prop := ∀ p ∈ pend, ∀ n ∈ p.2, ∀ x ∈ fp, x.1 ≠ n

/-- One more read that needs its rows; none, if it needs none. -/
def addP (i : Nat) (ns : List Nat) (pend : List (Nat × List Nat)) : List (Nat × List Nat) := match ns with | [] => pend | n :: ns => (i, n :: ns) :: pend

def undep (deps : List Nat) (pend : List (Nat × List Nat)) : List (Nat × List Nat) := pend.filter fun p => !deps.contains p.1

/-- What is to be shown of what is still to be done. -/
def vc (P : Program) (num : Nat → Nat) (fin : AS → Prop) : List It → AS → Prop
  | [], s => fin s
  | .stop J :: _, s => J s
  | .blk _ :: k, s => vc P num fin k s
  | .ops [] :: k, s => vc P num fin k s
  | .ops (o :: os) :: k, .mk t h nx =>
    match hg : o.guard with
    | none =>
      if isCall o.op then ∃ s', CallTo P num o.op o.dst (.mk t h nx) s' ∧ vc P num fin (.ops os :: k) s'
      else match plan (lookT t) h nx o.op with
        | some (p, v, fp, nx') => p ∧ vc P num fin (.ops os :: k) (.mk (putD t o.dst v) (app1 h fp) nx')
        | none => False
    | some (g, want) => ∃ q, gv (lookT t g) q ∧ (q = some want → vc P num fin (.ops (({ dst := o.dst, op := o.op, guard := none } : MOper) :: os) :: k) (.mk t h nx)) ∧
        (q ≠ some want → vc P num fin (.ops os :: k) (.mk (putD t o.dst (.tup [])) h nx))
  | .ops (_ :: _) :: _, .bad => True
  | .draw .done _ :: k, s => vc P num fin k s
  | .draw (.take i o tr) pend :: k, .mk t h nx =>
    match hg : o.guard with
    | none => (match plan (lookT t) h nx o.op with
      | some (p, v, fp, nx') => p ∧ alive (addP i (needs fp) pend) (app1 h fp) ∧ vc P num fin (.draw tr (addP i (needs fp) pend) :: k) (.mk (putD t o.dst v) (app1 h fp) nx')
      | none => False)
    | some (g, want) => ∃ q, gv (lookT t g) q ∧ (q = some want → vc P num fin (.draw (.take i { dst := o.dst, op := o.op, guard := none } tr) pend :: k) (.mk t h nx)) ∧
        (q ≠ some want → vc P num fin (.draw tr pend :: k) (.mk (putD t o.dst (.tup [])) h nx))
  | .draw (.only i deps o tr) pend :: k, .mk t h nx =>
    match hg : o.guard with
    | none =>
      if isCall o.op then ∃ v fp nx', CallR P num o.op t h nx v fp nx' ∧ apart (undep deps pend) fp ∧ vc P num fin (.draw tr (undep deps pend) :: k) (.mk (putD t o.dst v) (app1 h fp) nx')
      else (match plan (lookT t) h nx o.op with
        | some (p, v, fp, nx') => p ∧ (if isRead o.op then alive (undep deps pend) (app1 h fp) else apart (undep deps pend) fp) ∧ vc P num fin (.draw tr (undep deps pend) :: k) (.mk (putD t o.dst v) (app1 h fp) nx')
        | none => False)
    | some (g, want) => ∃ q, gv (lookT t g) q ∧ (q = some want → vc P num fin (.draw (.only i deps { dst := o.dst, op := o.op, guard := none } tr) pend :: k) (.mk t h nx)) ∧
        (q ≠ some want → vc P num fin (.draw tr (undep deps pend) :: k) (.mk (putD t o.dst (.tup [])) h nx))
  | .draw (.both i di o tr j dj p tr') pend :: k, s => vc P num fin (.draw (.only i di o tr) pend :: k) s ∧ vc P num fin (.draw (.only j dj p tr') pend :: k) s
  | .draw (.take _ _ _) _ :: _, .bad => True
  | .draw (.only _ _ _ _) _ :: _, .bad => True
  | .code (.dreg tr) :: k, s => vc P num fin (.draw tr [] :: k) s
  | .code .skip :: k, s => vc P num fin k s
  | .code .ret :: _, s => fin s
  | .code (.exit id) :: k, s => vc P num fin (exitIt id k) s
  | .code (.seq a b) :: k, s => vc P num fin (.code a :: .code b :: k) s
  | .code (.blk id a) :: k, s => vc P num fin (.code a :: .blk id :: k) s
  | .code (.reg _ ops) :: k, s => vc P num fin (.ops ops :: k) s
  | .code (.cond x a b) :: k, .mk t h nx => ∃ q, lookT t x = .bool q ∧ (q = true → vc P num fin (.code a :: k) (.mk t h nx)) ∧ (q = false → vc P num fin (.code b :: k) (.mk t h nx))
  | .code (.cond _ _ _) :: _, .bad => True
  | .code (.loop a) :: k, s => ∃ (J : Nat → AS → Prop) (n : Nat), (∃ s1, Sub s s1 ∧ J n s1) ∧ ∀ n s, J n s → vc P num fin (.code a :: .stop (fun s' => ∃ s1, Sub s' s1 ∧ ∃ m, m < n ∧ J m s1) :: k) s
  termination_by l => szs l
  decreasing_by
    all_goals simp_wf
    all_goals first
      | (simp only [szs, It.sz, MCode.sz, osz, DTree.sz, gsz]; done)
      | (simp only [szs, It.sz, MCode.sz, osz, DTree.sz, gsz]; omega)
      | (simp only [szs, It.sz, osz, DTree.sz, gsz, hg]; omega)
      | (have := exitIt_sz id k; simp only [szs, It.sz, MCode.sz]; omega)
      | (simp only [szs, It.sz, DTree.sz, gsz]; cases o.guard <;> simp only [] <;> omega)

end Go.Sep
