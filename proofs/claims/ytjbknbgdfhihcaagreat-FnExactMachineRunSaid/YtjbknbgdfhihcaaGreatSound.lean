/- The executor of symbolic states: the texts State Vc Draw Sound, one after the other. No condition. -/
import Derived.Test.YtjbknbgdfhihcaaGreatPlan2
import Derived.OrdersHeld
/- The executor's state and the model's: what it means that they agree, and that a step keeps them so. -/
namespace Go.Sep
set_option linter.unusedVariables false
set_option linter.unusedSimpArgs false

/-- What does not change while a call runs. -/
structure Base where
  num : Nat → Nat
  w0 : World
  Fr : Nat → Prop
  Bo : Nat → Prop
  L0 : List Nat
  φ0 : Nat → Spot
  nt : Nat

def Base.env (B : Base) (w : World) (φ : Nat → Spot) : Env := { num := B.num, w := w, w0 := B.w0, φ := φ, Fr := B.Fr, Bo := B.Bo }

/-- The rows told, as they lie. -/
structure Lies (B : Base) (t : List (Nat × AV)) (h : Heap) (nx : Nat) (a : Act) (w : World) (φ : Nat → Spot) (Lf : Nat → List Nat) : Prop where
  ok : Ok (B.env w φ) B.L0 (look h) Lf
  tm : ∀ n, RV (B.env w φ) (lookT t n) (a.tmps.getD n undef) []
  φ0 : ∀ n, B.φ0 n ≠ .dead → n < 10 ∧ (φ n = B.φ0 n ∨ φ n = .dead)
  ten : 10 ≤ nx

def St (B : Base) : AS → Act → World → Prop
  | .bad, _, _ => False
  | .mk t h nx, a, w => a.tmps.size = B.nt ∧ a.defers = [] ∧ HB h nx ∧ (∀ n, bnd (· < nx) (lookT t n)) ∧ ∃ φ Lf, Lies B t h nx a w φ Lf

theorem look_put {h : Heap} {n : Nat} {r : Row} (m : Nat) : look (put h n r) m = if m = n then some r else look h m := by
  induction h with
  | nil =>
    simp only [put, look]
  | cons x h ih =>
    obtain ⟨k, s⟩ := x
    simp only [put]
    split
    · rename_i hk
      simp only [look]
      by_cases hm : m = n
      · rw [if_pos (by omega), if_pos hm]
      · rw [if_neg (by omega), if_neg hm, if_neg (by omega)]
    · rename_i hk
      simp only [look, ih]
      by_cases hm : m = k
      · rw [if_pos hm, if_neg (by omega), if_pos hm]
      · rw [if_neg hm, if_neg hm]

theorem look_del {h : Heap} {n : Nat} (m : Nat) : look (del h n) m = if m = n then none else look h m := by
  induction h with
  | nil => simp [del, look]
  | cons x h ih =>
    obtain ⟨k, s⟩ := x
    simp only [del]
    split
    · rename_i hk
      rw [ih]
      simp only [look]
      by_cases hm : m = n
      · rw [if_pos hm, if_pos hm]
      · rw [if_neg hm, if_neg hm, if_neg (by omega)]
    · rename_i hk
      simp only [look, ih]
      by_cases hm : m = k
      · rw [if_pos hm, if_neg (by omega), if_pos hm]
      · rw [if_neg hm, if_neg hm]

theorem look_app1 : ∀ (fp : FP) (h : Heap), look (app1 h fp) = upH (look h) fp
  | [], h => rfl
  | (n, p, some r) :: fp, h => by
    simp only [app1, upH]
    rw [look_app1 fp]
    congr 1
    funext m
    exact look_put m
  | (n, p, none) :: fp, h => by
    simp only [app1, upH]
    rw [look_app1 fp]
    congr 1
    funext m
    exact look_del m

theorem lookT_putT (t : List (Nat × AV)) (d : Nat) (v : AV) (n : Nat) : lookT (putT t d v) n = if n = d then v else lookT t n := rfl

theorem lookT_putD (t : List (Nat × AV)) (d : Option Nat) (v : AV) (n : Nat) : lookT (putD t d v) n = if d = some n then v else lookT t n := by
  cases d with
  | none => simp [putD]
  | some d =>
    simp only [putD, lookT_putT, Option.some.injEq]
    by_cases h : n = d
    · rw [if_pos h, if_pos h.symm]
    · rw [if_neg h, if_neg (fun he => h he.symm)]

def dstOk (nt : Nat) : Option Nat → Bool
  | none => true
  | some d => decide (d < nt)

theorem put_getD {a : Act} {d : Option Nat} {v : Value} {nt : Nat} (hs : a.tmps.size = nt) (hd : dstOk nt d = true) (n : Nat) :
    (a.put d v).tmps.getD n undef = if d = some n then v else a.tmps.getD n undef := by
  cases d with
  | none => simp [Act.put]
  | some d =>
    simp only [dstOk, decide_eq_true_eq] at hd
    simp only [Act.put, Option.some.injEq, Array.getD_eq_getD_getElem?, Array.getElem?_setIfInBounds]
    by_cases h : d = n
    · subst h
      simp [hs, hd]
    · simp [h]

theorem put_size {a : Act} {d : Option Nat} {v : Value} : (a.put d v).tmps.size = a.tmps.size := by
  cases d <;> simp [Act.put]

theorem put_defers {a : Act} {d : Option Nat} {v : Value} : (a.put d v).defers = a.defers := by
  cases d <;> simp [Act.put]

/-- New names are not among the old ones; so all that is told goes on. -/
theorem Lies.turn {B : Base} {t : List (Nat × AV)} {h : Heap} {nx nx' : Nat} {a : Act} {w : World} {φ : Nat → Spot} {Lf : Nat → List Nat} {fp : FP} {v : AV} {e' : Env} {Lf' : Nat → List Nat} {v' : Value} {d : Option Nat}
    (hs : Lies B t h nx a w φ Lf) (hsz : a.tmps.size = B.nt) (hd : dstOk B.nt d = true) (hb : HB h nx) (hbt : ∀ n, bnd (· < nx) (lookT t n)) (hp : PB h nx v fp nx')
    (ht : Turns (B.env w φ) (look h) Lf (fun n => n ∈ fp.map (·.1)) e' (upH (look h) fp) Lf') (hv : RV e' v v' []) :
    e' = B.env e'.w e'.φ ∧ HB (app1 h fp) nx' ∧ (∀ n, bnd (· < nx') (lookT (putD t d v) n)) ∧ ∃ Lf'', Lies B (putD t d v) (app1 h fp) nx' (a.put d v') e'.w e'.φ Lf'' := by
  have he : e' = B.env e'.w e'.φ := by
    have h1 := ht.num
    have h2 := ht.w0
    have h3 := ht.Fr
    have h4 := ht.Bo
    cases e'
    simp only [Base.env] at h1 h2 h3 h4 ⊢
    subst h1 h2 h3 h4
    rfl
  have hnew : ∀ nm, nm < nx → nm ∈ fp.map (·.1) → look h nm = none → e'.φ nm = .dead := by
    intro nm hlt hm hn
    obtain ⟨x, hx, rfl⟩ := List.mem_map.1 hm
    have := hp.new x hx (by rw [← hp.pre x hx, hn])
    omega
  refine ⟨he, ?_, ?_, mix (fun n => n ∈ fp.map (·.1)) Lf Lf', ?_⟩
  · intro nm row hr
    rw [look_app1] at hr
    by_cases hm : nm ∈ fp.map (·.1)
    · have hlast : ∀ (fp : FP) (H : Nat → Option Row), nm ∈ fp.map (·.1) → ∃ x ∈ fp, x.1 = nm ∧ upH H fp nm = x.2.2 := by
        intro fp
        induction fp with
        | nil => intro H hm; simp at hm
        | cons x fp ih =>
          intro H hm
          obtain ⟨n, pr, r⟩ := x
          by_cases hm' : nm ∈ fp.map (·.1)
          · obtain ⟨y, hy, h1, h2⟩ := ih (fun m => if m = n then r else H m) hm'
            exact ⟨y, by simp [hy], h1, h2⟩
          · simp only [List.map_cons, List.mem_cons, hm', or_false] at hm
            refine ⟨(n, pr, r), by simp, hm.symm, ?_⟩
            simp only [upH]
            rw [upH_none hm', if_pos hm]
      obtain ⟨x, hx, h1, h2⟩ := hlast fp (look h) hm
      rw [h2] at hr
      exact ⟨h1 ▸ hp.lt x hx, hp.row x hx row hr⟩
    · rw [upH_none hm] at hr
      have := hb nm row hr
      exact ⟨Nat.lt_of_lt_of_le this.1 hp.le, bndr_mono (fun k hk => Nat.lt_of_lt_of_le hk hp.le) _ this.2⟩
  · intro n
    rw [lookT_putD]
    split
    · exact hp.v
    · exact bnd_mono (fun k hk => Nat.lt_of_lt_of_le hk hp.le) _ (hbt n)
  · rw [he] at ht hv
    refine ⟨?_, ?_, ?_, Nat.le_trans hs.ten hp.le⟩
    · rw [look_app1]
      exact ht.ok (A := (· < nx)) hs.ok (fun nm row hr => (hb nm row hr).2) hnew
    · intro n
      rw [lookT_putD, put_getD hsz hd]
      split
      · exact hv
      · exact RV_keep _ (ht.keeps (A := (· < nx)) (L := []) hnew hs.ok.rh.dead (by simp)) (hbt n) (hs.tm n)
    · intro n hn
      obtain ⟨h10, h2⟩ := hs.φ0 n hn
      have h1 : n < nx := Nat.lt_of_lt_of_le h10 hs.ten
      refine ⟨h10, ?_⟩
      by_cases hm : n ∈ fp.map (·.1)
      · by_cases hH : look h n = none
        · exact .inr (hnew n h1 hm hH)
        · rcases ht.φF n hm hH with hq | hq
          · have hq' : e'.φ n = φ n := hq
            rw [hq']; exact h2
          · exact .inr hq
      · have hq : e'.φ n = φ n := ht.φ n hm
        rw [hq]; exact h2

/-- One operation. -/
theorem step_op {P : Program} {B : Base} {o : Oper} {m : MOp} {t : List (Nat × AV)} {h : Heap} {nx nx' : Nat} {p : Prop} {v : AV} {fp : FP} {a : Act} {w : World} {K : Act → World → Prop} {Q : Exit → Act → World → Prop}
    (hc : chkOp P B.num m o.op = true) (hd : dstOk B.nt o.dst = true) (hs : St B (.mk t h nx) a w) (hp : plan (lookT t) h nx m = some (p, v, fp, nx')) (hpp : p)
    (k : ∀ a' w', St B (.mk (putD t o.dst v) (app1 h fp) nx') a' w' → K a' w') : o.wp P a w K Q := by
  obtain ⟨h1, h2, hb, hbt, φ, Lf, hl⟩ := hs
  have pb := plan_bnd hc hp hbt hb
  have tri := plan_tri hc hp hpp (fun nm row hr => by have := (hb nm row hr).1; omega)
  refine tri (B.env w φ) B.L0 (look h) Lf (· < nx) a K Q rfl hl.ok pb.pre hbt (fun nm row hr => (hb nm row hr).2) (fun x hx hn => by have := pb.new x hx hn; omega) hl.tm ?_
  intro e' Lf' v' ht hv
  obtain ⟨g1, g2, g3, Lf'', g4⟩ := hl.turn (d := o.dst) h1 hd hb hbt pb ht hv
  exact k _ _ ⟨by rw [put_size]; exact h1, by rw [put_defers]; exact h2, g2, g3, e'.φ, Lf'', g4⟩

/-- An operation that is not wanted. -/
theorem St.skip {B : Base} {t : List (Nat × AV)} {h : Heap} {nx : Nat} {a : Act} {w : World} {d : Option Nat} (hd : dstOk B.nt d = true) (hs : St B (.mk t h nx) a w) : St B (.mk (putD t d (.tup [])) h nx) (a.put d undef) w := by
  obtain ⟨h1, h2, hb, hbt, φ, Lf, hl⟩ := hs
  refine ⟨by rw [put_size]; exact h1, by rw [put_defers]; exact h2, hb, ?_, φ, Lf, hl.ok, ?_, hl.φ0, hl.ten⟩
  · intro n
    rw [lookT_putD]
    split
    · simp [bnd, bnds]
    · exact hbt n
  · intro n
    rw [lookT_putD, put_getD h1 hd]
    split
    · simp [RV, RVs, undef]
    · exact hl.tm n

/-- Worlds with the same memory. -/
theorem St.world {B : Base} {s : AS} {a : Act} {w w' : World} (hio : SameIo w w') (hw : w'.heap = w.heap) (hs : St B s a w) : St B s a w' := by
  cases s with
  | bad => exact hs
  | mk t h nx =>
    obtain ⟨h1, h2, hb, hbt, φ, Lf, hl⟩ := hs
    have T : Turns (B.env w φ) (look h) Lf (fun _ => False) (B.env w' φ) (look h) Lf :=
      { num := rfl, w0 := rfl, Fr := rfl, Bo := rfl, io := hio, size := by simp [Base.env, hw], keep := fun b _ _ => by simp [Base.env, hw], φ := fun _ _ => rfl, φF := fun _ hf => hf.elim, rest := fun _ _ => rfl,
        row := fun _ _ hf => hf.elim, nodup := fun _ hf => hf.elim, blk := fun _ hf => hf.elim, dis := fun _ _ hf => hf.elim, dead := fun _ hf => hf.elim }
    have := T.ok (A := fun _ => True) hl.ok (fun nm row hr => bndr_true _) (fun _ _ hf => hf.elim)
    have hm : mix (fun _ => False) Lf Lf = Lf := by funext n; exact mix_neg (fun hf => hf)
    rw [hm] at this
    exact ⟨h1, h2, hb, hbt, φ, Lf, this, fun n => RV_keep _ (T.keeps (A := fun _ => True) (L := []) (fun _ _ hf => hf.elim) hl.ok.rh.dead (by simp)) (bnd_true _) (hl.tm n), hl.φ0, hl.ten⟩

end Go.Sep

/- What is to be shown of a code, told by the executor; and that it suffices. -/
namespace Go.Sep
set_option linter.unusedVariables false
set_option linter.unusedSimpArgs false

/-- What agrees with s agrees with s'. -/
def Sub (s s' : AS) : Prop := ∀ (B : Base) (a : Act) (w : World), St B s a w → St B s' a w

theorem Sub.refl (s : AS) : Sub s s := fun _ _ _ h => h
theorem Sub.trans {s s' s'' : AS} (h : Sub s s') (h' : Sub s' s'') : Sub s s'' := fun B a w k => h' B a w (h B a w k)

/-- A call takes s to s'. -/
def CallTo (P : Program) (num : Nat → Nat) (m : MOp) (dst : Option Nat) (s s' : AS) : Prop :=
  ∀ (B : Base) (o : Oper) (a : Act) (w : World) (K : Act → World → Prop) (Q : Exit → Act → World → Prop), B.num = num → chkOp P num m o.op = true → o.dst = dst → dstOk B.nt dst = true → St B s a w →
    (∀ a' w', St B s' a' w' → K a' w') → o.wp P a w K Q

theorem CallTo.sub {P : Program} {num : Nat → Nat} {m : MOp} {dst : Option Nat} {s s1 s' : AS} (h : Sub s s1) (k : CallTo P num m dst s1 s') : CallTo P num m dst s s' :=
  fun B o a w K Q h1 h2 h3 h4 hs hk => k B o a w K Q h1 h2 h3 h4 (h B a w hs) hk

/-- A call, told like an operation: its value, the rows, the next name. -/
def CallR (P : Program) (num : Nat → Nat) (m : MOp) (t : List (Nat × AV)) (h : Heap) (nx : Nat) (v : AV) (fp : FP) (nx' : Nat) : Prop :=
  HB h nx → (∀ n, bnd (· < nx) (lookT t n)) → PB h nx v fp nx' ∧ ∀ (B : Base) (o : Oper) (a : Act) (w : World) (φ : Nat → Spot) (Lf : Nat → List Nat) (K : Act → World → Prop) (Q : Exit → Act → World → Prop), B.num = num → chkOp P num m o.op = true → Lies B t h nx a w φ Lf →
    (∀ e3 Lf3 v', Turns (B.env w φ) (look h) Lf (fun n => n ∈ fp.map (·.1)) e3 (upH (look h) fp) Lf3 → RV e3 v v' [] → K (a.put o.dst v') e3.w) → o.wp P a w K Q

inductive It where
  | draw (tr : DTree) (pend : List (Nat × List Nat))
  | code (m : MCode)
  | ops (l : List MOper)
  | blk (id : Nat)
  | stop (J : AS → Prop)

def osz : List MOper → Nat
  | [] => 1
  | o :: os => (match o.guard with | none => 1 | some _ => 2) + osz os

def gsz (o : MOper) : Nat := match o.guard with | none => 1 | some _ => 2

def DTree.sz : DTree → Nat
  | .done => 1
  | .take _ o k => gsz o + k.sz
  | .only _ _ o k => gsz o + k.sz
  | .both _ _ o k _ _ p l => gsz o + gsz p + k.sz + l.sz + 2
  | .tri _ _ o k _ _ p l _ _ q r => gsz o + gsz p + gsz q + k.sz + l.sz + r.sz + 3

def MCode.sz : MCode → Nat
  | .skip | .exit _ | .ret => 1
  | .dreg tr => tr.sz + 1
  | .reg _ ops => osz ops + 1
  | .seq a b => a.sz + b.sz + 1
  | .cond _ a b => a.sz + b.sz + 1
  | .blk _ a => a.sz + 2
  | .loop a => a.sz + 2

def It.sz : It → Nat
  | .code m => m.sz
  | .ops l => osz l
  | .draw tr _ => tr.sz
  | .blk _ => 1
  | .stop _ => 0

def szs : List It → Nat
  | [] => 0
  | i :: k => i.sz + szs k

/-- What a guard's place holds: a bool, or nothing at all, where it was skipped. -/
def gv (v : AV) (q : Option Bool) : Prop := (∃ b, v = .bool b ∧ q = some b) ∨ (v = .tup [] ∧ q = none)

def exitIt (id : Nat) : List It → List It
  | [] => [.stop fun _ => False]
  | .blk j :: k => if j = id then k else exitIt id k
  | _ :: k => exitIt id k

theorem exitIt_sz (id : Nat) : ∀ k, szs (exitIt id k) ≤ szs k
  | [] => by simp [exitIt, szs, It.sz]
  | .blk j :: k => by
    have := exitIt_sz id k
    simp only [exitIt]
    split <;> simp only [szs] <;> omega
  | .code _ :: k => by have := exitIt_sz id k; simp only [exitIt, szs]; omega
  | .ops _ :: k => by have := exitIt_sz id k; simp only [exitIt, szs]; omega
  | .draw _ _ :: k => by have := exitIt_sz id k; simp only [exitIt, szs]; omega
  | .stop _ :: k => by have := exitIt_sz id k; simp only [exitIt, szs]; omega

theorem MCode.sz_pos (m : MCode) : 0 < m.sz := by cases m <;> simp [MCode.sz]

/-- Rows that a read needs. -/
def needs (fp : FP) : List Nat := (fp.filter fun x => x.2.1.isSome).map (·.1)

/-- The reads' rows are still there. -/
def alive (pend : List (Nat × List Nat)) (h : Heap) : Prop := ∀ p ∈ pend, ∀ n ∈ p.2, look h n ≠ none

/-- A write touches none of the rows that reads need. -/
def apart (pend : List (Nat × List Nat)) (fp : FP) : Prop := ∀ p ∈ pend, ∀ n ∈ p.2, ∀ x ∈ fp, x.1 ≠ n

/-- One more read that needs its rows; none, if it needs none. -/
def addP (i : Nat) (ns : List Nat) (pend : List (Nat × List Nat)) : List (Nat × List Nat) := match ns with | [] => pend | n :: ns => (i, n :: ns) :: pend

def undep (deps : List Nat) (pend : List (Nat × List Nat)) : List (Nat × List Nat) := pend.filter fun p => !deps.contains p.1

/-- What is to be shown of what is still to be done. -/
def vc (P : Program) (num : Nat → Nat) (fin : AS → Prop) : List It → AS → Prop
  | [], s => fin s
  | .stop J :: _, s => J s
  | .blk _ :: k, s => vc P num fin k s
  | .ops [] :: k, s => vc P num fin k s
  | .ops (o :: os) :: k, .mk t h nx =>
    match hg : o.guard with
    | none =>
      if isCall o.op then ∃ s', CallTo P num o.op o.dst (.mk t h nx) s' ∧ vc P num fin (.ops os :: k) s'
      else match plan (lookT t) h nx o.op with
        | some (p, v, fp, nx') => p ∧ vc P num fin (.ops os :: k) (.mk (putD t o.dst v) (app1 h fp) nx')
        | none => False
    | some (g, want) => ∃ q, gv (lookT t g) q ∧ (q = some want → vc P num fin (.ops (({ dst := o.dst, op := o.op, guard := none } : MOper) :: os) :: k) (.mk t h nx)) ∧
        (q ≠ some want → vc P num fin (.ops os :: k) (.mk (putD t o.dst (.tup [])) h nx))
  | .ops (_ :: _) :: _, .bad => True
  | .draw .done _ :: k, s => vc P num fin k s
  | .draw (.take i o tr) pend :: k, .mk t h nx =>
    match hg : o.guard with
    | none => (match plan (lookT t) h nx o.op with
      | some (p, v, fp, nx') => p ∧ alive (addP i (needs fp) pend) (app1 h fp) ∧ vc P num fin (.draw tr (addP i (needs fp) pend) :: k) (.mk (putD t o.dst v) (app1 h fp) nx')
      | none => False)
    | some (g, want) => ∃ q, gv (lookT t g) q ∧ (q = some want → vc P num fin (.draw (.take i { dst := o.dst, op := o.op, guard := none } tr) pend :: k) (.mk t h nx)) ∧
        (q ≠ some want → vc P num fin (.draw tr pend :: k) (.mk (putD t o.dst (.tup [])) h nx))
  | .draw (.only i deps o tr) pend :: k, .mk t h nx =>
    match hg : o.guard with
    | none =>
      if isCall o.op then ∃ v fp nx', CallR P num o.op t h nx v fp nx' ∧ apart (undep deps pend) fp ∧ vc P num fin (.draw tr (undep deps pend) :: k) (.mk (putD t o.dst v) (app1 h fp) nx')
      else (match plan (lookT t) h nx o.op with
        | some (p, v, fp, nx') => p ∧ (if isRead o.op then alive (undep deps pend) (app1 h fp) else apart (undep deps pend) fp) ∧ vc P num fin (.draw tr (undep deps pend) :: k) (.mk (putD t o.dst v) (app1 h fp) nx')
        | none => False)
    | some (g, want) => ∃ q, gv (lookT t g) q ∧ (q = some want → vc P num fin (.draw (.only i deps { dst := o.dst, op := o.op, guard := none } tr) pend :: k) (.mk t h nx)) ∧
        (q ≠ some want → vc P num fin (.draw tr (undep deps pend) :: k) (.mk (putD t o.dst (.tup [])) h nx))
  | .draw (.both i di o tr j dj p tr') pend :: k, s => vc P num fin (.draw (.only i di o tr) pend :: k) s ∧ vc P num fin (.draw (.only j dj p tr') pend :: k) s
  | .draw (.tri i di o tr j dj p tr' m dm q tr2) pend :: k, s => vc P num fin (.draw (.only i di o tr) pend :: k) s ∧ vc P num fin (.draw (.only j dj p tr') pend :: k) s ∧ vc P num fin (.draw (.only m dm q tr2) pend :: k) s
  | .draw (.take _ _ _) _ :: _, .bad => True
  | .draw (.only _ _ _ _) _ :: _, .bad => True
  | .code (.dreg tr) :: k, s => vc P num fin (.draw tr [] :: k) s
  | .code .skip :: k, s => vc P num fin k s
  | .code .ret :: _, s => fin s
  | .code (.exit id) :: k, s => vc P num fin (exitIt id k) s
  | .code (.seq a b) :: k, s => vc P num fin (.code a :: .code b :: k) s
  | .code (.blk id a) :: k, s => vc P num fin (.code a :: .blk id :: k) s
  | .code (.reg _ ops) :: k, s => vc P num fin (.ops ops :: k) s
  | .code (.cond x a b) :: k, .mk t h nx => ∃ q, lookT t x = .bool q ∧ (q = true → vc P num fin (.code a :: k) (.mk t h nx)) ∧ (q = false → vc P num fin (.code b :: k) (.mk t h nx))
  | .code (.cond _ _ _) :: _, .bad => True
  | .code (.loop a) :: k, s => ∃ (J : Nat → AS → Prop) (n : Nat), (∃ s1, Sub s s1 ∧ J n s1) ∧ ∀ n s, J n s → vc P num fin (.code a :: .stop (fun s' => ∃ s1, Sub s' s1 ∧ ∃ m, m < n ∧ J m s1) :: k) s
  termination_by l => szs l
  decreasing_by
    all_goals simp_wf
    all_goals first
      | (simp only [szs, It.sz, MCode.sz, osz, DTree.sz, gsz]; done)
      | (simp only [szs, It.sz, MCode.sz, osz, DTree.sz, gsz]; omega)
      | (simp only [szs, It.sz, osz, DTree.sz, gsz, hg]; omega)
      | (have := exitIt_sz id k; simp only [szs, It.sz, MCode.sz]; omega)
      | (simp only [szs, It.sz, DTree.sz, gsz]; cases o.guard <;> simp only [] <;> omega)

end Go.Sep

/- Regions whose order is drawn: a read may be taken early, if what it reads stays until those that wait for it. No program in sight. -/
namespace Go.Sep
set_option linter.unusedVariables false
set_option linter.unusedSimpArgs false

section
variable {P : Program} {ops : Array Oper} {Q : Exit → Act → World → Prop} {md : Region.Mode}

/-- j waits for i. -/
def dep (md : Region.Mode) (ops : Array Oper) (j i : Nat) : Bool :=
  match ops[j]? with
  | some oj => oj.after.any fun e => Region.binds md e && e.on == i
  | none => false

theorem dep_false {j i : Nat} {oj : Oper} (hj : ops[j]? = some oj) (h : ∀ e ∈ oj.after, Region.binds md e = true → e.on ≠ i) : dep md ops j i = false := by
  unfold dep
  rw [hj]
  cases hh : oj.after.any fun e => Region.binds md e && e.on == i with
  | false => exact hh
  | true =>
    obtain ⟨e, he, hb⟩ := Array.any_eq_true'.1 hh
    simp only [Bool.and_eq_true, beq_iff_eq] at hb
    exact absurd hb.2 (h e he hb.1)

/-- j waits for i, or for one that waits for i, .. -/
inductive Reach (md : Region.Mode) (ops : Array Oper) (j : Nat) : Nat → Prop
  | one {i : Nat} (h : dep md ops j i = true) : Reach md ops j i
  | more {r i : Nat} (h : Reach md ops j r) (hd : dep md ops r i = true) : Reach md ops j i
open Classical in
noncomputable def waits (md : Region.Mode) (ops : Array Oper) (j i : Nat) : Bool := decide (Reach md ops j i)
/-- Each of these is waited for: by i itself or by one of those before it. -/
def depsOk (md : Region.Mode) (ops : Array Oper) (i : Nat) : List Nat → List Nat → Bool
  | _, [] => true
  | acc, d :: ds => (dep md ops i d || acc.any fun r => dep md ops r d) && depsOk md ops i (d :: acc) ds
theorem depsOk_waits {i : Nat} : ∀ {acc ds : List Nat}, depsOk md ops i acc ds = true → (∀ r ∈ acc, Reach md ops i r) → ∀ d ∈ ds, waits md ops i d = true
  | _, [], _, _, d, hd => by simp at hd
  | acc, x :: ds, h, ha, d, hd => by
    simp only [depsOk, Bool.and_eq_true, Bool.or_eq_true, List.any_eq_true] at h
    have hx : Reach md ops i x := by
      rcases h.1 with h1 | ⟨r, hr, h1⟩
      · exact .one h1
      · exact .more (ha r hr) h1
    rcases List.mem_cons.1 hd with rfl | hd
    · simp [waits, hx]
    · exact depsOk_waits h.2 (fun r hr => by
        rcases List.mem_cons.1 hr with rfl | hr
        · exact hx
        · exact ha r hr) d hd
/-- What is listed has all listed that it waits for. -/
def Shutd (md : Region.Mode) (ops : Array Oper) (listed : Array Bool) : Prop := ∀ j oj, ops[j]? = some oj → listed.getD j false = true → ∀ e ∈ oj.after, Region.binds md e = true → listed.getD e.on false = true
theorem Shutd.none {n : Nat} : Shutd md ops (Array.replicate n false) := by
  intro j oj _ h
  rw [Array.getD_eq_getD_getElem?, Array.getElem?_replicate] at h
  split at h <;> simp at h

/-- A read that was taken early, and what must stay. -/
structure Pend where
  i : Nat
  S : World → Prop

/-- Whatever order is picked from here on; behind each operation, what those reads need stays that it does not wait for. -/
def wpD (P : Program) (md : Region.Mode) (ops : Array Oper) (Q : Exit → Act → World → Prop) : Nat → List Pend → Array Bool → Act → World → Prop
  | 0, _, listed, a, w => Region.ready md ops listed = [] ∧ Q .normal a w
  | fuel + 1, L, listed, a, w =>
    (Region.ready md ops listed = [] → Q .normal a w) ∧
    ∀ j ∈ Region.ready md ops listed, wpOp P ops Q j (fun a' w' => (∀ p ∈ L, waits md ops j p.i = false → p.S w') ∧ wpD P md ops Q fuel (L.filter fun p => !waits md ops j p.i) (listed.setIfInBounds j true) a' w') a w

theorem wpD_any : ∀ (fuel : Nat) (L : List Pend) (listed : Array Bool) (a : Act) (w : World), wpD P md ops Q fuel L listed a w → wpAny P md ops Q fuel listed a w
  | 0, _, _, _, _, h => h
  | fuel + 1, _, _, _, _, h => ⟨h.1, fun j hj => wpOp_mono (fun a' w' h' => wpD_any fuel _ _ a' w' h'.2) (h.2 j hj)⟩

theorem wpD_mono : ∀ (fuel : Nat) (L L' : List Pend) (listed : Array Bool) (a : Act) (w : World), (∀ p ∈ L', p ∈ L) → wpD P md ops Q fuel L listed a w → wpD P md ops Q fuel L' listed a w
  | 0, _, _, _, _, _, _, h => h
  | fuel + 1, L, L', _, _, _, hs, h => ⟨h.1, fun j hj => wpOp_mono (fun a' w' h' => ⟨fun p hp hd => h'.1 p (hs p hp) hd, wpD_mono fuel _ _ _ a' w' (fun p hp => by
      rw [List.mem_filter] at hp ⊢
      exact ⟨hs p hp.1, hp.2⟩) h'.2⟩) (h.2 j hj)⟩

theorem wpD_triv (i : Nat) : ∀ (fuel : Nat) (L : List Pend) (listed : Array Bool) (a : Act) (w : World), wpD P md ops Q fuel L listed a w → wpD P md ops Q fuel (⟨i, fun _ => True⟩ :: L) listed a w
  | 0, _, _, _, _, h => h
  | fuel + 1, L, _, _, _, h => ⟨h.1, fun j hj => wpOp_mono (fun a' w' h' => by
      refine ⟨fun p hp hd => ?_, ?_⟩
      · rcases List.mem_cons.1 hp with rfl | hp
        · trivial
        · exact h'.1 p hp hd
      · by_cases hd : waits md ops j i = true
        · rw [List.filter_cons_of_neg (by simp [hd])]
          exact h'.2
        · rw [List.filter_cons_of_pos (by simpa using hd)]
          exact wpD_triv i fuel _ _ a' w' h'.2) (h.2 j hj)⟩

theorem Shutd.not {listed : Array Bool} (hsh : Shutd md ops listed) {j i : Nat} {oj : Oper} (hall : ∀ e ∈ oj.after, Region.binds md e = true → listed.getD e.on false = true) (hoj : ops[j]? = some oj) (hun : listed.getD i false = false) : waits md ops j i = false := by
  have key : ∀ i, Reach md ops j i → listed.getD i false = true := fun i hr => by
    induction hr with
    | one h =>
      unfold dep at h
      rw [hoj] at h
      obtain ⟨e, he, hb⟩ := Array.any_eq_true'.1 h
      simp only [Bool.and_eq_true, beq_iff_eq] at hb
      rw [← hb.2]
      exact hall e he hb.1
    | @more r i _ hd ih =>
      unfold dep at hd
      cases hor : ops[r]? with
      | none => rw [hor] at hd; simp at hd
      | some o =>
        rw [hor] at hd
        obtain ⟨e, he, hb⟩ := Array.any_eq_true'.1 hd
        simp only [Bool.and_eq_true, beq_iff_eq] at hb
        rw [← hb.2]
        exact hsh r o hor ih e he hb.1
  simp only [waits, decide_eq_false_iff_not]
  intro h
  rw [key i h] at hun
  cases hun
theorem Shutd.step {listed : Array Bool} (hsh : Shutd md ops listed) {j : Nat} {oj : Oper} (hall : ∀ e ∈ oj.after, Region.binds md e = true → listed.getD e.on false = true) (hoj : ops[j]? = some oj) : Shutd md ops (listed.setIfInBounds j true) := by
  have up : ∀ k, listed.getD k false = true → (listed.setIfInBounds j true).getD k false = true := fun k hk => by
    simp only [Array.getD_eq_getD_getElem?, Array.getElem?_setIfInBounds] at hk ⊢
    split
    · split
      · rfl
      · rename_i h1 h2
        subst h1
        rw [Array.getElem?_eq_none (by omega)] at hk
        simp at hk
    · exact hk
  intro k ok hok hk e he hb
  by_cases hkj : j = k
  · subst hkj
    rw [hoj] at hok
    cases hok
    exact up _ (hall e he hb)
  · refine up _ (hsh k ok hok ?_ e he hb)
    rw [Array.getD_eq_getD_getElem?, Array.getElem?_setIfInBounds_ne hkj] at hk
    rw [Array.getD_eq_getD_getElem?]
    exact hk
theorem Shutd.up {listed : Array Bool} (hsh : Shutd md ops listed) {j : Nat} (hr : j ∈ Region.ready md ops listed) : Shutd md ops (listed.setIfInBounds j true) := by
  obtain ⟨_, o, ho, hall⟩ := mem_ready.1 hr
  exact hsh.step hall ho

/-- A read is taken early. -/
theorem wpD_take {i : Nat} {oi : Oper} {v : Value} {S : World → Prop} (hi : ops[i]? = some oi) (hsel : ∀ (j : Nat) (o : Oper) cs b, ops[j]? = some o → o.op ≠ .select cs b)
    (hQ : ∀ c a w, Q (.panic c) (a.put oi.dst v) w → Q (.panic c) a w) :
    ∀ (fuel : Nat) (L : List Pend) (listed : Array Bool) (a : Act) (w : World),
      (∀ j oj, ops[j]? = some oj → j ≠ i → listed.getD j true = false → (∀ e ∈ oj.after, Region.binds md e = true → e.on ≠ i) → oi.apart ops oj = true) →
      Shutd md ops listed → i ∈ Region.ready md ops listed → YieldsIf P ops S oi v a → S w → (∀ p ∈ L, p.S w) →
      wpD P md ops Q fuel (⟨i, S⟩ :: L) (listed.setIfInBounds i true) (a.put oi.dst v) w → wpD P md ops Q (fuel + 1) L listed a w := by
  intro fuel
  induction fuel with
  | zero =>
    intro L listed a w _ _ hr hy hS hL H
    refine ⟨fun h => (by rw [h] at hr; cases hr), fun j hj => ?_⟩
    by_cases hji : j = i
    · subst hji; exact hy.wpOp hi hS ⟨fun p hp _ => hL p hp, H⟩
    · have := ready_mono hj hji
      rw [H.1] at this
      cases this
  | succ fuel ih =>
    intro L listed a w hfree hsh hr hy hS hL H
    refine ⟨fun h => (by rw [h] at hr; cases hr), fun j hj => ?_⟩
    by_cases hji : j = i
    · subst hji
      refine hy.wpOp hi hS ⟨fun p hp _ => hL p hp, wpD_mono _ _ _ _ _ _ (fun p hp => ?_) H⟩
      exact List.mem_cons_of_mem _ (List.mem_filter.1 hp).1
    · have h1 := H.2 j (ready_mono hj hji)
      obtain ⟨hjun, oj, hoj, hall⟩ := mem_ready.1 hj
      have hnot : ∀ e ∈ oj.after, Region.binds md e = true → e.on ≠ i := fun e he hb heq => by
        have h1 := hall e he hb
        have h0 := (mem_ready.1 hr).1
        rw [heq] at h1
        rcases Nat.lt_or_ge i listed.size with h' | h'
        · simp [h'] at h0 h1; rw [h0] at h1; cases h1
        · simp [Array.getElem?_eq_none h'] at h1
      have hun : listed.getD i false = false := by
        have h0 := (mem_ready.1 hr).1
        rcases Nat.lt_or_ge i listed.size with h' | h'
        · simp [h'] at h0 ⊢; exact h0
        · simp [Array.getElem?_eq_none h']
      have hd : waits md ops j i = false := Shutd.not hsh hall hoj hun
      have h2 := wpOp_putIf hoj (hfree j oj hoj hji hjun hnot) (fun cs b => hsel i oi cs b hi) (fun cs b => hsel j oj cs b hoj) hQ hy h1
      have hfree' : ∀ k ok, ops[k]? = some ok → k ≠ i → (listed.setIfInBounds j true).getD k true = false →
          (∀ e ∈ ok.after, Region.binds md e = true → e.on ≠ i) → oi.apart ops ok = true := fun k ok hk hki hun hno => by
        refine hfree k ok hk hki ?_ hno
        by_cases hjk : j = k
        · subst hjk; exact hjun
        · rw [getD_set_ne true hjk] at hun; exact hun
      refine wpOp_mono (fun a' w' h3 => ?_) h2
      obtain ⟨h4, h5, h6⟩ := h3
      have h7 : S w' := h5 ⟨i, S⟩ (by simp) hd
      refine ⟨fun p hp hdp => h5 p (by simp [hp]) hdp, ih _ (listed.setIfInBounds j true) a' w' hfree' (hsh.step hall hoj) (ready_mono hr (Ne.symm hji)) h4 h7 (fun p hp => ?_) ?_⟩
      · rw [List.mem_filter] at hp
        exact h5 p (by simp [hp.1]) (by simpa using hp.2)
      · rw [Array.setIfInBounds_comm _ _ hji]
        rw [List.filter_cons_of_pos (by simp [hd])] at h6
        exact h6

/-- Whichever may come up comes up. -/
theorem wpD_all {rs : List Nat} {fuel : Nat} {L : List Pend} {listed : Array Bool} {a : Act} {w : World} (hr : Region.ready md ops listed = rs) (hne : rs ≠ [])
    (h : ∀ j ∈ rs, wpOp P ops Q j (fun a' w' => (∀ p ∈ L, waits md ops j p.i = false → p.S w') ∧ wpD P md ops Q fuel (L.filter fun p => !waits md ops j p.i) (listed.setIfInBounds j true) a' w') a w) :
    wpD P md ops Q (fuel + 1) L listed a w := ⟨fun h0 => absurd (hr ▸ h0) hne, hr ▸ h⟩

theorem wpD_done {L : List Pend} {listed : Array Bool} {a : Act} {w : World} (hr : Region.ready md ops listed = []) (h : Q .normal a w) : ∀ fuel, wpD P md ops Q fuel L listed a w
  | 0 => ⟨hr, h⟩
  | _ + 1 => ⟨fun _ => h, by rw [hr]; simp⟩

end
end Go.Sep

/- What the executor asks suffices: the code does what is told. -/
namespace Go.Sep
set_option linter.unusedVariables false
set_option linter.unusedSimpArgs false

def allDst (nt : Nat) (l : List Oper) : Bool := l.all fun o => dstOk nt o.dst

def chkAt (P : Program) (num : Nat → Nat) (nt : Nat) (os : Array Oper) (i : Nat) (m : MOper) : Bool :=
  match os[i]? with
  | some x => chkOper P num os m x && dstOk nt x.dst
  | none => false

def chkD (P : Program) (num : Nat → Nat) (nt : Nat) (os : Array Oper) : Nat → Array Bool → DTree → Bool
  | _, listed, .done => (Region.ready .any os listed).isEmpty
  | fuel + 1, listed, .take i o k => isRead o.op && (Region.ready .any os listed).contains i && Region.free .any os listed i && chkAt P num nt os i o && chkD P num nt os fuel (listed.setIfInBounds i true) k
  | fuel + 1, listed, .only i deps o k => Region.ready .any os listed == [i] && depsOk .any os i [] deps && chkAt P num nt os i o && chkD P num nt os fuel (listed.setIfInBounds i true) k
  | fuel + 1, listed, .both i di o k j dj p l => Region.ready .any os listed == [i, j] && depsOk .any os i [] di && depsOk .any os j [] dj && chkAt P num nt os i o && chkAt P num nt os j p &&
      chkD P num nt os fuel (listed.setIfInBounds i true) k && chkD P num nt os fuel (listed.setIfInBounds j true) l
  | fuel + 1, listed, .tri i di o k j dj p l m dm q r => Region.ready .any os listed == [i, j, m] && depsOk .any os i [] di && depsOk .any os j [] dj && depsOk .any os m [] dm && chkAt P num nt os i o && chkAt P num nt os j p && chkAt P num nt os m q &&
      chkD P num nt os fuel (listed.setIfInBounds i true) k && chkD P num nt os fuel (listed.setIfInBounds j true) l && chkD P num nt os fuel (listed.setIfInBounds m true) r
  | 0, _, _ => false

def chkC (P : Program) (num : Nat → Nat) (nt : Nat) : MCode → Code → Bool
  | .skip, c => (match c with | .skip => true | .cond (.const (.bool false)) _ .skip => true | _ => false)
  | .reg d ops, c => (match c with | .region _ os d' => !d && !d' && chkOpers P num os ops os.toList && allDst nt os.toList | _ => false)
  | .dreg tr, c => (match c with | .region _ os d' => d' && P.follows .mixedOrders && Region.noSelect os && chkD P num nt os os.size (Array.replicate os.size false) tr | _ => false)
  | .seq a b, c => (match c with | .seq x y => chkC P num nt a x && chkC P num nt b y | _ => false)
  | .cond t a b, c => (match c with | .cond (.tmp t') x y => t' == t && chkC P num nt a x && chkC P num nt b y | _ => false)
  | .blk id a, c => (match c with | .block id' x => id' == id && chkC P num nt a x | _ => false)
  | .loop a, c => (match c with | .loop x => chkC P num nt a x | _ => false)
  | .exit id, c => (match c with | .exit id' => id' == id | _ => false)
  | .ret, c => (match c with | .ret => true | _ => false)

section
variable {P : Program} {num : Nat → Nat} {fin : AS → Prop} {B : Base} {R : Act → World → Prop}

def sem (P : Program) (num : Nat → Nat) (B : Base) (R : Act → World → Prop) : List It → Exit → Act → World → Prop
  | [], e, a, w => (e = .normal ∨ e = .ret) ∧ R a w
  | .code m :: k, .normal, a, w => ∀ c, chkC P num B.nt m c = true → c.wp P (sem P num B R k) a w
  | .ops l :: k, .normal, a, w => ∀ (ops : Array Oper) (j : Nat), chkOpers P num ops l (ops.toList.drop j) = true → allDst B.nt ops.toList = true → wpOps P ops (sem P num B R k) (List.range' j (ops.size - j)) a w
  | .blk _ :: k, .normal, a, w => sem P num B R k .normal a w
  | .blk id :: k, .exit j, a, w => if j = id then sem P num B R k .normal a w else sem P num B R k (.exit j) a w
  | .stop J :: _, .normal, a, w => ∃ s, St B s a w ∧ J s
  | .draw _ _ :: _, .normal, _, _ => True
  | _ :: k, e, a, w => sem P num B R k e a w

theorem sem_exit (id : Nat) (a : Act) (w : World) : ∀ k, sem P num B R (exitIt id k) .normal a w → sem P num B R k (.exit id) a w
  | [], h => by
    simp only [exitIt, sem] at h
    obtain ⟨_, _, h⟩ := h
    exact h.elim
  | .blk j :: k, g => by
    simp only [exitIt] at g
    simp only [sem]
    by_cases hj : j = id
    · rw [if_pos hj] at g
      rw [if_pos hj.symm]
      exact g
    · rw [if_neg hj] at g
      rw [if_neg (fun he => hj he.symm)]
      exact sem_exit id a w k g
  | .code _ :: k, g => by simp only [exitIt] at g; simp only [sem]; exact sem_exit id a w k g
  | .ops _ :: k, g => by simp only [exitIt] at g; simp only [sem]; exact sem_exit id a w k g
  | .draw _ _ :: k, g => by simp only [exitIt] at g; simp only [sem]; exact sem_exit id a w k g
  | .stop _ :: k, g => by simp only [exitIt] at g; simp only [sem]; exact sem_exit id a w k g

theorem sem_ret (a : Act) (w : World) (hR : R a w) : ∀ k, sem P num B R k .ret a w
  | [] => ⟨.inr rfl, hR⟩
  | .blk _ :: k => by simp only [sem]; exact sem_ret a w hR k
  | .code _ :: k => by simp only [sem]; exact sem_ret a w hR k
  | .ops _ :: k => by simp only [sem]; exact sem_ret a w hR k
  | .draw _ _ :: k => by simp only [sem]; exact sem_ret a w hR k
  | .stop _ :: k => by simp only [sem]; exact sem_ret a w hR k

theorem vc_op {dst : Option Nat} {op : MOp} {os : List MOper} {k : List It} {t : List (Nat × AV)} {h : Heap} {nx : Nat} : vc P num fin (.ops ({ dst := dst, op := op, guard := none } :: os) :: k) (.mk t h nx) =
    (if isCall op then ∃ s', CallTo P num op dst (.mk t h nx) s' ∧ vc P num fin (.ops os :: k) s'
      else match plan (lookT t) h nx op with
        | some (p, v, fp, nx') => p ∧ vc P num fin (.ops os :: k) (.mk (putD t dst v) (app1 h fp) nx')
        | none => False) := by
  rw [vc]
  all_goals rfl

/-- One operation that is wanted. -/
theorem do_op {dst : Option Nat} {op : MOp} {os : List MOper} {k : List It} {t : List (Nat × AV)} {h : Heap} {nx : Nat} {o : Oper} {a : Act} {w : World} {K : Act → World → Prop} {Q : Exit → Act → World → Prop} (hn : B.num = num)
    (hv : vc P num fin (.ops ({ dst := dst, op := op, guard := none } :: os) :: k) (.mk t h nx)) (hc : chkOp P num op o.op = true) (hd : o.dst = dst) (hdo : dstOk B.nt o.dst = true) (hs : St B (.mk t h nx) a w)
    (ih : ∀ s', vc P num fin (.ops os :: k) s' → ∀ a' w', St B s' a' w' → K a' w') : o.wp P a w K Q := by
  subst hn
  subst hd
  rw [vc_op] at hv
  split at hv
  · obtain ⟨s', h1, h2⟩ := hv
    exact h1 B o a w K Q rfl hc rfl hdo hs (ih s' h2)
  · split at hv
    · rename_i hp
      exact step_op hc hdo hs hp hv.1 (ih _ hv.2)
    · exact hv.elim

theorem St_bool {t : List (Nat × AV)} {h : Heap} {nx : Nat} {a : Act} {w : World} {x : Nat} {b : Bool} (hs : St B (.mk t h nx) a w) (hx : lookT t x = .bool b) : a.tmps.getD x undef = .bool b ∧ a.tmps[x]? = some (.bool b) := by
  obtain ⟨_, _, _, _, φ, Lf, hl⟩ := hs
  have h1 := hl.tm x
  rw [hx] at h1
  simp only [RV] at h1
  refine ⟨h1.1, ?_⟩
  have h2 := h1.1
  rw [Array.getD_eq_getD_getElem?] at h2
  cases hg : a.tmps[x]? with
  | none => rw [hg] at h2; simp [undef] at h2
  | some v => rw [hg] at h2; simpa using h2

theorem St_gv {t : List (Nat × AV)} {h : Heap} {nx : Nat} {a : Act} {w : World} {os : Array Oper} {x j : Nat} {q : Option Bool} (hs : St B (.mk t h nx) a w) (hx : gv (lookT t x) q) (hg : (os[j]?).bind (·.dst) = some x) : yielded os a.tmps j = q := by
  rcases hx with ⟨b, hb, rfl⟩ | ⟨hb, rfl⟩
  · obtain ⟨_, h2⟩ := St_bool hs hb
    unfold yielded
    rw [hg]
    simp [h2]
  · obtain ⟨_, _, _, _, φ, Lf, hl⟩ := hs
    have h1 := hl.tm x
    rw [hb] at h1
    simp only [RV, RVs] at h1
    obtain ⟨vs, h1, h2, _⟩ := h1
    subst h2
    rw [Array.getD_eq_getD_getElem?] at h1
    unfold yielded
    rw [hg]
    simp only [Option.bind_some]
    cases hg' : a.tmps[x]? with
    | none => rfl
    | some v =>
      rw [hg'] at h1
      simp only [Option.getD_some] at h1
      rw [h1]

theorem sem_panic (c : List PanicEntry) (a : Act) (w : World) : ∀ k, sem P num B R k (.panic c) a w → False
  | [], h => by simp only [sem] at h; rcases h.1 with h | h <;> cases h
  | .blk _ :: k, h => by simp only [sem] at h; exact sem_panic c a w k h
  | .code _ :: k, h => by simp only [sem] at h; exact sem_panic c a w k h
  | .ops _ :: k, h => by simp only [sem] at h; exact sem_panic c a w k h
  | .draw _ _ :: k, h => by simp only [sem] at h; exact sem_panic c a w k h
  | .stop _ :: k, h => by simp only [sem] at h; exact sem_panic c a w k h

/-- What a read needs stays, as long as the frozen things and its rows lie as they lie. -/
def PendOk (B : Base) (p : Nat × List Nat) (q : Pend) (φ : Nat → Spot) (h : Heap) (w : World) : Prop :=
  q.i = p.1 ∧ q.S w ∧ (∀ w' : World, (∀ b, B.Fr b ∨ B.Bo b → ∀ o, w'.cell? ⟨b, o, none⟩ = w.cell? ⟨b, o, none⟩) → (∀ n ∈ p.2, ∀ pl, φ n = .at pl → w'.heap[pl.block]? = w.heap[pl.block]?) → q.S w') ∧ ∀ n ∈ p.2, look h n ≠ none

def PendRel (B : Base) (pend : List (Nat × List Nat)) (L : List Pend) (φ : Nat → Spot) (h : Heap) (w : World) : Prop := ∀ q ∈ L, ∃ p, (p ∈ pend ∨ p.2 = []) ∧ PendOk B p q φ h w

theorem Lies.place {t : List (Nat × AV)} {h : Heap} {nx : Nat} {a : Act} {w : World} {φ : Nat → Spot} {Lf : Nat → List Nat} (hl : Lies B t h nx a w φ Lf) {n : Nat} (hn : look h n ≠ none) : φ n ≠ .dead ∧ ∀ pl, φ n = .at pl → pl.block ∈ Lf n ∧ pl.block < w.heap.size := by
  cases hr : look h n with
  | none => exact absurd hr hn
  | some row =>
    have h1 := hl.ok.rh.row n row hr
    have h1' : (match φ n with | .dead => False | .nilp => row.2 = [] ∧ Lf n = [] | .at p => p.sz = row.1 ∧ OwnBlk w p row.2.length ∧ ∃ Lr, RRows (B.env w φ) w p.block p.off p.sz row.2 Lr ∧ Lf n = p.block :: Lr) := h1
    refine ⟨fun hd => by rw [hd] at h1'; exact h1', fun pl hp => ?_⟩
    rw [hp] at h1'
    obtain ⟨_, _, Lr, _, h2⟩ := h1'
    have h3 : pl.block ∈ Lf n := by rw [h2]; simp
    exact ⟨h3, (hl.ok.rh.blk n hn _ h3).1⟩

/-- A step keeps what a read needs: its rows keep their places and their blocks. -/
theorem PendOk.step {p : Nat × List Nat} {q : Pend} {φ φ2 : Nat → Spot} {h h2 : Heap} {w w2 : World} (hq : PendOk B p q φ h w) (hcell : ∀ b, B.Fr b ∨ B.Bo b → ∀ o, w2.cell? ⟨b, o, none⟩ = w.cell? ⟨b, o, none⟩)
    (hφ : ∀ n ∈ p.2, φ2 n = φ n) (hb : ∀ n ∈ p.2, ∀ pl, φ n = .at pl → w2.heap[pl.block]? = w.heap[pl.block]?) (ha : ∀ n ∈ p.2, look h2 n ≠ none) : PendOk B p q φ2 h2 w2 := by
  obtain ⟨h1, h3, h4, h5⟩ := hq
  refine ⟨h1, h4 w2 hcell hb, fun w' hc hb' => h4 w' (fun b hf o => (hc b hf o).trans (hcell b hf o)) (fun n hn pl hp => ?_), ha⟩
  rw [hb' n hn pl (by rw [hφ n hn]; exact hp), hb n hn pl hp]

theorem turns_frozen {t : List (Nat × AV)} {h : Heap} {nx : Nat} {a a2 : Act} {w : World} {φ : Nat → Spot} {Lf : Nat → List Nat} {t2 : List (Nat × AV)} {h2 : Heap} {nx2 : Nat} {w2 : World} {φ2 : Nat → Spot} {Lf2 : Nat → List Nat}
    (hl : Lies B t h nx a w φ Lf) (hl2 : Lies B t2 h2 nx2 a2 w2 φ2 Lf2) : ∀ b, B.Fr b ∨ B.Bo b → ∀ o, w2.cell? ⟨b, o, none⟩ = w.cell? ⟨b, o, none⟩ :=
  fun b hb o => (hl2.ok.frozen_cell hb o).trans (hl.ok.frozen_cell hb o).symm

/-- A read. -/
theorem read_step {os : Array Oper} {k : List It} {i : Nat} {x : Oper} {dst : Option Nat} {op : MOp} {fuel : Nat} {pend pend2 : List (Nat × List Nat)} {L L2 : List Pend} {listed : Array Bool} {a : Act} {w : World} {t : List (Nat × AV)} {h : Heap} {nx nx' : Nat} {φ : Nat → Spot} {Lf : Nat → List Nat}
    {p : Prop} {v : AV} {fp : FP} (hn : B.num = num) (hrd : isRead op = true) (hc : chkOp P num op x.op = true) (hd : x.dst = dst) (hdo : dstOk B.nt x.dst = true) (hsz : a.tmps.size = B.nt) (hdef : a.defers = []) (hb : HB h nx) (hbt : ∀ n, bnd (· < nx) (lookT t n))
    (hl : Lies B t h nx a w φ Lf) (hp : plan (lookT t) h nx op = some (p, v, fp, nx')) (hpp : p) :
    ∃ v', (∀ w', Same (B.env w φ) fp w' → (execOp a.eval x).run P w' = .ok (.value v') w') ∧ ∃ φ2 Lf2, (a.put x.dst v').tmps.size = B.nt ∧ (a.put x.dst v').defers = [] ∧ HB (app1 h fp) nx' ∧ (∀ n, bnd (· < nx') (lookT (putD t dst v) n)) ∧
      Lies B (putD t dst v) (app1 h fp) nx' (a.put x.dst v') w φ2 Lf2 ∧ (∀ n, look h n ≠ none → look (app1 h fp) n ≠ none → φ2 n = φ n) := by
  subst hn
  subst hd
  have pb := plan_bnd hc hp hbt hb
  obtain ⟨v', h1, e', Lf', h2, h3, h4⟩ := plan_triR hrd hc hp hpp (B.env w φ) B.L0 (look h) Lf (· < nx) a rfl hl.ok pb.pre hbt (fun nm row hr => (hb nm row hr).2) (fun y hy hn => by have := pb.new y hy hn; omega) hl.tm
  obtain ⟨g1, g2, g3, Lf'', g4⟩ := hl.turn (d := x.dst) hsz hdo hb hbt pb h3 h4
  have h2' : e'.w = w := h2
  rw [h2'] at g4
  refine ⟨v', h1, e'.φ, Lf'', by rw [put_size]; exact hsz, by rw [put_defers]; exact hdef, g2, g3, g4, fun n hn1 hn2 => ?_⟩
  by_cases hF : n ∈ fp.map (·.1)
  · rcases h3.φF n hF hn1 with h5 | h5
    · exact h5
    · exact absurd h5 (g4.place hn2).1
  · exact h3.φ n hF

/-- What the executor asks of one operation of a drawn region that may come up alone. -/
theorem only_step {os : Array Oper} {k : List It} {i : Nat} {deps : List Nat} {m : MOper} {tr : DTree} {fuel : Nat} {pend : List (Nat × List Nat)} {L : List Pend} {listed : Array Bool} {a : Act} {w : World} {t : List (Nat × AV)} {h : Heap} {nx : Nat} {φ : Nat → Spot} {Lf : Nat → List Nat}
    (hn : B.num = num) (hv : vc P num fin (.draw (.only i deps m tr) pend :: k) (.mk t h nx)) (hsz : a.tmps.size = B.nt) (hdef : a.defers = []) (hb : HB h nx) (hbt : ∀ n, bnd (· < nx) (lookT t n)) (hl : Lies B t h nx a w φ Lf)
    (hpr : PendRel B pend L φ h w) (hdeps : depsOk .any os i [] deps = true) (hat : chkAt P num B.nt os i m = true)
    (ih : ∀ (pend : List (Nat × List Nat)) (L : List Pend) (a : Act) (w : World) (t : List (Nat × AV)) (h : Heap) (nx : Nat) (φ : Nat → Spot) (Lf : Nat → List Nat), vc P num fin (.draw tr pend :: k) (.mk t h nx) → a.tmps.size = B.nt → a.defers = [] → HB h nx → (∀ n, bnd (· < nx) (lookT t n)) →
      Lies B t h nx a w φ Lf → PendRel B pend L φ h w → wpD P .any os (sem P num B R k) fuel L (listed.setIfInBounds i true) a w) :
    wpOp P os (sem P num B R k) i (fun a' w' => (∀ p ∈ L, waits .any os i p.i = false → p.S w') ∧ wpD P .any os (sem P num B R k) fuel (L.filter fun p => !waits .any os i p.i) (listed.setIfInBounds i true) a' w') a w := by
  unfold chkAt at hat
  cases hx : os[i]? with
  | none => rw [hx] at hat; simp at hat
  | some x =>
    rw [hx] at hat
    simp only [Bool.and_eq_true] at hat
    obtain ⟨hc1, hdx⟩ := hat
    unfold chkOper at hc1
    simp only [Bool.and_eq_true, beq_iff_eq] at hc1
    obtain ⟨⟨hd1, hc1⟩, hg⟩ := hc1
    -- who is kept
    have kept : ∀ q ∈ L, waits .any os i q.i = false → ∃ p, (p ∈ undep deps pend ∨ p.2 = []) ∧ PendOk B p q φ h w := by
      intro q hq hdq
      obtain ⟨p, hp, hpo⟩ := hpr q hq
      refine ⟨p, ?_, hpo⟩
      rcases hp with hp | hp
      case inr => exact .inr hp
      refine .inl ?_
      unfold undep
      rw [List.mem_filter]
      refine ⟨hp, ?_⟩
      rw [← hpo.1]
      cases hcn : deps.contains q.i with
      | false => rfl
      | true =>
        have := depsOk_waits hdeps (fun r hr => by simp at hr) q.i (by simpa using hcn)
        rw [hdq] at this
        simp at this
    have rel : ∀ {φ2 : Nat → Spot} {h2 : Heap} {w2 : World}, (∀ p, (p ∈ undep deps pend ∨ p.2 = []) → ∀ q, PendOk B p q φ h w → PendOk B p q φ2 h2 w2) → (∀ p ∈ L, waits .any os i p.i = false → p.S w2) ∧ PendRel B (undep deps pend) (L.filter fun p => !waits .any os i p.i) φ2 h2 w2 := by
      intro φ2 h2 w2 hst
      refine ⟨fun q hq hdq => ?_, fun q hq => ?_⟩
      · obtain ⟨p, hp, hpo⟩ := kept q hq hdq
        exact (hst p hp q hpo).2.1
      · rw [List.mem_filter] at hq
        obtain ⟨p, hp, hpo⟩ := kept q hq.1 (by simpa using hq.2)
        exact ⟨p, hp, hst p hp q hpo⟩
    obtain ⟨dst, op, guard⟩ := m
    simp only at hd1 hc1 hg
    have run : vc P num fin (.draw (.only i deps ⟨dst, op, none⟩ tr) pend :: k) (.mk t h nx) → x.wp P a w (fun a' w' => (∀ p ∈ L, waits .any os i p.i = false → p.S w') ∧ wpD P .any os (sem P num B R k) fuel (L.filter fun p => !waits .any os i p.i) (listed.setIfInBounds i true) a' w') (sem P num B R k) := by
      intro hv
      rw [vc] at hv
      simp only at hv
      -- writes
      have wr : ∀ {v : AV} {fp : FP} {nx' : Nat} {e3 : Env} {Lf3 : Nat → List Nat} {v' : Value}, PB h nx v fp nx' → apart (undep deps pend) fp → vc P num fin (.draw tr (undep deps pend) :: k) (.mk (putD t dst v) (app1 h fp) nx') →
          Turns (B.env w φ) (look h) Lf (fun n => n ∈ fp.map (·.1)) e3 (upH (look h) fp) Lf3 → RV e3 v v' [] →
          (∀ p ∈ L, waits .any os i p.i = false → p.S e3.w) ∧ wpD P .any os (sem P num B R k) fuel (L.filter fun p => !waits .any os i p.i) (listed.setIfInBounds i true) (a.put x.dst v') e3.w := by
        intro v fp nx' e3 Lf3 v' pb hap hv2 ht hrv
        obtain ⟨g1, g2, g3, Lf'', g4⟩ := hl.turn (d := x.dst) hsz hdx hb hbt pb ht hrv
        have hnF : ∀ p, (p ∈ undep deps pend ∨ p.2 = []) → ∀ n ∈ p.2, n ∉ fp.map (·.1) := fun p hp n hn' hm => by
          rcases hp with hp | hp
          case inr => rw [hp] at hn'; simp at hn'
          obtain ⟨y, hy, hyn⟩ := List.mem_map.1 hm
          exact hap p hp n hn' y hy hyn
        obtain ⟨r1, r2⟩ := rel (φ2 := e3.φ) (h2 := app1 h fp) (w2 := e3.w) (fun p hp q hq => hq.step (turns_frozen hl g4) (fun n hn' => ht.φ n (hnF p hp n hn')) (fun n hn' pl hpl => by
            obtain ⟨_, h6⟩ := hl.place (hq.2.2.2 n hn')
            obtain ⟨h7, h8⟩ := h6 pl hpl
            exact ht.keep _ h8 (fun m hm hmn hbm => hl.ok.rh.dis n m (hq.2.2.2 n hn') hmn (fun he => hnF p hp n hn' (he ▸ hm)) _ h7 hbm)) (fun n hn' => by
            rw [look_app1, upH_none (hnF p hp n hn')]
            exact hq.2.2.2 n hn'))
        rw [hd1] at g3 g4
        refine ⟨r1, ?_⟩
        have := ih (undep deps pend) _ (a.put dst v') e3.w _ _ _ e3.φ Lf'' hv2 (by rw [put_size]; exact hsz) (by rw [put_defers]; exact hdef) g2 g3 g4 r2
        rw [hd1]
        exact this
      split at hv
      · obtain ⟨v, fp, nx', hcr, hap, hv2⟩ := hv
        obtain ⟨pb, hcall⟩ := hcr hb hbt
        exact hcall B x a w φ Lf _ _ hn hc1 hl (fun e3 Lf3 v' ht hrv => wr pb hap hv2 ht hrv)
      · split at hv
        · rename_i p v fp nx' hp
          obtain ⟨hpp, hcond, hv2⟩ := hv
          split at hcond
          · rename_i hrd
            obtain ⟨v', g1, φ2, Lf2, s1, s2, s3, s4, s5, s6⟩ := read_step (k := k) (os := os) (i := i) (fuel := fuel) (pend := pend) (pend2 := pend) (L := L) (L2 := L) (listed := listed) hn hrd hc1 hd1 hdx hsz hdef hb hbt hl hp hpp
            obtain ⟨r1, r2⟩ := rel (φ2 := φ2) (h2 := app1 h fp) (w2 := w) (fun p hp q hq => by
              have hcond' : ∀ n ∈ p.2, look (app1 h fp) n ≠ none := fun n hn' => by
                rcases hp with hp | hp
                · exact hcond p hp n hn'
                · rw [hp] at hn'; simp at hn'
              exact hq.step (fun _ _ _ => rfl) (fun n hn' => s6 n (hq.2.2.2 n hn') (hcond' n hn')) (fun _ _ _ _ => rfl) hcond')
            exact wp_value (g1 w (Same.refl _ _)) ⟨r1, ih _ _ _ _ _ _ _ φ2 Lf2 hv2 s1 s2 s3 s4 s5 r2⟩
          · subst hn
            have pb := plan_bnd hc1 hp hbt hb
            have tri := plan_tri hc1 hp hpp (fun nm row hr => by have := (hb nm row hr).1; omega)
            exact tri (B.env w φ) B.L0 (look h) Lf (· < nx) a _ _ rfl hl.ok pb.pre hbt (fun nm row hr => (hb nm row hr).2) (fun y hy hn => by have := pb.new y hy hn; omega) hl.tm (fun e3 Lf3 v' ht hrv => wr pb hcond hv2 ht hrv)
        · exact hv.elim
    unfold wpOp
    rw [hx]
    dsimp only
    cases guard with
    | none =>
      cases hxg : x.guard with
      | some y => rw [hxg] at hg; simp at hg
      | none =>
        have hw : Region.wanted x (yielded os a.tmps) = true := by simp [Region.wanted, hxg]
        simp only [hw, if_true]
        exact .inl (run hv)
    | some y =>
      obtain ⟨g, want⟩ := y
      cases hxg : x.guard with
      | none => rw [hxg] at hg; simp at hg
      | some z =>
        obtain ⟨jj, want'⟩ := z
        rw [hxg] at hg
        simp only [Bool.and_eq_true, beq_iff_eq] at hg
        obtain ⟨hg1, hg2⟩ := hg
        subst hg1
        rw [vc] at hv
        simp only at hv
        obtain ⟨b, hbv, k1, k2⟩ := hv
        have hy : yielded os a.tmps jj = b := St_gv (B := B) (h := h) (nx := nx) ⟨hsz, hdef, hb, hbt, φ, Lf, hl⟩ hbv hg2
        have hw : Region.wanted x (yielded os a.tmps) = (b == some want') := by simp [Region.wanted, hxg, hy]
        rw [hw]
        by_cases hbw : b = some want'
        · subst hbw
          simp only [beq_self_eq_true, if_true]
          exact .inl (run (k1 rfl))
        · have : (b == some want') = false := by simpa using hbw
          simp only [this, Bool.false_eq_true, if_false]
          have k3 := k2 hbw
          obtain ⟨r1, r2⟩ := rel (φ2 := φ) (h2 := h) (w2 := w) (fun p hp q hq => hq)
          rw [hd1] at hdx ⊢
          obtain ⟨s1, s2, s3, s4, φ', Lf', s5⟩ := St.skip (B := B) hdx ⟨hsz, hdef, hb, hbt, φ, Lf, hl⟩
          have s5' : Lies B (putD t dst (.tup [])) h nx (a.put dst undef) w φ Lf := by
            refine ⟨hl.ok, ?_, hl.φ0, hl.ten⟩
            intro n
            rw [lookT_putD, put_getD hsz hdx]
            split
            · simp [RV, RVs, undef]
            · exact hl.tm n
          exact ⟨r1, ih _ _ _ _ _ _ _ φ Lf k3 s1 s2 s3 s4 s5' r2⟩

theorem draw_sound {os : Array Oper} {k : List It} (hn : B.num = num) (hsel : Region.noSelect os = true) (IHk : ∀ s, vc P num fin k s → ∀ a w, St B s a w → sem P num B R k .normal a w) :
    ∀ (tr : DTree) (fuel : Nat) (listed : Array Bool) (pend : List (Nat × List Nat)) (L : List Pend) (a : Act) (w : World) (t : List (Nat × AV)) (h : Heap) (nx : Nat) (φ : Nat → Spot) (Lf : Nat → List Nat), chkD P num B.nt os fuel listed tr = true → Shutd .any os listed →
      vc P num fin (.draw tr pend :: k) (.mk t h nx) → a.tmps.size = B.nt → a.defers = [] → HB h nx → (∀ n, bnd (· < nx) (lookT t n)) →
      Lies B t h nx a w φ Lf → PendRel B pend L φ h w → wpD P .any os (sem P num B R k) fuel L listed a w := by
  intro tr
  induction tr with
  | done =>
    intro fuel listed pend L a w t h nx φ Lf hc hsh hv hsz hdef hb hbt hl hpr
    have hc' : (Region.ready .any os listed).isEmpty = true := by cases fuel <;> simpa [chkD] using hc
    rw [vc] at hv
    exact wpD_done (by simpa using hc') (IHk _ hv a w ⟨hsz, hdef, hb, hbt, φ, Lf, hl⟩) fuel
  | only i deps m tr ih =>
    intro fuel listed pend L a w t h nx φ Lf hc hsh hv hsz hdef hb hbt hl hpr
    cases fuel with
    | zero => simp [chkD] at hc
    | succ fuel =>
      simp only [chkD, Bool.and_eq_true, beq_iff_eq] at hc
      obtain ⟨⟨⟨h1, h2⟩, h3⟩, h4⟩ := hc
      refine wpD_all h1 (by simp) (fun j hj => ?_)
      simp only [List.mem_singleton] at hj
      subst hj
      exact only_step hn hv hsz hdef hb hbt hl hpr h2 h3 (fun pend L a w t h nx φ Lf hv => ih fuel _ pend L a w t h nx φ Lf h4 (hsh.up (by rw [h1]; simp)) hv)
  | both i di m tr j dj m' tr' ih ih' =>
    intro fuel listed pend L a w t h nx φ Lf hc hsh hv hsz hdef hb hbt hl hpr
    cases fuel with
    | zero => simp [chkD] at hc
    | succ fuel =>
      simp only [chkD, Bool.and_eq_true, beq_iff_eq] at hc
      obtain ⟨⟨⟨⟨⟨⟨h1, h2⟩, h3⟩, h4⟩, h5⟩, h6⟩, h7⟩ := hc
      rw [vc] at hv
      refine wpD_all h1 (by simp) (fun l hj => ?_)
      simp only [List.mem_cons, List.not_mem_nil, or_false] at hj
      rcases hj with hj | hj
      · subst hj
        exact only_step hn hv.1 hsz hdef hb hbt hl hpr h2 h4 (fun pend L a w t h nx φ Lf hv => ih fuel _ pend L a w t h nx φ Lf h6 (hsh.up (by rw [h1]; simp)) hv)
      · subst hj
        exact only_step hn hv.2 hsz hdef hb hbt hl hpr h3 h5 (fun pend L a w t h nx φ Lf hv => ih' fuel _ pend L a w t h nx φ Lf h7 (hsh.up (by rw [h1]; simp)) hv)
  | tri i di m tr j dj m' tr' j2 dj2 m2 tr2 ih ih' ih2 =>
    intro fuel listed pend L a w t h nx φ Lf hc hsh hv hsz hdef hb hbt hl hpr
    cases fuel with
    | zero => simp [chkD] at hc
    | succ fuel =>
      simp only [chkD, Bool.and_eq_true, beq_iff_eq] at hc
      obtain ⟨⟨⟨⟨⟨⟨⟨⟨⟨h1, h2⟩, h3⟩, h4⟩, h5⟩, h6⟩, h7⟩, h8⟩, h9⟩, h10⟩ := hc
      rw [vc] at hv
      refine wpD_all h1 (by simp) (fun l hj => ?_)
      simp only [List.mem_cons, List.not_mem_nil, or_false] at hj
      rcases hj with hj | hj | hj
      · subst hj
        exact only_step hn hv.1 hsz hdef hb hbt hl hpr h2 h5 (fun pend L a w t h nx φ Lf hv => ih fuel _ pend L a w t h nx φ Lf h8 (hsh.up (by rw [h1]; simp)) hv)
      · subst hj
        exact only_step hn hv.2.1 hsz hdef hb hbt hl hpr h3 h6 (fun pend L a w t h nx φ Lf hv => ih' fuel _ pend L a w t h nx φ Lf h9 (hsh.up (by rw [h1]; simp)) hv)
      · subst hj
        exact only_step hn hv.2.2 hsz hdef hb hbt hl hpr h4 h7 (fun pend L a w t h nx φ Lf hv => ih2 fuel _ pend L a w t h nx φ Lf h10 (hsh.up (by rw [h1]; simp)) hv)
  | take i m tr ih =>
    intro fuel listed pend L a w t h nx φ Lf hc hsh hv hsz hdef hb hbt hl hpr
    cases fuel with
    | zero => simp [chkD] at hc
    | succ fuel =>
      simp only [chkD, Bool.and_eq_true] at hc
      obtain ⟨⟨⟨⟨hrd, hready⟩, hfree⟩, hat⟩, hck⟩ := hc
      unfold chkAt at hat
      cases hx : os[i]? with
      | none => rw [hx] at hat; simp at hat
      | some x =>
        rw [hx] at hat
        simp only [Bool.and_eq_true] at hat
        obtain ⟨hc1, hdx⟩ := hat
        unfold chkOper at hc1
        simp only [Bool.and_eq_true, beq_iff_eq] at hc1
        obtain ⟨⟨hd1, hc1⟩, hg⟩ := hc1
        obtain ⟨dst, op, guard⟩ := m
        simp only at hd1 hc1 hg hrd
        have hQ : ∀ v : Value, ∀ c a w, sem P num B R k (.panic c) (a.put x.dst v) w → sem P num B R k (.panic c) a w := fun v c a w hp => (sem_panic c _ w k hp).elim
        have hr' : i ∈ Region.ready .any os listed := by simpa using hready
        have run : Region.wanted x (yielded os a.tmps) = true → vc P num fin (.draw (.take i ⟨dst, op, none⟩ tr) pend :: k) (.mk t h nx) → wpD P .any os (sem P num B R k) (fuel + 1) L listed a w := by
          intro hwt hv
          rw [vc] at hv
          simp only at hv
          split at hv
          · rename_i p v fp nx' hp
            obtain ⟨hpp, hal, hv2⟩ := hv
            obtain ⟨v', g1, φ2, Lf2, s1, s2, s3, s4, s5, s6⟩ := read_step (k := k) (os := os) (i := i) (fuel := fuel) (pend := pend) (pend2 := pend) (L := L) (L2 := L) (listed := listed) hn hrd hc1 hd1 hdx hsz hdef hb hbt hl hp hpp
            refine wpD_take (S := Same (B.env w φ) fp) (v := v') hx (Region.noSelect_spec hsel) (hQ v') fuel L listed a w (Region.free_spec hx hfree) hsh hr' (.inl ⟨hwt, g1⟩) (Same.refl _ _) (fun q hq => ?_) ?_
            · obtain ⟨p, _, hpo⟩ := hpr q hq
              exact hpo.2.1
            · have hal' : ∀ n ∈ needs fp, look (app1 h fp) n ≠ none := fun n hn' => by
                cases hns : needs fp with
                | nil => rw [hns] at hn'; simp at hn'
                | cons n0 ns =>
                  rw [hns] at hal hn'
                  exact hal (i, n0 :: ns) (by simp [addP]) n hn'
              have hadd : ∀ p ∈ pend, p ∈ addP i (needs fp) pend := fun p hp => by
                unfold addP
                split
                · exact hp
                · exact List.mem_cons_of_mem _ hp
              refine ih fuel _ (addP i (needs fp) pend) _ _ w _ _ _ φ2 Lf2 hck (hsh.up hr') hv2 s1 s2 s3 s4 s5 ?_
              intro q hq
              rcases List.mem_cons.1 hq with rfl | hq
              · refine ⟨(i, needs fp), ?_, rfl, Same.refl _ _, ?_, fun n hn' => hal' n hn'⟩
                · cases hns : needs fp with
                  | nil => exact .inr rfl
                  | cons n0 ns => exact .inl (by simp [addP])
                intro w' hc' hb'
                refine ⟨hc', fun y hy pl hpl => ?_⟩
                have hyn : look h y.1 ≠ none := by
                  intro hno
                  have : φ y.1 = .dead := hl.ok.rh.dead y.1 hno
                  have hpl' : φ y.1 = .at pl := hpl
                  rw [this] at hpl'
                  simp at hpl'
                have hmem : y.1 ∈ needs fp := by
                  unfold needs
                  refine List.mem_map.2 ⟨y, List.mem_filter.2 ⟨hy, ?_⟩, rfl⟩
                  rw [← (plan_bnd hc1 hp hbt hb).pre y hy]
                  cases hh : look h y.1 with
                  | none => exact absurd hh hyn
                  | some r => rfl
                refine hb' y.1 hmem pl ?_
                rw [s6 y.1 hyn (hal' y.1 hmem)]
                exact hpl
              · obtain ⟨p, hp', hpo⟩ := hpr q hq
                have halp : ∀ n ∈ p.2, look (app1 h fp) n ≠ none := fun n hn' => by
                  rcases hp' with hp' | hp'
                  · exact hal p (hadd p hp') n hn'
                  · rw [hp'] at hn'; simp at hn'
                exact ⟨p, hp'.imp (hadd p) id, hpo.step (fun _ _ _ => rfl) (fun n hn' => s6 n (hpo.2.2.2 n hn') (halp n hn')) (fun _ _ _ _ => rfl) halp⟩
          · exact hv.elim
        cases guard with
        | none =>
          cases hxg : x.guard with
          | some y => rw [hxg] at hg; simp at hg
          | none => exact run (by simp [Region.wanted, hxg]) hv
        | some y =>
          obtain ⟨g, want⟩ := y
          cases hxg : x.guard with
          | none => rw [hxg] at hg; simp at hg
          | some z =>
            obtain ⟨jj, want'⟩ := z
            rw [hxg] at hg
            simp only [Bool.and_eq_true, beq_iff_eq] at hg
            obtain ⟨hg1, hg2⟩ := hg
            subst hg1
            rw [vc] at hv
            simp only at hv
            obtain ⟨b, hbv, k1, k2⟩ := hv
            have hy : yielded os a.tmps jj = b := St_gv (B := B) (h := h) (nx := nx) ⟨hsz, hdef, hb, hbt, φ, Lf, hl⟩ hbv hg2
            have hw : Region.wanted x (yielded os a.tmps) = (b == some want') := by simp [Region.wanted, hxg, hy]
            by_cases hbw : b = some want'
            · subst hbw
              exact run (by rw [hw]; simp) (k1 rfl)
            · have hw' : Region.wanted x (yielded os a.tmps) = false := by rw [hw]; simpa using hbw
              have k3 := k2 hbw
              have hdx' := hdx
              rw [hd1] at hdx'
              obtain ⟨s1, s2, s3, s4, _⟩ := St.skip (B := B) hdx' ⟨hsz, hdef, hb, hbt, φ, Lf, hl⟩
              have s5' : Lies B (putD t dst (.tup [])) h nx (a.put dst undef) w φ Lf := by
                refine ⟨hl.ok, ?_, hl.φ0, hl.ten⟩
                intro n
                rw [lookT_putD, put_getD hsz hdx']
                split
                · simp [RV, RVs, undef]
                · exact hl.tm n
              refine wpD_take (S := fun _ => True) (v := undef) hx (Region.noSelect_spec hsel) (hQ undef) fuel L listed a w (Region.free_spec hx hfree) hsh hr' (.inr ⟨hw', rfl⟩) trivial (fun q hq => ?_) ?_
              · obtain ⟨p, _, hpo⟩ := hpr q hq
                exact hpo.2.1
              · rw [hd1]
                exact wpD_triv i _ _ _ _ _ (ih fuel _ pend L _ w _ _ _ φ Lf hck (hsh.up hr') k3 s1 s2 s3 s4 s5' hpr)

theorem nat_min (p : Nat → Prop) : (∃ n, p n) → ∃ n, p n ∧ ∀ m, p m → n ≤ m := by
  rintro ⟨n, hn⟩
  induction n using Nat.strongRecOn with
  | _ n ih =>
  by_cases h : ∃ m, m < n ∧ p m
  · obtain ⟨m, hm, hp⟩ := h
    exact ih m hm hp
  · exact ⟨n, hn, fun m hm => Nat.le_of_not_lt fun hl => h ⟨m, hl, hm⟩⟩

open Classical in
noncomputable def least (p : Nat → Prop) : Nat := if h : ∃ n, p n then Classical.choose (nat_min p h) else 0

theorem least_spec {p : Nat → Prop} (h : ∃ n, p n) : p (least p) ∧ ∀ m, p m → least p ≤ m := by
  unfold least
  rw [dif_pos h]
  exact Classical.choose_spec (nat_min p h)

theorem vc_sound (hn : B.num = num) (hfin : ∀ s a w, fin s → St B s a w → R a w) : ∀ (n : Nat) (todo : List It), szs todo ≤ n → ∀ s, vc P num fin todo s → ∀ a w, St B s a w → sem P num B R todo .normal a w := by
  intro n
  induction n using Nat.strongRecOn with
  | _ n ih =>
  intro todo hle s hv a w hs
  match todo, s with
  | [], s =>
    rw [vc] at hv
    exact ⟨.inl rfl, hfin s a w hv hs⟩
  | .stop J :: k, s =>
    rw [vc] at hv
    exact ⟨s, hs, hv⟩
  | .blk id :: k, s =>
    rw [vc] at hv
    simp only [szs, It.sz] at hle
    simp only [sem]
    exact ih (szs k) (by omega) k (Nat.le_refl _) s hv a w hs
  | .ops [] :: k, s =>
    rw [vc] at hv
    simp only [szs, It.sz, osz] at hle
    simp only [sem]
    intro ops j hc hd
    have hnil : ops.toList.drop j = [] := by
      cases hl : ops.toList.drop j with
      | nil => rfl
      | cons x xs => rw [hl] at hc; simp [chkOpers] at hc
    have hz : ops.size - j = 0 := by
      have := congrArg List.length hnil
      simpa using this
    rw [hz]
    show sem P num B R k .normal a w
    exact ih (szs k) (by omega) k (Nat.le_refl _) s hv a w hs
  | .ops (m :: os) :: k, .bad => exact hs.elim
  | .ops (m :: os) :: k, .mk t h nx =>
    simp only [szs, It.sz, osz] at hle
    have hos : szs (.ops os :: k) < n := by
      simp only [szs, It.sz]
      cases hg : m.guard <;> simp only [hg] at hle <;> omega
    simp only [sem]
    intro ops j hc hd
    cases hl : ops.toList.drop j with
    | nil => rw [hl] at hc; simp [chkOpers] at hc
    | cons x xs =>
      rw [hl] at hc
      simp only [chkOpers, Bool.and_eq_true] at hc
      obtain ⟨hc1, hc2⟩ := hc
      have hlen : j < ops.size := by
        have := congrArg List.length hl
        simp at this
        omega
      have hx : ops[j]? = some x := by
        have := congrArg (·[0]?) hl
        simpa using this
      have hxs : ops.toList.drop (j + 1) = xs := by
        have := congrArg List.tail hl
        simpa using this
      have hr : List.range' j (ops.size - j) = j :: List.range' (j + 1) (ops.size - (j + 1)) := by
        rw [show ops.size - j = (ops.size - (j + 1)) + 1 by omega]
        rfl
      rw [hr, wpOps_cons]
      unfold wpOp
      rw [hx]
      dsimp only
      have hdx : dstOk B.nt x.dst = true := by
        unfold allDst at hd
        rw [List.all_eq_true] at hd
        exact hd x (List.mem_of_mem_drop (i := j) (by rw [hl]; simp))
      unfold chkOper at hc1
      simp only [Bool.and_eq_true, beq_iff_eq] at hc1
      obtain ⟨⟨hd1, hc1⟩, hg⟩ := hc1
      have next : ∀ s', vc P num fin (.ops os :: k) s' → ∀ a' w', St B s' a' w' → wpOps P ops (sem P num B R k) (List.range' (j + 1) (ops.size - (j + 1))) a' w' := by
        intro s' hv' a' w' hs'
        have := ih (szs (.ops os :: k)) hos (.ops os :: k) (Nat.le_refl _) s' hv' a' w' hs'
        simp only [sem] at this
        exact this ops (j + 1) (by rw [hxs]; exact hc2) hd
      obtain ⟨dst, op, guard⟩ := m
      simp only at hd1 hc1 hg hv
      cases guard with
      | none =>
        cases hxg : x.guard with
        | some y => rw [hxg] at hg; simp at hg
        | none =>
          have hw : Region.wanted x (yielded ops a.tmps) = true := by simp [Region.wanted, hxg]
          simp only [hw, if_true]
          exact .inl (do_op hn hv hc1 hd1 hdx hs next)
      | some y =>
        obtain ⟨g, want⟩ := y
        cases hxg : x.guard with
        | none => rw [hxg] at hg; simp at hg
        | some z =>
          obtain ⟨jj, want'⟩ := z
          rw [hxg] at hg
          simp only [Bool.and_eq_true, beq_iff_eq] at hg
          obtain ⟨hg1, hg2⟩ := hg
          subst hg1
          rw [vc] at hv
          simp only at hv
          obtain ⟨b, hb, k1, k2⟩ := hv
          have hy : yielded ops a.tmps jj = b := St_gv hs hb hg2
          have hw : Region.wanted x (yielded ops a.tmps) = (b == some want') := by
            simp [Region.wanted, hxg, hy]
          rw [hw]
          by_cases hbw : b = some want'
          · subst hbw
            simp only [beq_self_eq_true, if_true]
            exact .inl (do_op hn (k1 rfl) hc1 hd1 hdx hs next)
          · have : (b == some want') = false := by simpa using hbw
            simp only [this, Bool.false_eq_true, if_false]
            have k3 := k2 hbw
            rw [hd1] at hdx ⊢
            exact next _ k3 _ _ (St.skip hdx hs)
  | .draw tr pend :: k, s => simp only [sem]
  | .code (.dreg tr) :: k, .bad => exact hs.elim
  | .code (.dreg tr) :: k, .mk t h nx =>
    rw [vc] at hv
    simp only [szs, It.sz, MCode.sz] at hle
    simp only [sem]
    intro c hc
    cases c <;> simp [chkC] at hc
    rename_i id os d'
    obtain ⟨⟨⟨h1, h2⟩, h3⟩, h4⟩ := hc
    subst h1
    refine wp_region_any h2 (wpD_any _ [] _ _ _ ?_)
    have hs' := St.world (w := w) (w' := { w with drawn := w.drawn + 1 }) ⟨rfl, rfl, rfl⟩ rfl hs
    obtain ⟨g1, g2, g3, g4, φ, Lf, g5⟩ := hs'
    exact draw_sound hn h3 (fun s hv a w hs => ih (szs k) (by omega) k (Nat.le_refl _) s hv a w hs) tr _ _ [] [] a _ t h nx φ Lf h4 Shutd.none hv g1 g2 g3 g4 g5 (fun q hq => by simp at hq)
  | .code .skip :: k, s =>
    rw [vc] at hv
    simp only [szs, It.sz, MCode.sz] at hle
    simp only [sem]
    intro c hc
    have hk := ih (szs k) (by omega) k (Nat.le_refl _) s hv a w hs
    simp only [chkC] at hc
    split at hc
    · exact wp_skip hk
    · exact wp_cond_split (t := false) rfl (fun h => by simp at h) (fun _ => wp_skip hk)
    · simp at hc
  | .code .ret :: k, s =>
    rw [vc] at hv
    simp only [sem]
    intro c hc
    cases c <;> simp [chkC] at hc
    exact wp_ret (sem_ret a w (hfin s a w hv hs) k)
  | .code (.exit id) :: k, s =>
    rw [vc] at hv
    simp only [szs, It.sz, MCode.sz] at hle
    simp only [sem]
    intro c hc
    cases c <;> simp [chkC] at hc
    rw [hc]
    have := exitIt_sz id k
    have h1 := ih (szs (exitIt id k)) (by omega) (exitIt id k) (Nat.le_refl _) s hv a w hs
    exact wp_exit (sem_exit id a w k h1)
  | .code (.seq x y) :: k, s =>
    rw [vc] at hv
    simp only [szs, It.sz, MCode.sz] at hle
    simp only [sem]
    intro c hc
    cases c <;> simp [chkC] at hc
    rename_i c1 c2
    have h1 := ih (szs (.code x :: .code y :: k)) (by simp only [szs, It.sz]; omega) (.code x :: .code y :: k) (Nat.le_refl _) s hv a w hs
    simp only [sem] at h1
    refine wp_seq (wp_mono (h1 c1 hc.1) ?_)
    intro e a' w' he
    cases e with
    | normal => simp only [sem] at he; exact he c2 hc.2
    | _ => simp only [sem] at he; exact he
  | .code (.blk id x) :: k, s =>
    rw [vc] at hv
    simp only [szs, It.sz, MCode.sz] at hle
    simp only [sem]
    intro c hc
    cases c <;> simp [chkC] at hc
    rename_i id' c1
    obtain ⟨rfl, hc⟩ := hc
    have h1 := ih (szs (.code x :: .blk id' :: k)) (by simp only [szs, It.sz]; omega) (.code x :: .blk id' :: k) (Nat.le_refl _) s hv a w hs
    simp only [sem] at h1
    refine wp_block (wp_mono (h1 c1 hc) ?_)
    intro e a' w' he
    cases e with
    | normal => simp only [sem] at he; exact he
    | exit j => simp only [sem] at he; exact he
    | _ => simp only [sem] at he; exact he
  | .code (.reg d ops) :: k, s =>
    rw [vc] at hv
    simp only [szs, It.sz, MCode.sz] at hle
    simp only [sem]
    intro c hc
    cases c <;> simp [chkC] at hc
    rename_i id os d'
    obtain ⟨⟨⟨h1, h2⟩, h3⟩, h4⟩ := hc
    subst h2
    have h5 := ih (szs (.ops ops :: k)) (by simp only [szs, It.sz]; omega) (.ops ops :: k) (Nat.le_refl _) s hv a w hs
    simp only [sem] at h5
    have := h5 os 0 (by simpa using h3) h4
    refine wp_region ?_
    rw [List.range_eq_range']
    simpa using this
  | .code (.cond x y z) :: k, .bad => exact hs.elim
  | .code (.cond x y z) :: k, .mk t h nx =>
    rw [vc] at hv
    simp only [szs, It.sz, MCode.sz] at hle
    simp only [sem]
    intro c hc
    cases c <;> simp [chkC] at hc
    rename_i c0 c1 c2
    cases c0 <;> simp at hc
    obtain ⟨⟨rfl, hc1⟩, hc2⟩ := hc
    obtain ⟨q, hq, h1, h2⟩ := hv
    refine wp_cond_split (t := q) (St_bool hs hq).1 (fun hq => ?_) (fun hq => ?_)
    · have h3 := ih (szs (.code y :: k)) (by simp only [szs, It.sz]; omega) (.code y :: k) (Nat.le_refl _) _ (h1 hq) a w hs
      simp only [sem] at h3
      exact h3 c1 hc1
    · have h3 := ih (szs (.code z :: k)) (by simp only [szs, It.sz]; omega) (.code z :: k) (Nat.le_refl _) _ (h2 hq) a w hs
      simp only [sem] at h3
      exact h3 c2 hc2
  | .code (.loop x) :: k, s =>
    rw [vc] at hv
    simp only [szs, It.sz, MCode.sz] at hle
    simp only [sem]
    intro c hc
    cases c <;> simp [chkC] at hc
    rename_i c1
    obtain ⟨J, m0, ⟨s1, hsub, hJ⟩, hround⟩ := hv
    let I : Act → World → Nat → Prop := fun a w m => ∃ s, J m s ∧ St B s a w
    refine wp_loop (fun a w => ∃ m, I a w m) (fun a w => least (I a w)) ⟨m0, s1, hJ, hsub B a w hs⟩ ?_
    intro a1 w1 hI
    obtain ⟨s2, hJ2, hs2⟩ := (least_spec hI).1
    have h3 := ih (szs (.code x :: .stop (fun s' => ∃ s1, Sub s' s1 ∧ ∃ m, m < least (I a1 w1) ∧ J m s1) :: k)) (by simp only [szs, It.sz]; omega) _ (Nat.le_refl _) s2 (hround (least (I a1 w1)) s2 hJ2) a1 w1 hs2
    simp only [sem] at h3
    refine wp_mono (h3 c1 hc) ?_
    intro e a2 w2 he
    cases e with
    | normal =>
      simp only [sem] at he
      obtain ⟨s3, hs3, s4, hsub4, m, hm, hJ4⟩ := he
      have hI2 : I a2 w2 m := ⟨s4, hJ4, hsub4 B a2 w2 hs3⟩
      exact ⟨⟨m, hI2⟩, Nat.lt_of_le_of_lt ((least_spec ⟨m, hI2⟩).2 m hI2) hm⟩
    | _ => simp only [sem] at he; exact he

end
end Go.Sep
