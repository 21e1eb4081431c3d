/- How the executor's question is unfolded, step by step. -/
import Derived.Test.YtoijhndfkfliiaaCallTo2
namespace Go.Sep
set_option linter.unusedVariables false
set_option linter.unusedSimpArgs false

/-- The simplifier does not look into code that is still to be walked. -/
@[congr] theorem code_congr (c : MCode) : It.code c = It.code c := rfl
@[congr] theorem ops_congr (os : List MOper) : It.ops os = It.ops os := rfl
@[congr] theorem stop_congr (J : AS → Prop) : It.stop J = It.stop J := rfl
@[congr] theorem draw_congr (tr : DTree) {p p' : List (Nat × List Nat)} (h : p = p') : It.draw tr p = It.draw tr p' := by rw [h]

section
variable (P : Program) (num : Nat → Nat) (fin : AS → Prop)

/-- A branch that is still to be taken. -/
def branch (v : AV) (ka kb : List It) (s : AS) : Prop := ∃ q, v = .bool q ∧ (q = true → vc P num fin ka s) ∧ (q = false → vc P num fin kb s)

/-- A step whose outcome is told. -/
def next (r : Out) (dst : Option Nat) (k : List It) (t : List (Nat × AV)) (h : Heap) : Prop :=
  match r with
  | some (p, v, fp, nx') => p ∧ vc P num fin k (.mk (putD t dst v) (app1 h fp) nx')
  | none => False

/-- An operation that may be skipped. -/
def maybe (v : AV) (want : Bool) (o : MOper) (os : List MOper) (k : List It) (t : List (Nat × AV)) (h : Heap) (nx : Nat) : Prop :=
  ∃ q, gv v q ∧ (q = some want → vc P num fin (.ops (({ dst := o.dst, op := o.op, guard := none } : MOper) :: os) :: k) (.mk t h nx)) ∧ (q ≠ some want → vc P num fin (.ops os :: k) (.mk (putD t o.dst (.tup [])) h nx))

/-- A call that is still to be told. -/
def calls (op : MOp) (dst : Option Nat) (k : List It) (s : AS) : Prop := ∃ s', CallTo P num op dst s s' ∧ vc P num fin k s'

def loops (a : MCode) (k : List It) (s : AS) : Prop := vc P num fin (.code (.loop a) :: k) s

variable {P num fin}

@[congr] theorem vc_congr {k k' : List It} {s s' : AS} (h : k = k') (h' : s = s') : vc P num fin k s = vc P num fin k' s' := by rw [h, h']
@[congr] theorem next_congr {r r' : Out} {dst : Option Nat} {k k' : List It} {t t' : List (Nat × AV)} {h h' : Heap} (h1 : r = r') (h2 : k = k') (h3 : t = t') (h4 : h = h') : next P num fin r dst k t h = next P num fin r' dst k' t' h' := by rw [h1, h2, h3, h4]
@[congr] theorem maybe_congr {v v' : AV} {want : Bool} {o : MOper} {os : List MOper} {k k' : List It} {t t' : List (Nat × AV)} {h h' : Heap} {nx nx' : Nat} (h1 : v = v') (h2 : k = k') (h3 : t = t') (h4 : h = h') (h5 : nx = nx') :
    maybe P num fin v want o os k t h nx = maybe P num fin v' want o os k' t' h' nx' := by rw [h1, h2, h3, h4, h5]
@[congr] theorem calls_congr {op : MOp} {dst : Option Nat} {k k' : List It} {s s' : AS} (h1 : k = k') (h2 : s = s') : calls P num fin op dst k s = calls P num fin op dst k' s' := by rw [h1, h2]
@[congr] theorem loops_congr {a : MCode} {k k' : List It} {s s' : AS} (h1 : k = k') (h2 : s = s') : loops P num fin a k s = loops P num fin a k' s' := by rw [h1, h2]

theorem e_nil (s : AS) : vc P num fin [] s = fin s := by rw [vc]
theorem e_stop (J : AS → Prop) (k : List It) (s : AS) : vc P num fin (.stop J :: k) s = J s := by rw [vc]
theorem e_blk (id : Nat) (k : List It) (s : AS) : vc P num fin (.blk id :: k) s = vc P num fin k s := by rw [vc]
theorem e_ops (k : List It) (s : AS) : vc P num fin (.ops [] :: k) s = vc P num fin k s := by rw [vc]
theorem e_skip (k : List It) (s : AS) : vc P num fin (.code .skip :: k) s = vc P num fin k s := by rw [vc]
theorem e_ret (k : List It) (s : AS) : vc P num fin (.code .ret :: k) s = fin s := by rw [vc]
theorem e_exit (id : Nat) (k : List It) (s : AS) : vc P num fin (.code (.exit id) :: k) s = vc P num fin (exitIt id k) s := by rw [vc]
theorem e_seq (a b : MCode) (k : List It) (s : AS) : vc P num fin (.code (.seq a b) :: k) s = vc P num fin (.code a :: .code b :: k) s := by rw [vc]
theorem e_block (id : Nat) (a : MCode) (k : List It) (s : AS) : vc P num fin (.code (.blk id a) :: k) s = vc P num fin (.code a :: .blk id :: k) s := by rw [vc]
theorem e_reg (d : Bool) (ops : List MOper) (k : List It) (s : AS) : vc P num fin (.code (.reg d ops) :: k) s = vc P num fin (.ops ops :: k) s := by rw [vc]
theorem e_cond (x : Nat) (a b : MCode) (k : List It) (t : List (Nat × AV)) (h : Heap) (nx : Nat) : vc P num fin (.code (.cond x a b) :: k) (.mk t h nx) = branch P num fin (lookT t x) (.code a :: k) (.code b :: k) (.mk t h nx) := by
  rw [vc]; rfl
theorem e_loop (a : MCode) (k : List It) (s : AS) : vc P num fin (.code (.loop a) :: k) s = loops P num fin a k s := rfl
theorem e_guard (dst : Option Nat) (op : MOp) (g : Nat) (want : Bool) (os : List MOper) (k : List It) (t : List (Nat × AV)) (h : Heap) (nx : Nat) :
    vc P num fin (.ops (⟨dst, op, some (g, want)⟩ :: os) :: k) (.mk t h nx) = maybe P num fin (lookT t g) want ⟨dst, op, none⟩ os k t h nx := by
  rw [vc]; rfl
theorem e_call (dst : Option Nat) (f : Nat) (ps : List Bool) (xs : List Arg) (os : List MOper) (k : List It) (t : List (Nat × AV)) (h : Heap) (nx : Nat) :
    vc P num fin (.ops (⟨dst, .call f ps xs, none⟩ :: os) :: k) (.mk t h nx) = calls P num fin (.call f ps xs) dst (.ops os :: k) (.mk t h nx) := by
  rw [vc_op]; rfl
theorem e_calv (dst : Option Nat) (g : Arg) (xs : List Arg) (os : List MOper) (k : List It) (t : List (Nat × AV)) (h : Heap) (nx : Nat) :
    vc P num fin (.ops (⟨dst, .calv g xs, none⟩ :: os) :: k) (.mk t h nx) = calls P num fin (.calv g xs) dst (.ops os :: k) (.mk t h nx) := by
  rw [vc_op]; rfl

theorem e_op (dst : Option Nat) (op : MOp) (hc : isCall op = false) (os : List MOper) (k : List It) (t : List (Nat × AV)) (h : Heap) (nx : Nat) :
    vc P num fin (.ops (⟨dst, op, none⟩ :: os) :: k) (.mk t h nx) = next P num fin (plan (lookT t) h nx op) dst (.ops os :: k) t h := by
  rw [vc_op, hc]
  rfl

/-- Each operation asks what its plan tells. -/
theorem e_ops1 (dst : Option Nat) (os : List MOper) (k : List It) (t : List (Nat × AV)) (h : Heap) (nx : Nat) :
  (∀ x', vc P num fin (.ops (⟨dst, .mv x', none⟩ :: os) :: k) (.mk t h nx) = next P num fin (plan (lookT t) h nx (.mv x')) dst (.ops os :: k) t h) ∧
  (∀ c' a' b', vc P num fin (.ops (⟨dst, .pick c' a' b', none⟩ :: os) :: k) (.mk t h nx) = next P num fin (plan (lookT t) h nx (.pick c' a' b')) dst (.ops os :: k) t h) ∧
  (∀ z', vc P num fin (.ops (⟨dst, .alloc z', none⟩ :: os) :: k) (.mk t h nx) = next P num fin (plan (lookT t) h nx (.alloc z')) dst (.ops os :: k) t h) ∧
  (∀ x', vc P num fin (.ops (⟨dst, .box x', none⟩ :: os) :: k) (.mk t h nx) = next P num fin (plan (lookT t) h nx (.box x')) dst (.ops os :: k) t h) ∧
  (∀ z' ps', vc P num fin (.ops (⟨dst, .build z' ps', none⟩ :: os) :: k) (.mk t h nx) = next P num fin (plan (lookT t) h nx (.build z' ps')) dst (.ops os :: k) t h) ∧
  (∀ z' l' ps', vc P num fin (.ops (⟨dst, .mkSl z' l' ps', none⟩ :: os) :: k) (.mk t h nx) = next P num fin (plan (lookT t) h nx (.mkSl z' l' ps')) dst (.ops os :: k) t h) ∧
  (∀ n' ag' a', vc P num fin (.ops (⟨dst, .load n' ag' a', none⟩ :: os) :: k) (.mk t h nx) = next P num fin (plan (lookT t) h nx (.load n' ag' a')) dst (.ops os :: k) t h) ∧
  (∀ n' a' v', vc P num fin (.ops (⟨dst, .store n' a' v', none⟩ :: os) :: k) (.mk t h nx) = next P num fin (plan (lookT t) h nx (.store n' a' v')) dst (.ops os :: k) t h) ∧
  (∀ x', vc P num fin (.ops (⟨dst, .nilck x', none⟩ :: os) :: k) (.mk t h nx) = next P num fin (plan (lookT t) h nx (.nilck x')) dst (.ops os :: k) t h) ∧
  (∀ b' x' y', vc P num fin (.ops (⟨dst, .bin b' x' y', none⟩ :: os) :: k) (.mk t h nx) = next P num fin (plan (lookT t) h nx (.bin b' x' y')) dst (.ops os :: k) t h) ∧
  (∀ g' ks' x' y', vc P num fin (.ops (⟨dst, .eqS g' ks' x' y', none⟩ :: os) :: k) (.mk t h nx) = next P num fin (plan (lookT t) h nx (.eqS g' ks' x' y')) dst (.ops os :: k) t h) ∧
  (∀ g' x' y', vc P num fin (.ops (⟨dst, .eqB g' x' y', none⟩ :: os) :: k) (.mk t h nx) = next P num fin (plan (lookT t) h nx (.eqB g' x' y')) dst (.ops os :: k) t h) ∧
  (∀ x', vc P num fin (.ops (⟨dst, .neNil x', none⟩ :: os) :: k) (.mk t h nx) = next P num fin (plan (lookT t) h nx (.neNil x')) dst (.ops os :: k) t h) ∧
  (∀ u' x', vc P num fin (.ops (⟨dst, .un u' x', none⟩ :: os) :: k) (.mk t h nx) = next P num fin (plan (lookT t) h nx (.un u' x')) dst (.ops os :: k) t h) ∧
  (∀ k' x', vc P num fin (.ops (⟨dst, .cvi k' x', none⟩ :: os) :: k) (.mk t h nx) = next P num fin (plan (lookT t) h nx (.cvi k' x')) dst (.ops os :: k) t h) ∧
  (∀ x', vc P num fin (.ops (⟨dst, .cvs x', none⟩ :: os) :: k) (.mk t h nx) = next P num fin (plan (lookT t) h nx (.cvs x')) dst (.ops os :: k) t h) ∧
  (∀ z' b' l' c', vc P num fin (.ops (⟨dst, .mkS z' b' l' c', none⟩ :: os) :: k) (.mk t h nx) = next P num fin (plan (lookT t) h nx (.mkS z' b' l' c')) dst (.ops os :: k) t h) ∧
  (∀ s' x' l' h', vc P num fin (.ops (⟨dst, .cut s' x' l' h', none⟩ :: os) :: k) (.mk t h nx) = next P num fin (plan (lookT t) h nx (.cut s' x' l' h')) dst (.ops os :: k) t h) ∧
  (∀ x' l' h', vc P num fin (.ops (⟨dst, .cutS x' l' h', none⟩ :: os) :: k) (.mk t h nx) = next P num fin (plan (lookT t) h nx (.cutS x' l' h')) dst (.ops os :: k) t h) ∧
  (∀ o' x', vc P num fin (.ops (⟨dst, .fad o' x', none⟩ :: os) :: k) (.mk t h nx) = next P num fin (plan (lookT t) h nx (.fad o' x')) dst (.ops os :: k) t h) ∧
  (∀ o' n' ag' x', vc P num fin (.ops (⟨dst, .fld o' n' ag' x', none⟩ :: os) :: k) (.mk t h nx) = next P num fin (plan (lookT t) h nx (.fld o' n' ag' x')) dst (.ops os :: k) t h) ∧
  (∀ s' x' i', vc P num fin (.ops (⟨dst, .iad s' x' i', none⟩ :: os) :: k) (.mk t h nx) = next P num fin (plan (lookT t) h nx (.iad s' x' i')) dst (.ops os :: k) t h) ∧
  (∀ x' i', vc P num fin (.ops (⟨dst, .idx x' i', none⟩ :: os) :: k) (.mk t h nx) = next P num fin (plan (lookT t) h nx (.idx x' i')) dst (.ops os :: k) t h) ∧
  (∀ x' i', vc P num fin (.ops (⟨dst, .ext x' i', none⟩ :: os) :: k) (.mk t h nx) = next P num fin (plan (lookT t) h nx (.ext x' i')) dst (.ops os :: k) t h) ∧
  (∀ x', vc P num fin (.ops (⟨dst, .len x', none⟩ :: os) :: k) (.mk t h nx) = next P num fin (plan (lookT t) h nx (.len x')) dst (.ops os :: k) t h) ∧
  (∀ x', vc P num fin (.ops (⟨dst, .lenS x', none⟩ :: os) :: k) (.mk t h nx) = next P num fin (plan (lookT t) h nx (.lenS x')) dst (.ops os :: k) t h) ∧
  (∀ x' y', vc P num fin (.ops (⟨dst, .mx x' y', none⟩ :: os) :: k) (.mk t h nx) = next P num fin (plan (lookT t) h nx (.mx x' y')) dst (.ops os :: k) t h) ∧
  (∀ s' b' x' y', vc P num fin (.ops (⟨dst, .app s' b' x' y', none⟩ :: os) :: k) (.mk t h nx) = next P num fin (plan (lookT t) h nx (.app s' b' x' y')) dst (.ops os :: k) t h) :=
  ⟨fun _ => e_op dst _ rfl os k t h nx, fun _ _ _ => e_op dst _ rfl os k t h nx, fun _ => e_op dst _ rfl os k t h nx, fun _ => e_op dst _ rfl os k t h nx, fun _ _ => e_op dst _ rfl os k t h nx, fun _ _ _ => e_op dst _ rfl os k t h nx, fun _ _ _ => e_op dst _ rfl os k t h nx, fun _ _ _ => e_op dst _ rfl os k t h nx, fun _ => e_op dst _ rfl os k t h nx, fun _ _ _ => e_op dst _ rfl os k t h nx, fun _ _ _ _ => e_op dst _ rfl os k t h nx, fun _ _ _ => e_op dst _ rfl os k t h nx, fun _ => e_op dst _ rfl os k t h nx, fun _ _ => e_op dst _ rfl os k t h nx, fun _ _ => e_op dst _ rfl os k t h nx, fun _ => e_op dst _ rfl os k t h nx, fun _ _ _ _ => e_op dst _ rfl os k t h nx, fun _ _ _ _ => e_op dst _ rfl os k t h nx, fun _ _ _ => e_op dst _ rfl os k t h nx, fun _ _ => e_op dst _ rfl os k t h nx, fun _ _ _ _ => e_op dst _ rfl os k t h nx, fun _ _ _ => e_op dst _ rfl os k t h nx, fun _ _ => e_op dst _ rfl os k t h nx, fun _ _ => e_op dst _ rfl os k t h nx, fun _ => e_op dst _ rfl os k t h nx, fun _ => e_op dst _ rfl os k t h nx, fun _ _ => e_op dst _ rfl os k t h nx, fun _ _ _ _ => e_op dst _ rfl os k t h nx⟩

theorem next_some (p : Prop) (v : AV) (fp : FP) (nx : Nat) (dst : Option Nat) (k : List It) (t : List (Nat × AV)) (h : Heap) :
    next P num fin (some (p, v, fp, nx)) dst k t h = (p ∧ vc P num fin k (.mk (putD t dst v) (app1 h fp) nx)) := rfl

theorem next_ok (v : AV) (nx : Nat) (dst : Option Nat) (k : List It) (t : List (Nat × AV)) (h : Heap) : next P num fin (ok v nx) dst k t h = vc P num fin k (.mk (putD t dst v) h nx) := by
  show (True ∧ vc P num fin k (.mk (putD t dst v) (app1 h []) nx)) = _
  rw [true_and]
  rfl

theorem branch_intro {c : Bool} {ka kb : List It} {s : AS} (h1 : c = true → vc P num fin ka s) (h2 : c = false → vc P num fin kb s) : branch P num fin (.bool c) ka kb s := ⟨c, rfl, h1, h2⟩
theorem branch_true (ka kb : List It) (s : AS) : branch P num fin (.bool true) ka kb s = vc P num fin ka s := by
  refine propext ⟨fun ⟨q, h1, h2, h3⟩ => ?_, fun h => ⟨true, rfl, fun _ => h, fun h => by simp at h⟩⟩
  simp only [AV.bool.injEq] at h1
  exact h2 h1.symm
theorem branch_false (ka kb : List It) (s : AS) : branch P num fin (.bool false) ka kb s = vc P num fin kb s := by
  refine propext ⟨fun ⟨q, h1, h2, h3⟩ => ?_, fun h => ⟨false, rfl, fun h => by simp at h, fun _ => h⟩⟩
  simp only [AV.bool.injEq] at h1
  exact h3 h1.symm
theorem gv_bool (b : Bool) (q : Option Bool) : gv (.bool b) q = (q = some b) := by
  refine propext ⟨fun h => ?_, fun h => .inl ⟨b, rfl, h⟩⟩
  rcases h with ⟨c, h1, rfl⟩ | ⟨h1, _⟩
  · simp only [AV.bool.injEq] at h1
    rw [h1]
  · simp at h1
theorem gv_skip (q : Option Bool) : gv (.tup []) q = (q = none) := by
  refine propext ⟨fun h => ?_, fun h => .inr ⟨rfl, h⟩⟩
  rcases h with ⟨c, h1, rfl⟩ | ⟨_, h1⟩
  · simp at h1
  · exact h1
theorem maybe_do (b : Bool) (o : MOper) (os : List MOper) (k : List It) (t : List (Nat × AV)) (h : Heap) (nx : Nat) : maybe P num fin (.bool b) b o os k t h nx = vc P num fin (.ops (⟨o.dst, o.op, none⟩ :: os) :: k) (.mk t h nx) := by
  simp only [maybe, gv_bool, exists_eq_left, ne_eq, not_true_eq_false, false_implies, and_true, true_implies]
theorem maybe_tf (o : MOper) (os : List MOper) (k : List It) (t : List (Nat × AV)) (h : Heap) (nx : Nat) : maybe P num fin (.bool true) false o os k t h nx = vc P num fin (.ops os :: k) (.mk (putD t o.dst (.tup [])) h nx) := by
  simp [maybe, gv_bool]
theorem maybe_ft (o : MOper) (os : List MOper) (k : List It) (t : List (Nat × AV)) (h : Heap) (nx : Nat) : maybe P num fin (.bool false) true o os k t h nx = vc P num fin (.ops os :: k) (.mk (putD t o.dst (.tup [])) h nx) := by
  simp [maybe, gv_bool]
theorem maybe_skip (want : Bool) (o : MOper) (os : List MOper) (k : List It) (t : List (Nat × AV)) (h : Heap) (nx : Nat) : maybe P num fin (.tup []) want o os k t h nx = vc P num fin (.ops os :: k) (.mk (putD t o.dst (.tup [])) h nx) := by
  simp [maybe, gv_skip]
theorem maybe_intro {c want : Bool} {o : MOper} {os : List MOper} {k : List It} {t : List (Nat × AV)} {h : Heap} {nx : Nat} (h1 : c = want → vc P num fin (.ops (⟨o.dst, o.op, none⟩ :: os) :: k) (.mk t h nx))
    (h2 : c ≠ want → vc P num fin (.ops os :: k) (.mk (putD t o.dst (.tup [])) h nx)) : maybe P num fin (.bool c) want o os k t h nx := ⟨some c, .inl ⟨c, rfl, rfl⟩, fun h => h1 (Option.some.inj h), fun h => h2 (fun h' => h (by rw [h']))⟩

/-- Back at the head of a loop. -/
def back {ι : Type} (I : ι → AS) (good : ι → Prop) (μ : ι → Nat) (n : Nat) (s : AS) : Prop := ∃ s1, Sub s s1 ∧ ∃ m, m < n ∧ ∃ i, s1 = I i ∧ good i ∧ μ i = m

theorem back_intro {ι : Type} {I : ι → AS} {good : ι → Prop} {μ : ι → Nat} {n : Nat} {s : AS} (i : ι) (h : Sub s (I i)) (hg : good i) (hm : μ i < n) : back I good μ n s := ⟨I i, h, μ i, hm, i, rfl, hg, rfl⟩

theorem calls_intro {op : MOp} {dst : Option Nat} {k : List It} {t : List (Nat × AV)} {h : Heap} {nx nx' : Nat} {v : AV} {fp : FP} (hc : CallR P num op t h nx v fp nx') (hk : vc P num fin k (.mk (putD t dst v) (app1 h fp) nx')) : calls P num fin op dst k (.mk t h nx) :=
  ⟨_, hc.to, hk⟩

theorem calls_sub {op : MOp} {dst : Option Nat} {k : List It} {s s1 : AS} (hs : Sub s s1) (h : calls P num fin op dst k s1) : calls P num fin op dst k s := by
  obtain ⟨s', h1, h2⟩ := h
  exact ⟨s', h1.sub hs, h2⟩

/-- Drawn regions. -/
theorem e_dreg (tr : DTree) (k : List It) (s : AS) : vc P num fin (.code (.dreg tr) :: k) s = vc P num fin (.draw tr [] :: k) s := by rw [vc]
theorem e_done (pend : List (Nat × List Nat)) (k : List It) (s : AS) : vc P num fin (.draw .done pend :: k) s = vc P num fin k s := by rw [vc]
theorem e_both (i : Nat) (di : List Nat) (o : MOper) (tr : DTree) (j : Nat) (dj : List Nat) (p : MOper) (tr' : DTree) (pend : List (Nat × List Nat)) (k : List It) (s : AS) :
    vc P num fin (.draw (.both i di o tr j dj p tr') pend :: k) s = (vc P num fin (.draw (.only i di o tr) pend :: k) s ∧ vc P num fin (.draw (.only j dj p tr') pend :: k) s) := by rw [vc]

variable (P num fin) in
def dnext (r : Out) (rd : FP → Heap → Prop) (pend : FP → List (Nat × List Nat)) (dst : Option Nat) (tr : DTree) (k : List It) (t : List (Nat × AV)) (h : Heap) : Prop :=
  match r with
  | some (p, v, fp, nx') => p ∧ rd fp (app1 h fp) ∧ vc P num fin (.draw tr (pend fp) :: k) (.mk (putD t dst v) (app1 h fp) nx')
  | none => False

theorem dnext_some (p : Prop) (v : AV) (fp : FP) (nx : Nat) (rd : FP → Heap → Prop) (pend : FP → List (Nat × List Nat)) (dst : Option Nat) (tr : DTree) (k : List It) (t : List (Nat × AV)) (h : Heap) :
    dnext P num fin (some (p, v, fp, nx)) rd pend dst tr k t h = (p ∧ rd fp (app1 h fp) ∧ vc P num fin (.draw tr (pend fp) :: k) (.mk (putD t dst v) (app1 h fp) nx)) := rfl
theorem dnext_ok (v : AV) (nx : Nat) (rd : FP → Heap → Prop) (pend : FP → List (Nat × List Nat)) (dst : Option Nat) (tr : DTree) (k : List It) (t : List (Nat × AV)) (h : Heap) :
    dnext P num fin (ok v nx) rd pend dst tr k t h = (rd [] h ∧ vc P num fin (.draw tr (pend []) :: k) (.mk (putD t dst v) h nx)) := by
  show (True ∧ rd [] (app1 h []) ∧ vc P num fin (.draw tr (pend []) :: k) (.mk (putD t dst v) (app1 h []) nx)) = _
  rw [true_and]
  rfl

/-- What a read needs. -/
def rdTake (i : Nat) (pend : List (Nat × List Nat)) (fp : FP) (h : Heap) : Prop := alive (addP i (needs fp) pend) h
def pdTake (i : Nat) (pend : List (Nat × List Nat)) (fp : FP) : List (Nat × List Nat) := addP i (needs fp) pend
def rdOnly (r : Bool) (pend : List (Nat × List Nat)) (fp : FP) (h : Heap) : Prop := if r then alive pend h else apart pend fp
def pdOnly (pend : List (Nat × List Nat)) (_ : FP) : List (Nat × List Nat) := pend

theorem e_take (i : Nat) (dst : Option Nat) (op : MOp) (tr : DTree) (pend : List (Nat × List Nat)) (k : List It) (t : List (Nat × AV)) (h : Heap) (nx : Nat) :
    vc P num fin (.draw (.take i ⟨dst, op, none⟩ tr) pend :: k) (.mk t h nx) = dnext P num fin (plan (lookT t) h nx op) (rdTake i pend) (pdTake i pend) dst tr k t h := by
  rw [vc]; rfl

variable (P num fin) in
def dcall (op : MOp) (pend : List (Nat × List Nat)) (dst : Option Nat) (tr : DTree) (k : List It) (t : List (Nat × AV)) (h : Heap) (nx : Nat) : Prop :=
  ∃ v fp nx', CallR P num op t h nx v fp nx' ∧ apart pend fp ∧ vc P num fin (.draw tr pend :: k) (.mk (putD t dst v) (app1 h fp) nx')

theorem dcall_intro {op : MOp} {pend : List (Nat × List Nat)} {dst : Option Nat} {tr : DTree} {k : List It} {t : List (Nat × AV)} {h : Heap} {nx nx' : Nat} {v : AV} {fp : FP} (hc : CallR P num op t h nx v fp nx') (ha : apart pend fp)
    (hk : vc P num fin (.draw tr pend :: k) (.mk (putD t dst v) (app1 h fp) nx')) : dcall P num fin op pend dst tr k t h nx := ⟨_, _, _, hc, ha, hk⟩

theorem e_onlyc (i : Nat) (deps : List Nat) (dst : Option Nat) (f : Nat) (ps : List Bool) (xs : List Arg) (tr : DTree) (pend : List (Nat × List Nat)) (k : List It) (t : List (Nat × AV)) (h : Heap) (nx : Nat) :
    vc P num fin (.draw (.only i deps ⟨dst, .call f ps xs, none⟩ tr) pend :: k) (.mk t h nx) = dcall P num fin (.call f ps xs) (undep deps pend) dst tr k t h nx := by
  rw [vc]; rfl

theorem e_only (i : Nat) (deps : List Nat) (dst : Option Nat) (op : MOp) (hc : isCall op = false) (tr : DTree) (pend : List (Nat × List Nat)) (k : List It) (t : List (Nat × AV)) (h : Heap) (nx : Nat) :
    vc P num fin (.draw (.only i deps ⟨dst, op, none⟩ tr) pend :: k) (.mk t h nx) = dnext P num fin (plan (lookT t) h nx op) (rdOnly (isRead op) (undep deps pend)) (pdOnly (undep deps pend)) dst tr k t h := by
  rw [vc]
  simp only [hc]
  rfl

/-- The one that may come up, by its form. -/
theorem e_only1 (i : Nat) (deps : List Nat) (dst : Option Nat) (tr : DTree) (pend : List (Nat × List Nat)) (k : List It) (t : List (Nat × AV)) (h : Heap) (nx : Nat) :
  (∀ x', vc P num fin (.draw (.only i deps ⟨dst, .mv x', none⟩ tr) pend :: k) (.mk t h nx) = dnext P num fin (plan (lookT t) h nx (.mv x')) (rdOnly true (undep deps pend)) (pdOnly (undep deps pend)) dst tr k t h) ∧
  (∀ c' a' b', vc P num fin (.draw (.only i deps ⟨dst, .pick c' a' b', none⟩ tr) pend :: k) (.mk t h nx) = dnext P num fin (plan (lookT t) h nx (.pick c' a' b')) (rdOnly true (undep deps pend)) (pdOnly (undep deps pend)) dst tr k t h) ∧
  (∀ z', vc P num fin (.draw (.only i deps ⟨dst, .alloc z', none⟩ tr) pend :: k) (.mk t h nx) = dnext P num fin (plan (lookT t) h nx (.alloc z')) (rdOnly false (undep deps pend)) (pdOnly (undep deps pend)) dst tr k t h) ∧
  (∀ x', vc P num fin (.draw (.only i deps ⟨dst, .box x', none⟩ tr) pend :: k) (.mk t h nx) = dnext P num fin (plan (lookT t) h nx (.box x')) (rdOnly false (undep deps pend)) (pdOnly (undep deps pend)) dst tr k t h) ∧
  (∀ z' ps', vc P num fin (.draw (.only i deps ⟨dst, .build z' ps', none⟩ tr) pend :: k) (.mk t h nx) = dnext P num fin (plan (lookT t) h nx (.build z' ps')) (rdOnly true (undep deps pend)) (pdOnly (undep deps pend)) dst tr k t h) ∧
  (∀ z' l' ps', vc P num fin (.draw (.only i deps ⟨dst, .mkSl z' l' ps', none⟩ tr) pend :: k) (.mk t h nx) = dnext P num fin (plan (lookT t) h nx (.mkSl z' l' ps')) (rdOnly false (undep deps pend)) (pdOnly (undep deps pend)) dst tr k t h) ∧
  (∀ n' ag' a', vc P num fin (.draw (.only i deps ⟨dst, .load n' ag' a', none⟩ tr) pend :: k) (.mk t h nx) = dnext P num fin (plan (lookT t) h nx (.load n' ag' a')) (rdOnly true (undep deps pend)) (pdOnly (undep deps pend)) dst tr k t h) ∧
  (∀ n' a' v', vc P num fin (.draw (.only i deps ⟨dst, .store n' a' v', none⟩ tr) pend :: k) (.mk t h nx) = dnext P num fin (plan (lookT t) h nx (.store n' a' v')) (rdOnly false (undep deps pend)) (pdOnly (undep deps pend)) dst tr k t h) ∧
  (∀ x', vc P num fin (.draw (.only i deps ⟨dst, .nilck x', none⟩ tr) pend :: k) (.mk t h nx) = dnext P num fin (plan (lookT t) h nx (.nilck x')) (rdOnly true (undep deps pend)) (pdOnly (undep deps pend)) dst tr k t h) ∧
  (∀ b' x' y', vc P num fin (.draw (.only i deps ⟨dst, .bin b' x' y', none⟩ tr) pend :: k) (.mk t h nx) = dnext P num fin (plan (lookT t) h nx (.bin b' x' y')) (rdOnly true (undep deps pend)) (pdOnly (undep deps pend)) dst tr k t h) ∧
  (∀ g' ks' x' y', vc P num fin (.draw (.only i deps ⟨dst, .eqS g' ks' x' y', none⟩ tr) pend :: k) (.mk t h nx) = dnext P num fin (plan (lookT t) h nx (.eqS g' ks' x' y')) (rdOnly true (undep deps pend)) (pdOnly (undep deps pend)) dst tr k t h) ∧
  (∀ g' x' y', vc P num fin (.draw (.only i deps ⟨dst, .eqB g' x' y', none⟩ tr) pend :: k) (.mk t h nx) = dnext P num fin (plan (lookT t) h nx (.eqB g' x' y')) (rdOnly true (undep deps pend)) (pdOnly (undep deps pend)) dst tr k t h) ∧
  (∀ x', vc P num fin (.draw (.only i deps ⟨dst, .neNil x', none⟩ tr) pend :: k) (.mk t h nx) = dnext P num fin (plan (lookT t) h nx (.neNil x')) (rdOnly true (undep deps pend)) (pdOnly (undep deps pend)) dst tr k t h) ∧
  (∀ u' x', vc P num fin (.draw (.only i deps ⟨dst, .un u' x', none⟩ tr) pend :: k) (.mk t h nx) = dnext P num fin (plan (lookT t) h nx (.un u' x')) (rdOnly true (undep deps pend)) (pdOnly (undep deps pend)) dst tr k t h) ∧
  (∀ k' x', vc P num fin (.draw (.only i deps ⟨dst, .cvi k' x', none⟩ tr) pend :: k) (.mk t h nx) = dnext P num fin (plan (lookT t) h nx (.cvi k' x')) (rdOnly true (undep deps pend)) (pdOnly (undep deps pend)) dst tr k t h) ∧
  (∀ x', vc P num fin (.draw (.only i deps ⟨dst, .cvs x', none⟩ tr) pend :: k) (.mk t h nx) = dnext P num fin (plan (lookT t) h nx (.cvs x')) (rdOnly true (undep deps pend)) (pdOnly (undep deps pend)) dst tr k t h) ∧
  (∀ z' b' l' c', vc P num fin (.draw (.only i deps ⟨dst, .mkS z' b' l' c', none⟩ tr) pend :: k) (.mk t h nx) = dnext P num fin (plan (lookT t) h nx (.mkS z' b' l' c')) (rdOnly false (undep deps pend)) (pdOnly (undep deps pend)) dst tr k t h) ∧
  (∀ s' x' l' h', vc P num fin (.draw (.only i deps ⟨dst, .cut s' x' l' h', none⟩ tr) pend :: k) (.mk t h nx) = dnext P num fin (plan (lookT t) h nx (.cut s' x' l' h')) (rdOnly true (undep deps pend)) (pdOnly (undep deps pend)) dst tr k t h) ∧
  (∀ x' l' h', vc P num fin (.draw (.only i deps ⟨dst, .cutS x' l' h', none⟩ tr) pend :: k) (.mk t h nx) = dnext P num fin (plan (lookT t) h nx (.cutS x' l' h')) (rdOnly true (undep deps pend)) (pdOnly (undep deps pend)) dst tr k t h) ∧
  (∀ o' x', vc P num fin (.draw (.only i deps ⟨dst, .fad o' x', none⟩ tr) pend :: k) (.mk t h nx) = dnext P num fin (plan (lookT t) h nx (.fad o' x')) (rdOnly true (undep deps pend)) (pdOnly (undep deps pend)) dst tr k t h) ∧
  (∀ o' n' ag' x', vc P num fin (.draw (.only i deps ⟨dst, .fld o' n' ag' x', none⟩ tr) pend :: k) (.mk t h nx) = dnext P num fin (plan (lookT t) h nx (.fld o' n' ag' x')) (rdOnly true (undep deps pend)) (pdOnly (undep deps pend)) dst tr k t h) ∧
  (∀ s' x' i', vc P num fin (.draw (.only i deps ⟨dst, .iad s' x' i', none⟩ tr) pend :: k) (.mk t h nx) = dnext P num fin (plan (lookT t) h nx (.iad s' x' i')) (rdOnly true (undep deps pend)) (pdOnly (undep deps pend)) dst tr k t h) ∧
  (∀ x' i', vc P num fin (.draw (.only i deps ⟨dst, .idx x' i', none⟩ tr) pend :: k) (.mk t h nx) = dnext P num fin (plan (lookT t) h nx (.idx x' i')) (rdOnly true (undep deps pend)) (pdOnly (undep deps pend)) dst tr k t h) ∧
  (∀ x' i', vc P num fin (.draw (.only i deps ⟨dst, .ext x' i', none⟩ tr) pend :: k) (.mk t h nx) = dnext P num fin (plan (lookT t) h nx (.ext x' i')) (rdOnly true (undep deps pend)) (pdOnly (undep deps pend)) dst tr k t h) ∧
  (∀ x', vc P num fin (.draw (.only i deps ⟨dst, .len x', none⟩ tr) pend :: k) (.mk t h nx) = dnext P num fin (plan (lookT t) h nx (.len x')) (rdOnly true (undep deps pend)) (pdOnly (undep deps pend)) dst tr k t h) ∧
  (∀ x', vc P num fin (.draw (.only i deps ⟨dst, .lenS x', none⟩ tr) pend :: k) (.mk t h nx) = dnext P num fin (plan (lookT t) h nx (.lenS x')) (rdOnly true (undep deps pend)) (pdOnly (undep deps pend)) dst tr k t h) ∧
  (∀ x' y', vc P num fin (.draw (.only i deps ⟨dst, .mx x' y', none⟩ tr) pend :: k) (.mk t h nx) = dnext P num fin (plan (lookT t) h nx (.mx x' y')) (rdOnly true (undep deps pend)) (pdOnly (undep deps pend)) dst tr k t h) ∧
  (∀ s' b' x' y', vc P num fin (.draw (.only i deps ⟨dst, .app s' b' x' y', none⟩ tr) pend :: k) (.mk t h nx) = dnext P num fin (plan (lookT t) h nx (.app s' b' x' y')) (rdOnly false (undep deps pend)) (pdOnly (undep deps pend)) dst tr k t h) :=
  ⟨fun _ => e_only i deps dst _ rfl tr pend k t h nx, fun _ _ _ => e_only i deps dst _ rfl tr pend k t h nx, fun _ => e_only i deps dst _ rfl tr pend k t h nx, fun _ => e_only i deps dst _ rfl tr pend k t h nx, fun _ _ => e_only i deps dst _ rfl tr pend k t h nx, fun _ _ _ => e_only i deps dst _ rfl tr pend k t h nx, fun _ _ _ => e_only i deps dst _ rfl tr pend k t h nx, fun _ _ _ => e_only i deps dst _ rfl tr pend k t h nx, fun _ => e_only i deps dst _ rfl tr pend k t h nx, fun _ _ _ => e_only i deps dst _ rfl tr pend k t h nx, fun _ _ _ _ => e_only i deps dst _ rfl tr pend k t h nx, fun _ _ _ => e_only i deps dst _ rfl tr pend k t h nx, fun _ => e_only i deps dst _ rfl tr pend k t h nx, fun _ _ => e_only i deps dst _ rfl tr pend k t h nx, fun _ _ => e_only i deps dst _ rfl tr pend k t h nx, fun _ => e_only i deps dst _ rfl tr pend k t h nx, fun _ _ _ _ => e_only i deps dst _ rfl tr pend k t h nx, fun _ _ _ _ => e_only i deps dst _ rfl tr pend k t h nx, fun _ _ _ => e_only i deps dst _ rfl tr pend k t h nx, fun _ _ => e_only i deps dst _ rfl tr pend k t h nx, fun _ _ _ _ => e_only i deps dst _ rfl tr pend k t h nx, fun _ _ _ => e_only i deps dst _ rfl tr pend k t h nx, fun _ _ => e_only i deps dst _ rfl tr pend k t h nx, fun _ _ => e_only i deps dst _ rfl tr pend k t h nx, fun _ => e_only i deps dst _ rfl tr pend k t h nx, fun _ => e_only i deps dst _ rfl tr pend k t h nx, fun _ _ => e_only i deps dst _ rfl tr pend k t h nx, fun _ _ _ _ => e_only i deps dst _ rfl tr pend k t h nx⟩

variable (P num fin) in
def dmaybe (v : AV) (want : Bool) (ka kb : List It) (dst : Option Nat) (t : List (Nat × AV)) (h : Heap) (nx : Nat) : Prop :=
  ∃ q, gv v q ∧ (q = some want → vc P num fin ka (.mk t h nx)) ∧ (q ≠ some want → vc P num fin kb (.mk (putD t dst (.tup [])) h nx))

theorem e_takeg (i : Nat) (dst : Option Nat) (op : MOp) (g : Nat) (want : Bool) (tr : DTree) (pend : List (Nat × List Nat)) (k : List It) (t : List (Nat × AV)) (h : Heap) (nx : Nat) :
    vc P num fin (.draw (.take i ⟨dst, op, some (g, want)⟩ tr) pend :: k) (.mk t h nx) = dmaybe P num fin (lookT t g) want (.draw (.take i ⟨dst, op, none⟩ tr) pend :: k) (.draw tr pend :: k) dst t h nx := by
  rw [vc]; rfl
theorem e_onlyg (i : Nat) (deps : List Nat) (dst : Option Nat) (op : MOp) (g : Nat) (want : Bool) (tr : DTree) (pend : List (Nat × List Nat)) (k : List It) (t : List (Nat × AV)) (h : Heap) (nx : Nat) :
    vc P num fin (.draw (.only i deps ⟨dst, op, some (g, want)⟩ tr) pend :: k) (.mk t h nx) = dmaybe P num fin (lookT t g) want (.draw (.only i deps ⟨dst, op, none⟩ tr) pend :: k) (.draw tr (undep deps pend) :: k) dst t h nx := by
  rw [vc]; rfl
theorem dmaybe_do (b : Bool) (ka kb : List It) (dst : Option Nat) (t : List (Nat × AV)) (h : Heap) (nx : Nat) : dmaybe P num fin (.bool b) b ka kb dst t h nx = vc P num fin ka (.mk t h nx) := by
  simp only [dmaybe, gv_bool, exists_eq_left, ne_eq, not_true_eq_false, false_implies, and_true, true_implies]
theorem dmaybe_tf (ka kb : List It) (dst : Option Nat) (t : List (Nat × AV)) (h : Heap) (nx : Nat) : dmaybe P num fin (.bool true) false ka kb dst t h nx = vc P num fin kb (.mk (putD t dst (.tup [])) h nx) := by
  simp [dmaybe, gv_bool]
theorem dmaybe_ft (ka kb : List It) (dst : Option Nat) (t : List (Nat × AV)) (h : Heap) (nx : Nat) : dmaybe P num fin (.bool false) true ka kb dst t h nx = vc P num fin kb (.mk (putD t dst (.tup [])) h nx) := by
  simp [dmaybe, gv_bool]
theorem dmaybe_skip (want : Bool) (ka kb : List It) (dst : Option Nat) (t : List (Nat × AV)) (h : Heap) (nx : Nat) : dmaybe P num fin (.tup []) want ka kb dst t h nx = vc P num fin kb (.mk (putD t dst (.tup [])) h nx) := by
  simp [dmaybe, gv_skip]
theorem dmaybe_intro {c want : Bool} {ka kb : List It} {dst : Option Nat} {t : List (Nat × AV)} {h : Heap} {nx : Nat} (h1 : c = want → vc P num fin ka (.mk t h nx)) (h2 : c ≠ want → vc P num fin kb (.mk (putD t dst (.tup [])) h nx)) :
    dmaybe P num fin (.bool c) want ka kb dst t h nx := ⟨some c, .inl ⟨c, rfl, rfl⟩, fun h => h1 (Option.some.inj h), fun h => h2 (fun h' => h (by rw [h']))⟩

/-- A loop, by what holds at its head. -/
theorem loop_intro {ι : Type} (I : ι → AS) (good : ι → Prop) (μ : ι → Nat) (i0 : ι) {a : MCode} {k : List It} {s : AS} (h0 : good i0) (hs : Sub s (I i0))
    (step : ∀ i, good i → vc P num fin (.code a :: .stop (back I good μ (μ i)) :: k) (I i)) : loops P num fin a k s := by
  unfold loops
  rw [vc]
  refine ⟨fun n s => ∃ i, s = I i ∧ good i ∧ μ i = n, μ i0, ⟨I i0, hs, i0, rfl, h0, rfl⟩, ?_⟩
  rintro n s ⟨i, rfl, hi, rfl⟩
  exact step i hi

end
end Go.Sep
