/- Operations that turn no row, the rest. -/
import Derived.Test.YtoijhndfkfliiaaOps1
import Derived.Laws.Strings
namespace Go.Sep
set_option linter.unusedVariables false
set_option linter.unusedSimpArgs false

section
variable {P : Program} {num : Nat → Nat} {o : Oper} {ρ : Nat → AV} {h : Heap} {nx nx' : Nat} {p : Prop} {v : AV} {fp : FP}

/-- The model's value of a plain symbolic one. -/
def vOf : AV → Value
  | .int k n => .int k n
  | .bool b => .bool b
  | .str s => .string s
  | _ => undef

theorem run_binInt {w : World} {op : BinOp} {t : TypeId} {k k' : IntKind} {a b : Int} {v : AV} (h : binA op (.int k a) (.int k' b) = some (p, v)) (hp : p) :
    (binOp op t (.int k a) (.int k' b)).run P w = .ok (vOf v) w ∧ ∀ e, RV e v (vOf v) [] := by
  by_cases hk : k = k'
  case neg =>
    simp only [binA, if_neg hk, shiftA] at h
    cases op <;> simp only [Option.some.injEq, Prod.mk.injEq, reduceCtorEq] at h <;> obtain ⟨hq, rfl⟩ := h <;> refine ⟨?_, fun e => by simp only [vOf, RV, and_self]⟩
    case shl => subst hq; simp [vOf, binOp, Op.shift, bShl, bShr, show ¬ b < 0 by omega]
    case shr => subst hq; simp [vOf, binOp, Op.shift, bShl, bShr, show ¬ b < 0 by omega]
  subst hk
  simp only [binA, if_true] at h
  cases op <;> simp only [Option.some.injEq, Prod.mk.injEq, reduceCtorEq] at h <;> obtain ⟨hq, rfl⟩ := h <;> refine ⟨?_, fun e => by simp only [vOf, RV, and_self]⟩
  case quo => subst hq; simp [vOf, binOp, Op.intDiv, show ¬ b = 0 from hp]
  case rem => subst hq; simp [vOf, binOp, Op.intDiv, show ¬ b = 0 from hp]
  case shl => subst hq; simp [vOf, binOp, Op.shift, bShl, bShr, show ¬ b < 0 by omega]
  case shr => subst hq; simp [vOf, binOp, Op.shift, bShl, bShr, show ¬ b < 0 by omega]
  case eql => simp [vOf, binOp, Op.intCmp]; rfl
  case neq => simp [vOf, binOp, Op.intCmp]; rfl
  all_goals simp [vOf, binOp, Op.intArith, Op.intBits, Op.intCmp, bAnd, bOr, bXor]

theorem toList_eq {a b : ByteArray} : (a.toList == b.toList) = decide (a = b) := by
  rw [Bool.eq_iff_iff]
  simp only [beq_iff_eq, decide_eq_true_eq]
  constructor
  · intro h
    rw [Go.ByteArray.toList_eq, Go.ByteArray.toList_eq] at h
    have := Array.toList_inj.1 h
    cases a; cases b; simp_all
  · intro h; rw [h]

theorem run_binStr {w : World} {op : BinOp} {t : TypeId} {a b : ByteArray} {v : AV} (h : binA op (.str a) (.str b) = some (p, v)) (hp : p) :
    (binOp op t (.string a) (.string b)).run P w = .ok (vOf v) w ∧ ∀ e, RV e v (vOf v) [] := by
  simp only [binA] at h
  cases op <;> simp only [Option.some.injEq, Prod.mk.injEq, reduceCtorEq] at h <;> obtain ⟨hq, rfl⟩ := h <;> refine ⟨?_, fun e => by simp only [vOf, RV, and_self]⟩
  case add =>
    subst hq
    have : ¬ (((a.size + b.size : Nat) : Int) > IntKind.i64.max) := by
      have : IntKind.i64.max = 9223372036854775807 := by decide
      rw [this]; omega
    simp only [binOp, Op.stringOp, if_neg this, Sem.run_pure, vOf]
  case eql => simp only [binOp, Op.stringOp, toList_eq, Sem.run_pure, vOf]
  case neq => simp only [binOp, Op.stringOp, toList_eq, Sem.run_pure, vOf]

theorem binA_shape {op : BinOp} {x y v : AV} (h : binA op x y = some (p, v)) : (∃ k k' a b, x = .int k a ∧ y = .int k' b) ∨ ∃ a b, x = .str a ∧ y = .str b := by
  unfold binA at h
  split at h
  · exact .inl ⟨_, _, _, _, rfl, rfl⟩
  · exact .inr ⟨_, _, rfl, rfl⟩
  · simp at h

theorem tri_bin {b : BinOp} {x z : Arg} (hc : chkOp P num (.bin b x z) o.op = true) (hp : plan ρ h nx (.bin b x z) = some (p, v, fp, nx')) (hpp : p) : TriR P num o ρ v fp := by
  simp only [chkOp] at hc
  split at hc
  · rename_i b' t y u _ hop
    simp only [Bool.and_eq_true, beq_iff_eq] at hc
    obtain ⟨⟨rfl, h1⟩, h2⟩ := hc
    simp only [plan] at hp
    cases hb : binA b (x.ev ρ) (z.ev ρ) with
    | none => simp [hb] at hp
    | some r =>
      obtain ⟨q, r⟩ := r
      simp only [hb, Option.map_some, Option.some.injEq, Prod.mk.injEq] at hp
      obtain ⟨rfl, rfl, rfl, _⟩ := hp
      refine tri_pure (m := .mv x) ?_
      intro e a hn ht
      subst hn
      have g1 := RV_arg (ρ := ρ) ht h1
      have g2 := RV_arg (ρ := ρ) ht h2
      rcases binA_shape hb with ⟨k, k', m, n, e1, e2⟩ | ⟨m, n, e1, e2⟩
      · rw [e1, e2] at hb
        rw [e1] at g1; rw [e2] at g2
        have hr := fun w => (run_binInt (P := P) (w := w) (t := t) hb hpp).1
        have hv := (run_binInt (P := P) (w := e.w) (t := t) hb hpp).2
        refine ⟨_, ?_, hv e⟩
        intro w
        simp only [execOp, hop, RV_int g1, RV_int g2, eqGuard, Sem.run_bind]
        cases b <;> simp [hr]
      · rw [e1, e2] at hb
        rw [e1] at g1; rw [e2] at g2
        have hr := fun w => (run_binStr (P := P) (w := w) (t := t) hb hpp).1
        have hv := (run_binStr (P := P) (w := e.w) (t := t) hb hpp).2
        refine ⟨_, ?_, hv e⟩
        intro w
        simp only [execOp, hop, RV_str g1, RV_str g2, eqGuard, Sem.run_bind]
        cases b <;> simp [hr]
  · simp at hc

theorem run_sliceBound {w : World} {k : IntKind} {n : Int} {y : Nat} {c : BoundsCode} (h : 0 ≤ n ∧ n ≤ y) : (Instr.sliceBound (.int k n) y c).run P w = .ok n.toNat w := by
  simp [Instr.sliceBound, asIntOf, h]

/-- A cut's bounds. -/
theorem run_sliceBounds {e : Env} {a : Act} {w : World} {isS : Bool} {len cap : Nat} {lo hi : Option Arg} {lo' hi' : Option Operand} {l m : Int}
    (ht : ∀ t, RV e (ρ t) (a.tmps.getD t undef) []) (h1 : chkO e.num lo' lo = true) (h2 : chkO e.num hi' hi = true) (hl : bnd? ρ 0 lo = some l) (hh : bnd? ρ len hi = some m)
    (b1 : 0 ≤ l) (b2 : l ≤ m) (b3 : m ≤ len) (b4 : len ≤ cap) :
    (Instr.sliceBounds isS len cap (lo'.map a.eval) (hi'.map a.eval) none).run P w = .ok (l.toNat, m.toNat, cap) w := by
  have key : ∀ {x : Option Arg} {x' : Option Operand} {d : Int} {n : Int}, chkO e.num x' x = true → bnd? ρ d x = some n → (x' = none ∧ n = d) ∨ ∃ y k, x' = some y ∧ a.eval y = .int k n := by
    intro x x' d n hc hb
    cases x with
    | none =>
      cases x' with
      | none => simp [bnd?] at hb; exact .inl ⟨rfl, hb.symm⟩
      | some y => simp [chkO] at hc
    | some z =>
      cases x' with
      | none => simp [chkO] at hc
      | some y =>
        simp only [chkO] at hc
        simp only [bnd?] at hb
        have g := RV_arg (ρ := ρ) ht hc
        split at hb
        · rename_i k q hq
          simp at hb
          subst hb
          rw [hq] at g
          exact .inr ⟨y, k, rfl, RV_int g⟩
        · simp at hb
  have hlo : ∀ w', (match lo'.map a.eval with
      | some v => Instr.sliceBound v m.toNat .sliceB
      | none => pure 0).run P w' = .ok l.toNat w' := by
    intro w'
    rcases key h1 hl with ⟨rfl, h3⟩ | ⟨y, k, rfl, h3⟩
    · simp [h3]
    · simp only [Option.map_some, h3]
      exact run_sliceBound ⟨by omega, by omega⟩
  have hlo' : ∀ w', (match lo'.map a.eval with
      | some v => do
        let l ← Instr.sliceBound v m.toNat .sliceB
        pure (l, m.toNat, cap)
      | none => do
        let l ← pure 0
        pure (l, m.toNat, cap)).run P w' = .ok (l.toNat, m.toNat, cap) w' := by
    intro w'
    have := hlo w'
    cases hx : lo'.map a.eval with
    | none => rw [hx] at this; simp at this; simp [this]
    | some v => rw [hx] at this; simp only at this; simp [this]
  unfold Instr.sliceBounds
  simp only [Sem.run_bind, Sem.run_pure, Result.andThen_ok, Option.isSome_none, Bool.false_eq_true, if_false]
  rcases key h2 hh with ⟨rfl, h3⟩ | ⟨y, k, rfl, h3⟩
  · subst h3
    simp only [Option.map_none, Sem.run_bind, Sem.run_pure, Result.andThen_ok]
    exact hlo' w
  · simp only [Option.map_some, h3, Sem.run_bind]
    rw [run_sliceBound ⟨by omega, by omega⟩]
    exact hlo' w

theorem tri_cutS {x : Arg} {lo hi : Option Arg} (hc : chkOp P num (.cutS x lo hi) o.op = true) (hp : plan ρ h nx (.cutS x lo hi) = some (p, v, fp, nx')) (hpp : p) : TriR P num o ρ v fp := by
  simp only [chkOp] at hc
  split at hc
  · rename_i t y l' h' hop
    simp only [Bool.and_eq_true] at hc
    obtain ⟨⟨⟨h1, h2⟩, h3⟩, h4⟩ := hc
    simp only [plan] at hp
    cases hl : bnd? ρ 0 lo with
    | none => simp [hl] at hp
    | some l =>
      simp only [hl, Option.bind_some] at hp
      split at hp
      · rename_i s hx
        cases hh : bnd? ρ s.size hi with
        | none => simp [hh] at hp
        | some m =>
          simp only [hh, Option.map_some, Option.some.injEq, Prod.mk.injEq] at hp
          obtain ⟨rfl, rfl, rfl, _⟩ := hp
          obtain ⟨p1, p2, p3⟩ := hpp
          refine tri_pure (m := .mv x) ?_
          intro e a hn ht
          subst hn
          have g1 := RV_arg (ρ := ρ) ht h1
          rw [hx] at g1
          refine ⟨.string (s.extract l.toNat m.toNat), ?_, by simp [RV]⟩
          intro w
          simp only [execOp, hop, RV_str g1, Sem.run_bind, Instr.sliceAt, run_underlying' (isStr_some h4), Result.andThen_ok, Instr.slice, Option.map_none, Option.isSome_none, Bool.false_eq_true, if_false]
          rw [run_sliceBounds (isS := false) ht h2 h3 hl hh p1 p2 p3 (Nat.le_refl _)]
          simp
      · simp at hp
  · simp at hc

end
end Go.Sep
