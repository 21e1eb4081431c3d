/- When an operation of the model is one of the executor's; what it means that the executor tells right what it does. -/
import Derived.Test.YtoijhndfkfliiaaRun
namespace Go.Sep
set_option linter.unusedVariables false
set_option linter.unusedSimpArgs false

mutual
def chkV : AV → Value → Bool
  | .bool c, v => (match v with | .bool b => b == c | _ => false)
  | .int k m, v => (match v with | .int k' n => k == k' && n == m | _ => false)
  | .str t, v => (match v with | .string s => decide (s = t) | _ => false)
  | .nil, v => (match v with | .slice none 0 0 => true | _ => false)
  | .nilp, v => (match v with | .pointer none => true | _ => false)
  | .nilI, v => (match v with | .nilIface => true | _ => false)
  | .agg ds, v => (match v with | .agg cs => chkVs ds cs.toList | _ => false)
  | _, _ => false
def chkVs : List AV → List Value → Bool
  | [], vs => (match vs with | [] => true | _ => false)
  | d :: ds, vs => (match vs with | v :: vs => chkV d v && chkVs ds vs | _ => false)
end

def chkA (num : Nat → Nat) : Operand → Arg → Bool
  | .tmp t, .t n => t == n
  | .const v, .c d => chkV d v
  | .func f, .c (.fn g []) => f == num g
  | _, _ => false

def chkAs (num : Nat → Nat) : List Operand → List Arg → Bool
  | [], [] => true
  | x :: xs, y :: ys => chkA num x y && chkAs num xs ys
  | _, _ => false

def upH (H : Nat → Option Row) : FP → Nat → Option Row
  | [] => H
  | (n, _, r) :: fp => upH (fun m => if m = n then r else H m) fp

/-- An operation, told right: whatever the world, its value and its rows are as told, and all else lies as it lay. -/
def Tri (P : Program) (num : Nat → Nat) (o : Oper) (ρ : Nat → AV) (v : AV) (fp : FP) : Prop :=
  ∀ (e : Env) (L0 : List Nat) (H : Nat → Option Row) (Lf : Nat → List Nat) (A : Nat → Prop) (a : Act) (K : Act → World → Prop) (Q : Exit → Act → World → Prop),
    e.num = num → Ok e L0 H Lf → (∀ x ∈ fp, H x.1 = x.2.1) → (∀ t, bnd A (ρ t)) → (∀ nm row, H nm = some row → bndr A row.2) → (∀ x ∈ fp, x.2.1 = none → ¬ A x.1) → (∀ t, RV e (ρ t) (a.tmps.getD t undef) []) →
    (∀ e' Lf' v', Turns e H Lf (fun n => n ∈ fp.map (·.1)) e' (upH H fp) Lf' → RV e' v v' [] → K (a.put o.dst v') e'.w) →
    o.wp P a e.w K Q

theorem wp_value {P : Program} {o : Oper} {a : Act} {w w' : World} {v : Value} {K : Act → World → Prop} {Q : Exit → Act → World → Prop}
    (h : (execOp a.eval o).run P w = .ok (.value v) w') (k : K (a.put o.dst v) w') : o.wp P a w K Q := by
  unfold Oper.wp
  rw [h]
  exact k

theorem wp_skipped {P : Program} {o : Oper} {a : Act} {w w' : World} {K : Act → World → Prop} {Q : Exit → Act → World → Prop}
    (h : (execOp a.eval o).run P w = .ok .skip w') (k : K (a.put o.dst undef) w') : o.wp P a w K Q := by
  unfold Oper.wp
  rw [h]
  exact k

theorem upH_none {H : Nat → Option Row} : ∀ {fp : FP} {n : Nat}, n ∉ fp.map (·.1) → upH H fp n = H n
  | [], _, _ => rfl
  | (m, p, r) :: fp, n, h => by
    simp only [List.map_cons, List.mem_cons, not_or] at h
    simp only [upH]
    rw [upH_none h.2, if_neg h.1]

theorem upH_same {H : Nat → Option Row} : ∀ {fp : FP}, (∀ x ∈ fp, H x.1 = x.2.1) → (∀ x ∈ fp, x.2.2 = x.2.1) → upH H fp = H
  | [], _, _ => rfl
  | (m, p, r) :: fp, h1, h2 => by
    simp only [upH]
    have hr : r = H m := by
      have a := h1 (m, p, r) (by simp)
      have b := h2 (m, p, r) (by simp)
      simp at a b
      rw [b, a]
    have : (fun k => if k = m then r else H k) = H := by
      funext k
      by_cases hk : k = m
      · rw [if_pos hk, hk, hr]
      · rw [if_neg hk]
    rw [this]
    exact upH_same (fun x hx => h1 x (by simp [hx])) (fun x hx => h2 x (by simp [hx]))

/-- Nothing turns. -/
theorem Turns.refl {e : Env} {L0 : List Nat} {H : Nat → Option Row} {Lf : Nat → List Nat} (F : Nat → Prop) (h : Ok e L0 H Lf) : Turns e H Lf F e H Lf where
  num := rfl
  w0 := rfl
  Fr := rfl
  Bo := rfl
  io := SameIo.refl _
  size := Nat.le_refl _
  keep _ _ _ := rfl
  φ _ _ := rfl
  φF _ _ _ := .inl rfl
  rest _ _ := rfl
  row nm row _ hr := h.rh.row nm row hr
  nodup nm _ hn := h.rh.nodup nm hn
  blk nm hF hn b hb := ⟨(h.rh.blk nm hn b hb).1, .inr ⟨nm, hF, hn, hb⟩⟩
  dis n m _ _ hn hm hne b hb := h.rh.dis n m hn hm hne b hb
  dead nm _ hn := h.rh.dead nm hn

/-- Worlds in which a read reads the same: what is frozen, and the rows of its names. -/
def Same (e : Env) (fp : FP) (w' : World) : Prop :=
  (∀ b, e.Fr b ∨ e.Bo b → ∀ o, w'.cell? ⟨b, o, none⟩ = e.w.cell? ⟨b, o, none⟩) ∧ ∀ x ∈ fp, ∀ q, e.φ x.1 = .at q → w'.heap[q.block]? = e.w.heap[q.block]?

theorem Same.of_heap {e : Env} {fp : FP} {w' : World} (h : w'.heap = e.w.heap) : Same e fp w' := ⟨fun b _ o => cell_of_heap (by rw [h]) o, fun _ _ q _ => by rw [h]⟩

theorem Same.refl (e : Env) (fp : FP) : Same e fp e.w := ⟨fun _ _ _ => rfl, fun _ _ _ _ => rfl⟩

/-- A read, told right: one value in all such worlds; and what it does to the names. -/
def TriR (P : Program) (num : Nat → Nat) (o : Oper) (ρ : Nat → AV) (v : AV) (fp : FP) : Prop :=
  ∀ (e : Env) (L0 : List Nat) (H : Nat → Option Row) (Lf : Nat → List Nat) (A : Nat → Prop) (a : Act),
    e.num = num → Ok e L0 H Lf → (∀ x ∈ fp, H x.1 = x.2.1) → (∀ t, bnd A (ρ t)) → (∀ nm row, H nm = some row → bndr A row.2) → (∀ x ∈ fp, x.2.1 = none → ¬ A x.1) → (∀ t, RV e (ρ t) (a.tmps.getD t undef) []) →
    ∃ v', (∀ w', Same e fp w' → (execOp a.eval o).run P w' = .ok (.value v') w') ∧ ∃ e' Lf', e'.w = e.w ∧ Turns e H Lf (fun n => n ∈ fp.map (·.1)) e' (upH H fp) Lf' ∧ RV e' v v' []

theorem TriR.tri {P : Program} {num : Nat → Nat} {o : Oper} {ρ : Nat → AV} {v : AV} {fp : FP} (h : TriR P num o ρ v fp) : Tri P num o ρ v fp := by
  intro e L0 H Lf A a K Q hn hk hpre hb hbh hf ht k
  obtain ⟨v', h1, e', Lf', h2, h3, h4⟩ := h e L0 H Lf A a hn hk hpre hb hbh hf ht
  have := k e' Lf' v' h3 h4
  rw [h2] at this
  exact wp_value (h1 e.w (Same.refl e fp)) this

/-- An operation that turns no row. -/
theorem Tri.of_read {P : Program} {num : Nat → Nat} {o : Oper} {ρ : Nat → AV} {v : AV} {fp : FP} (hfp : ∀ x ∈ fp, x.2.2 = x.2.1)
    (h : ∀ (e : Env) (L0 : List Nat) (H : Nat → Option Row) (Lf : Nat → List Nat) (a : Act), e.num = num → Ok e L0 H Lf → (∀ x ∈ fp, H x.1 = x.2.1) → (∀ t, RV e (ρ t) (a.tmps.getD t undef) []) →
      ∃ v', (∀ w', Same e fp w' → (execOp a.eval o).run P w' = .ok (.value v') w') ∧ RV e v v' []) : TriR P num o ρ v fp := by
  intro e L0 H Lf A a hn hk hpre _ _ _ ht
  obtain ⟨v', hr, hv⟩ := h e L0 H Lf a hn hk hpre ht
  refine ⟨v', hr, e, Lf, rfl, ?_, hv⟩
  rw [upH_same hpre hfp]
  exact Turns.refl _ hk

mutual
theorem RV_const {e : Env} : ∀ {d : AV} {v : Value}, chkV d v = true → RV e d v []
  | .bool c, v, h => by cases v <;> simp_all [chkV, RV]
  | .int k m, v, h => by cases v <;> simp_all [chkV, RV]
  | .str t, v, h => by cases v <;> simp_all [chkV, RV]
  | .nil, v, h => by
    simp only [chkV] at h
    split at h
    · simp [RV]
    · simp at h
  | .nilp, v, h => by
    simp only [chkV] at h
    split at h
    · simp [RV]
    · simp at h
  | .nilI, v, h => by
    simp only [chkV] at h
    split at h
    · simp [RV]
    · simp at h
  | .agg ds, v, h => by
    simp only [chkV] at h
    split at h
    · rename_i cs
      simp only [RV]
      exact ⟨cs.toList, rfl, RVs_const h⟩
    · simp at h
  | .any, _, h | .fn _ _, _, h | .ptr _ _ _, _, h | .fptr _ _ _, _, h | .ifc, _, h | .ns _ _ _, _, h | .sl _ _ _, _, h | .tup _, _, h => by simp [chkV] at h
theorem RVs_const {e : Env} : ∀ {ds : List AV} {vs : List Value}, chkVs ds vs = true → RVs e ds vs []
  | [], vs, h => by
    cases vs <;> simp_all [chkVs, RVs]
  | d :: ds, vs, h => by
    cases vs with
    | nil => simp [chkVs] at h
    | cons v vs =>
      simp only [chkVs, Bool.and_eq_true] at h
      simp only [RVs]
      exact ⟨v, vs, [], [], rfl, RV_const h.1, RVs_const h.2, rfl⟩
end

theorem RV_arg {e : Env} {ρ : Nat → AV} {a : Act} {x : Operand} {y : Arg} (ht : ∀ t, RV e (ρ t) (a.tmps.getD t undef) []) (h : chkA e.num x y = true) :
    RV e (y.ev ρ) (a.eval x) [] := by
  cases x with
  | tmp t =>
    cases y with
    | t n => simp [chkA] at h; subst h; exact ht t
    | c d => simp [chkA] at h
  | const v =>
    cases y with
    | t n => simp [chkA] at h
    | c d => exact RV_const h
  | global g => cases y <;> simp [chkA] at h
  | func f =>
    cases y with
    | t n => simp [chkA] at h
    | c d =>
      cases d with
      | fn g cap =>
        cases cap with
        | nil => simp [chkA] at h; subst h; simp [Arg.ev, RV, RVs, Act.eval]
        | cons => simp [chkA] at h
      | _ => simp [chkA] at h

end Go.Sep
