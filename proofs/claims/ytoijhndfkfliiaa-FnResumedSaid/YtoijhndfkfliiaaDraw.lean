/- Regions whose order is drawn: a read may be taken early, if what it reads stays until those that wait for it. No program in sight. -/
import Derived.OrdersHeld
namespace Go.Sep
set_option linter.unusedVariables false
set_option linter.unusedSimpArgs false

section
variable {P : Program} {ops : Array Oper} {Q : Exit → Act → World → Prop} {md : Region.Mode}

/-- j waits for i. -/
def dep (md : Region.Mode) (ops : Array Oper) (j i : Nat) : Bool :=
  match ops[j]? with
  | some oj => oj.after.any fun e => Region.binds md e && e.on == i
  | none => false

theorem dep_false {j i : Nat} {oj : Oper} (hj : ops[j]? = some oj) (h : ∀ e ∈ oj.after, Region.binds md e = true → e.on ≠ i) : dep md ops j i = false := by
  unfold dep
  rw [hj]
  cases hh : oj.after.any fun e => Region.binds md e && e.on == i with
  | false => exact hh
  | true =>
    obtain ⟨e, he, hb⟩ := Array.any_eq_true'.1 hh
    simp only [Bool.and_eq_true, beq_iff_eq] at hb
    exact absurd hb.2 (h e he hb.1)

/-- A read that was taken early, and what must stay. -/
structure Pend where
  i : Nat
  S : World → Prop

/-- Whatever order is picked from here on; behind each operation, what those reads need stays that it does not wait for. -/
def wpD (P : Program) (md : Region.Mode) (ops : Array Oper) (Q : Exit → Act → World → Prop) : Nat → List Pend → Array Bool → Act → World → Prop
  | 0, _, listed, a, w => Region.ready md ops listed = [] ∧ Q .normal a w
  | fuel + 1, L, listed, a, w =>
    (Region.ready md ops listed = [] → Q .normal a w) ∧
    ∀ j ∈ Region.ready md ops listed, wpOp P ops Q j (fun a' w' => (∀ p ∈ L, dep md ops j p.i = false → p.S w') ∧ wpD P md ops Q fuel (L.filter fun p => !dep md ops j p.i) (listed.setIfInBounds j true) a' w') a w

theorem wpD_any : ∀ (fuel : Nat) (L : List Pend) (listed : Array Bool) (a : Act) (w : World), wpD P md ops Q fuel L listed a w → wpAny P md ops Q fuel listed a w
  | 0, _, _, _, _, h => h
  | fuel + 1, _, _, _, _, h => ⟨h.1, fun j hj => wpOp_mono (fun a' w' h' => wpD_any fuel _ _ a' w' h'.2) (h.2 j hj)⟩

theorem wpD_mono : ∀ (fuel : Nat) (L L' : List Pend) (listed : Array Bool) (a : Act) (w : World), (∀ p ∈ L', p ∈ L) → wpD P md ops Q fuel L listed a w → wpD P md ops Q fuel L' listed a w
  | 0, _, _, _, _, _, _, h => h
  | fuel + 1, L, L', _, _, _, hs, h => ⟨h.1, fun j hj => wpOp_mono (fun a' w' h' => ⟨fun p hp hd => h'.1 p (hs p hp) hd, wpD_mono fuel _ _ _ a' w' (fun p hp => by
      rw [List.mem_filter] at hp ⊢
      exact ⟨hs p hp.1, hp.2⟩) h'.2⟩) (h.2 j hj)⟩

theorem wpD_triv (i : Nat) : ∀ (fuel : Nat) (L : List Pend) (listed : Array Bool) (a : Act) (w : World), wpD P md ops Q fuel L listed a w → wpD P md ops Q fuel (⟨i, fun _ => True⟩ :: L) listed a w
  | 0, _, _, _, _, h => h
  | fuel + 1, L, _, _, _, h => ⟨h.1, fun j hj => wpOp_mono (fun a' w' h' => by
      refine ⟨fun p hp hd => ?_, ?_⟩
      · rcases List.mem_cons.1 hp with rfl | hp
        · trivial
        · exact h'.1 p hp hd
      · by_cases hd : dep md ops j i = true
        · rw [List.filter_cons_of_neg (by simp [hd])]
          exact h'.2
        · rw [List.filter_cons_of_pos (by simpa using hd)]
          exact wpD_triv i fuel _ _ a' w' h'.2) (h.2 j hj)⟩

/-- A read is taken early. -/
theorem wpD_take {i : Nat} {oi : Oper} {v : Value} {S : World → Prop} (hi : ops[i]? = some oi) (hsel : ∀ (j : Nat) (o : Oper) cs b, ops[j]? = some o → o.op ≠ .select cs b)
    (hQ : ∀ c a w, Q (.panic c) (a.put oi.dst v) w → Q (.panic c) a w) :
    ∀ (fuel : Nat) (L : List Pend) (listed : Array Bool) (a : Act) (w : World),
      (∀ j oj, ops[j]? = some oj → j ≠ i → listed.getD j true = false → (∀ e ∈ oj.after, Region.binds md e = true → e.on ≠ i) → oi.apart ops oj = true) →
      i ∈ Region.ready md ops listed → YieldsIf P ops S oi v a → S w → (∀ p ∈ L, p.S w) →
      wpD P md ops Q fuel (⟨i, S⟩ :: L) (listed.setIfInBounds i true) (a.put oi.dst v) w → wpD P md ops Q (fuel + 1) L listed a w := by
  intro fuel
  induction fuel with
  | zero =>
    intro L listed a w _ hr hy hS hL H
    refine ⟨fun h => (by rw [h] at hr; cases hr), fun j hj => ?_⟩
    by_cases hji : j = i
    · subst hji; exact hy.wpOp hi hS ⟨fun p hp _ => hL p hp, H⟩
    · have := ready_mono hj hji
      rw [H.1] at this
      cases this
  | succ fuel ih =>
    intro L listed a w hfree hr hy hS hL H
    refine ⟨fun h => (by rw [h] at hr; cases hr), fun j hj => ?_⟩
    by_cases hji : j = i
    · subst hji
      refine hy.wpOp hi hS ⟨fun p hp _ => hL p hp, wpD_mono _ _ _ _ _ _ (fun p hp => ?_) H⟩
      exact List.mem_cons_of_mem _ (List.mem_filter.1 hp).1
    · have h1 := H.2 j (ready_mono hj hji)
      obtain ⟨hjun, oj, hoj, hall⟩ := mem_ready.1 hj
      have hnot : ∀ e ∈ oj.after, Region.binds md e = true → e.on ≠ i := fun e he hb heq => by
        have h1 := hall e he hb
        have h0 := (mem_ready.1 hr).1
        rw [heq] at h1
        rcases Nat.lt_or_ge i listed.size with h' | h'
        · simp [h'] at h0 h1; rw [h0] at h1; cases h1
        · simp [Array.getElem?_eq_none h'] at h1
      have hd := dep_false hoj hnot
      have h2 := wpOp_putIf hoj (hfree j oj hoj hji hjun hnot) (fun cs b => hsel i oi cs b hi) (fun cs b => hsel j oj cs b hoj) hQ hy h1
      have hfree' : ∀ k ok, ops[k]? = some ok → k ≠ i → (listed.setIfInBounds j true).getD k true = false →
          (∀ e ∈ ok.after, Region.binds md e = true → e.on ≠ i) → oi.apart ops ok = true := fun k ok hk hki hun hno => by
        refine hfree k ok hk hki ?_ hno
        by_cases hjk : j = k
        · subst hjk; exact hjun
        · rw [getD_set_ne true hjk] at hun; exact hun
      refine wpOp_mono (fun a' w' h3 => ?_) h2
      obtain ⟨h4, h5, h6⟩ := h3
      have h7 : S w' := h5 ⟨i, S⟩ (by simp) hd
      refine ⟨fun p hp hdp => h5 p (by simp [hp]) hdp, ih _ (listed.setIfInBounds j true) a' w' hfree' (ready_mono hr (Ne.symm hji)) h4 h7 (fun p hp => ?_) ?_⟩
      · rw [List.mem_filter] at hp
        exact h5 p (by simp [hp.1]) (by simpa using hp.2)
      · rw [Array.setIfInBounds_comm _ _ hji]
        rw [List.filter_cons_of_pos (by simp [hd])] at h6
        exact h6

/-- Whichever may come up comes up. -/
theorem wpD_all {rs : List Nat} {fuel : Nat} {L : List Pend} {listed : Array Bool} {a : Act} {w : World} (hr : Region.ready md ops listed = rs) (hne : rs ≠ [])
    (h : ∀ j ∈ rs, wpOp P ops Q j (fun a' w' => (∀ p ∈ L, dep md ops j p.i = false → p.S w') ∧ wpD P md ops Q fuel (L.filter fun p => !dep md ops j p.i) (listed.setIfInBounds j true) a' w') a w) :
    wpD P md ops Q (fuel + 1) L listed a w := ⟨fun h0 => absurd (hr ▸ h0) hne, hr ▸ h⟩

theorem wpD_done {L : List Pend} {listed : Array Bool} {a : Act} {w : World} (hr : Region.ready md ops listed = []) (h : Q .normal a w) : ∀ fuel, wpD P md ops Q fuel L listed a w
  | 0 => ⟨hr, h⟩
  | _ + 1 => ⟨fun _ => h, by rw [hr]; simp⟩

end
end Go.Sep
