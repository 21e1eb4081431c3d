/- The executor's state and the model's: what it means that they agree, and that a step keeps them so. -/
import Derived.Test.YtoijhndfkfliiaaPlan2
namespace Go.Sep
set_option linter.unusedVariables false
set_option linter.unusedSimpArgs false

/-- What does not change while a call runs. -/
structure Base where
  num : Nat → Nat
  w0 : World
  Fr : Nat → Prop
  Bo : Nat → Prop
  L0 : List Nat
  φ0 : Nat → Spot
  nt : Nat

def Base.env (B : Base) (w : World) (φ : Nat → Spot) : Env := { num := B.num, w := w, w0 := B.w0, φ := φ, Fr := B.Fr, Bo := B.Bo }

/-- The rows told, as they lie. -/
structure Lies (B : Base) (t : List (Nat × AV)) (h : Heap) (nx : Nat) (a : Act) (w : World) (φ : Nat → Spot) (Lf : Nat → List Nat) : Prop where
  ok : Ok (B.env w φ) B.L0 (look h) Lf
  tm : ∀ n, RV (B.env w φ) (lookT t n) (a.tmps.getD n undef) []
  φ0 : ∀ n, B.φ0 n ≠ .dead → n < 10 ∧ (φ n = B.φ0 n ∨ φ n = .dead)
  ten : 10 ≤ nx

def St (B : Base) : AS → Act → World → Prop
  | .bad, _, _ => False
  | .mk t h nx, a, w => a.tmps.size = B.nt ∧ a.defers = [] ∧ HB h nx ∧ (∀ n, bnd (· < nx) (lookT t n)) ∧ ∃ φ Lf, Lies B t h nx a w φ Lf

theorem look_put {h : Heap} {n : Nat} {r : Row} (m : Nat) : look (put h n r) m = if m = n then some r else look h m := by
  induction h with
  | nil =>
    simp only [put, look]
  | cons x h ih =>
    obtain ⟨k, s⟩ := x
    simp only [put]
    split
    · rename_i hk
      simp only [look]
      by_cases hm : m = n
      · rw [if_pos (by omega), if_pos hm]
      · rw [if_neg (by omega), if_neg hm, if_neg (by omega)]
    · rename_i hk
      simp only [look, ih]
      by_cases hm : m = k
      · rw [if_pos hm, if_neg (by omega), if_pos hm]
      · rw [if_neg hm, if_neg hm]

theorem look_del {h : Heap} {n : Nat} (m : Nat) : look (del h n) m = if m = n then none else look h m := by
  induction h with
  | nil => simp [del, look]
  | cons x h ih =>
    obtain ⟨k, s⟩ := x
    simp only [del]
    split
    · rename_i hk
      rw [ih]
      simp only [look]
      by_cases hm : m = n
      · rw [if_pos hm, if_pos hm]
      · rw [if_neg hm, if_neg hm, if_neg (by omega)]
    · rename_i hk
      simp only [look, ih]
      by_cases hm : m = k
      · rw [if_pos hm, if_neg (by omega), if_pos hm]
      · rw [if_neg hm, if_neg hm]

theorem look_app1 : ∀ (fp : FP) (h : Heap), look (app1 h fp) = upH (look h) fp
  | [], h => rfl
  | (n, p, some r) :: fp, h => by
    simp only [app1, upH]
    rw [look_app1 fp]
    congr 1
    funext m
    exact look_put m
  | (n, p, none) :: fp, h => by
    simp only [app1, upH]
    rw [look_app1 fp]
    congr 1
    funext m
    exact look_del m

theorem lookT_putT (t : List (Nat × AV)) (d : Nat) (v : AV) (n : Nat) : lookT (putT t d v) n = if n = d then v else lookT t n := rfl

theorem lookT_putD (t : List (Nat × AV)) (d : Option Nat) (v : AV) (n : Nat) : lookT (putD t d v) n = if d = some n then v else lookT t n := by
  cases d with
  | none => simp [putD]
  | some d =>
    simp only [putD, lookT_putT, Option.some.injEq]
    by_cases h : n = d
    · rw [if_pos h, if_pos h.symm]
    · rw [if_neg h, if_neg (fun he => h he.symm)]

def dstOk (nt : Nat) : Option Nat → Bool
  | none => true
  | some d => decide (d < nt)

theorem put_getD {a : Act} {d : Option Nat} {v : Value} {nt : Nat} (hs : a.tmps.size = nt) (hd : dstOk nt d = true) (n : Nat) :
    (a.put d v).tmps.getD n undef = if d = some n then v else a.tmps.getD n undef := by
  cases d with
  | none => simp [Act.put]
  | some d =>
    simp only [dstOk, decide_eq_true_eq] at hd
    simp only [Act.put, Option.some.injEq, Array.getD_eq_getD_getElem?, Array.getElem?_setIfInBounds]
    by_cases h : d = n
    · subst h
      simp [hs, hd]
    · simp [h]

theorem put_size {a : Act} {d : Option Nat} {v : Value} : (a.put d v).tmps.size = a.tmps.size := by
  cases d <;> simp [Act.put]

theorem put_defers {a : Act} {d : Option Nat} {v : Value} : (a.put d v).defers = a.defers := by
  cases d <;> simp [Act.put]

/-- New names are not among the old ones; so all that is told goes on. -/
theorem Lies.turn {B : Base} {t : List (Nat × AV)} {h : Heap} {nx nx' : Nat} {a : Act} {w : World} {φ : Nat → Spot} {Lf : Nat → List Nat} {fp : FP} {v : AV} {e' : Env} {Lf' : Nat → List Nat} {v' : Value} {d : Option Nat}
    (hs : Lies B t h nx a w φ Lf) (hsz : a.tmps.size = B.nt) (hd : dstOk B.nt d = true) (hb : HB h nx) (hbt : ∀ n, bnd (· < nx) (lookT t n)) (hp : PB h nx v fp nx')
    (ht : Turns (B.env w φ) (look h) Lf (fun n => n ∈ fp.map (·.1)) e' (upH (look h) fp) Lf') (hv : RV e' v v' []) :
    e' = B.env e'.w e'.φ ∧ HB (app1 h fp) nx' ∧ (∀ n, bnd (· < nx') (lookT (putD t d v) n)) ∧ ∃ Lf'', Lies B (putD t d v) (app1 h fp) nx' (a.put d v') e'.w e'.φ Lf'' := by
  have he : e' = B.env e'.w e'.φ := by
    have h1 := ht.num
    have h2 := ht.w0
    have h3 := ht.Fr
    have h4 := ht.Bo
    cases e'
    simp only [Base.env] at h1 h2 h3 h4 ⊢
    subst h1 h2 h3 h4
    rfl
  have hnew : ∀ nm, nm < nx → nm ∈ fp.map (·.1) → look h nm = none → e'.φ nm = .dead := by
    intro nm hlt hm hn
    obtain ⟨x, hx, rfl⟩ := List.mem_map.1 hm
    have := hp.new x hx (by rw [← hp.pre x hx, hn])
    omega
  refine ⟨he, ?_, ?_, mix (fun n => n ∈ fp.map (·.1)) Lf Lf', ?_⟩
  · intro nm row hr
    rw [look_app1] at hr
    by_cases hm : nm ∈ fp.map (·.1)
    · have hlast : ∀ (fp : FP) (H : Nat → Option Row), nm ∈ fp.map (·.1) → ∃ x ∈ fp, x.1 = nm ∧ upH H fp nm = x.2.2 := by
        intro fp
        induction fp with
        | nil => intro H hm; simp at hm
        | cons x fp ih =>
          intro H hm
          obtain ⟨n, pr, r⟩ := x
          by_cases hm' : nm ∈ fp.map (·.1)
          · obtain ⟨y, hy, h1, h2⟩ := ih (fun m => if m = n then r else H m) hm'
            exact ⟨y, by simp [hy], h1, h2⟩
          · simp only [List.map_cons, List.mem_cons, hm', or_false] at hm
            refine ⟨(n, pr, r), by simp, hm.symm, ?_⟩
            simp only [upH]
            rw [upH_none hm', if_pos hm]
      obtain ⟨x, hx, h1, h2⟩ := hlast fp (look h) hm
      rw [h2] at hr
      exact ⟨h1 ▸ hp.lt x hx, hp.row x hx row hr⟩
    · rw [upH_none hm] at hr
      have := hb nm row hr
      exact ⟨Nat.lt_of_lt_of_le this.1 hp.le, bndr_mono (fun k hk => Nat.lt_of_lt_of_le hk hp.le) _ this.2⟩
  · intro n
    rw [lookT_putD]
    split
    · exact hp.v
    · exact bnd_mono (fun k hk => Nat.lt_of_lt_of_le hk hp.le) _ (hbt n)
  · rw [he] at ht hv
    refine ⟨?_, ?_, ?_, Nat.le_trans hs.ten hp.le⟩
    · rw [look_app1]
      exact ht.ok (A := (· < nx)) hs.ok (fun nm row hr => (hb nm row hr).2) hnew
    · intro n
      rw [lookT_putD, put_getD hsz hd]
      split
      · exact hv
      · exact RV_keep _ (ht.keeps (A := (· < nx)) (L := []) hnew hs.ok.rh.dead (by simp)) (hbt n) (hs.tm n)
    · intro n hn
      obtain ⟨h10, h2⟩ := hs.φ0 n hn
      have h1 : n < nx := Nat.lt_of_lt_of_le h10 hs.ten
      refine ⟨h10, ?_⟩
      by_cases hm : n ∈ fp.map (·.1)
      · by_cases hH : look h n = none
        · exact .inr (hnew n h1 hm hH)
        · rcases ht.φF n hm hH with hq | hq
          · have hq' : e'.φ n = φ n := hq
            rw [hq']; exact h2
          · exact .inr hq
      · have hq : e'.φ n = φ n := ht.φ n hm
        rw [hq]; exact h2

/-- One operation. -/
theorem step_op {P : Program} {B : Base} {o : Oper} {m : MOp} {t : List (Nat × AV)} {h : Heap} {nx nx' : Nat} {p : Prop} {v : AV} {fp : FP} {a : Act} {w : World} {K : Act → World → Prop} {Q : Exit → Act → World → Prop}
    (hc : chkOp P B.num m o.op = true) (hd : dstOk B.nt o.dst = true) (hs : St B (.mk t h nx) a w) (hp : plan (lookT t) h nx m = some (p, v, fp, nx')) (hpp : p)
    (k : ∀ a' w', St B (.mk (putD t o.dst v) (app1 h fp) nx') a' w' → K a' w') : o.wp P a w K Q := by
  obtain ⟨h1, h2, hb, hbt, φ, Lf, hl⟩ := hs
  have pb := plan_bnd hc hp hbt hb
  have tri := plan_tri hc hp hpp (fun nm row hr => by have := (hb nm row hr).1; omega)
  refine tri (B.env w φ) B.L0 (look h) Lf (· < nx) a K Q rfl hl.ok pb.pre hbt (fun nm row hr => (hb nm row hr).2) (fun x hx hn => by have := pb.new x hx hn; omega) hl.tm ?_
  intro e' Lf' v' ht hv
  obtain ⟨g1, g2, g3, Lf'', g4⟩ := hl.turn (d := o.dst) h1 hd hb hbt pb ht hv
  exact k _ _ ⟨by rw [put_size]; exact h1, by rw [put_defers]; exact h2, g2, g3, e'.φ, Lf'', g4⟩

/-- An operation that is not wanted. -/
theorem St.skip {B : Base} {t : List (Nat × AV)} {h : Heap} {nx : Nat} {a : Act} {w : World} {d : Option Nat} (hd : dstOk B.nt d = true) (hs : St B (.mk t h nx) a w) : St B (.mk (putD t d (.tup [])) h nx) (a.put d undef) w := by
  obtain ⟨h1, h2, hb, hbt, φ, Lf, hl⟩ := hs
  refine ⟨by rw [put_size]; exact h1, by rw [put_defers]; exact h2, hb, ?_, φ, Lf, hl.ok, ?_, hl.φ0, hl.ten⟩
  · intro n
    rw [lookT_putD]
    split
    · simp [bnd, bnds]
    · exact hbt n
  · intro n
    rw [lookT_putD, put_getD h1 hd]
    split
    · simp [RV, RVs, undef]
    · exact hl.tm n

/-- Worlds with the same memory. -/
theorem St.world {B : Base} {s : AS} {a : Act} {w w' : World} (hio : SameIo w w') (hw : w'.heap = w.heap) (hs : St B s a w) : St B s a w' := by
  cases s with
  | bad => exact hs
  | mk t h nx =>
    obtain ⟨h1, h2, hb, hbt, φ, Lf, hl⟩ := hs
    have T : Turns (B.env w φ) (look h) Lf (fun _ => False) (B.env w' φ) (look h) Lf :=
      { num := rfl, w0 := rfl, Fr := rfl, Bo := rfl, io := hio, size := by simp [Base.env, hw], keep := fun b _ _ => by simp [Base.env, hw], φ := fun _ _ => rfl, φF := fun _ hf => hf.elim, rest := fun _ _ => rfl,
        row := fun _ _ hf => hf.elim, nodup := fun _ hf => hf.elim, blk := fun _ hf => hf.elim, dis := fun _ _ hf => hf.elim, dead := fun _ hf => hf.elim }
    have := T.ok (A := fun _ => True) hl.ok (fun nm row hr => bndr_true _) (fun _ _ hf => hf.elim)
    have hm : mix (fun _ => False) Lf Lf = Lf := by funext n; exact mix_neg (fun hf => hf)
    rw [hm] at this
    exact ⟨h1, h2, hb, hbt, φ, Lf, this, fun n => RV_keep _ (T.keeps (A := fun _ => True) (L := []) (fun _ _ hf => hf.elim) hl.ok.rh.dead (by simp)) (bnd_true _) (hl.tm n), hl.φ0, hl.ten⟩

end Go.Sep
