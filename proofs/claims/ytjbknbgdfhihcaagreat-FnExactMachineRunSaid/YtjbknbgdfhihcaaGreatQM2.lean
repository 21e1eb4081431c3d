/- Contracts of functions. -/
import Derived.Test.YtjbknbgdfhihcaaGreatFns
import Derived.Test.YtjbknbgdfhihcaaGreatQa0
import Derived.Test.YtjbknbgdfhihcaaGreatQd0
import Derived.Test.YtjbknbgdfhihcaaGreatQe0
import Derived.Test.YtjbknbgdfhihcaaGreatQf0
import Derived.Test.YtjbknbgdfhihcaaGreatQj0
import Derived.Test.YtjbknbgdfhihcaaGreatQK0
import Derived.Test.YtjbknbgdfhihcaaGreatQt0
import Derived.Test.YtjbknbgdfhihcaaGreatQv0
import Derived.Test.YtjbknbgdfhihcaaGreatQw0
import Derived.Test.YtjbknbgdfhihcaaGreatQy0
import Derived.Test.YtjbknbgdfhihcaaGreatQz0
import Derived.Test.YtjbknbgdfhihcaaGreatQA0
import Derived.Test.YtjbknbgdfhihcaaGreatQM0
import Derived.Test.YtjbknbgdfhihcaaGreatQa2
import Derived.Test.YtjbknbgdfhihcaaGreatQf2
import Derived.Test.YtjbknbgdfhihcaaGreatQK2
import Derived.Test.YtjbknbgdfhihcaaGreatQt2
import Derived.Test.YtjbknbgdfhihcaaGreatQA2
namespace Go.Sep
open Go.Proofs
set_option linter.unusedSimpArgs false
set_option linter.unusedVariables false
set_option maxRecDepth 100000
open Nat renaming reduceAdd → qA, reduceMul → qB, reduceEqDiff → qC, reduceBEq → qD
open Int renaming reduceToNat → qE, reduceEq → qF, reduceLT → qG, reduceLE → qH
open List renaming getD_eq_getElem?_getD → gD

-- S2
/-- A step of a core of a right machine. -/
def rg (k : Core) (r : Int) : Int := k.regs.getD r.toNat 0
def setR (k : Core) (r v : Int) : Core := { k with regs := k.regs.set r.toNat v }
def stepAt (m : Machine) (i : Nat) : Step := (m.codes.getD i []).getD (coreAt m i).at_.toNat default
def cellOf (k : Core) (s : Step) : Int := if s.op ≠ 8 ∧ 0 ≤ s.a then IntKind.i64.wrap (s.n + rg k s.a) else s.n
def setK (m : Machine) (i : Nat) (k : Core) : Machine := { m with cores := m.cores.set i k }
def stop (m : Machine) (i : Nat) (st : Int) : Machine := setK m i { coreAt m i with st := st }
/-- On to the next step; a fault, where there is none. -/
def goOn (m : Machine) (i : Nat) (k : Core) (next : Int) : Machine :=
  if ((m.codes.getD i []).length : Int) ≤ next then setK m i { k with st := 2 } else setK m i { k with at_ := next }
def isMem (op : Int) : Bool := decide (op = 5) || decide (op = 6) || decide (op = 7) || decide (op = 8)
def mcode (m : Machine) (who : Int) : Int :=
  if within who 0 (m.cores.length - 1) then
    let k := coreAt m who.toNat
    let s := stepAt m who.toNat
    if k.st ≠ 0 ∨ (s.op = 9 ∧ (m.tr.length : Int) = 4000) then 3
    else if isMem s.op && !decide (s.op = 5) && within (cellOf k s) 0 23 && decide ((4000 : Int) ≤ (m.mem.cells.getD (cellOf k s).toNat []).length) then 3
    else 0
  else 2
/-- What a step of a cell that there is does to the memory and to the core. -/
def access (cs : List (List Write)) (k : Core) (s : Step) (cell : Nat) (late : Int) : List (List Write) × Core :=
  if s.op = 5 then
    let r := load cs k.view cell late false
    (cs, { k with regs := k.regs.set s.r.toNat r.1, view := r.2 })
  else if s.op = 8 then
    let r := load cs k.view cell 0 true
    let w := store cs r.2 cell (rg k s.b) true
    (w.1, { k with regs := k.regs.set s.r.toNat r.1, view := w.2 })
  else
    let w := store cs k.view cell (rg k s.b) (decide (s.op = 7))
    (w.1, { k with view := w.2 })
def alu (k : Core) (s : Step) : Core :=
  if s.op = 1 then setR k s.r s.n
  else if s.op = 2 then setR k s.r (IntKind.i64.wrap (rg k s.a + rg k s.b))
  else if s.op = 3 then setR k s.r (IntKind.i64.wrap (rg k s.a - rg k s.b))
  else if s.op = 4 then setR k s.r (numb (decide (rg k s.a < rg k s.b)))
  else k
def nextAt (k : Core) (s : Step) : Int := if s.op = 10 then s.n else if s.op = 11 ∧ rg k s.a = 0 then s.n else k.at_ + 1
def mdo (m : Machine) (i : Nat) (late : Int) : Machine :=
  let k := coreAt m i
  let s := stepAt m i
  if s.op = 12 then stop m i 1
  else if s.op = 13 then stop m i 2
  else if isMem s.op then
    if within (cellOf k s) 0 23 then
      let r := access m.mem.cells k s (cellOf k s).toNat late
      goOn { m with mem := ⟨r.1⟩ } i r.2 (k.at_ + 1)
    else stop m i 2
  else if s.op = 9 then goOn { m with tr := m.tr ++ [⟨i, rg k s.a⟩] } i k (k.at_ + 1)
  else goOn m i (alu k s) (nextAt k s)
def mstep (m : Machine) (x : Pick) : Machine × Int := if mcode m x.who = 0 then (mdo m x.who.toNat x.late, 0) else (m, mcode m x.who)

-- S2
theorem VOk.grow {cs cs' : List (List Write)} {v : List Int} (h : VOk cs v) (hg : ∀ i, i < 24 → (cs.getD i []).length ≤ (cs'.getD i []).length) : VOk cs' v :=
  ⟨h.1, fun i hi => by have := h.2 i hi; have := hg i hi; omega⟩
theorem join_length : ∀ (a b : List Int), a.length = b.length → (join a b).length = a.length
  | [], _, _ => by simp [join]
  | _ :: _, [], h => by simp at h
  | a :: l, b :: k, h => by simp [join, join_length l k (by simpa using h)]
theorem join_at : ∀ (a b : List Int) (i : Nat), i < a.length → i < b.length → (join a b).getD i 0 = max (a.getD i 0) (b.getD i 0)
  | [], _, i, h, _ => by simp at h
  | _ :: _, [], i, _, h => by simp at h
  | a :: l, b :: k, 0, _, _ => by simp [join]
  | a :: l, b :: k, i + 1, h, g => by
    simp only [join, List.getD_cons_succ]
    exact join_at l k i (by simpa using h) (by simpa using g)
theorem VOk.join {cs : List (List Write)} {v w : List Int} (h : VOk cs v) (k : VOk cs w) : VOk cs (join v w) := by
  refine ⟨by rw [join_length _ _ (by rw [h.1, k.1])]; exact h.1, fun i hi => ?_⟩
  have a := h.2 i hi
  have b := k.2 i hi
  rw [join_at _ _ i (by rw [h.1]; exact hi) (by rw [k.1]; exact hi)]
  omega
theorem rep_getD (n i : Nat) (a : Int) : (List.replicate n a).getD i a = a := by
  rw [List.getD_eq_getElem?_getD, List.getElem?_replicate]
  split <;> rfl
theorem VOk.zero {cs : List (List Write)} (h : MmOk cs) : VOk cs (List.replicate 24 0) := by
  refine ⟨rfl, fun i hi => ?_⟩
  have := (h.cell i hi).1
  rw [rep_getD]
  omega
/-- Where a load reads. -/
def ldAt (cs : List (List Write)) (view : List Int) (cell : Nat) (late : Int) : Int := max (((cs.getD cell []).length : Int) - 1 - max late 0) (view.getD cell 0)
theorem ldAt_in {cs : List (List Write)} {view : List Int} {cell : Nat} {late : Int} (h : VOk cs view) (hc : cell < 24) : 0 ≤ ldAt cs view cell late ∧ ldAt cs view cell late < ((cs.getD cell []).length : Int) := by
  have := h.2 cell hc
  unfold ldAt
  omega
theorem load_eq (cs : List (List Write)) (view : List Int) (cell : Nat) (late : Int) (hold : Bool) : load cs view cell late hold = (((cs.getD cell []).getD (ldAt cs view cell late).toNat default).v, if hold then join (view.set cell (ldAt cs view cell late)) ((cs.getD cell []).getD (ldAt cs view cell late).toNat default).view else view.set cell (ldAt cs view cell late)) := rfl
theorem load_ok {cs : List (List Write)} {view : List Int} {cell : Nat} {late : Int} {hold : Bool} (hm : MmOk cs) (h : VOk cs view) (hc : cell < 24) : VOk cs (load cs view cell late hold).2 := by
  have hl := ldAt_in (late := late) h hc
  have hs := h.set cell (ldAt cs view cell late) hl.1 hl.2
  rw [load_eq]
  simp only
  split
  · refine hs.join (hm.view cell hc _ (getD_mem _ _ _ (by omega)))
  · exact hs
theorem store_mem {cs : List (List Write)} {view : List Int} {cell : Nat} {v : Int} {go : Bool} (hm : MmOk cs) (h : VOk cs view) (hc : cell < 24) (hr : (cs.getD cell []).length < 4000) : MmOk (store cs view cell v go).1 ∧ VOk (store cs view cell v go).1 (store cs view cell v go).2 ∧ (∀ i, i < 24 → (cs.getD i []).length ≤ ((store cs view cell v go).1.getD i []).length) := by
  have hcl : cell < cs.length := by rw [hm.len]; exact hc
  unfold store
  simp only
  generalize hw : (⟨v, if go then view.set cell ((cs.getD cell []).length : Int) else (List.replicate 24 0).set cell ((cs.getD cell []).length : Int)⟩ : Write) = w
  have hg : ∀ i, i < 24 → (cs.getD i []).length ≤ ((cs.set cell (cs.getD cell [] ++ [w])).getD i []).length := fun i hi => by
    rw [getD_set_eq _ _ _ _ _ hcl]
    split
    · rename_i e
      subst e
      simp
    · exact Nat.le_refl _
  have hn : (((cs.set cell (cs.getD cell [] ++ [w])).getD cell []).length : Int) = (cs.getD cell []).length + 1 := by
    rw [getD_set_eq _ _ _ _ _ hcl, if_pos rfl]
    simp
  have ho : VOk (cs.set cell (cs.getD cell [] ++ [w])) (view.set cell ((cs.getD cell []).length : Int)) := (h.grow hg).set cell _ (by omega) (by omega)
  have hwe : w.view = if go then view.set cell ((cs.getD cell []).length : Int) else (List.replicate 24 0).set cell ((cs.getD cell []).length : Int) := by rw [← hw]
  have hwv : VOk (cs.set cell (cs.getD cell [] ++ [w])) w.view := by
    rw [hwe]
    split
    · exact ho
    · exact ((VOk.zero hm).grow hg).set cell _ (by omega) (by omega)
  refine ⟨⟨by rw [List.length_set]; exact hm.len, fun i hi => ?_, fun i hi x hx => ?_⟩, ho, hg⟩
  · rw [getD_set_eq _ _ _ _ _ hcl]
    split
    · rw [List.length_append]
      simp only [List.length_singleton]
      omega
    · exact hm.cell i hi
  · rw [getD_set_eq _ _ _ _ _ hcl] at hx
    split at hx
    · rcases List.mem_append.1 hx with hx | hx
      · exact (hm.view cell hc x hx).grow hg
      · rw [List.mem_singleton.1 hx]
        exact hwv
    · exact (hm.view i hi x hx).grow hg
theorem access_ok {cs : List (List Write)} {k : Core} {s : Step} {cell : Nat} {late : Int} (hm : MmOk cs) (h : VOk cs k.view) (hc : cell < 24) (hr : s.op ≠ 5 → (cs.getD cell []).length < 4000) :
    MmOk (access cs k s cell late).1 ∧ VOk (access cs k s cell late).1 (access cs k s cell late).2.view ∧ (∀ i, i < 24 → (cs.getD i []).length ≤ ((access cs k s cell late).1.getD i []).length) ∧ (access cs k s cell late).2.regs.length = k.regs.length ∧ (access cs k s cell late).2.at_ = k.at_ ∧ (access cs k s cell late).2.st = k.st := by
  unfold access
  split
  · dsimp only
    exact ⟨hm, load_ok hm h hc, fun _ _ => Nat.le_refl _, by simp, rfl, rfl⟩
  · rename_i h5
    split
    · dsimp only
      have hs := store_mem (go := true) (v := rg k s.b) hm (load_ok (late := 0) (hold := true) hm h hc) hc (hr h5)
      exact ⟨hs.1, hs.2.1, hs.2.2, by simp, rfl, rfl⟩
    · dsimp only
      have hs := store_mem (go := decide (s.op = 7)) (v := rg k s.b) hm h hc (hr h5)
      exact ⟨hs.1, hs.2.1, hs.2.2, rfl, rfl, rfl⟩
theorem setK_at (m : Machine) (i j : Nat) (k : Core) (h : i < m.cores.length) : coreAt (setK m i k) j = if j = i then k else coreAt m j := getD_set_eq _ _ _ _ _ h
theorem setK_ok {m : Machine} (h : MOk m) {i : Nat} (hi : i < m.cores.length) {k : Core} (h1 : k.regs.length = 8) (h2 : 0 ≤ k.at_) (h3 : k.at_ < ((m.codes.getD i []).length : Int)) (h4 : 0 ≤ k.st) (h5 : k.st ≤ 2) (h6 : VOk m.mem.cells k.view) : MOk (setK m i k) := by
  refine ⟨h.n1, h.n4, by simp [setK, h.cores], h.mem, by simpa [setK] using h.tr, fun j hj => ?_⟩
  have hj' : j < m.cores.length := by simpa [setK] using hj
  have hc := h.core j hj'
  have e := setK_at m i j k hi
  by_cases hji : j = i
  · rw [if_pos hji] at e
    subst hji
    exact ⟨hc.code, by rw [e]; exact h1, by rw [e]; exact h2, by rw [e]; exact h3, by rw [e]; exact h4, by rw [e]; exact h5, by rw [e]; exact h6⟩
  · rw [if_neg hji] at e
    exact ⟨hc.code, by rw [e]; exact hc.regs, by rw [e]; exact hc.at0, by rw [e]; exact hc.at1, by rw [e]; exact hc.st0, by rw [e]; exact hc.st1, by rw [e]; exact hc.view⟩
theorem goOn_ok {m : Machine} (h : MOk m) {i : Nat} (hi : i < m.cores.length) {k : Core} {next : Int} (h1 : k.regs.length = 8) (h2 : 0 ≤ k.at_) (h3 : k.at_ < ((m.codes.getD i []).length : Int)) (h4 : 0 ≤ k.st) (h5 : k.st ≤ 2) (h6 : VOk m.mem.cells k.view) (hn : 0 ≤ next) : MOk (goOn m i k next) := by
  unfold goOn
  split
  · exact setK_ok h hi h1 h2 h3 (by simp) (by simp) h6
  · rename_i hl
    exact setK_ok h hi h1 hn (by simp only; omega) h4 h5 h6
theorem mcode_in {m : Machine} {who : Int} (h : mcode m who = 0) : 0 ≤ who ∧ who.toNat < m.cores.length ∧ (coreAt m who.toNat).st = 0 ∧ ((stepAt m who.toNat).op = 9 → (m.tr.length : Int) ≠ 4000) ∧ (isMem (stepAt m who.toNat).op = true → (stepAt m who.toNat).op ≠ 5 → within (cellOf (coreAt m who.toNat) (stepAt m who.toNat)) 0 23 = true → (m.mem.cells.getD (cellOf (coreAt m who.toNat) (stepAt m who.toNat)).toNat []).length < 4000) := by
  unfold mcode at h
  split at h
  · rename_i hw
    rw [within_iff] at hw
    simp only at h
    split at h
    · simp at h
    · rename_i h1
      split at h
      · simp at h
      · rename_i h2
        refine ⟨hw.1, by omega, ?_, fun h9 h4 => h1 (.inr ⟨h9, h4⟩), fun hm h5 hc => ?_⟩
        · apply Decidable.byContradiction
          exact fun e => h1 (.inl e)
        · simp only [hm, hc, h5, decide_false, Bool.not_false, Bool.and_true, Bool.true_and, decide_eq_true_eq] at h2
          omega
  · simp at h
theorem stepAt_ok {m : Machine} (h : MOk m) {i : Nat} (hi : i < m.cores.length) : stepOk (stepAt m i) ((m.codes.getD i []).length : Int) = true := by
  have hc := h.core i hi
  have := hc.code
  unfold codeOk at this
  simp only [Bool.and_eq_true, List.all_eq_true] at this
  have h0 := hc.at0
  have h1 := hc.at1
  exact this.1.2 _ (getD_mem _ _ _ (by omega))
theorem step_jump {s : Step} {n : Int} (h : stepOk s n = true) (ho : s.op = 10 ∨ s.op = 11) : 0 ≤ s.n ∧ s.n < n := by
  unfold stepOk at h
  rcases ho with ho | ho
  · simp [ho] at h
    omega
  · simp [ho] at h
    omega
theorem alu_keeps (k : Core) (s : Step) : (alu k s).regs.length = k.regs.length ∧ (alu k s).at_ = k.at_ ∧ (alu k s).st = k.st ∧ (alu k s).view = k.view := by
  unfold alu setR
  repeat' split
  all_goals simp
theorem mdo_ok {m : Machine} {who late : Int} (h : MOk m) (hc : mcode m who = 0) : MOk (mdo m who.toNat late) := by
  obtain ⟨w0, hi, hst, htr, hroom⟩ := mcode_in hc
  have hk := h.core _ hi
  have hs := stepAt_ok h hi
  have k1 := hk.regs
  have k2 := hk.at0
  have k3 := hk.at1
  have k4 := hk.st0
  have k5 := hk.st1
  have k6 := hk.view
  unfold mdo
  simp only
  split
  · exact setK_ok h hi k1 k2 k3 (by simp) (by simp) k6
  · split
    · exact setK_ok h hi k1 k2 k3 (by simp) (by simp) k6
    · split
      · rename_i hm
        split
        · rename_i hw
          have hroom' := fun h5 => hroom hm h5 hw
          rw [within_iff] at hw
          have ha := access_ok (late := late) (s := stepAt m who.toNat) h.mem k6 (show (cellOf (coreAt m who.toNat) (stepAt m who.toNat)).toNat < 24 by omega) hroom'
          generalize access m.mem.cells (coreAt m who.toNat) (stepAt m who.toNat) (cellOf (coreAt m who.toNat) (stepAt m who.toNat)).toNat late = r at ha
          obtain ⟨a1, a2, a3, a4, a5, a6⟩ := ha
          have hM : MOk { m with mem := ⟨r.1⟩ } := ⟨h.n1, h.n4, h.cores, a1, h.tr, fun j hj => by
            have hj := h.core j hj
            exact ⟨hj.code, hj.regs, hj.at0, hj.at1, hj.st0, hj.st1, hj.view.grow a3⟩⟩
          exact goOn_ok hM hi (by omega) (by omega) (by simp only; omega) (by omega) (by omega) a2 (by omega)
        · exact setK_ok h hi k1 k2 k3 (by simp) (by simp) k6
      · split
        · rename_i h9
          have ht := h.tr
          have hM : MOk { m with tr := m.tr ++ [⟨(who.toNat : Int), rg (coreAt m who.toNat) (stepAt m who.toNat).a⟩] } := ⟨h.n1, h.n4, h.cores, h.mem, by
            have h4 := htr h9
            unfold notesOk at ht ⊢
            simp only [Bool.and_eq_true, decide_eq_true_eq, List.all_append, List.all_cons, List.all_nil, within_iff, List.length_append, List.length_cons, List.length_nil] at ht ⊢
            refine ⟨⟨ht.1, by omega, trivial⟩, by omega⟩, fun j hj => by
            have hj := h.core j hj
            exact ⟨hj.code, hj.regs, hj.at0, hj.at1, hj.st0, hj.st1, hj.view⟩⟩
          exact goOn_ok hM hi k1 k2 k3 k4 k5 k6 (by omega)
        · obtain ⟨a1, a2, a3, a4⟩ := alu_keeps (coreAt m who.toNat) (stepAt m who.toNat)
          refine goOn_ok h hi (by omega) (by omega) (by omega) (by omega) (by omega) (by rw [a4]; exact k6) ?_
          unfold nextAt
          split
          · exact (step_jump hs (.inl (by assumption))).1
          · split
            · rename_i hz
              exact (step_jump hs (.inr hz.1)).1
            · omega
theorem mstep_ok {m : Machine} (x : Pick) (h : machineOk m = true) : machineOk (mstep m x).1 = true := by
  unfold mstep
  split
  · exact (machineOk_iff _).2 (mdo_ok ((machineOk_iff m).1 h) (by assumption))
  · exact h

end Go.Sep
