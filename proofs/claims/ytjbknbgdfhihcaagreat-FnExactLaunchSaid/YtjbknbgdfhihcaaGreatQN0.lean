/- Contracts of functions. -/
import Derived.Test.YtjbknbgdfhihcaaGreatFns
import Derived.Test.YtjbknbgdfhihcaaGreatQa0
import Derived.Test.YtjbknbgdfhihcaaGreatQd0
import Derived.Test.YtjbknbgdfhihcaaGreatQe0
import Derived.Test.YtjbknbgdfhihcaaGreatQf0
import Derived.Test.YtjbknbgdfhihcaaGreatQj0
import Derived.Test.YtjbknbgdfhihcaaGreatQK0
import Derived.Test.YtjbknbgdfhihcaaGreatQt0
import Derived.Test.YtjbknbgdfhihcaaGreatQv0
import Derived.Test.YtjbknbgdfhihcaaGreatQw0
import Derived.Test.YtjbknbgdfhihcaaGreatQy0
import Derived.Test.YtjbknbgdfhihcaaGreatQz0
import Derived.Test.YtjbknbgdfhihcaaGreatQA0
import Derived.Test.YtjbknbgdfhihcaaGreatQM0
namespace Go.Sep
open Go.Proofs
set_option linter.unusedSimpArgs false
set_option linter.unusedVariables false
set_option maxRecDepth 100000
open Nat renaming reduceAdd → qA, reduceMul → qB, reduceEqDiff → qC, reduceBEq → qD
open Int renaming reduceToNat → qE, reduceEq → qF, reduceLT → qG, reduceLE → qH
open List renaming getD_eq_getElem?_getD → gD

-- S2
theorem tots_mul {α : Type} {z w : α → Nat} {c d : Nat} (h : ∀ x, w x ≤ c + d * z x) : ∀ (l : List α), tots w l ≤ c * l.length + d * tots z l
  | [] => by simp [tots]
  | a :: l => by
    have := tots_mul h l
    have h1 := h a
    simp only [tots, List.length_cons, Nat.mul_add, Nat.mul_one]
    omega
def wMachine (m : Machine) : Nat := tots wStepS m.codes + tots wCore m.cores + tots wWriteS m.mem.cells + tots wNote m.tr
theorem wMachine_z (m : Machine) : wMachine m ≤ 5 * zMachine m := by
  unfold wMachine zMachine zMem
  have h1 : tots wStepS m.codes ≤ 0 * m.codes.length + 5 * tots zStepS m.codes := tots_mul (fun b => by
    have : tots wStep b = 5 * b.length := tots_const 5 b
    simp only [wStepS, zStepS]
    omega) _
  have h2 : tots wCore m.cores ≤ 2 * m.cores.length + 1 * tots zCore m.cores := tots_mul (fun b => by simp only [wCore, zCore]; omega) _
  have h3 : tots wWriteS m.mem.cells ≤ 0 * m.mem.cells.length + 1 * tots zWriteS m.mem.cells := tots_mul (fun b => by
    have : tots wWrite b ≤ 1 * b.length + 1 * tots zWrite b := tots_mul (fun x => by simp only [wWrite, zWrite]; omega) b
    simp only [wWriteS, zWriteS]
    omega) _
  have h4 : tots wNote m.tr = 2 * m.tr.length := tots_const 2 m.tr
  omega
theorem machineOk_z {m : Machine} (h : machineOk m = true) : zMachine m ≤ 4000000 := by
  have h := (machineOk_iff m).1 h
  have n4 := h.n4
  have hc := h.cores
  have h1 : tots zStepS m.codes ≤ 800 * m.codes.length := tots_le (fun b hb => by
    obtain ⟨i, hi, rfl⟩ := List.getElem_of_mem hb
    have hk := (h.core i (by omega)).code
    have e : m.codes.getD i [] = m.codes[i] := by simp [List.getD_eq_getElem?_getD, hi]
    rw [e] at hk
    unfold codeOk at hk
    simp only [Bool.and_eq_true, within_iff] at hk
    have := hk.1.1.2
    simp only [zStepS]
    omega)
  have h2 : tots zCore m.cores ≤ 32 * m.cores.length := tots_le (fun b hb => by
    obtain ⟨i, hi, rfl⟩ := List.getElem_of_mem hb
    have hk := h.core i hi
    have e : coreAt m i = m.cores[i] := by simp [coreAt, List.getD_eq_getElem?_getD, hi]
    have k1 := hk.regs
    have k2 := hk.view.1
    rw [e] at k1 k2
    simp only [zCore]
    omega)
  have h3 : tots zWriteS m.mem.cells ≤ 100000 * m.mem.cells.length := tots_le (fun b hb => by
    obtain ⟨i, hi, rfl⟩ := List.getElem_of_mem hb
    have hl := h.mem.len
    have hk := (h.mem.cell i (by omega)).2
    have hv := h.mem.view i (by omega)
    have e : m.mem.cells.getD i [] = m.mem.cells[i] := by simp [List.getD_eq_getElem?_getD, hi]
    rw [e] at hk hv
    have : tots zWrite m.mem.cells[i] ≤ 24 * m.mem.cells[i].length := tots_le (fun w hw => by
      have := (hv w hw).1
      simp only [zWrite]
      omega)
    simp only [zWriteS]
    omega)
  have h4 := h.tr
  unfold notesOk at h4
  simp only [Bool.and_eq_true, decide_eq_true_eq] at h4
  have h5 := h.mem.len
  unfold zMachine zMem
  omega
theorem cores_ren (f : Nat → Nat) (l : List Core) : renR f (cores .own l) = cores .own l := renR_nb f _ ((cores_nb l).2 trivial)
theorem cores_okR {A : Nat → Prop} (l : List Core) : okR A (cores .own l) ↔ True := by simp [okR_nb _ ((cores_nb l).2 trivial)]
theorem cores_okS {A : Nat → Prop} (l : List Core) (i : Nat) (r : List AV) (h : okL A r) : okR A ((cores .own l).set i r) := okR_set _ _ _ (okR_nb _ ((cores_nb l).2 trivial)) h
theorem cels_ren (f : Nat → Nat) (l : List (List Write)) : renR f (cels .own l) = cels .own l := renR_nb f _ ((cels_nb l).2 trivial)
theorem cels_okR {A : Nat → Prop} (l : List (List Write)) : okR A (cels .own l) ↔ True := by simp [okR_nb _ ((cels_nb l).2 trivial)]
theorem cels_okS {A : Nat → Prop} (l : List (List Write)) (i : Nat) (r : List AV) (h : okL A r) : okR A ((cels .own l).set i r) := okR_set _ _ _ (okR_nb _ ((cels_nb l).2 trivial)) h
theorem codes_ren (f : Nat → Nat) (l : List (List Step)) : renR f (codes .own l) = codes .own l := renR_nb f _ ((codes_nb l).2 trivial)
theorem codes_okR {A : Nat → Prop} (l : List (List Step)) : okR A (codes .own l) ↔ True := by simp [okR_nb _ ((codes_nb l).2 trivial)]
theorem codes_okS {A : Nat → Prop} (l : List (List Step)) (i : Nat) (r : List AV) (h : okL A r) : okR A ((codes .own l).set i r) := okR_set _ _ _ (okR_nb _ ((codes_nb l).2 trivial)) h
theorem writes_ren (f : Nat → Nat) (l : List Write) : renR f (writes .own l) = writes .own l := renR_nb f _ ((writes_nb l).2 trivial)
theorem writes_okR {A : Nat → Prop} (l : List Write) : okR A (writes .own l) ↔ True := by simp [okR_nb _ ((writes_nb l).2 trivial)]
theorem writes_okS {A : Nat → Prop} (l : List Write) (i : Nat) (r : List AV) (h : okL A r) : okR A ((writes .own l).set i r) := okR_set _ _ _ (okR_nb _ ((writes_nb l).2 trivial)) h
theorem ints_ren (f : Nat → Nat) (l : List Int) : renR f (ints l) = ints l := renR_nb f _ ((ints_nb l).2 trivial)
theorem ints_okR {A : Nat → Prop} (l : List Int) : okR A (ints l) ↔ True := by simp [okR_nb _ ((ints_nb l).2 trivial)]
attribute [go_sem] renO renR renR_set cores_ren cels_ren codes_ren writes_ren ints_ren
attribute [simp] renO renR renR_set cores_ren cels_ren codes_ren writes_ren ints_ren okR cores_okR cels_okR codes_okR writes_okR ints_okR cores_okS cels_okS codes_okS writes_okS -- S2
def memF (cds : List (List Step)) (n1 : Nat) (cs cs' : List (List Write)) (tr : List Note) (R : List (List AV)) (v : List Int) : FP :=
  [(0, some (4, [[.sl .own 1 (codes .own cds), .ns 1 0 n1, .sl .own 1 (cels .own cs), .sl .own 2 (notes tr)]]), some (4, [[.sl .own 1 (codes .own cds), .ns 1 0 n1, .sl .own 1 (cels .own cs'), .sl .own 2 (notes tr)]])),
   (1, some (4, R), some (4, R)), (2, some (1, ints v), some (1, ints v))]
def z24 : List Int := List.replicate 24 0
@[simp] theorem z24_len : z24.length = 24 := rfl
theorem zero24 : [[AV.int .i64 0], [AV.int .i64 0], [AV.int .i64 0], [AV.int .i64 0], [AV.int .i64 0], [AV.int .i64 0], [AV.int .i64 0], [AV.int .i64 0], [AV.int .i64 0], [AV.int .i64 0], [AV.int .i64 0], [AV.int .i64 0], [AV.int .i64 0], [AV.int .i64 0], [AV.int .i64 0], [AV.int .i64 0], [AV.int .i64 0], [AV.int .i64 0], [AV.int .i64 0], [AV.int .i64 0], [AV.int .i64 0], [AV.int .i64 0], [AV.int .i64 0], [AV.int .i64 0]] = ints z24 := rfl
def memF4 (cds : List (List Step)) (n1 : Nat) (cs cs' : List (List Write)) (tr : List Note) (R : List (List AV)) (v x0 : List Int) : FP := memF cds n1 cs cs' tr R v ++ [(3, some (1, ints x0), some (1, ints x0))]
def memF5 (cds : List (List Step)) (n1 : Nat) (cs cs' : List (List Write)) (tr : List Note) (R : List (List AV)) (v x0 x1 : List Int) : FP := memF cds n1 cs cs' tr R v ++ [(3, some (1, ints x0), some (1, ints x0)), (4, some (1, ints x1), some (1, ints x1))]

end Go.Sep
