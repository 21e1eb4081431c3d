/- Contracts of functions. -/
import Derived.Test.YtjbknbgdfhihcaaGreatFns
import Derived.Test.YtjbknbgdfhihcaaGreatQa0
import Derived.Test.YtjbknbgdfhihcaaGreatQd0
import Derived.Test.YtjbknbgdfhihcaaGreatQe0
import Derived.Test.YtjbknbgdfhihcaaGreatQa1
import Derived.Test.YtjbknbgdfhihcaaGreatQb1
import Derived.Test.YtjbknbgdfhihcaaGreatQc1
import Derived.Test.YtjbknbgdfhihcaaGreatQd1
namespace Go.Sep
open Go.Proofs
set_option linter.unusedSimpArgs false
set_option linter.unusedVariables false
set_option maxRecDepth 100000
open Nat renaming reduceAdd → qA, reduceMul → qB, reduceEqDiff → qC, reduceBEq → qD
open Int renaming reduceToNat → qE, reduceEq → qF, reduceLT → qG, reduceLE → qH
open List renaming getD_eq_getElem?_getD → gD
/-- No row of a program is too long. -/
structure SmallP (p : Prog) : Prop where
  caps : p.caps.length < 2 ^ 40
  bods : p.bods.length < 2 ^ 40
  body : ∀ b ∈ p.bods, b.length < 2 ^ 40
theorem insOk_op {x : Ins} {pl ch : Int} (h : insOk x pl ch = true) : within x.op 1 13 = true ∧ within x.r 0 3 = true ∧ within x.a 0 3 = true ∧ within x.b 0 3 = true := by
  rw [← insOkF_eq] at h
  simp only [insOkF, Bool.and_eq_true] at h
  exact ⟨h.1.1.1.1.1.2, h.1.1.1.2, h.1.1.2, h.1.2⟩

end Go.Sep
