/- Contracts of functions. -/
import Derived.Test.YtjbknbgdfhihcaaGreatFns
import Derived.Test.YtjbknbgdfhihcaaGreatQa0
import Derived.Test.YtjbknbgdfhihcaaGreatQd0
import Derived.Test.YtjbknbgdfhihcaaGreatQe0
import Derived.Test.YtjbknbgdfhihcaaGreatQf0
import Derived.Test.YtjbknbgdfhihcaaGreatQj0
import Derived.Test.YtjbknbgdfhihcaaGreatQK0
import Derived.Test.YtjbknbgdfhihcaaGreatQa1
import Derived.Test.YtjbknbgdfhihcaaGreatQb1
import Derived.Test.YtjbknbgdfhihcaaGreatQc1
import Derived.Test.YtjbknbgdfhihcaaGreatQd1
import Derived.Test.YtjbknbgdfhihcaaGreatQe1
import Derived.Test.YtjbknbgdfhihcaaGreatQj1
namespace Go.Sep
open Go.Proofs
set_option linter.unusedSimpArgs false
set_option linter.unusedVariables false
set_option maxRecDepth 100000
open Nat renaming reduceAdd → qA, reduceMul → qB, reduceEqDiff → qC, reduceBEq → qD
open Int renaming reduceToNat → qE, reduceEq → qF, reduceLT → qG, reduceLE → qH
open List renaming getD_eq_getElem?_getD → gD
theorem szRows_eq : ∀ (l : List (List Ins)) (n : Int), 0 ≤ n → szRows l n = szL (tot l) n
  | [], n, h => by
    simp only [szRows, tot]
    unfold szL
    rw [if_neg (by push_cast; omega)]
    push_cast
    omega
  | a :: l, n, h => by
    simp only [szRows, tot]
    rw [← szL_add _ _ _ h]
    by_cases h2 : szL a.length n < 0
    · rw [if_pos h2, if_pos h2]
    · rw [if_neg h2, if_neg h2]
      exact szRows_eq l _ (by omega)
def wProg (p : Prog) : Nat := p.caps.length + (p.bods.length + tot p.bods)
theorem szProg_eq (p : Prog) (n : Int) (h : 0 ≤ n) : szProg p n = szL (wProg p) n := by
  unfold szProg wProg szBods
  rw [← szL_add _ _ _ h]
  by_cases h1 : szL p.caps.length n < 0
  · rw [if_pos h1, if_pos h1]
  · have h1' : 0 ≤ szL p.caps.length n := by omega
    rw [if_neg h1, if_neg h1, ← szL_add _ _ _ h1']
    by_cases h2 : szL p.bods.length (szL p.caps.length n) < 0
    · simp only [if_pos h2]
      rfl
    · simp only [if_neg h2]
      rw [szRows_eq _ _ (by omega)]
      by_cases h3 : szL (tot p.bods) (szL p.bods.length (szL p.caps.length n)) < 0
      · rw [if_pos h3, szL_neg h3]
      · rw [if_neg h3]
/-- The sizes of a program that weighs so much. -/
structure PrgSz (p : Prog) (n : Nat) : Prop where
  caps : p.caps.length ≤ n
  bods : p.bods.length ≤ n
  body : ∀ b ∈ p.bods, b.length ≤ n
  tot : tot p.bods ≤ n
theorem tot_mem : ∀ {l : List (List Ins)} {b : List Ins}, b ∈ l → b.length ≤ tot l
  | [], b, h => by simp at h
  | a :: l, b, h => by
    simp only [tot]
    rcases List.mem_cons.1 h with rfl | h
    · omega
    · have := tot_mem h
      omega
theorem prgSz_of {p : Prog} {n : Nat} (h : wProg p ≤ n) : PrgSz p n := by
  unfold wProg at h
  exact ⟨by omega, by omega, fun b hb => by have := tot_mem hb; omega, by omega⟩

end Go.Sep
