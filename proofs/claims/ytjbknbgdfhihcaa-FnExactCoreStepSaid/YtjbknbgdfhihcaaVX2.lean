/- Contracts of functions. -/
import Derived.Test.YtjbknbgdfhihcaaVX0
namespace Go.Sep
open Go.Proofs
set_option linter.unusedSimpArgs false
set_option linter.unusedVariables false
set_option maxRecDepth 100000
def pkOk (x : Pick) : Prop := -(2 ^ 63) ≤ x.late ∧ x.late < 2 ^ 63
theorem mstep_three {m : Machine} {i : Nat} {late : Int} (hi : i < m.cores.length) (hc : (mstep m ⟨i, late⟩).2 ≠ 0) : (mstep m ⟨i, late⟩).2 = 3 := by
 have hw : within (i : Int) 0 ((m.cores.length : Int) - 1) = true := by rw [within_iff]; omega
 unfold mstep at hc ⊢
 simp only at hc ⊢
 by_cases h0 : mcode m (i : Int) = 0
 ·rw [if_pos h0] at hc
  exact absurd rfl hc
 rw [if_neg h0]
 show mcode m (i : Int) = 3
 unfold mcode at h0 ⊢
 rw [if_pos hw] at h0 ⊢
 dsimp only at h0 ⊢
 split
 ·rfl
 ·rename_i h1
  rw [if_neg h1] at h0
  split
  ·rfl
  ·rename_i h2
   rw [if_neg h2] at h0
   exact absurd rfl h0
end Go.Sep
