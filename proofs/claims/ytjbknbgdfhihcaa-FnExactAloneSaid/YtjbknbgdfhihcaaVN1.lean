/- Contracts of functions. -/
import Derived.Test.YtjbknbgdfhihcaaVN0
namespace Go.Sep
open Go.Proofs
set_option linter.unusedSimpArgs false
set_option linter.unusedVariables false
set_option maxRecDepth 100000
theorem mdo_len (m : Machine) (i : Nat) (late : Int) : (mdo m i late).cores.length = m.cores.length ∧ (mdo m i late).codes = m.codes := by
 unfold mdo goOn stop setK
 repeat' (first | split | (simp only; split))
 all_goals simp
theorem mstep_len (m : Machine) (x : Pick) : (mstep m x).1.cores.length = m.cores.length ∧ (mstep m x).1.codes = m.codes := by
 unfold mstep
 split
 ·exact mdo_len _ _ _
 ·exact ⟨rfl, rfl⟩
def maloneN : Nat → Machine → Int → Machine
 | 0, m, _ => m
 | n + 1, m, who => if (mstep m ⟨who, 0⟩).2 = 0 then maloneN n (mstep m ⟨who, 0⟩).1 who else (mstep m ⟨who, 0⟩).1
theorem maloneN_ok : ∀ (n : Nat) {m : Machine} (who : Int), machineOk m = true → machineOk (maloneN n m who) = true
 | 0, _, _, h => h
 | n + 1, m, who, h => by
  unfold maloneN
  split
  ·exact maloneN_ok n who (mstep_ok _ h)
  ·exact mstep_ok _ h
end Go.Sep
