/- Contracts of functions. -/
import Derived.Test.YtjbknbgdfhihcaaGreatUN0
import Derived.Test.YtjbknbgdfhihcaaGreatUz2
namespace Go.Sep
open Go.Proofs
set_option linter.unusedSimpArgs false
set_option linter.unusedVariables false
set_option maxRecDepth 100000
def mrun : Machine → List Pick → Machine
 | m, [] => m
 | m, x :: l => mrun (mstep m x).1 l
theorem mrun_snoc : ∀ (m : Machine) (l : List Pick) (x : Pick), mrun m (l ++ [x]) = (mstep (mrun m l) x).1
 | _, [], _ => rfl
 | m, y :: l, x => by simp only [List.cons_append, mrun, mrun_snoc _ l x]
theorem mrun_ok : ∀ {m : Machine} (l : List Pick), machineOk m = true → machineOk (mrun m l) = true
 | _, [], h => h
 | _, x :: l, h => mrun_ok l (mstep_ok x h)
theorem mrun_len : ∀ (m : Machine) (l : List Pick), (mrun m l).cores.length = m.cores.length ∧ (mrun m l).codes = m.codes
 | _, [] => ⟨rfl, rfl⟩
 | m, x :: l => by
  have h1 := mstep_len m x
  have h2 := mrun_len (mstep m x).1 l
  exact ⟨by rw [mrun, h2.1, h1.1], by rw [mrun, h2.2, h1.2]⟩
end Go.Sep
