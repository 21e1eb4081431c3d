/- Contracts of functions. -/
import Derived.Test.YtjbknbgdfhihcaaGreatUt0
import Derived.Test.YtjbknbgdfhihcaaGreatUa1
namespace Go.Sep
open Go.Proofs
set_option linter.unusedSimpArgs false
set_option linter.unusedVariables false
set_option maxRecDepth 100000
theorem steps_rep (n : Nat) (op_ : Int) (r_ : Int) (a_ : Int) (b_ : Int) (n_ : Int) : List.replicate n [.int .i64 op_, .int .i64 r_, .int .i64 a_, .int .i64 b_, .int .i64 n_] = steps (List.replicate n ⟨op_, r_, a_, b_, n_⟩) := by simp [steps, stepC]
end Go.Sep
