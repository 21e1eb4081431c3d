/- Contracts of functions. -/
import Derived.Test.YtjbknbgdfhihcaaGreatUt0
import Derived.Test.YtjbknbgdfhihcaaGreatUa2
namespace Go.Sep
open Go.Proofs
set_option linter.unusedSimpArgs false
set_option linter.unusedVariables false
set_option maxRecDepth 100000
theorem qCi (op_ : Int) (r_ : Int) (a_ : Int) (b_ : Int) (n_ : Int) : [[.int .i64 op_, .int .i64 r_, .int .i64 a_, .int .i64 b_, .int .i64 n_]] = steps [⟨op_, r_, a_, b_, n_⟩] := rfl
theorem pcks_rep (n : Nat) (who_ : Int) (late_ : Int) : List.replicate n [.int .i64 who_, .int .i64 late_] = pcks (List.replicate n ⟨who_, late_⟩) := by simp [pcks, pickC]
theorem pcks_getD (l : List Pick) (i : Nat) (h : i < l.length) : (pcks l).getD i [] = [.int .i64 (l.getD i default).who, .int .i64 (l.getD i default).late] := by simp [pcks, pickC, List.getD_eq_getElem?_getD, h]
structure Em where
 list : List Step
 from_ : Int
 base : Int
 room : Int
 deriving Inhabited
def emC (m : Mode) (x : Em) : List AV := [.sl m 5 (steps x.list), .int .i64 x.from_, .int .i64 x.base, .int .i64 x.room]
attribute [go_sem] emC
attribute [simp] emC
end Go.Sep
