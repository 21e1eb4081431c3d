/- Contracts of functions. -/
import Derived.Test.YtjbknbgdfhihcaaGreatVN0
namespace Go.Sep
open Go.Proofs
set_option linter.unusedSimpArgs false
set_option linter.unusedVariables false
set_option maxRecDepth 100000
def commitsI (p : Prog) (s : Step) (regs : List Int) (who at_ : Int) : Bool :=
 decide (who < p.bods.length) && decide (0 ≤ (placeAt (p.bods.getD who.toNat []) 0 0 at_).1) &&
  ((decide (s.op = 8) && within s.r 0 (regs.length - 1) && decide (regs.getD s.r.toNat 0 = 0)) || decide (emitSize ((p.bods.getD who.toNat []).getD (placeAt (p.bods.getD who.toNat []) 0 0 at_).1.toNat default) = 1))
def did (p : Prog) (m : Machine) (x : Pick) : Bool := decide ((mstep m x).2 = 0) && commitsI p (stepAt m x.who.toNat) (coreAt (mstep m x).1 x.who.toNat).regs x.who (coreAt m x.who.toNat).at_
end Go.Sep
