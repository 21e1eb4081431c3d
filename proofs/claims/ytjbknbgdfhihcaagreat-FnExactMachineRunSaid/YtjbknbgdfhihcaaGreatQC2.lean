/- Contracts of functions. -/
import Derived.Test.YtjbknbgdfhihcaaGreatFns
import Derived.Test.YtjbknbgdfhihcaaGreatQa0
import Derived.Test.YtjbknbgdfhihcaaGreatQd0
import Derived.Test.YtjbknbgdfhihcaaGreatQe0
import Derived.Test.YtjbknbgdfhihcaaGreatQf0
import Derived.Test.YtjbknbgdfhihcaaGreatQj0
import Derived.Test.YtjbknbgdfhihcaaGreatQK0
import Derived.Test.YtjbknbgdfhihcaaGreatQt0
import Derived.Test.YtjbknbgdfhihcaaGreatQy0
import Derived.Test.YtjbknbgdfhihcaaGreatQA0
import Derived.Test.YtjbknbgdfhihcaaGreatQa2
import Derived.Test.YtjbknbgdfhihcaaGreatQf2
import Derived.Test.YtjbknbgdfhihcaaGreatQK2
import Derived.Test.YtjbknbgdfhihcaaGreatQt2
import Derived.Test.YtjbknbgdfhihcaaGreatQA2
namespace Go.Sep
open Go.Proofs
set_option linter.unusedSimpArgs false
set_option linter.unusedVariables false
set_option maxRecDepth 100000
open Nat renaming reduceAdd → qA, reduceMul → qB, reduceEqDiff → qC, reduceBEq → qD
open Int renaming reduceToNat → qE, reduceEq → qF, reduceLT → qG, reduceLE → qH
open List renaming getD_eq_getElem?_getD → gD

-- S2
def m229 : MFn := ⟨13, [.t 4], .seq (xr [xo 4 (.mv (.c (.bool false)))]) (.seq (xr [xv 5 1, xv 6 0, xo 7 (.nilck (.t 6)), xo 8 (.fad 1 (.t 7)), xo 9 (.load 1 false (.t 8)), xo 10 (.len (.t 9)), xo 11 (.bin .sub (.t 10) (xi 1)), xo 12 (.call 59 [false, false, false] [.t 5, xi 0, .t 11]), xv 4 12]) (.ret))⟩
theorem c229 : chkC Tryz.prog num Tryz.f141.ntmps m229.body ((Tryz.f141.body).getD .skip) = true := by kernel_rfl
theorem isCore_ok (m : Machine) (who : Int) (hl : m.cores.length < 2 ^ 40) : CallOk Tryz.prog num 229 [.fptr .bw (machineC .bw m) 0, .int .i64 who] [] (.bool (within who 0 (m.cores.length - 1))) := by
  have w1 : IntKind.i64.wrap ((m.cores.length : Int) - 1) = m.cores.length - 1 := wrap64 (by omega) (by omega)
  refine enter (m := m229) (f := 229) (fn := Tryz.f141) Tryz.func141 (by kernel_rfl) rfl c229 rfl (by simp [Tryz.f141]) (by simp [bnds, bnd, nf_sl, nf_int, nf_bool, nf_str, ints_bnd]) (fun _ _ h => by simp [preH, look] at h) ?_
  unfold m229
  simp only [go_sem, qA, qB, qC, qD, qE, qF, qG, qH, w1]
  repeat refine K ?_
  refine CA [] (within_ok who 0 (m.cores.length - 1)) ?_
  try simp only [go_sem, qA, qB, qC, qD, qE, qF, qG, qH]
  repeat refine K ?_
  refine ⟨_, Sub.refl _, ?_⟩; simp [FinS, nilL, nilV, oneOr, -List.drop_one]

end Go.Sep
