/- Contracts of functions. -/
import Derived.Test.YtjbknbgdfhihcaaVe0
import Derived.Test.YtjbknbgdfhihcaaVf0
namespace Go.Sep
open Go.Proofs
set_option linter.unusedSimpArgs false
set_option linter.unusedVariables false
set_option maxRecDepth 100000
@[simp] def srcV (s : Source) : AV := .agg [.ns 0 0 s.ths.length, .ns 1 0 s.chs.length, .ns 2 0 s.tr.length]
@[simp] def srcF (s : Source) : FP := [(0, some (3, threads .own s.ths), none), (1, some (3, chans .own s.chs), none), (2, some (2, notes s.tr), none)]
end Go.Sep
