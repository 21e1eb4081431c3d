/- Contracts of functions. -/
import Derived.Test.YtebbppogicgpkaaGreatJxx21
namespace Go.Sep
set_option maxHeartbeats 16000000
open Go.Proofs
set_option linter.unusedSimpArgs false
set_option linter.unusedVariables false
set_option maxRecDepth 100000
def qQ9 (h:Int):Int:=IntKind.i64.wrap (IntKind.i64.wrap (h*6364136223846793005)+1442695040888963407)
def qV6 (h:Int):Int:=qV1 .i64 (qVw .i64 (qNp .i64 h 33) (qNp .i64 h 45)) 255
def qW5 (code:List Int) (c:Cur):Int×Cur :=
 if (c.i:Int)<code.length then (qV1 .i64 (IntKind.i64.wrap (qV6 (qQ9 c.h)+IntKind.i64.wrap (code.getD c.i 0))) 255,⟨c.i+1,qQ9 c.h⟩) else (qV6 (qQ9 c.h),⟨c.i,qQ9 c.h⟩)
def b1 (code:List Int) (c:Cur):Int×Cur:=qW5 code c
end Go.Sep
