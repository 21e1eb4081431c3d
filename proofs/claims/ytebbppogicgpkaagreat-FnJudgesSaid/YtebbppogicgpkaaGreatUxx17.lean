/- Contracts of functions. -/
import Derived.Test.YtebbppogicgpkaaGreatUxx10
import Derived.Test.YtebbppogicgpkaaGreatUxx8
namespace Go.Sep
set_option maxHeartbeats 16000000
open Go.Proofs
set_option linter.unusedSimpArgs false
set_option linter.unusedVariables false
set_option maxRecDepth 100000
def qW1 (_x:yK):Nat:=5
def qSn (k:Int) (_x:yK):yK:=⟨k,k+1,k+1+1,k+1+1+1,k+1+1+1+1⟩
def qGd (x:wY):Nat:=x.view.length
def qTh (x:wY):Nat:=1+x.view.length
def qPo (k:Int) (x:wY):wY:=⟨k,qU8 (k+1) x.view.length⟩
def qGf (x:bZ):Nat:=x.regs.length+x.view.length
def qTi (x:bZ):Nat:=2+x.regs.length+x.view.length
def qSp (k:Int) (x:bZ):bZ:=⟨k,qU8 (k+1) x.regs.length,qU8 (k+1+x.regs.length) x.view.length,k+1+x.regs.length+x.view.length⟩
def qLn:List yK→Nat:=(fun b=>mV qW1 b)
def qPp:Int→List yK→List yK:=(fun k b=>mks qW1 qSn k b)
def qGe:List yK→Nat:=fun (b:List yK)=>b.length
def qQo:List wY→Nat:=(fun b=>mV qTh b)
def qNz:Int→List wY→List wY:=(fun k b=>mks qTh qPo k b)
def pO:List wY→Nat:=fun (b:List wY)=>b.length+mV qGd b
structure qBu (cs:List (List wY)):Prop where
 len:cs.length<2^40
 cell :∀c∈cs,c.length<2^40
 view :∀c∈cs,∀w∈c,w.view.length<2^40
structure lF (m:qY):Prop where
 codes:m.codes.length<2^40
 code :∀c∈m.codes,c.length<2^40
 cores:m.cores.length<2^40
 regs :∀k∈m.cores,k.regs.length<2^40
 views :∀k∈m.cores,k.view.length<2^40
 mem:qBu m.mem.cells
 tr:m.tr.length<2^40
def qWi (cs:List (List wY)):Nat:=cs.length+mV pO cs
def sJ (m:qY):Nat:=(m.codes.length+mV qGe m.codes)+((m.cores.length+mV qGf m.cores)+(qWi m.mem.cells+m.tr.length))
theorem qS7 {m:qY} {n:Nat} (h:sJ m≤n) (hn:n<2^40):lF m:=by
 unfold sJ qWi at h
 refine ⟨by omega,fun c hc=>?_,by omega,fun k hk=>?_,fun k hk=>?_,⟨by omega,fun c hc=>?_,fun c hc w hw=>?_⟩,by omega⟩
 ·have:=mD (w:=qGe) hc
  unfold qGe at this h
  omega
 ·have:=mD (w:=qGf) hk
  unfold qGf at this h
  omega
 ·have:=mD (w:=qGf) hk
  unfold qGf at this h
  omega
 ·have:=mD (w:=pO) hc
  unfold pO at this h
  omega
 ·have:=mD (w:=pO) hc
  have h2:=mD (w:=qGd) hw
  unfold pO at this h
  unfold qGd at this h h2
  omega
end Go.Sep
