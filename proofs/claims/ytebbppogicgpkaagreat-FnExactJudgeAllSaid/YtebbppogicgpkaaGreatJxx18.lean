/- Contracts of functions. -/
import Derived.Test.YtebbppogicgpkaaGreatJxx10
import Derived.Test.YtebbppogicgpkaaGreatJxx11
namespace Go.Sep
set_option maxHeartbeats 16000000
open Go.Proofs
set_option linter.unusedSimpArgs false
set_option linter.unusedVariables false
set_option maxRecDepth 100000
def qV5 (_x:yH):Nat:=5
def qRl (k:Int) (_x:yH):yH:=⟨k,k+1,k+1+1,k+1+1+1,k+1+1+1+1⟩
def qFm (x:wX):Nat:=x.view.length
def qSj (x:wX):Nat:=1+x.view.length
def qOi (k:Int) (x:wX):wX:=⟨k,qTe (k+1) x.view.length⟩
def qFo (x:bY):Nat:=x.regs.length+x.view.length
def qSk (x:bY):Nat:=2+x.regs.length+x.view.length
def qRn (k:Int) (x:bY):bY:=⟨k,qTe (k+1) x.regs.length,qTe (k+1+x.regs.length) x.view.length,k+1+x.regs.length+x.view.length⟩
def qKl:List yH→Nat:=(fun b=>mI qV5 b)
def qOj:Int→List yH→List yH:=(fun k b=>mks qV5 qRl k b)
def qFn:List yH→Nat:=fun (b:List yH)=>b.length
def qPf:List wX→Nat:=(fun b=>mI qSj b)
def qMu:Int→List wX→List wX:=(fun k b=>mks qSj qOi k b)
def oW:List wX→Nat:=fun (b:List wX)=>b.length+mI qFm b
structure qB5 (cs:List (List wX)):Prop where
 len:cs.length<2^40
 cell :∀c∈cs,c.length<2^40
 view :∀c∈cs,∀w∈c,w.view.length<2^40
structure kT (m:wA):Prop where
 codes:m.codes.length<2^40
 code :∀c∈m.codes,c.length<2^40
 cores:m.cores.length<2^40
 regs :∀k∈m.cores,k.regs.length<2^40
 views :∀k∈m.cores,k.view.length<2^40
 mem:qB5 m.mem.cells
 tr:m.tr.length<2^40
def qVk (cs:List (List wX)):Nat:=cs.length+mI oW cs
def rO (m:wA):Nat:=(m.codes.length+mI qFn m.codes)+((m.cores.length+mI qFo m.cores)+(qVk m.mem.cells+m.tr.length))
theorem qR6 {m:wA} {n:Nat} (h:rO m≤n) (hn:n<2^40):kT m:=by
 unfold rO qVk at h
 refine ⟨by omega,fun c hc=>?_,by omega,fun k hk=>?_,fun k hk=>?_,⟨by omega,fun c hc=>?_,fun c hc w hw=>?_⟩,by omega⟩
 ·have:=lQ (w:=qFn) hc
  unfold qFn at this h
  omega
 ·have:=lQ (w:=qFo) hk
  unfold qFo at this h
  omega
 ·have:=lQ (w:=qFo) hk
  unfold qFo at this h
  omega
 ·have:=lQ (w:=oW) hc
  unfold oW at this h
  omega
 ·have:=lQ (w:=oW) hc
  have h2:=lQ (w:=qFm) hw
  unfold oW at this h
  unfold qFm at this h h2
  omega
end Go.Sep
