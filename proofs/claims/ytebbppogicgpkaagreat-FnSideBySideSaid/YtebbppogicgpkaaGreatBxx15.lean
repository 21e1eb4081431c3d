/- Contracts of functions. -/
import Derived.Test.YtebbppogicgpkaaGreatBxx6
import Derived.Test.YtebbppogicgpkaaGreatBxx8
namespace Go.Sep
set_option maxHeartbeats 16000000
open Go.Proofs
set_option linter.unusedSimpArgs false
set_option linter.unusedVariables false
set_option maxRecDepth 100000
def qWk (_x:yC):Nat:=5
def qSo (k:Int) (_x:yC):yC:=⟨k,k+1,k+1+1,k+1+1+1,k+1+1+1+1⟩
def qF8 (x:wO):Nat:=x.view.length
def qTq (x:wO):Nat:=1+x.view.length
def qPb (k:Int) (x:wO):wO:=⟨k,qGn (k+1) x.view.length⟩
def qFa (x:bC):Nat:=x.regs.length+x.view.length
def qTr (x:bC):Nat:=2+x.regs.length+x.view.length
def qSq (k:Int) (x:bC):bC:=⟨k,qGn (k+1) x.regs.length,qGn (k+1+x.regs.length) x.view.length,k+1+x.regs.length+x.view.length⟩
def qKr:List yC→Nat:=(fun b=>mK qWk b)
def qPc:Int→List yC→List yC:=(fun k b=>mks qWk qSo k b)
def qF9:List yC→Nat:=fun (b:List yC)=>b.length
def qQg:List wO→Nat:=(fun b=>mK qTq b)
def qNf:Int→List wO→List wO:=(fun k b=>mks qTq qPb k b)
def oS:List wO→Nat:=fun (b:List wO)=>b.length+mK qF8 b
structure qB3 (cs:List (List wO)):Prop where
 len:cs.length<2^40
 cell :∀c∈cs,c.length<2^40
 view :∀c∈cs,∀w∈c,w.view.length<2^40
structure fC (m:qO):Prop where
 codes:m.codes.length<2^40
 code :∀c∈m.codes,c.length<2^40
 cores:m.cores.length<2^40
 regs :∀k∈m.cores,k.regs.length<2^40
 views :∀k∈m.cores,k.view.length<2^40
 mem:qB3 m.mem.cells
 tr:m.tr.length<2^40
def qX0 (cs:List (List wO)):Nat:=cs.length+mK oS cs
def nV (m:qO):Nat:=(m.codes.length+mK qF9 m.codes)+((m.cores.length+mK qFa m.cores)+(qX0 m.mem.cells+m.tr.length))
theorem qCv {m:qO} {n:Nat} (h:nV m≤n) (hn:n<2^40):fC m:=by
 unfold nV qX0 at h
 refine ⟨by omega,fun c hc=>?_,by omega,fun k hk=>?_,fun k hk=>?_,⟨by omega,fun c hc=>?_,fun c hc w hw=>?_⟩,by omega⟩
 ·have:=lR (w:=qF9) hc
  unfold qF9 at this h
  omega
 ·have:=lR (w:=qFa) hk
  unfold qFa at this h
  omega
 ·have:=lR (w:=qFa) hk
  unfold qFa at this h
  omega
 ·have:=lR (w:=oS) hc
  unfold oS at this h
  omega
 ·have:=lR (w:=oS) hc
  have h2:=lR (w:=qF8) hw
  unfold oS at this h
  unfold qF8 at this h h2
  omega
end Go.Sep
