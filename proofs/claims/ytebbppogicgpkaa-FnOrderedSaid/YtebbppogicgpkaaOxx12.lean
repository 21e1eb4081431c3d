/- Contracts of functions. -/
import Derived.Test.YtebbppogicgpkaaOxx10
namespace Go.Sep
set_option maxHeartbeats 16000000
open Go.Proofs
set_option linter.unusedSimpArgs false
set_option linter.unusedVariables false
set_option maxRecDepth 100000
def qU2 (_x:wX):Nat:=5
def qQ5 (k:Int) (_x:wX):wX:=⟨k,k+1,k+1+1,k+1+1+1,k+1+1+1+1⟩
def qD6 (x:wO):Nat:=x.view.length
def qR4 (x:wO):Nat:=1+x.view.length
def qMt (k:Int) (x:wO):wO:=⟨k,qEj (k+1) x.view.length⟩
def qD8 (x:vK):Nat:=x.regs.length+x.view.length
def qR5 (x:vK):Nat:=2+x.regs.length+x.view.length
def qQ7 (k:Int) (x:vK):vK:=⟨k,qEj (k+1) x.regs.length,qEj (k+1+x.regs.length) x.view.length,k+1+x.regs.length+x.view.length⟩
def qIe:List wX→Nat:=(fun b=>iS qU2 b)
def qMu:Int→List wX→List wX:=(fun k b=>mks qU2 qQ5 k b)
def qD7:List wX→Nat:=fun (b:List wX)=>b.length
def qO0:List wO→Nat:=(fun b=>iS qR4 b)
def qL0:Int→List wO→List wO:=(fun k b=>mks qR4 qMt k b)
def lW:List wO→Nat:=fun (b:List wO)=>b.length+iS qD6 b
structure qNw (cs:List (List wO)):Prop where
 len:cs.length<2^40
 cell :∀c∈cs,c.length<2^40
 view :∀c∈cs,∀w∈c,w.view.length<2^40
structure sG (m:qK):Prop where
 codes:m.codes.length<2^40
 code :∀c∈m.codes,c.length<2^40
 cores:m.cores.length<2^40
 regs :∀k∈m.cores,k.regs.length<2^40
 views :∀k∈m.cores,k.view.length<2^40
 mem:qNw m.mem.cells
 tr:m.tr.length<2^40
def qUg (cs:List (List wO)):Nat:=cs.length+iS lW cs
def nM (m:qK):Nat:=(m.codes.length+iS qD7 m.codes)+((m.cores.length+iS qD8 m.cores)+(qUg m.mem.cells+m.tr.length))
theorem qPi {m:qK} {n:Nat} (h:nM m≤n) (hn:n<2^40):sG m:=by
 unfold nM qUg at h
 refine ⟨by omega,fun c hc=>?_,by omega,fun k hk=>?_,fun k hk=>?_,⟨by omega,fun c hc=>?_,fun c hc w hw=>?_⟩,by omega⟩
 ·have:=iC (w:=qD7) hc
  unfold qD7 at this h
  omega
 ·have:=iC (w:=qD8) hk
  unfold qD8 at this h
  omega
 ·have:=iC (w:=qD8) hk
  unfold qD8 at this h
  omega
 ·have:=iC (w:=lW) hc
  unfold lW at this h
  omega
 ·have:=iC (w:=lW) hc
  have h2:=iC (w:=qD6) hw
  unfold lW at this h
  unfold qD6 at this h h2
  omega
def m229:MFn:=⟨13,[.t 4],kr [xF 4] (kR [xv 5 1,xv 6 0,xk 7 6,xa 8 1 7,xl 9 8,xe 10 9,bI 11 .sub 10 1,xc3 12 59 (.t 5) (xi 0) (.t 11),xv 4 12])⟩
theorem qB5 (m:qK) (who:Int) (hl:m.cores.length<2^40):wD Try.prog num 229 [.fptr .bw (qS .bw m) 0,.int .i64 who] [] (.bool (qL who 0 (m.cores.length-1))):=by
 have w1:IntKind.i64.wrap ((m.cores.length:Int)-1)=m.cores.length-1:=yP (by omega) (by omega)
 refine EN m229 Try.func19 ?_
 unfold m229
 simp only [go_sem,seval,w1]
 refine CA [] (wU who 0 (m.cores.length-1)) ?_
 try simp only [go_sem,seval]
 refine fz ?_; simp [yB,qW,qZ,wG,-List.drop_one]
def qD4 (p:wN) (m:qK) (who:Int):Bool:=qL who 0 (m.cores.length-1)&&decide ((m.cores.getD who.toNat default).st=0)&&(xJ p who (m.cores.getD who.toNat default).at_).2
def oP (p:wN) (m:qK) (s:qV) (who:Int):Bool :=
 if qL who 0 (m.cores.length-1)&&decide (who<s.ths.length) then
  let k:=m.cores.getD who.toNat default
  let t:=s.ths.getD who.toNat default
  let pl:=xJ p who k.at_
  if pl.1<0∨k.regs.length<4∨t.regs.length<4 then false
  else if k.st≠0 then decide (t.st=k.st)
  else if pl.2 then decide (t.st=0)&&decide (t.at_=pl.1)&&decide (k.regs.take 4=t.regs.take 4)
  else true
 else false
end Go.Sep
