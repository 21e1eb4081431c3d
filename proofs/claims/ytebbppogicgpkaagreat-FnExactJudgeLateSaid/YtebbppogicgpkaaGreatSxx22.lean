/- Contracts of functions. -/
import Derived.Test.YtebbppogicgpkaaGreatSxx20
namespace Go.Sep
set_option maxHeartbeats 16000000
open Go.Proofs
set_option linter.unusedSimpArgs false
set_option linter.unusedVariables false
set_option maxRecDepth 100000
def wAs (_x:yK):Nat:=5
def qWp (k:Int) (_x:yK):yK:=⟨k,k+1,k+1+1,k+1+1+1,k+1+1+1+1⟩
def qHs (x:wY):Nat:=x.view.length
def qXv (x:wY):Nat:=1+x.view.length
def qT0 (k:Int) (x:wY):wY:=⟨k,qJg (k+1) x.view.length⟩
def qHu (x:uS):Nat:=x.regs.length+x.view.length
def qXw (x:uS):Nat:=2+x.regs.length+x.view.length
def qWr (k:Int) (x:uS):uS:=⟨k,qJg (k+1) x.regs.length,qJg (k+1+x.regs.length) x.view.length,k+1+x.regs.length+x.view.length⟩
def qO0:List yK→Nat:=(fun b=>nP wAs b)
def qT1:Int→List yK→List yK:=(fun k b=>mks wAs qWp k b)
def qHt:List yK→Nat:=fun (b:List yK)=>b.length
def qUe:List wY→Nat:=(fun b=>nP qXv b)
def qQu:Int→List wY→List wY:=(fun k b=>mks qXv qT0 k b)
def rJ:List wY→Nat:=fun (b:List wY)=>b.length+nP qHs b
structure qG4 (cs:List (List wY)):Prop where
 len:cs.length<2^40
 cell :∀c∈cs,c.length<2^40
 view :∀c∈cs,∀w∈c,w.view.length<2^40
structure iQ (m:qO):Prop where
 codes:m.codes.length<2^40
 code :∀c∈m.codes,c.length<2^40
 cores:m.cores.length<2^40
 regs :∀k∈m.cores,k.regs.length<2^40
 views :∀k∈m.cores,k.view.length<2^40
 mem:qG4 m.mem.cells
 tr:m.tr.length<2^40
def wB2 (cs:List (List wY)):Nat:=cs.length+nP rJ cs
def pB (m:qO):Nat:=(m.codes.length+nP qHt m.codes)+((m.cores.length+nP qHu m.cores)+(wB2 m.mem.cells+m.tr.length))
theorem qMp {m:qO} {n:Nat} (h:pB m≤n) (hn:n<2^40):iQ m:=by
 unfold pB wB2 at h
 refine ⟨by omega,fun c hc=>?_,by omega,fun k hk=>?_,fun k hk=>?_,⟨by omega,fun c hc=>?_,fun c hc w hw=>?_⟩,by omega⟩
 ·have:=mO (w:=qHt) hc
  unfold qHt at this h
  omega
 ·have:=mO (w:=qHu) hk
  unfold qHu at this h
  omega
 ·have:=mO (w:=qHu) hk
  unfold qHu at this h
  omega
 ·have:=mO (w:=rJ) hc
  unfold rJ at this h
  omega
 ·have:=mO (w:=rJ) hc
  have h2:=mO (w:=qHs) hw
  unfold rJ at this h
  unfold qHs at this h h2
  omega
def m229:MFn:=⟨13,[.t 4],kr [xF 4] (kR [xv 5 1,xv 6 0,xk 7 6,xa 8 1 7,xl 9 8,xe 10 9,bI 11 .sub 10 1,xc3 12 59 (.t 5) (xi 0) (.t 11),xv 4 12])⟩
theorem qB7 (m:qO) (who:Int) (hl:m.cores.length<2^40):qW Tryz.prog num 229 [.fptr .bw (qR .bw m) 0,.int .i64 who] [] (.bool (qP who 0 (m.cores.length-1))):=by
 have w1:IntKind.i64.wrap ((m.cores.length:Int)-1)=m.cores.length-1:=wJ (by omega) (by omega)
 refine EN m229 Tryz.func124 ?_
 unfold m229
 simp only [go_sem,seval,w1]
 refine CA [] (yE who 0 (m.cores.length-1)) ?_
 try simp only [go_sem,seval]
 refine fz ?_; simp [qZ,qU,qV,qQ,-List.drop_one]
def qHp (p:wM) (m:qO) (who:Int):Bool:=qP who 0 (m.cores.length-1)&&decide ((m.cores.getD who.toNat default).st=0)&&(vY p who (m.cores.getD who.toNat default).at_).2
def dP (p:wM) (m:qO) (s:wH) (who:Int):Bool :=
 if qP who 0 (m.cores.length-1)&&decide (who<s.ths.length) then
  let k:=m.cores.getD who.toNat default
  let t:=s.ths.getD who.toNat default
  let pl:=vY p who k.at_
  if pl.1<0∨k.regs.length<4∨t.regs.length<4 then false
  else if k.st≠0 then decide (t.st=k.st)
  else if pl.2 then decide (t.st=0)&&decide (t.at_=pl.1)&&decide (k.regs.take 4=t.regs.take 4)
  else true
 else false
end Go.Sep
