/- Contracts of functions. -/
import Derived.Test.YtebbppogicgpkaaGreatQxx17
namespace Go.Sep
set_option maxHeartbeats 16000000
open Go.Proofs
set_option linter.unusedSimpArgs false
set_option linter.unusedVariables false
set_option maxRecDepth 100000
def wStep (_x:Step):Nat:=5
def markStepF (k:Int) (_x:Step):Step:=⟨k,k+1,k+1+1,k+1+1+1,k+1+1+1+1⟩
def zWrite (x:Write):Nat:=x.view.length
def wWrite (x:Write):Nat:=1+x.view.length
def markWriteF (k:Int) (x:Write):Write:=⟨k,marks (k+1) x.view.length⟩
def zCore (x:Core):Nat:=x.regs.length+x.view.length
def wCore (x:Core):Nat:=2+x.regs.length+x.view.length
def markCoreF (k:Int) (x:Core):Core:=⟨k,marks (k+1) x.regs.length,marks (k+1+x.regs.length) x.view.length,k+1+x.regs.length+x.view.length⟩
def wStepS:List Step→Nat:=(fun b=>tots wStep b)
def markStepSF:Int→List Step→List Step:=(fun k b=>mks wStep markStepF k b)
def zStepS:List Step→Nat:=fun (b:List Step)=>b.length
def wWriteS:List Write→Nat:=(fun b=>tots wWrite b)
def markWriteSF:Int→List Write→List Write:=(fun k b=>mks wWrite markWriteF k b)
def zWriteS:List Write→Nat:=fun (b:List Write)=>b.length+tots zWrite b
structure SmallC (cs:List (List Write)):Prop where
 len:cs.length<2^40
 cell :∀c∈cs,c.length<2^40
 view :∀c∈cs,∀w∈c,w.view.length<2^40
structure SmallM (m:Machine):Prop where
 codes:m.codes.length<2^40
 code :∀c∈m.codes,c.length<2^40
 cores:m.cores.length<2^40
 regs :∀k∈m.cores,k.regs.length<2^40
 views :∀k∈m.cores,k.view.length<2^40
 mem:SmallC m.mem.cells
 tr:m.tr.length<2^40
def zMem (cs:List (List Write)):Nat:=cs.length+tots zWriteS cs
def zMachine (m:Machine):Nat:=(m.codes.length+tots zStepS m.codes)+((m.cores.length+tots zCore m.cores)+(zMem m.mem.cells+m.tr.length))
theorem smallM_of {m:Machine} {n:Nat} (h:zMachine m≤n) (hn:n<2^40):SmallM m:=by
 unfold zMachine zMem at h
 refine ⟨by omega,fun c hc=>?_,by omega,fun k hk=>?_,fun k hk=>?_,⟨by omega,fun c hc=>?_,fun c hc w hw=>?_⟩,by omega⟩
 ·have:=tots_mem (w:=zStepS) hc
  unfold zStepS at this h
  omega
 ·have:=tots_mem (w:=zCore) hk
  unfold zCore at this h
  omega
 ·have:=tots_mem (w:=zCore) hk
  unfold zCore at this h
  omega
 ·have:=tots_mem (w:=zWriteS) hc
  unfold zWriteS at this h
  omega
 ·have:=tots_mem (w:=zWriteS) hc
  have h2:=tots_mem (w:=zWrite) hw
  unfold zWriteS at this h
  unfold zWrite at this h h2
  omega
def m229:MFn:=⟨13,[.t 4],kr [xF 4] (kR [xv 5 1,xv 6 0,xk 7 6,xa 8 1 7,xl 9 8,xe 10 9,bI 11 .sub 10 1,xc3 12 59 (.t 5) (xi 0) (.t 11),xv 4 12])⟩
theorem isCore_ok (m:Machine) (who:Int) (hl:m.cores.length<2^40):CallOk Tryz.prog num 229 [.fptr .bw (machineC .bw m) 0,.int .i64 who] [] (.bool (within who 0 (m.cores.length-1))):=by
 have w1:IntKind.i64.wrap ((m.cores.length:Int)-1)=m.cores.length-1:=wrap64 (by omega) (by omega)
 refine EN m229 Tryz.func124 ?_
 unfold m229
 simp only [go_sem,seval,w1]
 repeat refine K ?_
 refine CA [] (within_ok who 0 (m.cores.length-1)) ?_
 try simp only [go_sem,seval]
 repeat refine K ?_
 refine fz ?_; simp [FinS,nilL,nilV,oneOr,-List.drop_one]
def between (p:Prog) (m:Machine) (who:Int):Bool:=within who 0 (m.cores.length-1)&&decide ((m.cores.getD who.toNat default).st=0)&&(placeOf p who (m.cores.getD who.toNat default).at_).2
def coreSame (p:Prog) (m:Machine) (s:Source) (who:Int):Bool :=
 if within who 0 (m.cores.length-1)&&decide (who<s.ths.length) then
  let k:=m.cores.getD who.toNat default
  let t:=s.ths.getD who.toNat default
  let pl:=placeOf p who k.at_
  if pl.1<0∨k.regs.length<4∨t.regs.length<4 then false
  else if k.st≠0 then decide (t.st=k.st)
  else if pl.2 then decide (t.st=0)&&decide (t.at_=pl.1)&&decide (k.regs.take 4=t.regs.take 4)
  else true
 else false
end Go.Sep
