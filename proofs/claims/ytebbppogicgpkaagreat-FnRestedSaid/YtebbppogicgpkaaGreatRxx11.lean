/- Contracts of functions. -/
import Derived.Test.YtebbppogicgpkaaGreatRxx9
namespace Go.Sep
set_option maxHeartbeats 16000000
open Go.Proofs
set_option linter.unusedSimpArgs false
set_option linter.unusedVariables false
set_option maxRecDepth 100000
def qXj (_x:yC):Nat:=5
def qTi (k:Int) (_x:yC):yC:=⟨k,k+1,k+1+1,k+1+1+1,k+1+1+1+1⟩
def qFh (x:wR):Nat:=x.view.length
def qUl (x:wR):Nat:=1+x.view.length
def qQ8 (k:Int) (x:wR):wR:=⟨k,qGu (k+1) x.view.length⟩
def qFj (x:uE):Nat:=x.regs.length+x.view.length
def qUm (x:uE):Nat:=2+x.regs.length+x.view.length
def qTk (k:Int) (x:uE):uE:=⟨k,qGu (k+1) x.regs.length,qGu (k+1+x.regs.length) x.view.length,k+1+x.regs.length+x.view.length⟩
def qL2:List yC→Nat:=(fun b=>lN qXj b)
def qQ9:Int→List yC→List yC:=(fun k b=>mks qXj qTi k b)
def qFi:List yC→Nat:=fun (b:List yC)=>b.length
def qRa:List wR→Nat:=(fun b=>lN qUl b)
def qO9:Int→List wR→List wR:=(fun k b=>mks qUl qQ8 k b)
def nM:List wR→Nat:=fun (b:List wR)=>b.length+lN qFh b
structure qI5 (cs:List (List wR)):Prop where
 len:cs.length<2^40
 cell :∀c∈cs,c.length<2^40
 view :∀c∈cs,∀w∈c,w.view.length<2^40
structure aG (m:qK):Prop where
 codes:m.codes.length<2^40
 code :∀c∈m.codes,c.length<2^40
 cores:m.cores.length<2^40
 regs :∀k∈m.cores,k.regs.length<2^40
 views :∀k∈m.cores,k.view.length<2^40
 mem:qI5 m.mem.cells
 tr:m.tr.length<2^40
def qY0 (cs:List (List wR)):Nat:=cs.length+lN nM cs
def pF (m:qK):Nat:=(m.codes.length+lN qFi m.codes)+((m.cores.length+lN qFj m.cores)+(qY0 m.mem.cells+m.tr.length))
theorem qJq {m:qK} {n:Nat} (h:pF m≤n) (hn:n<2^40):aG m:=by
 unfold pF qY0 at h
 refine ⟨by omega,fun c hc=>?_,by omega,fun k hk=>?_,fun k hk=>?_,⟨by omega,fun c hc=>?_,fun c hc w hw=>?_⟩,by omega⟩
 ·have:=kN (w:=qFi) hc
  unfold qFi at this h
  omega
 ·have:=kN (w:=qFj) hk
  unfold qFj at this h
  omega
 ·have:=kN (w:=qFj) hk
  unfold qFj at this h
  omega
 ·have:=kN (w:=nM) hc
  unfold nM at this h
  omega
 ·have:=kN (w:=nM) hc
  have h2:=kN (w:=qFh) hw
  unfold nM at this h
  unfold qFh at this h h2
  omega
def m225:MFn:=⟨38,[.t 6],kr [xb 3 0,xb 4 1,xF 6] (.seq (kr [xv 9 2,xa 10 1 4,xl 11 10,xe 12 11,bI 13 .sub 12 1,xc3 14 64 (.t 9) (xi 0) (.t 13),xN 15 14,xv 16 15,za 17 1 4 16,zl 18 1 17 16,zv 19 2 16,xg 20 (.iad 4 (.t 18) (.t 19)) 16 false,za 21 3 20 16,zl 22 1 21 16,zI 23 .neq 22 0 16,xQ 24 16 23] (kF 24 [xF 6])) (.seq (.dreg (.take 0 (xm 26 2 3) (.take 1 (xv 27 2) (.take 2 (xa 28 1 4) (.take 3 (xl 29 28) (.only 4 [] (xv 30 2) (.only 5 [3,2] (xD 31 4 29 30) (.only 6 [5,3,2] (xa 32 0 31) (.only 7 [6,5,3,2] (xl 33 32) (.only 8 [0,1,7,6,5,3,2] (xc3 34 224 (.t 26) (.t 27) (.t 33)) (.only 9 [8,0,1,7,6,5,3,2] (xv 25 34) (.take 10 (xX 35 25 0) (.take 11 (xX 36 25 1) (.only 12 [0,1,2,3,10] (xv 7 35) (.only 13 [0,1,2,3,10,11] (xv 8 36) (.done)))))))))))))))) (kR [xv 37 8,xv 6 37])))⟩
def m229:MFn:=⟨13,[.t 4],kr [xF 4] (kR [xv 5 1,xv 6 0,xk 7 6,xa 8 1 7,xl 9 8,xe 10 9,bI 11 .sub 10 1,xc3 12 59 (.t 5) (xi 0) (.t 11),xv 4 12])⟩
theorem qD8 (m:qK) (who:Int) (hl:m.cores.length<2^40):qZ Tryz.prog num 229 [.fptr .bw (qN .bw m) 0,.int .i64 who] [] (.bool (qO who 0 (m.cores.length-1))):=by
 have w1:IntKind.i64.wrap ((m.cores.length:Int)-1)=m.cores.length-1:=wM (by omega) (by omega)
 refine EN m229 Tryz.func124 ?_
 unfold m229
 simp only [go_sem,seval,w1]
 refine CA [] (yO who 0 (m.cores.length-1)) ?_
 try simp only [go_sem,seval]
 refine fz ?_; simp [wJ,wA,wB,qY,-List.drop_one]
def aF (p:wV) (m:qK) (who:Int):Bool:=qO who 0 (m.cores.length-1)&&decide ((m.cores.getD who.toNat default).st=0)&&(vL p who (m.cores.getD who.toNat default).at_).2
def rP (p:wV) (m:qK) (s:wS) (who:Int):Bool :=
 if qO who 0 (m.cores.length-1)&&decide (who<s.ths.length) then
  let k:=m.cores.getD who.toNat default
  let t:=s.ths.getD who.toNat default
  let pl:=vL p who k.at_
  if pl.1<0∨k.regs.length<4∨t.regs.length<4 then false
  else if k.st≠0 then decide (t.st=k.st)
  else if pl.2 then decide (t.st=0)&&decide (t.at_=pl.1)&&decide (k.regs.take 4=t.regs.take 4)
  else true
 else false
theorem qFx (p:wV) (m:qK) (who:Int) (hp:zX p) (hl:m.cores.length<2^40):qZ Tryz.prog num 225 [.agg (vC .bw p),.agg (qN .bw m),.int .i64 who] [] (.bool (aF p m who)):=by
 have w1:IntKind.i64.wrap ((m.cores.length:Int)-1)=m.cores.length-1:=wM (by omega) (by omega)
 refine EN m225 Tryz.func127 ?_
 unfold m225
 simp only [go_sem,seval,w1]
 refine CA [] (jA who 0 (m.cores.length-1)) ?_
 try simp only [go_sem,seval]
 cases hw:qO who 0 (m.cores.length-1)
 ·try simp only [go_sem,seval,hw]
  refine fz ?_; simp [wJ,wA,wB,qY,-List.drop_one]
  simp [aF,hw]
 have hw':=qM.1 hw
 have hk:who.toNat<m.cores.length:=by omega
 have hcg:=yL .bw m.cores who.toNat hk
 try simp only [go_sem,seval,hw,hcg]
 repeat refine K ?_
 by_cases hst:(m.cores.getD who.toNat default).st=0
 ·try simp only [go_sem,seval,hst,hcg]
  repeat refine K ?_
  refine DA [] (pH p who (m.cores.getD who.toNat default).at_ hp) ?_
  try simp only [go_sem,seval]
  refine fz ?_; simp [wJ,wA,wB,qY,-List.drop_one]
  have hq:aF p m who=(vL p who (m.cores.getD who.toNat default).at_).2:=by
   unfold aF
   rw [hw,hst]
   rfl
  rw [hq]
  simp
 ·try simp only [go_sem,seval,hst,hcg]
  refine fz ?_; simp [wJ,wA,wB,qY,-List.drop_one]
  simp [-List.getD_eq_getElem?_getD,aF,hst]
end Go.Sep
