/- Contracts of functions. -/
import Derived.Test.YtbfklilhgekabaaNxx6
import Derived.Test.YtbfklilhgekabaaNxx7
open Bool renaming and_eq_true → qX9
open List renaming all_eq_true → qZ1
namespace Go.Sep
set_option maxHeartbeats 16000000
open Go.Proofs
set_option linter.unusedSimpArgs false
set_option linter.unusedVariables false
set_option maxRecDepth 100000
def cB:List Int→Int
 | []=>0
 | c::l=>c+4+cB l
theorem qCw :∀(a b:List Int),cB (a++b)=cB a+cB b
 | [],b=>by simp [cB]
 | x::a,b=>by simp only [List.cons_append,cB,qCw a b]; omega
theorem qG9 (l:List Int) (i:Nat) (h:i<l.length):cB (l.take (i+1))=cB (l.take i)+(l.getD i 0)+4:=by
 rw [iO l 0 i h,qCw]
 simp only [cB]
 omega
theorem rD :∀{l:List Int},zD l=true→5*(l.length:Int)≤cB l∧cB l≤8*l.length
 | [],_=>by simp [cB]
 | c::l,h=>by
  unfold zD at h
  rw [List.all_cons,qX9] at h
  have ih:=rD (l:=l) h.2
  have:=qK.1 h.1
  simp only [cB,List.length_cons]
  omega
theorem qLi {l:List Int} (h:zD l=true) (i:Nat):zD (l.take i)=true:=by
 unfold zD at *
 rw [qZ1] at *
 exact fun x hx=>h x (List.mem_of_mem_take hx)
theorem kQ {l:List Int} (h:zD l=true) (i:Nat):0≤cB (l.take i)∧cB (l.take i)≤cB l∧cB (l.take i)≤8*l.length:=by
 have h1:=rD (qLi h i)
 have h2:zD (l.drop i)=true:=by
  unfold zD at *
  rw [qZ1] at *
  exact fun x hx=>h x (List.mem_of_mem_drop hx)
 have h3:=rD h2
 have e:cB l=cB (l.take i)+cB (l.drop i):=by rw [←qCw,List.take_append_drop]
 have h4:(l.take i).length≤l.length:=by simp; omega
 omega
def zZ (caps:List Int):Bool:=zD caps&&decide (cB caps≤24)
def base (caps:List Int) (n:Int):Int:=if qS n 0 (caps.length-1)&&zZ caps then cB (caps.take n.toNat) else -1
theorem qNz {caps:List Int} {n:Int} (h :¬base caps n<0):0≤n∧n.toNat<caps.length∧zZ caps=true∧0≤base caps n∧base caps n+caps.getD n.toNat 0+4≤24∧qS (caps.getD n.toNat 0) 1 4=true:=by
 unfold base at *
 split at h
 ·rename_i hc
  rw [if_pos hc]
  simp only [qX9,qK] at hc
  have hn:n.toNat<caps.length:=by omega
  have hl:=hc.2
  unfold zZ at hl
  simp only [qX9,decide_eq_true_eq] at hl
  have h1:=kQ hl.1 n.toNat
  have h2:=kQ hl.1 (n.toNat+1)
  have h3:=qG9 caps n.toNat hn
  refine ⟨by omega,hn,hc.2,by omega,by omega,?_⟩
  have:=hl.1
  unfold zD at this
  rw [qZ1] at this
  exact this _ (yR caps n.toNat 0 hn)
 ·simp at h
def szB:List Ins→Int
 | []=>0
 | x::l=>wE x+szB l
theorem qOi :∀(a b:List Ins),szB (a++b)=szB a+szB b
 | [],b=>by simp [szB]
 | x::a,b=>by simp only [List.cons_append,szB,qOi a b]; omega
theorem mH (l:List Ins) (i:Nat) (h:i<l.length):szB (l.take (i+1))=szB (l.take i)+wE (l.getD i default):=by
 rw [iO l default i h,qOi]
 simp [szB]
theorem qL7 (x:Ins):0≤wE x∧wE x≤32:=by
 unfold wE uG
 repeat' split
 all_goals omega
theorem qI6 :∀(l:List Ins),0≤szB l∧szB l≤32*l.length
 | []=>by simp [szB]
 | x::l=>by
  have:=qI6 l
  have:=qL7 x
  simp only [szB,List.length_cons]
  omega
theorem qB4 (l:List Ins) (i:Nat):0≤szB (l.take i)∧szB (l.take i)≤32*l.length:=by
 have h1:=qI6 (l.take i)
 have h4:(l.take i).length≤l.length:=by simp; omega
 omega
def rV (b:List Ins) (n:Nat):List Int:=(List.range n).map fun i=>szB (b.take i)
theorem aF (b:List Ins) (n:Nat):(rV b n).length=n:=by simp [rV]
theorem qI8 (b:List Ins) (n i:Nat) (h:i<n):(rV b n).getD i 0=szB (b.take i):=by simp [rV,List.getD_eq_getElem?_getD,h]
def gX (b:List Ins):List Int:=rV b b.length
def single (x:Ins) (starts:List Int):jC :=
 if x.op=1 then ⟨1,x.r,0,0,x.n⟩ else if x.op=2 then ⟨2,x.r,x.a,x.b,0⟩ else if x.op=3 then ⟨3,x.r,x.a,x.b,0⟩ else if x.op=4 then ⟨4,x.r,x.a,x.b,0⟩
 else if x.op=10 then ⟨9,0,x.a,0,0⟩ else if x.op=11 then ⟨10,0,0,0,starts.getD x.n.toNat 0⟩ else if x.op=12 then ⟨11,0,x.a,0,starts.getD x.n.toNat 0⟩ else ⟨12,0,0,0,0⟩
def tD (caps:List Int) (x:Ins) (f:Int) (starts:List Int):List jC :=
 if jL x starts.length caps.length then
  if qS x.op 5 9 then
   if base caps x.n<0 then []
   else cY f (base caps x.n)++(if x.op=5∨x.op=7 then sA f (base caps x.n) (caps.getD x.n.toNat 0) x else if x.op=6∨x.op=8 then rS f (base caps x.n) (caps.getD x.n.toNat 0) x else lN f (base caps x.n))
  else [single x starts]
 else []
def aQ (caps:List Int) (b:List Ins):Nat→List jC
 | 0=>[]
 | i+1=>aQ caps b i++tD caps (b.getD i default) (szB (b.take i)) (gX b)
def comp (caps:List Int) (b:List Ins):List jC:=aQ caps b b.length
theorem mQ {p:yM} (h:uZ p=true):zD p.caps=true∧p.caps.length≤3∧p.bods.length≤4∧1≤p.bods.length∧∀b∈p.bods,wV b p.caps.length=true:=by
 unfold uZ at h
 simp only [qX9,qK,decide_eq_true_eq,qZ1] at h
 exact ⟨h.1.2,by omega,by omega,by omega,h.1.1.1⟩
def dL:List Ins→Int→Int→Int→Int×Bool
 | [],_,_,_=>(-1,false)
 | x::l,off,i,at_=>if off≤at_∧at_≤off+wE x-1 then (i,decide (at_=off)) else dL l (off+wE x) (i+1) at_
def fO (p:yM) (body at_:Int):Int×Bool:=if uZ p&&qS body 0 (p.bods.length-1) then dL (p.bods.getD body.toNat []) 0 0 at_ else (-1,false)
def qMw (l:List jC):Int:=(l.getD (l.length-1) default).op
def qNi (l:List jC):Bool:=qS l.length 1 800&&l.all (fun s=>tY s l.length)&&(decide (qMw l=10)||decide (qMw l=12)||decide (qMw l=13))
theorem qN2 {x:Ins} {pl ch:Int} (h:jL x pl ch=true) (ho:qS x.op 5 9=true):0≤x.n∧x.n<ch:=by
 rw [qK] at ho
 unfold jL at h
 obtain e | e | e | e | e:x.op=5∨x.op=6∨x.op=7∨x.op=8∨x.op=9:=by omega
 all_goals
  simp [e,qK] at h
  omega
def qV9 (_x:jC):Nat:=5
def qQd (k:Int) (_x:jC):jC:=⟨k,k+1,k+1+1,k+1+1+1,k+1+1+1+1⟩
def qRi (x:wZ):Nat:=1+x.view.length
def qMr (k:Int) (x:wZ):wZ:=⟨k,qDs (k+1) x.view.length⟩
def qRj (x:uH):Nat:=2+x.regs.length+x.view.length
def qQf (k:Int) (x:uH):uH:=⟨k,qDs (k+1) x.regs.length,qDs (k+1+x.regs.length) x.view.length,k+1+x.regs.length+x.view.length⟩
def qHz:List jC→Nat:=(fun b=>mF qV9 b)
def qMs:Int→List jC→List jC:=(fun k b=>mks qV9 qQd k b)
def qO5:List wZ→Nat:=(fun b=>mF qRi b)
def qKl:Int→List wZ→List wZ:=(fun k b=>mks qRi qMr k b)
def qV5 (p:yM) (m:qQ) (who:Int):Bool:=qS who 0 (m.cores.length-1)&&decide ((m.cores.getD who.toNat default).st=0)&&(fO p who (m.cores.getD who.toNat default).at_).2
def nO (p:yM) (m:qQ) (s:qW) (who:Int):Bool :=
 if qS who 0 (m.cores.length-1)&&decide (who<s.ths.length) then
  let k:=m.cores.getD who.toNat default
  let t:=s.ths.getD who.toNat default
  let pl:=fO p who k.at_
  if pl.1<0∨k.regs.length<4∨t.regs.length<4 then false
  else if k.st≠0 then decide (t.st=k.st)
  else if pl.2 then decide (t.st=0)&&decide (t.at_=pl.1)&&decide (k.regs.take 4=t.regs.take 4)
  else true
 else false
end Go.Sep
