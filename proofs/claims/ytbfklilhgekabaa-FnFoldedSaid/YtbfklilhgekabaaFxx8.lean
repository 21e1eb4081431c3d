/- Contracts of functions. -/
import Derived.Test.YtbfklilhgekabaaFxx6
import Derived.Test.YtbfklilhgekabaaFxx7
open Bool renaming and_eq_true → qZa
open List renaming all_eq_true → wB4
namespace Go.Sep
set_option maxHeartbeats 16000000
open Go.Proofs
set_option linter.unusedSimpArgs false
set_option linter.unusedVariables false
set_option maxRecDepth 100000
def cW:List Int→Int
 | []=>0
 | c::l=>c+4+cW l
theorem qE9 :∀(a b:List Int),cW (a++b)=cW a+cW b
 | [],b=>by simp [cW]
 | x::a,b=>by simp only [List.cons_append,cW,qE9 a b]; omega
theorem qHs (l:List Int) (i:Nat) (h:i<l.length):cW (l.take (i+1))=cW (l.take i)+(l.getD i 0)+4:=by
 rw [dW l 0 i h,qE9]
 simp only [cW]
 omega
theorem tC :∀{l:List Int},dZ l=true→5*(l.length:Int)≤cW l∧cW l≤8*l.length
 | [],_=>by simp [cW]
 | c::l,h=>by
  unfold dZ at h
  rw [List.all_cons,qZa] at h
  have ih:=tC (l:=l) h.2
  have:=qK.1 h.1
  simp only [cW,List.length_cons]
  omega
theorem qNd {l:List Int} (h:dZ l=true) (i:Nat):dZ (l.take i)=true:=by
 unfold dZ at *
 rw [wB4] at *
 exact fun x hx=>h x (List.mem_of_mem_take hx)
theorem lV {l:List Int} (h:dZ l=true) (i:Nat):0≤cW (l.take i)∧cW (l.take i)≤cW l∧cW (l.take i)≤8*l.length:=by
 have h1:=tC (qNd h i)
 have h2:dZ (l.drop i)=true:=by
  unfold dZ at *
  rw [wB4] at *
  exact fun x hx=>h x (List.mem_of_mem_drop hx)
 have h3:=tC h2
 have e:cW l=cW (l.take i)+cW (l.drop i):=by rw [←qE9,List.take_append_drop]
 have h4:(l.take i).length≤l.length:=by simp; omega
 omega
def xJ (caps:List Int):Bool:=dZ caps&&decide (cW caps≤24)
def base (caps:List Int) (n:Int):Int:=if qO n 0 (caps.length-1)&&xJ caps then cW (caps.take n.toNat) else -1
theorem qPv {caps:List Int} {n:Int} (h :¬base caps n<0):0≤n∧n.toNat<caps.length∧xJ caps=true∧0≤base caps n∧base caps n+caps.getD n.toNat 0+4≤24∧qO (caps.getD n.toNat 0) 1 4=true:=by
 unfold base at *
 split at h
 ·rename_i hc
  rw [if_pos hc]
  simp only [qZa,qK] at hc
  have hn:n.toNat<caps.length:=by omega
  have hl:=hc.2
  unfold xJ at hl
  simp only [qZa,decide_eq_true_eq] at hl
  have h1:=lV hl.1 n.toNat
  have h2:=lV hl.1 (n.toNat+1)
  have h3:=qHs caps n.toNat hn
  refine ⟨by omega,hn,hc.2,by omega,by omega,?_⟩
  have:=hl.1
  unfold dZ at this
  rw [wB4] at this
  exact this _ (yL caps n.toNat 0 hn)
 ·simp at h
def szB:List Ins→Int
 | []=>0
 | x::l=>wK x+szB l
theorem qQe :∀(a b:List Ins),szB (a++b)=szB a+szB b
 | [],b=>by simp [szB]
 | x::a,b=>by simp only [List.cons_append,szB,qQe a b]; omega
theorem nT (l:List Ins) (i:Nat) (h:i<l.length):szB (l.take (i+1))=szB (l.take i)+wK (l.getD i default):=by
 rw [dW l default i h,qQe]
 simp [szB]
theorem qMx (x:Ins):0≤wK x∧wK x≤32:=by
 unfold wK uK
 repeat' split
 all_goals omega
theorem qJq :∀(l:List Ins),0≤szB l∧szB l≤32*l.length
 | []=>by simp [szB]
 | x::l=>by
  have:=qJq l
  have:=qMx x
  simp only [szB,List.length_cons]
  omega
theorem qCd (l:List Ins) (i:Nat):0≤szB (l.take i)∧szB (l.take i)≤32*l.length:=by
 have h1:=qJq (l.take i)
 have h4:(l.take i).length≤l.length:=by simp; omega
 omega
def tT (b:List Ins) (n:Nat):List Int:=(List.range n).map fun i=>szB (b.take i)
theorem aP (b:List Ins) (n:Nat):(tT b n).length=n:=by simp [tT]
theorem qJs (b:List Ins) (n i:Nat) (h:i<n):(tT b n).getD i 0=szB (b.take i):=by simp [tT,List.getD_eq_getElem?_getD,h]
def dB (b:List Ins):List Int:=tT b b.length
def single (x:Ins) (starts:List Int):jA :=
 if x.op=1 then ⟨1,x.r,0,0,x.n⟩ else if x.op=2 then ⟨2,x.r,x.a,x.b,0⟩ else if x.op=3 then ⟨3,x.r,x.a,x.b,0⟩ else if x.op=4 then ⟨4,x.r,x.a,x.b,0⟩
 else if x.op=10 then ⟨9,0,x.a,0,0⟩ else if x.op=11 then ⟨10,0,0,0,starts.getD x.n.toNat 0⟩ else if x.op=12 then ⟨11,0,x.a,0,starts.getD x.n.toNat 0⟩ else ⟨12,0,0,0,0⟩
def qAo (caps:List Int) (x:Ins) (f:Int) (starts:List Int):List jA :=
 if jF x starts.length caps.length then
  if qO x.op 5 9 then
   if base caps x.n<0 then []
   else fR f (base caps x.n)++(if x.op=5∨x.op=7 then tY f (base caps x.n) (caps.getD x.n.toNat 0) x else if x.op=6∨x.op=8 then tQ f (base caps x.n) (caps.getD x.n.toNat 0) x else mQ f (base caps x.n))
  else [single x starts]
 else []
def eF (caps:List Int) (b:List Ins):Nat→List jA
 | 0=>[]
 | i+1=>eF caps b i++qAo caps (b.getD i default) (szB (b.take i)) (dB b)
def comp (caps:List Int) (b:List Ins):List jA:=eF caps b b.length
theorem oE {p:wV} (h:yT p=true):dZ p.caps=true∧p.caps.length≤3∧p.bods.length≤4∧1≤p.bods.length∧∀b∈p.bods,wT b p.caps.length=true:=by
 unfold yT at h
 simp only [qZa,qK,decide_eq_true_eq,wB4] at h
 exact ⟨h.1.2,by omega,by omega,by omega,h.1.1.1⟩
def dS:List Ins→Int→Int→Int→Int×Bool
 | [],_,_,_=>(-1,false)
 | x::l,off,i,at_=>if off≤at_∧at_≤off+wK x-1 then (i,decide (at_=off)) else dS l (off+wK x) (i+1) at_
def iJ (p:wV) (body at_:Int):Int×Bool:=if yT p&&qO body 0 (p.bods.length-1) then dS (p.bods.getD body.toNat []) 0 0 at_ else (-1,false)
def qOr (l:List jA):Int:=(l.getD (l.length-1) default).op
def qPf (l:List jA):Bool:=qO l.length 1 800&&l.all (fun s=>qB9 s l.length)&&(decide (qOr l=10)||decide (qOr l=12)||decide (qOr l=13))
theorem qOy {x:Ins} {pl ch:Int} (h:jF x pl ch=true) (ho:qO x.op 5 9=true):0≤x.n∧x.n<ch:=by
 rw [qK] at ho
 unfold jF at h
 obtain e | e | e | e | e:x.op=5∨x.op=6∨x.op=7∨x.op=8∨x.op=9:=by omega
 all_goals
  simp [e,qK] at h
  omega
def qX9 (_x:jA):Nat:=5
def qS9 (k:Int) (_x:jA):jA:=⟨k,k+1,k+1+1,k+1+1+1,k+1+1+1+1⟩
def qTg (x:yC):Nat:=1+x.view.length
def qOm (k:Int) (x:yC):yC:=⟨k,qF7 (k+1) x.view.length⟩
def qTh (x:uL):Nat:=2+x.regs.length+x.view.length
def qSb (k:Int) (x:uL):uL:=⟨k,qF7 (k+1) x.regs.length,qF7 (k+1+x.regs.length) x.view.length,k+1+x.regs.length+x.view.length⟩
def qJj:List jA→Nat:=(fun b=>nR qX9 b)
def qOn:Int→List jA→List jA:=(fun k b=>mks qX9 qS9 k b)
def qQ1:List yC→Nat:=(fun b=>nR qTg b)
def qM9:Int→List yC→List yC:=(fun k b=>mks qTg qOm k b)
def qX4 (p:wV) (m:qR) (who:Int):Bool:=qO who 0 (m.cores.length-1)&&decide ((m.cores.getD who.toNat default).st=0)&&(iJ p who (m.cores.getD who.toNat default).at_).2
def pE (p:wV) (m:qR) (s:qV) (who:Int):Bool :=
 if qO who 0 (m.cores.length-1)&&decide (who<s.ths.length) then
  let k:=m.cores.getD who.toNat default
  let t:=s.ths.getD who.toNat default
  let pl:=iJ p who k.at_
  if pl.1<0∨k.regs.length<4∨t.regs.length<4 then false
  else if k.st≠0 then decide (t.st=k.st)
  else if pl.2 then decide (t.st=0)&&decide (t.at_=pl.1)&&decide (k.regs.take 4=t.regs.take 4)
  else true
 else false
end Go.Sep
