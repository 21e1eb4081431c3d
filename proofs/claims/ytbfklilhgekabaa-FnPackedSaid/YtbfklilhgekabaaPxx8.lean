/- Contracts of functions. -/
import Derived.Test.YtbfklilhgekabaaPxx6
import Derived.Test.YtbfklilhgekabaaPxx7
open Bool renaming and_eq_true → qXa
open List renaming all_eq_true → qZ2
namespace Go.Sep
set_option maxHeartbeats 16000000
open Go.Proofs
set_option linter.unusedSimpArgs false
set_option linter.unusedVariables false
set_option maxRecDepth 100000
def eN:List Int→Int
 | []=>0
 | c::l=>c+4+eN l
theorem qCo :∀(a b:List Int),eN (a++b)=eN a+eN b
 | [],b=>by simp [eN]
 | x::a,b=>by simp only [List.cons_append,eN,qCo a b]; omega
theorem qFr (l:List Int) (i:Nat) (h:i<l.length):eN (l.take (i+1))=eN (l.take i)+(l.getD i 0)+4:=by
 rw [aF l 0 i h,qCo]
 simp only [eN]
 omega
theorem pX :∀{l:List Int},dK l=true→5*(l.length:Int)≤eN l∧eN l≤8*l.length
 | [],_=>by simp [eN]
 | c::l,h=>by
  unfold dK at h
  rw [List.all_cons,qXa] at h
  have ih:=pX (l:=l) h.2
  have:=qK.1 h.1
  simp only [eN,List.length_cons]
  omega
theorem qL3 {l:List Int} (h:dK l=true) (i:Nat):dK (l.take i)=true:=by
 unfold dK at *
 rw [qZ2] at *
 exact fun x hx=>h x (List.mem_of_mem_take hx)
theorem kD {l:List Int} (h:dK l=true) (i:Nat):0≤eN (l.take i)∧eN (l.take i)≤eN l∧eN (l.take i)≤8*l.length:=by
 have h1:=pX (qL3 h i)
 have h2:dK (l.drop i)=true:=by
  unfold dK at *
  rw [qZ2] at *
  exact fun x hx=>h x (List.mem_of_mem_drop hx)
 have h3:=pX h2
 have e:eN l=eN (l.take i)+eN (l.drop i):=by rw [←qCo,List.take_append_drop]
 have h4:(l.take i).length≤l.length:=by simp; omega
 omega
def zD (caps:List Int):Bool:=dK caps&&decide (eN caps≤24)
def base (caps:List Int) (n:Int):Int:=if qS n 0 (caps.length-1)&&zD caps then eN (caps.take n.toNat) else -1
theorem qNj {caps:List Int} {n:Int} (h :¬base caps n<0):0≤n∧n.toNat<caps.length∧zD caps=true∧0≤base caps n∧base caps n+caps.getD n.toNat 0+4≤24∧qS (caps.getD n.toNat 0) 1 4=true:=by
 unfold base at *
 split at h
 ·rename_i hc
  rw [if_pos hc]
  simp only [qXa,qK] at hc
  have hn:n.toNat<caps.length:=by omega
  have hl:=hc.2
  unfold zD at hl
  simp only [qXa,decide_eq_true_eq] at hl
  have h1:=kD hl.1 n.toNat
  have h2:=kD hl.1 (n.toNat+1)
  have h3:=qFr caps n.toNat hn
  refine ⟨by omega,hn,hc.2,by omega,by omega,?_⟩
  have:=hl.1
  unfold dK at this
  rw [qZ2] at this
  exact this _ (jD caps n.toNat 0 hn)
 ·simp at h
def szB:List Ins→Int
 | []=>0
 | x::l=>wA x+szB l
theorem qO4 :∀(a b:List Ins),szB (a++b)=szB a+szB b
 | [],b=>by simp [szB]
 | x::a,b=>by simp only [List.cons_append,szB,qO4 a b]; omega
theorem lV (l:List Ins) (i:Nat) (h:i<l.length):szB (l.take (i+1))=szB (l.take i)+wA (l.getD i default):=by
 rw [aF l default i h,qO4]
 simp [szB]
theorem qKo (x:Ins):0≤wA x∧wA x≤32:=by
 unfold wA uE
 repeat' split
 all_goals omega
theorem qHm :∀(l:List Ins),0≤szB l∧szB l≤32*l.length
 | []=>by simp [szB]
 | x::l=>by
  have:=qHm l
  have:=qKo x
  simp only [szB,List.length_cons]
  omega
theorem qB0 (l:List Ins) (i:Nat):0≤szB (l.take i)∧szB (l.take i)≤32*l.length:=by
 have h1:=qHm (l.take i)
 have h4:(l.take i).length≤l.length:=by simp; omega
 omega
def rM (b:List Ins) (n:Nat):List Int:=(List.range n).map fun i=>szB (b.take i)
theorem xJ (b:List Ins) (n:Nat):(rM b n).length=n:=by simp [rM]
theorem qHp (b:List Ins) (n i:Nat) (h:i<n):(rM b n).getD i 0=szB (b.take i):=by simp [rM,List.getD_eq_getElem?_getD,h]
def gJ (b:List Ins):List Int:=rM b b.length
def single (x:Ins) (starts:List Int):yQ :=
 if x.op=1 then ⟨1,x.r,0,0,x.n⟩ else if x.op=2 then ⟨2,x.r,x.a,x.b,0⟩ else if x.op=3 then ⟨3,x.r,x.a,x.b,0⟩ else if x.op=4 then ⟨4,x.r,x.a,x.b,0⟩
 else if x.op=10 then ⟨9,0,x.a,0,0⟩ else if x.op=11 then ⟨10,0,0,0,starts.getD x.n.toNat 0⟩ else if x.op=12 then ⟨11,0,x.a,0,starts.getD x.n.toNat 0⟩ else ⟨12,0,0,0,0⟩
def sV (caps:List Int) (x:Ins) (f:Int) (starts:List Int):List yQ :=
 if yZ x starts.length caps.length then
  if qS x.op 5 9 then
   if base caps x.n<0 then []
   else cM f (base caps x.n)++(if x.op=5∨x.op=7 then rS f (base caps x.n) (caps.getD x.n.toNat 0) x else if x.op=6∨x.op=8 then rJ f (base caps x.n) (caps.getD x.n.toNat 0) x else lB f (base caps x.n))
  else [single x starts]
 else []
def aD (caps:List Int) (b:List Ins):Nat→List yQ
 | 0=>[]
 | i+1=>aD caps b i++sV caps (b.getD i default) (szB (b.take i)) (gJ b)
def comp (caps:List Int) (b:List Ins):List yQ:=aD caps b b.length
theorem mF {p:wJ} (h:jB p=true):dK p.caps=true∧p.caps.length≤3∧p.bods.length≤4∧1≤p.bods.length∧∀b∈p.bods,wN b p.caps.length=true:=by
 unfold jB at h
 simp only [qXa,qK,decide_eq_true_eq,qZ2] at h
 exact ⟨h.1.2,by omega,by omega,by omega,h.1.1.1⟩
def gU:List Ins→Int→Int→Int→Int×Bool
 | [],_,_,_=>(-1,false)
 | x::l,off,i,at_=>if off≤at_∧at_≤off+wA x-1 then (i,decide (at_=off)) else gU l (off+wA x) (i+1) at_
def fE (p:wJ) (body at_:Int):Int×Bool:=if jB p&&qS body 0 (p.bods.length-1) then gU (p.bods.getD body.toNat []) 0 0 at_ else (-1,false)
def qMk (l:List yQ):Int:=(l.getD (l.length-1) default).op
def qN1 (l:List yQ):Bool:=qS l.length 1 800&&l.all (fun s=>tT s l.length)&&(decide (qMk l=10)||decide (qMk l=12)||decide (qMk l=13))
theorem qMr {x:Ins} {pl ch:Int} (h:yZ x pl ch=true) (ho:qS x.op 5 9=true):0≤x.n∧x.n<ch:=by
 rw [qK] at ho
 unfold yZ at h
 obtain e | e | e | e | e:x.op=5∨x.op=6∨x.op=7∨x.op=8∨x.op=9:=by omega
 all_goals
  simp [e,qK] at h
  omega
def qV8 (_x:yQ):Nat:=5
def qPz (k:Int) (_x:yQ):yQ:=⟨k,k+1,k+1+1,k+1+1+1,k+1+1+1+1⟩
def qRd (x:wV):Nat:=1+x.view.length
def qMf (k:Int) (x:wV):wV:=⟨k,qDk (k+1) x.view.length⟩
def qRe (x:vX):Nat:=2+x.regs.length+x.view.length
def qQ1 (k:Int) (x:vX):vX:=⟨k,qDk (k+1) x.regs.length,qDk (k+1+x.regs.length) x.view.length,k+1+x.regs.length+x.view.length⟩
def qHf:List yQ→Nat:=(fun b=>pH qV8 b)
def qMg:Int→List yQ→List yQ:=(fun k b=>mks qV8 qPz k b)
def qNq:List wV→Nat:=(fun b=>pH qRd b)
def qK3:Int→List wV→List wV:=(fun k b=>mks qRd qMf k b)
def qV3 (p:wJ) (m:qP) (who:Int):Bool:=qS who 0 (m.cores.length-1)&&decide ((m.cores.getD who.toNat default).st=0)&&(fE p who (m.cores.getD who.toNat default).at_).2
def nG (p:wJ) (m:qP) (s:qR) (who:Int):Bool :=
 if qS who 0 (m.cores.length-1)&&decide (who<s.ths.length) then
  let k:=m.cores.getD who.toNat default
  let t:=s.ths.getD who.toNat default
  let pl:=fE p who k.at_
  if pl.1<0∨k.regs.length<4∨t.regs.length<4 then false
  else if k.st≠0 then decide (t.st=k.st)
  else if pl.2 then decide (t.st=0)&&decide (t.at_=pl.1)&&decide (k.regs.take 4=t.regs.take 4)
  else true
 else false
end Go.Sep
