/- Contracts of functions. -/
import Derived.Test.YtebbppogicgpkaaGreatSxx35
namespace Go.Sep
set_option maxHeartbeats 16000000
open Go.Proofs
set_option linter.unusedSimpArgs false
set_option linter.unusedVariables false
set_option maxRecDepth 100000
def jX (cs:List (List wY)) (c:Nat):Int:=((cs.getD c []).getD ((cs.getD c []).length-1) default).v
def cO:bW:=⟨0,[],false⟩
def qAm (cs:List (List wY)) (b:Nat) (room f:Int) (k:Nat):List Int:=(List.range k).map fun (i:Nat)=>jX cs (b+4+((f+(i:Int))%room).toNat)
theorem sQ (cs:List (List wY)) (b:Nat) (room f:Int) (k:Nat):(qAm cs b room f k).length=k:=by simp [qAm]
def fW (cs:List (List wY)) (b:Nat) (room:Int):bW×Bool :=
 if qP (jX cs (b+1)) 0 (room-1)&&qP (jX cs (b+2)) 0 room&&qP (jX cs (b+3)) 0 1 then
  (⟨room,qAm cs b room (jX cs (b+1)) (jX cs (b+2)).toNat,decide (jX cs (b+3)=1)⟩,true)
 else (cO,false)
def dQ (cs:List (List wY)) (caps:List Int) (n:Int):bW×Bool :=
 if !decide (base caps n<0)&&uT cs then fW cs (base caps n).toNat (caps.getD n.toNat 0) else (cO,false)
def aB (cs:List (List wY)) (caps:List Int) (n:Int):Bool:=decide (0≤base caps n)&&uT cs&&!decide (jX cs (base caps n).toNat=0)
theorem eA {p:wM} (h:vF p=true):wX p (jY p).1=true:=by
 have hp:=h
 simp only [vF,zB,Bool.and_eq_true,decide_eq_true_eq] at hp
 obtain ⟨⟨⟨hb,_⟩,hc⟩,_⟩:=hp
 rw [bG]
 simp only [jY,h,if_true]
 refine ⟨?_,?_,?_,?_,fun i hi=>?_,fun j hj=>?_⟩
 any_goals (first | exact h | (simp; done) | (simp [bY]; done))
 ·have hi':i<p.bods.length:=by simpa using hi
  have hg:(List.replicate p.bods.length kL).getD i default=kL:=by simp [List.getD_eq_getElem?_getD,hi']
  have h2:=List.all_eq_true.1 hb _ (wU p.bods i [] hi')
  simp only [vI,Bool.and_eq_true,qN] at h2
  rw [hg]
  simp only [bX,kL,Bool.and_eq_true,decide_eq_true_eq,qN]
  refine ⟨⟨rfl,by omega⟩,by omega⟩
 ·have hj':j<p.caps.length:=by simpa using hj
  have hg:(p.caps.map fun c=>(⟨c,[],false⟩:bW)).getD j default=⟨p.caps.getD j 0,[],false⟩:=by simp [List.getD_eq_getElem?_getD,hj']
  rw [hg]
  have h2:=List.all_eq_true.1 hc _ (wU p.caps j 0 hj')
  refine ⟨?_,rfl⟩
  simp only [uO,h2,Bool.true_and,decide_eq_true_eq]
  rw [qN] at h2
  simp [-List.getD_eq_getElem?_getD]
  omega
def zW (p:wM) (m:qO) (s:wH) (n:Int):Bool :=
 qP n 0 (p.caps.length-1)&&decide (n<s.chs.length) &&
  (aB m.mem.cells p.caps n||((dQ m.mem.cells p.caps n).2&&decide ((dQ m.mem.cells p.caps n).1.cap=(s.chs.getD n.toNat default).cap)&&decide ((dQ m.mem.cells p.caps n).1.list=(s.chs.getD n.toNat default).list)&&decide ((dQ m.mem.cells p.caps n).1.closed=(s.chs.getD n.toNat default).closed)))
def same (p:wM) (m:qO) (s:wH):Bool :=
 vF p&&wP m&&wX p s&&decide (m.cores.length=s.ths.length)&&decide (m.tr=s.tr) &&
  (List.range m.cores.length).all (fun i=>dP p m s i)&&(List.range p.caps.length).all (fun n=>zW p m s n)
theorem fR (p:wM) (l:List vD):iQ (wQ p l).2.1:=qMp (n:=4000000) (fZ p l).2 (by omega)
end Go.Sep
