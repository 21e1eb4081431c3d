/- Contracts of functions. -/
import Derived.Test.YtebbppogicgpkaaGreatRxx25
namespace Go.Sep
set_option maxHeartbeats 16000000
open Go.Proofs
set_option linter.unusedSimpArgs false
set_option linter.unusedVariables false
set_option maxRecDepth 100000
def vJ (cs:List (List wR)) (c:Nat):Int:=((cs.getD c []).getD ((cs.getD c []).length-1) default).v
def qRy:gL:=⟨0,[],false⟩
def qP0 (cs:List (List wR)) (b:Nat) (room f:Int) (k:Nat):List Int:=(List.range k).map fun (i:Nat)=>vJ cs (b+4+((f+(i:Int))%room).toNat)
theorem qMl (cs:List (List wR)) (b:Nat) (room f:Int) (k:Nat):(qP0 cs b room f k).length=k:=by simp [qP0]
def qQy (cs:List (List wR)) (b:Nat) (room:Int):gL×Bool :=
 if qO (vJ cs (b+1)) 0 (room-1)&&qO (vJ cs (b+2)) 0 room&&qO (vJ cs (b+3)) 0 1 then
  (⟨room,qP0 cs b room (vJ cs (b+1)) (vJ cs (b+2)).toNat,decide (vJ cs (b+3)=1)⟩,true)
 else (qRy,false)
def qDh (cs:List (List wR)) (caps:List Int) (n:Int):gL×Bool :=
 if !decide (base caps n<0)&&uZ cs then qQy cs (base caps n).toNat (caps.getD n.toNat 0) else (qRy,false)
def qF9 (cs:List (List wR)) (caps:List Int) (n:Int):Bool:=decide (0≤base caps n)&&uZ cs&&!decide (vJ cs (base caps n).toNat=0)
theorem qJo {p:wV} (h:uA p=true):zX p:=by
 simp only [uA,Bool.and_eq_true,decide_eq_true_eq,qM] at h
 obtain ⟨⟨⟨hb,h1⟩,_⟩,h2⟩:=h
 refine ⟨by omega,by omega,fun b hb'=>?_⟩
 have:=List.all_eq_true.1 hb b hb'
 simp only [jT,Bool.and_eq_true,qM] at this
 omega
def qHo (p:wV) (m:qK) (s:wS) (n:Int):Bool :=
 qO n 0 (p.caps.length-1)&&decide (n<s.chs.length) &&
  (qF9 m.mem.cells p.caps n||((qDh m.mem.cells p.caps n).2&&decide ((qDh m.mem.cells p.caps n).1.cap=(s.chs.getD n.toNat default).cap)&&decide ((qDh m.mem.cells p.caps n).1.list=(s.chs.getD n.toNat default).list)&&decide ((qDh m.mem.cells p.caps n).1.closed=(s.chs.getD n.toNat default).closed)))
def same (p:wV) (m:qK) (s:wS):Bool :=
 uA p&&qX m&&jB p s&&decide (m.cores.length=s.ths.length)&&decide (m.tr=s.tr) &&
  (List.range m.cores.length).all (fun i=>rP p m s i)&&(List.range p.caps.length).all (fun n=>qHo p m s n)
theorem qIh {p:wV} {l:List bB} (h:(zD p l).2.2=true):uA p=true∧gC p.caps=true∧qX (zD p l).2.1=true∧(cF p).2=true∧zD p l=(dH p (cF p).1 l,eJ (cF p).1 l,true)∧(zD p l).1.length≤l.length:=by
 unfold zD at h⊢
 split at h
 ·rename_i hc
  rw [if_pos hc]
  simp only [Bool.and_eq_true,decide_eq_true_eq] at hc
  obtain ⟨h1,h2,h3,h4⟩:=qBm hc.1
  exact ⟨h1,h2,qBh l h4,hc.1,rfl,tX p _ l⟩
 ·exact absurd h (by simp)
end Go.Sep
