/- Contracts of functions. -/
import Derived.Test.YtebbppogicgpkaaGreatQxx31
namespace Go.Sep
set_option maxHeartbeats 16000000
open Go.Proofs
set_option linter.unusedSimpArgs false
set_option linter.unusedVariables false
set_option maxRecDepth 100000
def lastW (cs:List (List Write)) (c:Nat):Int:=((cs.getD c []).getD ((cs.getD c []).length-1) default).v
def nilChan:Chan:=⟨0,[],false⟩
def chanL (cs:List (List Write)) (b:Nat) (room f:Int) (k:Nat):List Int:=(List.range k).map fun (i:Nat)=>lastW cs (b+4+((f+(i:Int))%room).toNat)
theorem chanL_length (cs:List (List Write)) (b:Nat) (room f:Int) (k:Nat):(chanL cs b room f k).length=k:=by simp [chanL]
def chanOf (cs:List (List Write)) (b:Nat) (room:Int):Chan×Bool :=
 if within (lastW cs (b+1)) 0 (room-1)&&within (lastW cs (b+2)) 0 room&&within (lastW cs (b+3)) 0 1 then
  (⟨room,chanL cs b room (lastW cs (b+1)) (lastW cs (b+2)).toNat,decide (lastW cs (b+3)=1)⟩,true)
 else (nilChan,false)
def chanIn (cs:List (List Write)) (caps:List Int) (n:Int):Chan×Bool :=
 if !decide (base caps n<0)&&memoryOk cs then chanOf cs (base caps n).toNat (caps.getD n.toNat 0) else (nilChan,false)
def lockedM (cs:List (List Write)) (caps:List Int) (n:Int):Bool:=decide (0≤base caps n)&&memoryOk cs&&!decide (lastW cs (base caps n).toNat=0)
theorem sourceNew_ok {p:Prog} (h:progOk p=true):sourceOk p (sourceNew p).1=true:=by
 have hp:=h
 simp only [progOk,capsOk,Bool.and_eq_true,decide_eq_true_eq] at hp
 obtain ⟨⟨⟨hb,_⟩,hc⟩,_⟩:=hp
 rw [qAk]
 simp only [sourceNew,h,if_true]
 refine ⟨?_,?_,?_,?_,fun i hi=>?_,fun j hj=>?_⟩
 any_goals (first | exact h | (simp; done) | (simp [notesOk]; done))
 ·have hi':i<p.bods.length:=by simpa using hi
  have hg:(List.replicate p.bods.length thread0).getD i default=thread0:=by simp [List.getD_eq_getElem?_getD,hi']
  have h2:=List.all_eq_true.1 hb _ (getD_mem p.bods i [] hi')
  simp only [bodyOk,Bool.and_eq_true,within_iff] at h2
  rw [hg]
  simp only [threadOk,thread0,Bool.and_eq_true,decide_eq_true_eq,within_iff]
  refine ⟨⟨rfl,by omega⟩,by omega⟩
 ·have hj':j<p.caps.length:=by simpa using hj
  have hg:(p.caps.map fun c=>(⟨c,[],false⟩:Chan)).getD j default=⟨p.caps.getD j 0,[],false⟩:=by simp [List.getD_eq_getElem?_getD,hj']
  rw [hg]
  have h2:=List.all_eq_true.1 hc _ (getD_mem p.caps j 0 hj')
  refine ⟨?_,rfl⟩
  simp only [chanOk,h2,Bool.true_and,decide_eq_true_eq]
  rw [within_iff] at h2
  simp [-List.getD_eq_getElem?_getD]
  omega
theorem smallP_of {p:Prog} (h:progOk p=true):SmallP p:=by
 simp only [progOk,Bool.and_eq_true,decide_eq_true_eq,within_iff] at h
 obtain ⟨⟨⟨hb,h1⟩,_⟩,h2⟩:=h
 refine ⟨by omega,by omega,fun b hb'=>?_⟩
 have:=List.all_eq_true.1 hb b hb'
 simp only [bodyOk,Bool.and_eq_true,within_iff] at this
 omega
def chanSame (p:Prog) (m:Machine) (s:Source) (n:Int):Bool :=
 within n 0 (p.caps.length-1)&&decide (n<s.chs.length) &&
  (lockedM m.mem.cells p.caps n||((chanIn m.mem.cells p.caps n).2&&decide ((chanIn m.mem.cells p.caps n).1.cap=(s.chs.getD n.toNat default).cap)&&decide ((chanIn m.mem.cells p.caps n).1.list=(s.chs.getD n.toNat default).list)&&decide ((chanIn m.mem.cells p.caps n).1.closed=(s.chs.getD n.toNat default).closed)))
def same (p:Prog) (m:Machine) (s:Source):Bool :=
 progOk p&&machineOk m&&sourceOk p s&&decide (m.cores.length=s.ths.length)&&decide (m.tr=s.tr) &&
  (List.range m.cores.length).all (fun i=>coreSame p m s i)&&(List.range p.caps.length).all (fun n=>chanSame p m s n)
def jsrc (p:Prog) (o:List Int):Source×List Int:=sourceRun p (sourceNew p).1 o
def jdone (c:List Int):Bool:=c.all fun x=>decide (x=0)||decide (x=4)
theorem witness_right {p:Prog} {l:List Pick} (h:(witness p l).2.2=true):progOk p=true∧lieOk p.caps=true∧machineOk (witness p l).2.1=true∧(launch p).2=true∧witness p l=(worder p (launch p).1 l,mrun (launch p).1 l,true)∧(witness p l).1.length≤l.length:=by
 unfold witness at h⊢
 split at h
 ·rename_i hc
  rw [if_pos hc]
  simp only [Bool.and_eq_true,decide_eq_true_eq] at hc
  obtain ⟨h1,h2,h3,h4⟩:=launch_codes hc.1
  exact ⟨h1,h2,mrun_ok l h4,hc.1,rfl,worder_len p _ l⟩
 ·exact absurd h (by simp)
theorem witness_sm (p:Prog) (l:List Pick):SmallM (witness p l).2.1:=smallM_of (n:=4000000) (witness_z p l).2 (by omega)
end Go.Sep
