/- Contracts of functions. -/
import Derived.Test.YtbfklilhgekabaaPxx19
import Derived.Test.YtbfklilhgekabaaPxx20
open List renaming getD_eq_getElem?_getD → qXc
open Nat renaming le_refl → qX9
namespace Go.Sep
set_option maxHeartbeats 16000000
open Go.Proofs
set_option linter.unusedSimpArgs false
set_option linter.unusedVariables false
set_option maxRecDepth 100000
def skp (l:List Ins) (x:Ins):Ins:=if x.op=11∨x.op=12 then ⟨x.op,x.r,x.a,x.b,aI l x.n⟩ else x
def skL (l:List Ins):List Ins:=l.map (skp l)
def plN (R:List Bool):Nat→Nat
 | 0=>0
 | i+1=>plN R i+(if R.getD i false then 1 else 0)
def lO (R:List Bool) (x:Ins):Ins:=if x.op=11∨x.op=12 then ⟨x.op,x.r,x.a,x.b,plN R x.n.toNat⟩ else x
def pkN (l:List Ins) (R:List Bool):Nat→List Ins
 | 0=>[]
 | i+1=>pkN l R i++(if R.getD i false then [lO R (l.getD i default)] else [])
def cJ (l:List Ins):List Ins:=if wN l 3 then pkN (skL l) (dV (skL l)) l.length else l
theorem dP (l:List Ins) (R:List Bool) :∀i,(pkN l R i).length=plN R i
 | 0=>rfl
 | i+1=>by
  rw [pkN,plN,List.length_append,dP l R i]
  split<;>rfl
theorem qHz (R:List Bool) :∀i,plN R i≤i
 | 0=>qX9 _
 | i+1=>by
  have:=qHz R i
  rw [plN]
  split<;>omega
theorem qJo (R:List Bool) :∀(i d:Nat),plN R i≤plN R (i+d)
 | i,0=>qX9 _
 | i,d+1=>by
  have:=qJo R i d
  rw [←Nat.add_assoc,plN]
  omega
theorem sA {R:List Bool} {i:Nat} (h:R.getD i false=true):plN R (i+1)=plN R i+1:=by rw [plN,if_pos h]
theorem qA7 {R:List Bool} {i n:Nat} (h:R.getD i false=true) (hi:i<n):plN R i<plN R n:=by
 obtain ⟨d,rfl⟩ :∃d,n=i+1+d:=⟨n-(i+1),by omega⟩
 have h1:=qJo R (i+1) d
 have h2:=sA h
 omega
theorem qM3 (l:List Ins) {R:List Bool} {i:Nat} (h:R.getD i false=true) :∀n,i<n→(pkN l R n).getD (plN R i) default=lO R (l.getD i default)
 | 0,hi=>by omega
 | n+1,hi=>by
  rw [pkN]
  by_cases e:i=n
  ·subst e
   rw [if_pos h,qXc,List.getElem?_append_right (by rw [dP]; exact qX9 _),dP]
   simp
  ·have hlt:=qA7 h (show i<n by omega)
   rw [qXc,List.getElem?_append_left (by rw [dP]; exact hlt),←qXc]
   exact qM3 l h n (by omega)
theorem bQ (l:List Ins):(skL l).length=l.length:=by simp [skL]
theorem pI (l:List Ins) {i:Nat} (h:i<l.length):(skL l).getD i default=skp l (l.getD i default):=by
 simp [skL,qXc,h]
theorem fY (l:List Ins) (x:Ins):(skp l x).op=x.op:=by
 unfold skp
 split<;>rfl
theorem qO7 {l:List Ins} (hb:wN l 3=true) {n:Int} (h:0≤n∧n.toNat<l.length):aI l n=zC l n l.length∧0≤aI l n∧(aI l n).toNat<l.length:=by
 have hp:eO l n=true:=by
  unfold eO
  rw [hb,qK.2 (by omega)]
  rfl
 have e:aI l n=zC l n l.length:=by unfold aI; rw [if_pos hp]
 rw [e]
 exact ⟨rfl,qCs hb h _⟩
theorem qKj {x:Ins} {pl pl' c m:Int} (h:yZ x pl c=true) (hj:x.op=11∨x.op=12) (hm:0≤m∧m<pl'):yZ ⟨x.op,x.r,x.a,x.b,m⟩ pl' c=true:=by
 unfold yZ at h⊢
 obtain ⟨hm0,hm1⟩:=hm
 rcases hj with e | e<;>simp_all [qS]
theorem qSw {x:Ins} {pl pl' c:Int} (h:yZ x pl c=true) (hj :¬(x.op=11∨x.op=12)):yZ x pl' c=true:=by
 unfold yZ at h⊢
 have h1 :¬x.op=11:=fun e=>hj (.inl e)
 have h2 :¬x.op=12:=fun e=>hj (.inr e)
 simpa [h1,h2] using h
theorem qCt {l:List Ins} {c:Int} (h:wN l c=true):wN (skL l) c=true:=by
 have h3:=nO h
 unfold wN at h⊢
 simp only [Bool.and_eq_true,qK,List.all_eq_true,Bool.or_eq_true,decide_eq_true_eq] at h⊢
 obtain ⟨⟨⟨h1,h2⟩,h4⟩,h5⟩:=h
 rw [bQ]
 refine ⟨⟨⟨h1,h2⟩,fun y hy=>?_⟩,?_⟩
 ·unfold skL at hy
  obtain ⟨x,hx,rfl⟩:=List.mem_map.1 hy
  have hx:=h4 x hx
  unfold skp
  split
  ·rename_i hj
   have hjm:=mZ hx hj
   have:=(qO7 h3 (n:=x.n) (by omega)).2
   exact qKj hx hj (by omega)
  ·exact hx
 ·unfold dS at h5⊢
  rw [bQ,pI l (by omega),fY]
  exact h5
theorem qS3 {l:List Ins} {c:Int} (h:wN l c=true):wN (cJ l) c=true:=by
 have h3:=nO h
 have hs:=qCt h
 have hs3:=qCt h3
 obtain ⟨r1,r2,r3⟩:=xR hs3
 have hb:=h
 unfold cJ
 rw [if_pos h3]
 generalize hR:dV (skL l)=R at *
 rw [bQ] at r1 r3
 unfold wN at h hs⊢
 simp only [Bool.and_eq_true,qK,List.all_eq_true,Bool.or_eq_true,decide_eq_true_eq] at h hs⊢
 obtain ⟨⟨⟨h1,h2⟩,h4⟩,h5⟩:=h
 have hsi:=fun i (hi:i<l.length)=>hs.1.2 _ (jD (skL l) i default (by rw [bQ]; exact hi))
 have hlen:=dP (skL l) R l.length
 have hle:=qHz R l.length
 have h0:=qA7 r2 (show 0<l.length by omega)
 rw [hlen]
 have hin :∀n,∀y∈pkN (skL l) R n,n≤l.length→∃i,i<n∧R.getD i false=true∧y=lO R ((skL l).getD i default):=by
  intro n
  induction n with
  | zero=>intro y hy; simp [pkN] at hy
  | succ n ih =>
   intro y hy hn
   rw [pkN,List.mem_append] at hy
   rcases hy with hy | hy
   ·obtain ⟨i,g1,g2,g3⟩:=ih y hy (by omega)
    exact ⟨i,by omega,g2,g3⟩
   ·split at hy
    ·rename_i hr
     rw [List.mem_singleton] at hy
     exact ⟨n,by omega,hr,hy⟩
    ·simp at hy
 refine ⟨⟨⟨h1,by omega,by omega⟩,fun y hy=>?_⟩,?_⟩
 ·obtain ⟨i,g1,g2,g3⟩:=hin _ y hy (qX9 _)
  have hx:=hsi i g1
  rw [bQ] at hx
  rw [g3]
  have hcl:=r3 i g1 g2
  unfold lO
  split
  ·rename_i hj
   have hjm:=mZ hx hj
   refine qKj hx hj ?_
   have hmem:((skL l).getD i default).n∈vN (skL l) i:=by
    unfold vN
    simp only
    rcases hj with e | e
    ·rw [if_neg (by omega),if_pos e]
     simp
    ·rw [if_neg (by omega),if_neg (by omega),if_pos e]
     repeat' split
     all_goals (simp only [List.mem_cons,List.not_mem_nil,or_false,or_true,true_or]; try omega)
   have:=qA7 (hcl _ hmem) (show ((skL l).getD i default).n.toNat<l.length by omega)
   omega
  ·rename_i hj
   exact qSw hx hj
 ·
  have hlast :∀n,n≤l.length→0<plN R n→∃i,i<n∧R.getD i false=true∧plN R i=plN R n-1∧∀k,i<k→k<n→R.getD k false=false:=by
   intro n
   induction n with
   | zero=>intro _ h; simp [plN] at h
   | succ n ih =>
    intro hn hp
    cases hr:R.getD n false
    ·have e:plN R (n+1)=plN R n:=by rw [plN,hr]; rfl
     obtain ⟨i,g1,g2,g3,g4⟩:=ih (by omega) (by omega)
     refine ⟨i,by omega,g2,by omega,fun k hk1 hk2=>?_⟩
     by_cases ek:k=n
     ·rw [ek]; exact hr
     ·exact g4 k hk1 (by omega)
    ·refine ⟨n,by omega,hr,?_,fun k hk1 hk2=>by omega⟩
     rw [sA hr]
     omega
  obtain ⟨i,g1,g2,g3,g4⟩:=hlast l.length (qX9 _) (by omega)
  unfold dS
  rw [hlen,←g3,qM3 _ g2 _ g1]
  have hop:(lO R ((skL l).getD i default)).op=(l.getD i default).op:=by
   unfold lO
   split
   ·rw [pI l g1,fY]
   ·rw [pI l g1,fY]
  rw [hop]
  apply Classical.byContradiction
  intro hno
  have hi1:i+1<l.length:=by
   rcases Nat.lt_or_ge (i+1) l.length with hh | hh
   ·exact hh
   ·exfalso
    have e:l.length-1=i:=by omega
    unfold dS at h5
    rw [e] at h5
    omega
  have hmem:((i:Int)+1)∈vN (skL l) i:=by
   unfold vN
   simp only [pI l g1,fY]
   rw [if_neg (by omega),if_neg (by omega)]
   repeat' split
   all_goals (simp; try omega)
  have:=r3 i g1 g2 _ hmem
  rw [show ((i:Int)+1).toNat=i+1 by omega,g4 (i+1) (by omega) hi1] at this
  exact absurd this (by decide)
end Go.Sep
