/- Contracts of functions. -/
import Derived.Test.YtfecojefbnnknaaMxx21
import Derived.Test.YtfecojefbnnknaaMxx22
open List renaming getD_eq_getElem?_getD → wCu
open Nat renaming le_refl → wCr
namespace Go.Sep
set_option maxHeartbeats 16000000
open Go.Proofs
set_option linter.unusedSimpArgs false
set_option linter.unusedVariables false
set_option maxRecDepth 100000
def skp (l:List Ins) (x:Ins):Ins:=if x.op=11∨x.op=12 then ⟨x.op,x.r,x.a,x.b,eR l x.n⟩ else x
def skL (l:List Ins):List Ins:=l.map (skp l)
def plN (R:List Bool):Nat→Nat
 | 0=>0
 | i+1=>plN R i+(if R.getD i false then 1 else 0)
def oA (R:List Bool) (x:Ins):Ins:=if x.op=11∨x.op=12 then ⟨x.op,x.r,x.a,x.b,plN R x.n.toNat⟩ else x
def pkN (l:List Ins) (R:List Bool):Nat→List Ins
 | 0=>[]
 | i+1=>pkN l R i++(if R.getD i false then [oA R (l.getD i default)] else [])
def aQ (l:List Ins):List Ins:=if wB l 3 then pkN (skL l) (dT (skL l)) l.length else l
theorem zD (l:List Ins) (R:List Bool) :∀i,(pkN l R i).length=plN R i
 | 0=>rfl
 | i+1=>by
  rw [pkN,plN,List.length_append,zD l R i]
  split<;>rfl
theorem qFw (R:List Bool) :∀i,plN R i≤i
 | 0=>wCr _
 | i+1=>by
  have:=qFw R i
  rw [plN]
  split<;>omega
theorem qN9 (R:List Bool) :∀(i d:Nat),plN R i≤plN R (i+d)
 | i,0=>wCr _
 | i,d+1=>by
  have:=qN9 R i d
  rw [←Nat.add_assoc,plN]
  omega
theorem qAi {R:List Bool} {i:Nat} (h:R.getD i false=true):plN R (i+1)=plN R i+1:=by rw [plN,if_pos h]
theorem qCa {R:List Bool} {i n:Nat} (h:R.getD i false=true) (hi:i<n):plN R i<plN R n:=by
 obtain ⟨d,rfl⟩ :∃d,n=i+1+d:=⟨n-(i+1),by omega⟩
 have h1:=qN9 R (i+1) d
 have h2:=qAi h
 omega
theorem qPt (l:List Ins) {R:List Bool} {i:Nat} (h:R.getD i false=true) :∀n,i<n→(pkN l R n).getD (plN R i) default=oA R (l.getD i default)
 | 0,hi=>by omega
 | n+1,hi=>by
  rw [pkN]
  by_cases e:i=n
  ·subst e
   rw [if_pos h,wCu,List.getElem?_append_right (by rw [zD]; exact wCr _),zD]
   simp
  ·have hlt:=qCa h (show i<n by omega)
   rw [wCu,List.getElem?_append_left (by rw [zD]; exact hlt),←wCu]
   exact qPt l h n (by omega)
theorem gI (l:List Ins):(skL l).length=l.length:=by simp [skL]
theorem sT (l:List Ins) {i:Nat} (h:i<l.length):(skL l).getD i default=skp l (l.getD i default):=by
 simp [skL,wCu,h]
theorem lE (l:List Ins) (x:Ins):(skp l x).op=x.op:=by
 unfold skp
 split<;>rfl
theorem qS4 {l:List Ins} (hb:wB l 3=true) {n:Int} (h:0≤n∧n.toNat<l.length):eR l n=xO l n l.length∧0≤eR l n∧(eR l n).toNat<l.length:=by
 have hp:fK l n=true:=by
  unfold fK
  rw [hb,qK.2 (by omega)]
  rfl
 have e:eR l n=xO l n l.length:=by unfold eR; rw [if_pos hp]
 rw [e]
 exact ⟨rfl,qFe hb h _⟩
theorem qO4 {x:Ins} {pl pl' c m:Int} (h:jE x pl c=true) (hj:x.op=11∨x.op=12) (hm:0≤m∧m<pl'):jE ⟨x.op,x.r,x.a,x.b,m⟩ pl' c=true:=by
 unfold jE at h⊢
 obtain ⟨hm0,hm1⟩:=hm
 rcases hj with e | e<;>simp_all [qR]
theorem qXl {x:Ins} {pl pl' c:Int} (h:jE x pl c=true) (hj :¬(x.op=11∨x.op=12)):jE x pl' c=true:=by
 unfold jE at h⊢
 have h1 :¬x.op=11:=fun e=>hj (.inl e)
 have h2 :¬x.op=12:=fun e=>hj (.inr e)
 simpa [h1,h2] using h
theorem qFf {l:List Ins} {c:Int} (h:wB l c=true):wB (skL l) c=true:=by
 have h3:=cY h
 unfold wB at h⊢
 simp only [Bool.and_eq_true,qK,List.all_eq_true,Bool.or_eq_true,decide_eq_true_eq] at h⊢
 obtain ⟨⟨⟨h1,h2⟩,h4⟩,h5⟩:=h
 rw [gI]
 refine ⟨⟨⟨h1,h2⟩,fun y hy=>?_⟩,?_⟩
 ·unfold skL at hy
  obtain ⟨x,hx,rfl⟩:=List.mem_map.1 hy
  have hx:=h4 x hx
  unfold skp
  split
  ·rename_i hj
   have hjm:=mD hx hj
   have:=(qS4 h3 (n:=x.n) (by omega)).2
   exact qO4 hx hj (by omega)
  ·exact hx
 ·unfold dZ at h5⊢
  rw [gI,sT l (by omega),lE]
  exact h5
theorem qWo {l:List Ins} {c:Int} (h:wB l c=true):wB (aQ l) c=true:=by
 have h3:=cY h
 have hs:=qFf h
 have hs3:=qFf h3
 obtain ⟨r1,r2,r3⟩:=zW hs3
 have hb:=h
 unfold aQ
 rw [if_pos h3]
 generalize hR:dT (skL l)=R at *
 rw [gI] at r1 r3
 unfold wB at h hs⊢
 simp only [Bool.and_eq_true,qK,List.all_eq_true,Bool.or_eq_true,decide_eq_true_eq] at h hs⊢
 obtain ⟨⟨⟨h1,h2⟩,h4⟩,h5⟩:=h
 have hsi:=fun i (hi:i<l.length)=>hs.1.2 _ (yL (skL l) i default (by rw [gI]; exact hi))
 have hlen:=zD (skL l) R l.length
 have hle:=qFw R l.length
 have h0:=qCa r2 (show 0<l.length by omega)
 rw [hlen]
 have hin :∀n,∀y∈pkN (skL l) R n,n≤l.length→∃i,i<n∧R.getD i false=true∧y=oA R ((skL l).getD i default):=by
  intro n
  induction n with
  | zero=>intro y hy; simp [pkN] at hy
  | succ n ih =>
   intro y hy hn
   rw [pkN,List.mem_append] at hy
   rcases hy with hy | hy
   ·obtain ⟨i,g1,g2,g3⟩:=ih y hy (by omega)
    exact ⟨i,by omega,g2,g3⟩
   ·split at hy
    ·rename_i hr
     rw [List.mem_singleton] at hy
     exact ⟨n,by omega,hr,hy⟩
    ·simp at hy
 refine ⟨⟨⟨h1,by omega,by omega⟩,fun y hy=>?_⟩,?_⟩
 ·obtain ⟨i,g1,g2,g3⟩:=hin _ y hy (wCr _)
  have hx:=hsi i g1
  rw [gI] at hx
  rw [g3]
  have hcl:=r3 i g1 g2
  unfold oA
  split
  ·rename_i hj
   have hjm:=mD hx hj
   refine qO4 hx hj ?_
   have hmem:((skL l).getD i default).n∈yD (skL l) i:=by
    unfold yD
    simp only
    rcases hj with e | e
    ·rw [if_neg (by omega),if_pos e]
     simp
    ·rw [if_neg (by omega),if_neg (by omega),if_pos e]
     repeat' split
     all_goals (simp only [List.mem_cons,List.not_mem_nil,or_false,or_true,true_or]; try omega)
   have:=qCa (hcl _ hmem) (show ((skL l).getD i default).n.toNat<l.length by omega)
   omega
  ·rename_i hj
   exact qXl hx hj
 ·
  have hlast :∀n,n≤l.length→0<plN R n→∃i,i<n∧R.getD i false=true∧plN R i=plN R n-1∧∀k,i<k→k<n→R.getD k false=false:=by
   intro n
   induction n with
   | zero=>intro _ h; simp [plN] at h
   | succ n ih =>
    intro hn hp
    cases hr:R.getD n false
    ·have e:plN R (n+1)=plN R n:=by rw [plN,hr]; rfl
     obtain ⟨i,g1,g2,g3,g4⟩:=ih (by omega) (by omega)
     refine ⟨i,by omega,g2,by omega,fun k hk1 hk2=>?_⟩
     by_cases ek:k=n
     ·rw [ek]; exact hr
     ·exact g4 k hk1 (by omega)
    ·refine ⟨n,by omega,hr,?_,fun k hk1 hk2=>by omega⟩
     rw [qAi hr]
     omega
  obtain ⟨i,g1,g2,g3,g4⟩:=hlast l.length (wCr _) (by omega)
  unfold dZ
  rw [hlen,←g3,qPt _ g2 _ g1]
  have hop:(oA R ((skL l).getD i default)).op=(l.getD i default).op:=by
   unfold oA
   split
   ·rw [sT l g1,lE]
   ·rw [sT l g1,lE]
  rw [hop]
  apply Classical.byContradiction
  intro hno
  have hi1:i+1<l.length:=by
   rcases Nat.lt_or_ge (i+1) l.length with hh | hh
   ·exact hh
   ·exfalso
    have e:l.length-1=i:=by omega
    unfold dZ at h5
    rw [e] at h5
    omega
  have hmem:((i:Int)+1)∈yD (skL l) i:=by
   unfold yD
   simp only [sT l g1,lE]
   rw [if_neg (by omega),if_neg (by omega)]
   repeat' split
   all_goals (simp; try omega)
  have:=r3 i g1 g2 _ hmem
  rw [show ((i:Int)+1).toNat=i+1 by omega,g4 (i+1) (by omega) hi1] at this
  exact absurd this (by decide)
end Go.Sep
