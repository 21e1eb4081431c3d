/- Contracts of functions. -/
import Derived.Test.YtfecojefbnnknaaGreatRxx22
open List renaming getD_eq_getElem?_getD → wBr
namespace Go.Sep
set_option maxHeartbeats 16000000
open Go.Proofs
set_option linter.unusedSimpArgs false
set_option linter.unusedVariables false
set_option maxRecDepth 100000
noncomputable def fX (l:List Ins) (a:Nat):Bool:=(xW l).getD a false&&@decide (qP6 l a) (Classical.propDecidable _)
noncomputable def qMb (l:List Ins) (a:Nat):Ins:=if fX l a then ⟨11,0,0,0,((a+1:Nat):Int)⟩ else l.getD a default
noncomputable def vP (l:List Ins):List Ins:=if wF l 3 then (List.range l.length).map (qMb l) else l
theorem bR (l:List Ins):(vP l).length=l.length:=by
 unfold vP
 split<;>simp
theorem qEo {l:List Ins} (h:wF l 3=true) {a:Nat} (ha:a<l.length):(vP l).getD a default=qMb l a:=by
 unfold vP
 rw [if_pos h]
 simp [wBr,ha]
theorem qJl {l:List Ins} {a:Nat} (h:fX l a=true):qP6 l a:=by
 unfold fX at h
 rw [Bool.and_eq_true] at h
 exact @of_decide_eq_true _ (Classical.propDecidable _) h.2
theorem qI5 (l:List Ins):Trm l (vP l):=by
 by_cases h:wF l 3=true
 ·refine ⟨bR l,fun a ha=>?_⟩
  rw [qEo h ha]
  unfold qMb
  split
  ·rename_i hd
   exact .inr ⟨qJl hd,rfl⟩
  ·exact .inl rfl
 ·have:vP l=l:=by unfold vP; rw [if_neg h]
  rw [this]
  exact Trm.refl l
theorem qVb {l:List Ins} {c:Int} (h:wF l c=true):wF (vP l) c=true:=by
 have h3:=qDl h
 have ht:=qI5 l
 generalize vP l=k at ht
 obtain ⟨hl,hat⟩:=ht
 unfold wF at h⊢
 simp only [Bool.and_eq_true,qL,List.all_eq_true,Bool.or_eq_true,decide_eq_true_eq] at h⊢
 obtain ⟨⟨⟨h1,h2⟩,h4⟩,h5⟩:=h
 rw [hl]
 refine ⟨⟨⟨h1,h2⟩,fun y hy=>?_⟩,?_⟩
 ·obtain ⟨i,hi,rfl⟩:=List.getElem_of_mem hy
  have hi':i<l.length:=by omega
  have e:k[i]=k.getD i default:=by simp [wBr,hi]
  rw [e]
  rcases hat i hi' with e | ⟨⟨_,hd,_⟩,e⟩
  ·rw [e]
   exact h4 _ (yB l i default hi')
  ·rw [e]
   unfold jJ
   simp [qL]
   omega
 ·unfold xK at h5⊢
  rw [hl]
  rcases hat (l.length-1) (by omega) with e | ⟨⟨_,hd,_⟩,e⟩
  ·rw [e]
   exact h5
  ·omega
noncomputable def wX (p:wQ):wQ:=if yR p then ⟨p.caps,p.bods.map vP⟩ else p
theorem eV {p:wQ} (h:yR p=true):wX p=⟨p.caps,p.bods.map vP⟩:=by simp [wX,h]
theorem iC {p:wQ} (h:yR p=true):yR (wX p)=true:=by
 rw [eV h]
 unfold yR at h⊢
 simp only [Bool.and_eq_true,List.all_eq_true,List.length_map] at h⊢
 obtain ⟨⟨⟨h1,h2⟩,h3⟩,h4⟩:=h
 refine ⟨⟨⟨fun b hb=>?_,h2⟩,h3⟩,h4⟩
 obtain ⟨b',hb',rfl⟩:=List.mem_map.1 hb
 exact qVb (h1 b' hb')
theorem qKg {p:wQ} (h:yR p=true) :∀i,i<p.bods.length→Trm (body p i) (body (wX p) i):=by
 intro i hi
 have:body (wX p) i=vP (body p i):=by
  rw [eV h]
  unfold body
  simp [wBr,hi]
 rw [this]
 exact qI5 _
theorem qVa {p:wQ} (h:yR p=true):yJ (wX p)=yJ p:=by
 unfold yJ
 rw [if_pos h,if_pos (iC h),eV h]
 simp
theorem LvI.new {p:wQ} (h:yR p=true):LvI p (wX p) (yJ p).1 (yJ (wX p)).1:=by
 have h1:=dC h
 have h2:=dC (iC h)
 rw [qVa h] at h2⊢
 exact ⟨h1,h2,rfl,rfl,rfl,fun _ _=>⟨rfl,rfl,fun _ _ _=>rfl⟩⟩
theorem qV9 {p:wQ} (h:yR p=true) (l:List Int):LvI p (wX p) (tW p (yJ p).1 l) (tW (wX p) (yJ (wX p)).1 l)∧cI (wX p) (yJ (wX p)).1 l=cI p (yJ p).1 l :=
 LvI.run (qKg h) l (LvI.new h)
end Go.Sep
