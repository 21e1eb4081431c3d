/- Contracts of functions. -/
import Derived.Test.YtfecojefbnnknaaMxx27
open List renaming getD_eq_getElem?_getD → wCu, replicate → wCm
namespace Go.Sep
set_option maxHeartbeats 16000000
open Go.Proofs
set_option linter.unusedSimpArgs false
set_option linter.unusedVariables false
set_option maxRecDepth 100000
noncomputable def pT (l:List Ins) (a:Nat):Bool:=(dT l).getD a false&&@decide (qT2 l a) (Classical.propDecidable _)
noncomputable def qRn (l:List Ins) (a:Nat):Ins:=if pT l a then ⟨11,0,0,0,((a+1:Nat):Int)⟩ else l.getD a default
noncomputable def xM (l:List Ins):List Ins:=if wB l 3 then (List.range l.length).map (qRn l) else l
theorem fI (l:List Ins):(xM l).length=l.length:=by
 unfold xM
 split<;>simp
theorem qMq {l:List Ins} (h:wB l 3=true) {a:Nat} (ha:a<l.length):(xM l).getD a default=qRn l a:=by
 unfold xM
 rw [if_pos h]
 simp [wCu,ha]
theorem qUz {l:List Ins} {a:Nat} (h:pT l a=true):qT2 l a:=by
 unfold pT at h
 rw [Bool.and_eq_true] at h
 exact @of_decide_eq_true _ (Classical.propDecidable _) h.2
theorem qIq (l:List Ins):Trm l (xM l):=by
 by_cases h:wB l 3=true
 ·refine ⟨fI l,fun a ha=>?_⟩
  rw [qMq h ha]
  unfold qRn
  split
  ·rename_i hd
   exact .inr ⟨qUz hd,rfl⟩
  ·exact .inl rfl
 ·have:xM l=l:=by unfold xM; rw [if_neg h]
  rw [this]
  exact Trm.refl l
theorem qW1 {l:List Ins} {c:Int} (h:wB l c=true):wB (xM l) c=true:=by
 have h3:=cY h
 have ht:=qIq l
 generalize xM l=k at ht
 obtain ⟨hl,hat⟩:=ht
 unfold wB at h⊢
 simp only [Bool.and_eq_true,qK,List.all_eq_true,Bool.or_eq_true,decide_eq_true_eq] at h⊢
 obtain ⟨⟨⟨h1,h2⟩,h4⟩,h5⟩:=h
 rw [hl]
 refine ⟨⟨⟨h1,h2⟩,fun y hy=>?_⟩,?_⟩
 ·obtain ⟨i,hi,rfl⟩:=List.getElem_of_mem hy
  have hi':i<l.length:=by omega
  have e:k[i]=k.getD i default:=by simp [wCu,hi]
  rw [e]
  rcases hat i hi' with e | ⟨⟨_,hd,_⟩,e⟩
  ·rw [e]
   exact h4 _ (yL l i default hi')
  ·rw [e]
   unfold jE
   simp [qK]
   omega
 ·unfold dZ at h5⊢
  rw [hl]
  rcases hat (l.length-1) (by omega) with e | ⟨⟨_,hd,_⟩,e⟩
  ·rw [e]
   exact h5
  ·omega
noncomputable def vO (p:wK):wK:=if wY p then ⟨p.caps,p.bods.map xM⟩ else p
theorem cI {p:wK} (h:wY p=true):vO p=⟨p.caps,p.bods.map xM⟩:=by simp [vO,h]
theorem aP {p:wK} (h:wY p=true):wY (vO p)=true:=by
 rw [cI h]
 unfold wY at h⊢
 simp only [Bool.and_eq_true,List.all_eq_true,List.length_map] at h⊢
 obtain ⟨⟨⟨h1,h2⟩,h3⟩,h4⟩:=h
 refine ⟨⟨⟨fun b hb=>?_,h2⟩,h3⟩,h4⟩
 obtain ⟨b',hb',rfl⟩:=List.mem_map.1 hb
 exact qW1 (h1 b' hb')
theorem qKu {p:wK} (h:wY p=true) :∀i,i<p.bods.length→Trm (body p i) (body (vO p) i):=by
 intro i hi
 have:body (vO p) i=xM (body p i):=by
  rw [cI h]
  unfold body
  simp [wCu,hi]
 rw [this]
 exact qIq _
theorem qVy {p:wK} (h:wY p=true):wE (vO p)=wE p:=by
 unfold wE
 rw [if_pos h,if_pos (aP h),cI h]
 simp
theorem LvI.new {p:wK} (h:wY p=true):LvI p (vO p) (wE p).1 (wE (vO p)).1:=by
 have h1:=bQ h
 have h2:=bQ (aP h)
 rw [qVy h] at h2⊢
 exact ⟨h1,h2,rfl,rfl,rfl,fun _ _=>⟨rfl,rfl,fun _ _ _=>rfl⟩⟩
theorem qVx {p:wK} (h:wY p=true) (l:List Int):LvI p (vO p) (lT p (wE p).1 l) (lT (vO p) (wE (vO p)).1 l)∧fB (vO p) (wE (vO p)).1 l=fB p (wE p).1 l :=
 LvI.run (qKu h) l (LvI.new h)
theorem qW0 {p:wK} (h:wY p=true) (h1:p.bods.length=1):Beh p (vO p):=by
 intro n
 obtain ⟨hI,_⟩:=qVx h (wCm n 0)
 refine ⟨n,Nat.le_refl _,hI.tr,?_⟩
 have hl:(lT p (wE p).1 (wCm n 0)).ths.length=p.bods.length:=by
  have:=(qFy hI.ok).1
  exact this
 exact (hI.th 0 (by omega)).2.1
theorem qXs {p:wK} (h:wY p=true):Beh p (jA p):=by
 intro n
 have hr:=(qO9 (wCm n 0) (KnI.new h)).1
 refine ⟨n,Nat.le_refl _,?_,?_⟩
 ·unfold xG
  rw [qOa h,hr]
 ·unfold xG
  rw [qOa h,hr]
end Go.Sep
