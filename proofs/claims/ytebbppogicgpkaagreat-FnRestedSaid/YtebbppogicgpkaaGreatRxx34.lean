/- Contracts of functions. -/
import Derived.Test.YtebbppogicgpkaaGreatRxx32
import Derived.Test.YtebbppogicgpkaaGreatRxx33
namespace Go.Sep
set_option maxHeartbeats 16000000
open Go.Proofs
set_option linter.unusedSimpArgs false
set_option linter.unusedVariables false
set_option maxRecDepth 100000
open Nat renaming reduceAdd → qA, reduceMul → qB, reduceEqDiff → qC, reduceBEq → qD
open Int renaming reduceToNat → qE, reduceEq → qF, reduceLT → qG, reduceLE → qH
open List renaming getD_eq_getElem?_getD → gD
def m449:MFn:=⟨112,[.t 2],kr [xF 2] (.seq (kr [xv 14 0,xc1 15 19 (.t 14)] (kF 15 [xT 2])) (kr [xv 17 0,xo 18 (.call 450 [true] [.t 17]),xv 16 18,xX 19 16 0,xX 20 16 1,xo 3 (.alloc [.nil,.nil]),xo 4 (.alloc [.nil,.nil,.nil,.nil]),xS 2 3 19,xS 4 4 20] (kr [xm 21 2 3,xm 22 4 4,xc2 23 401 (.t 21) (.t 22),xo 5 (.alloc [.nil,.nil,.nil,.nil]),xS 4 5 23] (.seq (.seq (.dreg (.take 0 (xm 24 4 5) (.take 1 (xm 25 2 3) (.only 2 [] (xm 26 4 4) (.only 3 [1] (xc2 27 400 (.t 25) (.t 26)) (.only 4 [0,3,1] (xc2 28 448 (.t 24) (.t 27)) (.only 5 [4,0,3,1] (xN 29 28) (.done)))))))) (kF 29 [xF 2])) (kr [xv 31 0,xo 32 (.call 451 [true] [.t 31]),xv 30 32,xX 33 30 0,xX 34 30 1,xX 35 30 2,xo 6 (.alloc [.nil,.nil]),xo 7 (.alloc [.nil,.nil,.nil,.nil]),xS 2 6 33,xS 4 7 34,xv 8 35] (kr [xm 37 2 6,xm 38 4 7,xv 39 8,xc3 40 404 (.t 37) (.t 38) (.t 39),xv 36 40,xX 41 36 0,xX 42 36 1,xo 9 (.alloc [.nil,.nil,.nil,.nil]),xS 4 9 41,xv 10 42] (kr [xm 44 2 6,xm 45 4 7,xv 46 8,xc3 47 403 (.t 44) (.t 45) (.t 46),xv 43 47,xX 48 43 0,xX 49 43 1,xo 11 (.alloc [.nil,.nil,.nil,.nil]),xS 4 11 48,xv 12 49] (.seq (kr [xv 50 10,xv 51 12,bT 52 .neq 50 51,xv 53 52,zv 54 10 53,zI 55 .lss 54 0 53,xQ 56 53 55,xv 57 56,zv 58 10 57,za 59 1 9 57,zl 60 1 59 57,ze 61 60 57,xg 62 (.bin .gtr (.t 58) (.t 61)) 57 false,xQ 63 57 62] (kF 63 [xF 2])) (.seq (kr [xm 64 4 4,xc1 65 233 (.t 64),xN 66 65,xv 67 66,za 68 1 4 67,zl 69 1 68 67,ze 70 69 67,za 71 1 3 67,zl 72 1 71 67,ze 73 72 67,xg 74 (.bin .neq (.t 70) (.t 73)) 67 false,xQ 75 67 74] (kF 75 [xa 76 1 5,xl 77 76,xe 78 77,bI 79 .eql 78 0,xv 2 79])) (.seq (kr [xI 13 0] (.blk 0 (.loop (.seq (kr [xv 80 13,xa 81 1 5,xl 82 81,xe 83 82,bT 84 .lss 80 83] (kX 84 0)) (.seq (.blk 1 (kr [xa 87 1 5,xl 88 87,xv 89 13,xD 90 4 88 89,xa 91 3 90,xl 92 91,bI 93 .eql 92 0,xv 94 93,xg 95 (.load 2 true (.t 3)) 94 true,xg 96 (.load 4 true (.t 5)) 94 true,yv 97 13 94,xg 98 (.call 445 [false,false,false] [.t 95,.t 96,.t 97]) 94 true,yN 99 98 94,xP 100 94 99] (kF 100 [xm 101 4 5,xc1 102 235 (.t 101),xv 2 102]))) (xr [xv 85 13,bI 86 .add 85 1,xv 13 86])))))) (.seq (.dreg (.only 0 [] (xm 103 4 5) (.only 1 [] (xc1 104 235 (.t 103)) (.only 2 [] (xv 105 104) (.take 3 (xg 106 (.load 2 true (.t 3)) 105 true) (.take 4 (xg 107 (.load 4 true (.t 5)) 105 true) (.take 6 (xg 109 (.load 4 true (.t 5)) 105 true) (.only 5 [3,4] (xg 108 (.call 401 [false,false] [.t 106,.t 107]) 105 true) (.only 7 [5,6,3,4] (xg 110 (.call 448 [false,false] [.t 108,.t 109]) 105 true) (.only 8 [7,5,6,3,4] (xP 111 105 110) (.only 9 [3,4,6] (xv 2 111) (.done)))))))))))) (.ret))))))))))))⟩
theorem qOs (p:wV) (m:qK) (rounds:Int):(aW p m rounds).2≤(aW p m rounds).1.cores.length:=by
 unfold aW
 split
 ·rename_i h
  simp only [Bool.and_eq_true] at h
  simp only
  rw [(qS5 p _ _ h.1).2]
  exact pS _ _
 ·exact Nat.zero_le _
theorem qNn {p:wV} {m:qK} (h1:qX m=true) (h2:m.cores.length=p.bods.length):qX (aI p m)=true∧(aI p m).cores.length=p.bods.length:=by
 unfold aI
 rw [h1,decide_eq_true h2]
 have:=qB3 p m.cores.length 4 h1
 exact ⟨this.1,this.2.trans h2⟩
theorem qPt {p:wV} {m:qK} (h :¬(qX m=true∧m.cores.length=p.bods.length)):(aI p m).cores.length=0:=by
 unfold aI
 rw [if_neg (by simpa using h)]
 rfl
theorem qNo {p:wV} {r:qK} (hr:qX r=true) (hl:r.cores.length=p.bods.length) (h :∀i,i<r.cores.length→(qJ r i).st=0→aF p r i=true):aI p r=r:=by
 unfold aI
 rw [hr,decide_eq_true hl]
 exact qPs h
theorem qXo (code:List Int):qZ Tryz.prog num 449 [.sl .fz 1 (bys code)] [] (.bool true):=by
 refine EN m449 Tryz.func8 ?_
 unfold m449
 simp only [go_sem,seval]
 repeat refine K ?_
 refine CA [] (qYb code) ?_
 try simp only [go_sem,seval]
 repeat refine K ?_
 by_cases hbig:(1048576:Int)<code.length
 ·try simp only [go_sem,seval,hbig]
  repeat refine K ?_
  refine fz ?_; simp [wJ,wA,wB,qY,-List.drop_one]
 have hb:code.length<2^62:=by omega
 try simp only [go_sem,seval,hbig]
 repeat refine K ?_
 refine CA [] (qEj code hb) ?_
 try simp only [go_sem,seval]
 repeat refine K ?_
 obtain ⟨hp,hm⟩:=qNp code
 have cdf:=qJ7 code hb
 generalize tM code=w at *
 obtain ⟨p,m⟩:=w
 simp only at hp hm cdf⊢
 have cri:=rI p m hp hm
 have crs:=qFv p m hp hm
 have hrm:aG (aI p m):=qJq (qWy p m) (by omega)
 have hr1:=@qNn p m
 have hr0:=@qPt p m
 have hag:=@qNo p (aI p m)
 have cra:=rI p (aI p m) hp hrm
 generalize aI p m=r at *
 have hrl:=hrm.cores
 generalize qLi code=n at *
 have cfi:=qJ4 p m n hp hm
 have cfs:=qIl p m n hp hm
 have hdn:=qOs p m n
 generalize aW p m n=F at *
 obtain ⟨f,dn⟩:=F
 simp only at cfi cfs hdn
 have e2 :¬((dn:Nat):Int)<0:=by omega
 have e3 :¬((f.cores.length:Nat):Int)<(dn:Nat):=by omega
 try simp only [go_sem,seval]
 repeat refine K ?_
 refine CA [] (cri) ?_
 try simp only [go_sem,seval]
 repeat refine K ?_
 try simp only [go_sem,seval]
 repeat refine K ?_
 refine DA [] (crs) ?_
 try simp only [go_sem,seval]
 repeat refine K ?_
 refine DA [] (pJ r hrm) ?_
 try simp only [go_sem,seval]
 repeat refine K ?_
 try simp only [go_sem,seval]
 repeat refine K ?_
 refine CA [] (cdf) ?_
 try simp only [go_sem,seval]
 repeat refine K ?_
 try simp only [go_sem,seval]
 repeat refine K ?_
 refine CA [] (cfi) ?_
 try simp only [go_sem,seval]
 repeat refine K ?_
 try simp only [go_sem,seval]
 repeat refine K ?_
 refine CA [] (cfs) ?_
 try simp only [go_sem,seval]
 repeat refine K ?_
 try simp only [go_sem,seval,e2,e3]
 repeat refine K ?_
 refine CA [] (xH m hm) ?_
 try simp only [go_sem,seval]
 repeat refine K ?_
 by_cases hg :¬(qX m=true∧m.cores.length=p.bods.length)
 ·have he:r.cores.length=0:=hr0 hg
  cases hmo:qX m
  ·try simp only [go_sem,seval,hmo,he]
   repeat refine K ?_
   refine fz ?_; simp [wJ,wA,wB,qY,-List.drop_one]
  ·have hne :¬((m.cores.length:Nat):Int)=(p.bods.length:Nat):=fun e=>hg ⟨hmo,by omega⟩
   try simp only [go_sem,seval,hmo,hne,he]
   repeat refine K ?_
   refine fz ?_; simp [wJ,wA,wB,qY,-List.drop_one]
 obtain ⟨hmo,hml⟩:=Classical.not_not.1 hg
 obtain ⟨g1,g2⟩:=hr1 hmo hml
 have hml2:((m.cores.length:Nat):Int)=(p.bods.length:Nat):=by omega
 try simp only [go_sem,seval,hmo,hml2]
 repeat refine K ?_
 refine wC (ι:=Nat) (fun i=>.mk [(3,.ptr 16 0 0),(5,.ptr 22 0 0),(13,.int .i64 i)] [(16,2,[vC .own p]),(22,4,[qN .own r])] 45) (fun i=>i≤r.cores.length∧∀j,j<i→(qJ r j).st=0→aF p r j=true) (fun i=>r.cores.length-i) 0 ⟨by simp,fun j hj=>by omega⟩ ?_ ?_
 ·refine Sub.trans (Sub.fold1 16 0 10 rfl (by simp [-gD]<;>omega) rfl (by decide) (by decide) rfl) ?_
  simp only [fS,fS2,qA,qC]
  refine Sub.trans (Sub.fold1 16 1 11 rfl (by simp [-gD]<;>omega) rfl (by decide) (by decide) rfl) ?_
  simp only [fS,fS2,qA,qC]
  refine Sub.trans (Sub.fold1 22 0 18 rfl (by simp [-gD]<;>omega) rfl (by decide) (by decide) rfl) ?_
  simp only [fS,fS2,qA,qC]
  refine Sub.trans (Sub.fold1 22 1 19 rfl (by simp [-gD]<;>omega) rfl (by decide) (by decide) rfl) ?_
  simp only [fS,fS2,qA,qC]
  refine Sub.trans (Sub.fold1 22 2 20 rfl (by simp [-gD]<;>omega) rfl (by decide) (by decide) rfl) ?_
  simp only [fS,fS2,qA,qC]
  refine Sub.trans (Sub.fold1 22 3 21 rfl (by simp [-gD]<;>omega) rfl (by decide) (by decide) rfl) ?_
  simp only [fS,fS2,qA,qC]
  refine Sub.shape [] id (by omega) ?_ ?_ ?_ ?_<;>simp [qP]
 ·rintro i ⟨hi,hpre⟩
  simp only [go_sem,seval]
  refine qS (fun hc=>?_) (fun hc=>?_)
  ·simp only [decide_eq_true_eq] at hc
   have hil:i<r.cores.length:=by omega
   have hgk:=yL .own r.cores i hil
   by_cases hst:(r.cores.getD i default).st=0
   ·simp only [go_sem,seval,hgk,hst]
    repeat refine K ?_
    refine CA [] (qBt p r i hp hrl hil) ?_
    try simp only [go_sem,seval]
    repeat refine K ?_
    cases hbt:aF p r i
    ·try simp only [go_sem,seval,hbt]
     repeat refine K ?_
     refine CA [] (fO r hrm) ?_
     try simp only [go_sem,seval]
     repeat refine K ?_
     try simp only [go_sem,seval,g1]
     repeat refine K ?_
     refine fz ?_; simp [wJ,wA,wB,qY,-List.drop_one]
    ·try simp only [go_sem,seval,hbt,qR (i:=i) (by omega)]
     repeat refine K ?_
     refine qT (i+1) ?_ ⟨hil,fun j hj hs=>?_⟩ (by omega)
     ·refine Sub.trans (Sub.fold1 16 0 46 rfl (by simp [-gD]<;>omega) rfl (by decide) (by decide) rfl) ?_
      simp only [fS,fS2,qA,qC]
      refine Sub.trans (Sub.fold1 16 1 47 rfl (by simp [-gD]<;>omega) rfl (by decide) (by decide) rfl) ?_
      simp only [fS,fS2,qA,qC]
      refine Sub.trans (Sub.fold1 22 0 48 rfl (by simp [-gD]<;>omega) rfl (by decide) (by decide) rfl) ?_
      simp only [fS,fS2,qA,qC]
      refine Sub.trans (Sub.fold1 22 1 45 rfl (by simp [-gD]<;>omega) rfl (by decide) (by decide) rfl) ?_
      simp only [fS,fS2,qA,qC]
      refine Sub.trans (Sub.fold1 22 2 49 rfl (by simp [-gD]<;>omega) rfl (by decide) (by decide) rfl) ?_
      simp only [fS,fS2,qA,qC]
      refine Sub.trans (Sub.fold1 22 3 50 rfl (by simp [-gD]<;>omega) rfl (by decide) (by decide) rfl) ?_
      simp only [fS,fS2,qA,qC]
      refine Sub.shape [] id (by omega) ?_ ?_ ?_ ?_<;>simp [qP]
     ·by_cases hji:j=i
      ·rw [hji]; exact hbt
      ·exact hpre j (by omega) hs
   ·simp only [go_sem,seval,hgk,hst,qR (i:=i) (by omega)]
    repeat refine K ?_
    refine qT (i+1) ?_ ⟨hil,fun j hj hs=>?_⟩ (by omega)
    ·refine Sub.trans (Sub.fold1 22 1 45 rfl (by simp [-gD]<;>omega) rfl (by decide) (by decide) rfl) ?_
     simp only [fS,fS2,qA,qC]
     refine Sub.shape [] id (by omega) ?_ ?_ ?_ ?_<;>simp [qP]
    ·by_cases hji:j=i
     ·exact absurd (hji▸hs) hst
     ·exact hpre j (by omega) hs
  ·simp only [decide_eq_false_iff_not] at hc
   have er:=hag g1 g2 (fun j hj hs=>hpre j (by omega) hs)
   rw [er] at cra
   simp only [go_sem,seval]
   repeat refine K ?_
   refine DA [] (fO r hrm) ?_
   try simp only [go_sem,seval]
   repeat refine K ?_
   try simp only [go_sem,seval,g1]
   repeat refine K ?_
   refine DA [] (cra) ?_
   try simp only [go_sem,seval]
   repeat refine K ?_
   refine DA [] (pJ r hrm) ?_
   try simp only [go_sem,seval]
   repeat refine K ?_
   try simp only [go_sem,seval]
   repeat refine K ?_
   refine fz ?_; simp [wJ,wA,wB,qY,-List.drop_one]
end Go.Sep
