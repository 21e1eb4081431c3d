/- Contracts of functions. -/
import Derived.Test.YtebbppogicgpkaaGreatBxx35
namespace Go.Sep
set_option maxHeartbeats 16000000
open Go.Proofs
set_option linter.unusedSimpArgs false
set_option linter.unusedVariables false
set_option maxRecDepth 100000
open Nat renaming reduceAdd → qA, reduceMul → qB, reduceEqDiff → qC, reduceBEq → qD
open Int renaming reduceToNat → qE, reduceEq → qF, reduceLT → qG, reduceLE → qH
open List renaming getD_eq_getElem?_getD → gD
def m455:MFn:=⟨126,[.t 2],kr [xF 2] (.seq (kr [xv 16 0,xc1 17 19 (.t 16)] (kF 17 [xT 2])) (kr [xv 19 0,xo 20 (.call 456 [true] [.t 19]),xv 18 20,xX 21 18 0,xX 22 18 1,xX 23 18 2,xo 3 (.alloc [.nil,.nil]),xo 4 (.alloc [.nil,.nil,.nil,.nil]),xo 5 (.alloc [.nil,.nil,.nil]),xS 2 3 21,xS 4 4 22,xS 3 5 23] (kr [xm 24 2 3,xm 25 4 4,xm 26 3 5,xc3 27 395 (.t 24) (.t 25) (.t 26),xv 6 27] (.seq (kr [xv 28 6,xm 29 2 3,xm 30 4 4,xm 31 3 5,xc3 32 394 (.t 29) (.t 30) (.t 31),xo 33 (.eqB true (.t 28) (.t 32))] (kF 33 [xF 2])) (kr [xm 35 2 3,xc1 36 392 (.t 35),xv 34 36,xX 37 34 0,xX 38 34 1,xo 7 (.alloc [.nil,.nil,.nil,.nil]),xS 4 7 37,xv 8 38] (kr [xm 40 2 3,xc1 41 24 (.t 40),xv 39 41,xX 42 39 0,xX 43 39 1,xo 9 (.alloc [.nil,.nil,.nil]),xS 3 9 42,xv 10 43] (.seq (kr [xv 44 8,xv 45 44,yv 46 10 45,xP 47 45 46,xv 48 47,xg 49 (.load 2 true (.t 3)) 48 true,xg 50 (.load 4 true (.t 7)) 48 true,xg 51 (.load 3 true (.t 9)) 48 true,xg 52 (.call 395 [false,false,false] [.t 49,.t 50,.t 51]) 48 true,yN 53 52 48,xP 54 48 53] (kF 54 [xF 2])) (kr [xv 56 0,xo 57 (.call 457 [true] [.t 56]),xv 55 57,xX 58 55 0,xX 59 55 1,xX 60 55 2,xX 61 55 3,xo 11 (.alloc [.nil,.nil]),xo 12 (.alloc [.nil,.nil,.nil,.nil]),xo 13 (.alloc [.nil,.nil,.nil]),xS 2 11 58,xS 4 12 59,xS 3 13 60,xv 14 61] (.seq (.seq (.dreg (.take 0 (xm 62 2 11) (.take 1 (xm 63 4 12) (.take 2 (xm 64 3 13) (.take 3 (xv 65 14) (.take 5 (xm 67 2 11) (.take 6 (xm 68 4 12) (.take 7 (xm 69 3 13) (.take 8 (xv 70 14) (.only 4 [0,1,2,3] (xo 66 (.call 175 [false,false,false,false] [.t 62,.t 63,.t 64,.t 65])) (.only 9 [4,5,6,7,8,0,1,2,3] (xo 71 (.call 174 [false,false,false,false] [.t 67,.t 68,.t 69,.t 70])) (.only 10 [4,9,0,1,2,3,5,6,7,8] (xo 72 (.eqB true (.t 66) (.t 71))) (.only 11 [9,4,5,6,7,8,0,1,2,3] (xv 73 72) (.take 12 (xg 74 (.load 2 true (.t 11)) 73 false) (.take 13 (xg 75 (.load 4 true (.t 12)) 73 false) (.take 14 (xg 76 (.load 3 true (.t 13)) 73 false) (.take 15 (zv 77 14 73) (.take 17 (xg 79 (.load 2 true (.t 11)) 73 false) (.take 18 (xg 80 (.load 4 true (.t 12)) 73 false) (.take 19 (xg 81 (.load 3 true (.t 13)) 73 false) (.take 20 (zv 82 14 73) (.only 16 [11,12,13,14,15,9,4,5,6,7,8,0,1,2,3] (xg 78 (.call 420 [false,false,false,false] [.t 74,.t 75,.t 76,.t 77]) 73 false) (.only 21 [11,16,17,18,19,20,9,12,13,14,15,4,5,6,7,8,0,1,2,3] (xg 83 (.call 418 [false,false,false,false] [.t 79,.t 80,.t 81,.t 82]) 73 false) (.only 22 [11,16,21,9,12,13,14,15,17,18,19,20,4,5,6,7,8,0,1,2,3] (xg 84 (.eqB true (.t 78) (.t 83)) 73 false) (.only 23 [11,22,9,16,21,4,5,6,7,8,12,13,14,15,17,18,19,20,0,1,2,3] (xQ 85 73 84) (.done)))))))))))))))))))))))))) (kF 85 [xF 2])) (.seq (kr [xI 15 0] (.blk 0 (.loop (.seq (kr [xv 86 15,xa 87 1 4,xl 88 87,xe 89 88,bT 90 .lss 86 89,xv 91 90,yv 92 6 91,xP 93 91 92] (kX 93 0)) (.seq (.blk 1 (kr [xm 96 2 3,xm 97 4 4,xm 98 3 5,xv 99 15,xo 100 (.call 175 [false,false,false,false] [.t 96,.t 97,.t 98,.t 99]),xN 101 100,xv 102 101,xg 103 (.load 2 true (.t 3)) 102 false,xg 104 (.load 4 true (.t 4)) 102 false,zv 105 15 102,xg 106 (.call 445 [false,false,false] [.t 103,.t 104,.t 105]) 102 false,zv 107 106 102,ya 108 0 5 107,yl 109 1 108 107,yv 110 15 107,xg 111 (.iad 3 (.t 109) (.t 110)) 107 true,ya 112 2 111 107,yl 113 1 112 107,yI 114 .neq 113 0 107,xg 115 (.pick (.t 107) (.t 114) (.c (.bool false))) 102 false,xQ 116 102 115] (kF 116 [xF 2]))) (xr [xv 94 15,bI 95 .add 94 1,xv 15 95])))))) (kR [xv 117 6,xN 118 117,xv 119 118,za 120 3 4 119,zl 121 1 120 119,za 122 2 5 119,zl 123 1 122 119,xg 124 (.call 160 [false,false] [.t 121,.t 123]) 119 false,xQ 125 119 124,xv 2 125])))))))))))⟩
theorem qP6 (p:wR):kL (jC p).1:=by
 by_cases h:jQ p=true
 ·exact rU (fU h)
 ·unfold jC
  rw [if_neg h]
  exact ⟨by simp,by simp,by simp,by simp,by simp⟩
theorem qOy {p:wR} {m:qO} {s:wC} (h:same p m s=true):m.cores.length=s.ths.length∧m.tr=s.tr∧∀i,i<m.cores.length→jP p m s i=true∧(aG p m i=true→(s.ths.getD i default).st=0):=by
 unfold same at h
 simp only [Bool.and_eq_true,decide_eq_true_eq,oD] at h
 obtain ⟨⟨⟨⟨_,h1⟩,h2⟩,h3⟩,_⟩:=h
 refine ⟨h1,h2,fun i hi=>⟨h3 i hi,fun hb=>?_⟩⟩
 have hc:=h3 i hi
 unfold aG at hb
 simp only [Bool.and_eq_true,decide_eq_true_eq,Int.toNat_natCast] at hb
 obtain ⟨⟨b1,b2⟩,b3⟩:=hb
 unfold jP at hc
 rw [b1,decide_eq_true (show (i:Int)<s.ths.length by omega)] at hc
 simp only [Int.toNat_natCast,Bool.and_self,if_true] at hc
 split at hc
 ·simp at hc
 ·simp only [b2,b3,ne_eq,not_true_eq_false,if_false,if_true,Bool.and_eq_true,decide_eq_true_eq] at hc
  exact hc.1.1
theorem qTo (code:List Int):qU Tryz.prog num 455 [.sl .fz 1 (bys code)] [] (.bool true):=by
 refine EN m455 Tryz.func11 ?_
 unfold m455
 simp only [go_sem,seval]
 repeat refine K ?_
 refine CA [] (qXd code) ?_
 try simp only [go_sem,seval]
 repeat refine K ?_
 by_cases hbig:(1048576:Int)<code.length
 ·try simp only [go_sem,seval,hbig]
  repeat refine K ?_
  refine fz ?_; simp [qZ,qQ,qR,qN,-List.drop_one]
 have hb:code.length<2^62:=by omega
 try simp only [go_sem,seval,hbig]
 repeat refine K ?_
 refine CA [] (qO0 code hb) ?_
 try simp only [go_sem,seval]
 repeat refine K ?_
 obtain ⟨hp,hm,hs⟩:=qIi code (qA2 code)
 have cdc:=qEv code hb
 generalize dM code (qA2 code)=w at *
 obtain ⟨⟨p,m,s⟩,d⟩:=w
 simp only at hp hm hs cdc⊢
 generalize qX1 code d=who at *
 have cis:=qEc p m s hp hm hs
 have css:=qMn p m s hp hm hs
 have cic:=aY p m s who hp hm hs
 have csc:=rA p m s who hp hm hs
 have cih:=rK p m s who hp hm hs
 have csh:=rD p m s who hp hm hs
 have hst:=@qOy p m s
 have cl:=qIu p hp
 have csn:=qDi p hp.caps hp.bods hp.body'
 have cls:=qEc p (launch p).1 (jC p).1 hp (qCv (qUo p) (by omega)) (qP6 p)
 have hL:(launch p).2=true→same p (launch p).1 (jC p).1=true:=fun h=>(Inv.launch h).same
 generalize same p m s=b at *
 generalize same p (launch p).1 (jC p).1=b2 at *
 generalize jP p m s who=x1 at *
 generalize vB p m s who=x2 at *
 generalize launch p=LL at *
 obtain ⟨lm,lb⟩:=LL
 generalize jC p=N at *
 obtain ⟨ns,nb⟩:=N
 simp only at cl csn cls hL
 have eb:(b==b)=true:=by simp
 have e1:(x1==x1)=true:=by simp
 have e2:(x2==x2)=true:=by simp
 try simp only [go_sem,seval]
 repeat refine K ?_
 refine CA [] (cis) ?_
 try simp only [go_sem,seval]
 repeat refine K ?_
 try simp only [go_sem,seval]
 repeat refine K ?_
 refine CA [] (css) ?_
 try simp only [go_sem,seval]
 repeat refine K ?_
 try simp only [go_sem,seval,eb]
 repeat refine K ?_
 refine CA [] (cl) ?_
 try simp only [go_sem,seval]
 repeat refine K ?_
 try simp only [go_sem,seval]
 repeat refine K ?_
 refine CA [] (csn) ?_
 try simp only [go_sem,seval]
 repeat refine K ?_
 try simp only [go_sem,seval]
 repeat refine K ?_
 have hcut:(lb=false∨(lb=true∧nb=false))∨(lb=true∧nb=true∧b2=true):=by
  cases lb
  ·exact .inl (.inl rfl)
  ·cases nb
   ·exact .inl (.inr ⟨rfl,rfl⟩)
   ·exact .inr ⟨rfl,rfl,hL rfl⟩
 rcases hcut with (rfl | ⟨rfl,rfl⟩) | ⟨rfl,rfl,rfl⟩
 ·try simp only [go_sem,seval]
  repeat refine K ?_
  refine CA [] (cdc) ?_
  try simp only [go_sem,seval]
  repeat refine K ?_
  try simp only [go_sem,seval]
  repeat refine K ?_
  refine DA [] (cic) ?_
  try simp only [go_sem,seval]
  repeat refine K ?_
  try simp only [go_sem,seval]
  repeat refine K ?_
  refine DA [] (csc) ?_
  try simp only [go_sem,seval]
  repeat refine K ?_
  try simp only [go_sem,seval,e1]
  repeat refine K ?_
  refine DA [] (cih) ?_
  try simp only [go_sem,seval]
  repeat refine K ?_
  try simp only [go_sem,seval]
  repeat refine K ?_
  refine DA [] (csh) ?_
  try simp only [go_sem,seval]
  repeat refine K ?_
  try simp only [go_sem,seval,e2]
  repeat refine K ?_
  refine wB (ι:=Nat) (fun i=>.mk [(3,.ptr 19 0 0),(4,.ptr 20 0 0),(5,.ptr 21 0 0),(6,.bool b),(15,.int .i64 i)] [(19,2,[jS .own p]),(20,4,[wG .own m]),(21,3,[jB .own s])] 43) (fun i=>i≤m.cores.length) (fun i=>m.cores.length-i) 0 (by simp) ?_ ?_
  ·refine Sub.trans (Sub.fold1 19 0 10 rfl (by simp [-gD]<;>omega) rfl (by decide) (by decide) rfl) ?_
   simp only [fS,fS2,qA,qC]
   refine Sub.trans (Sub.fold1 19 1 11 rfl (by simp [-gD]<;>omega) rfl (by decide) (by decide) rfl) ?_
   simp only [fS,fS2,qA,qC]
   refine Sub.trans (Sub.fold1 20 0 12 rfl (by simp [-gD]<;>omega) rfl (by decide) (by decide) rfl) ?_
   simp only [fS,fS2,qA,qC]
   refine Sub.trans (Sub.fold1 20 1 13 rfl (by simp [-gD]<;>omega) rfl (by decide) (by decide) rfl) ?_
   simp only [fS,fS2,qA,qC]
   refine Sub.trans (Sub.fold1 20 2 14 rfl (by simp [-gD]<;>omega) rfl (by decide) (by decide) rfl) ?_
   simp only [fS,fS2,qA,qC]
   refine Sub.trans (Sub.fold1 20 3 15 rfl (by simp [-gD]<;>omega) rfl (by decide) (by decide) rfl) ?_
   simp only [fS,fS2,qA,qC]
   refine Sub.trans (Sub.fold1 21 0 16 rfl (by simp [-gD]<;>omega) rfl (by decide) (by decide) rfl) ?_
   simp only [fS,fS2,qA,qC]
   refine Sub.trans (Sub.fold1 21 1 17 rfl (by simp [-gD]<;>omega) rfl (by decide) (by decide) rfl) ?_
   simp only [fS,fS2,qA,qC]
   refine Sub.trans (Sub.fold1 21 2 18 rfl (by simp [-gD]<;>omega) rfl (by decide) (by decide) rfl) ?_
   simp only [fS,fS2,qA,qC]
   refine Sub.shape [] id (by omega) ?_ ?_ ?_ ?_<;>simp [qM]
  ·intro i hi
   by_cases hc:(i:Int)<m.cores.length
   ·cases b
    ·simp only [go_sem,seval,hc]
     repeat refine K ?_
     refine fz ?_; simp [qZ,qQ,qR,qN,-List.drop_one]
    ·obtain ⟨f1,f2,f3⟩:=hst rfl
     have hil:i<m.cores.length:=by omega
     have hml:=hm.cores
     obtain ⟨g1,g2⟩:=f3 i hil
     have ci:=aY p m s i hp hm hs
     rw [g1] at ci
     simp only [go_sem,seval,hc]
     repeat refine K ?_
     refine CA [] (ci) ?_
     try simp only [go_sem,seval]
     repeat refine K ?_
     try simp only [go_sem,seval]
     repeat refine K ?_
     refine CA [] (fZ p m i hp hm.cores hil) ?_
     try simp only [go_sem,seval]
     repeat refine K ?_
     cases hbt:aG p m i
     ·try simp only [go_sem,seval,hbt,qS (i:=i) (by omega)]
      repeat refine K ?_
      refine qT (i+1) ?_ hil (by omega)
      refine Sub.trans (Sub.fold1 19 0 44 rfl (by simp [-gD]<;>omega) rfl (by decide) (by decide) rfl) ?_
      simp only [fS,fS2,qA,qC]
      refine Sub.trans (Sub.fold1 19 1 45 rfl (by simp [-gD]<;>omega) rfl (by decide) (by decide) rfl) ?_
      simp only [fS,fS2,qA,qC]
      refine Sub.trans (Sub.fold1 20 0 46 rfl (by simp [-gD]<;>omega) rfl (by decide) (by decide) rfl) ?_
      simp only [fS,fS2,qA,qC]
      refine Sub.trans (Sub.fold1 20 1 43 rfl (by simp [-gD]<;>omega) rfl (by decide) (by decide) rfl) ?_
      simp only [fS,fS2,qA,qC]
      refine Sub.trans (Sub.fold1 20 2 47 rfl (by simp [-gD]<;>omega) rfl (by decide) (by decide) rfl) ?_
      simp only [fS,fS2,qA,qC]
      refine Sub.trans (Sub.fold1 20 3 48 rfl (by simp [-gD]<;>omega) rfl (by decide) (by decide) rfl) ?_
      simp only [fS,fS2,qA,qC]
      refine Sub.trans (Sub.fold1 21 0 49 rfl (by simp [-gD]<;>omega) rfl (by decide) (by decide) rfl) ?_
      simp only [fS,fS2,qA,qC]
      refine Sub.trans (Sub.fold1 21 1 50 rfl (by simp [-gD]<;>omega) rfl (by decide) (by decide) rfl) ?_
      simp only [fS,fS2,qA,qC]
      refine Sub.trans (Sub.fold1 21 2 51 rfl (by simp [-gD]<;>omega) rfl (by decide) (by decide) rfl) ?_
      simp only [fS,fS2,qA,qC]
      refine Sub.shape [] id (by omega) ?_ ?_ ?_ ?_<;>simp [qM]
     ·have hs0:=g2 hbt
      have hgt:=wH .own s.ths i (by omega)
      try simp only [go_sem,seval,hbt]
      repeat refine K ?_
      try simp only [go_sem,seval,hgt,hs0,qS (i:=i) (by omega)]
      repeat refine K ?_
      refine qT (i+1) ?_ hil (by omega)
      refine Sub.trans (Sub.fold1 19 0 44 rfl (by simp [-gD]<;>omega) rfl (by decide) (by decide) rfl) ?_
      simp only [fS,fS2,qA,qC]
      refine Sub.trans (Sub.fold1 19 1 45 rfl (by simp [-gD]<;>omega) rfl (by decide) (by decide) rfl) ?_
      simp only [fS,fS2,qA,qC]
      refine Sub.trans (Sub.fold1 20 0 46 rfl (by simp [-gD]<;>omega) rfl (by decide) (by decide) rfl) ?_
      simp only [fS,fS2,qA,qC]
      refine Sub.trans (Sub.fold1 20 1 43 rfl (by simp [-gD]<;>omega) rfl (by decide) (by decide) rfl) ?_
      simp only [fS,fS2,qA,qC]
      refine Sub.trans (Sub.fold1 20 2 47 rfl (by simp [-gD]<;>omega) rfl (by decide) (by decide) rfl) ?_
      simp only [fS,fS2,qA,qC]
      refine Sub.trans (Sub.fold1 20 3 48 rfl (by simp [-gD]<;>omega) rfl (by decide) (by decide) rfl) ?_
      simp only [fS,fS2,qA,qC]
      refine Sub.trans (Sub.fold1 21 0 49 rfl (by simp [-gD]<;>omega) rfl (by decide) (by decide) rfl) ?_
      simp only [fS,fS2,qA,qC]
      refine Sub.trans (Sub.fold1 21 1 50 rfl (by simp [-gD]<;>omega) rfl (by decide) (by decide) rfl) ?_
      simp only [fS,fS2,qA,qC]
      refine Sub.trans (Sub.fold1 21 2 51 rfl (by simp [-gD]<;>omega) rfl (by decide) (by decide) rfl) ?_
      simp only [fS,fS2,qA,qC]
      refine Sub.shape [] id (by omega) ?_ ?_ ?_ ?_<;>simp [qM]
   ·cases b
    ·simp only [go_sem,seval,hc]
     repeat refine K ?_
     refine fz ?_; simp [qZ,qQ,qR,qN,-List.drop_one]
    ·obtain ⟨f1,f2,f3⟩:=hst rfl
     simp only [go_sem,seval,hc]
     repeat refine K ?_
     refine CA [] (oZ m.tr s.tr (by have:=hm.tr; omega)) ?_
     try simp only [go_sem,seval]
     repeat refine K ?_
     try simp only [go_sem,seval,f2]
     repeat refine K ?_
     refine fz ?_; simp [qZ,qQ,qR,qN,-List.drop_one]
 ·try simp only [go_sem,seval]
  repeat refine K ?_
  refine CA [] (cdc) ?_
  try simp only [go_sem,seval]
  repeat refine K ?_
  try simp only [go_sem,seval]
  repeat refine K ?_
  refine DA [] (cic) ?_
  try simp only [go_sem,seval]
  repeat refine K ?_
  try simp only [go_sem,seval]
  repeat refine K ?_
  refine DA [] (csc) ?_
  try simp only [go_sem,seval]
  repeat refine K ?_
  try simp only [go_sem,seval,e1]
  repeat refine K ?_
  refine DA [] (cih) ?_
  try simp only [go_sem,seval]
  repeat refine K ?_
  try simp only [go_sem,seval]
  repeat refine K ?_
  refine DA [] (csh) ?_
  try simp only [go_sem,seval]
  repeat refine K ?_
  try simp only [go_sem,seval,e2]
  repeat refine K ?_
  refine wB (ι:=Nat) (fun i=>.mk [(3,.ptr 19 0 0),(4,.ptr 20 0 0),(5,.ptr 21 0 0),(6,.bool b),(15,.int .i64 i)] [(19,2,[jS .own p]),(20,4,[wG .own m]),(21,3,[jB .own s])] 43) (fun i=>i≤m.cores.length) (fun i=>m.cores.length-i) 0 (by simp) ?_ ?_
  ·refine Sub.trans (Sub.fold1 19 0 10 rfl (by simp [-gD]<;>omega) rfl (by decide) (by decide) rfl) ?_
   simp only [fS,fS2,qA,qC]
   refine Sub.trans (Sub.fold1 19 1 11 rfl (by simp [-gD]<;>omega) rfl (by decide) (by decide) rfl) ?_
   simp only [fS,fS2,qA,qC]
   refine Sub.trans (Sub.fold1 20 0 12 rfl (by simp [-gD]<;>omega) rfl (by decide) (by decide) rfl) ?_
   simp only [fS,fS2,qA,qC]
   refine Sub.trans (Sub.fold1 20 1 13 rfl (by simp [-gD]<;>omega) rfl (by decide) (by decide) rfl) ?_
   simp only [fS,fS2,qA,qC]
   refine Sub.trans (Sub.fold1 20 2 14 rfl (by simp [-gD]<;>omega) rfl (by decide) (by decide) rfl) ?_
   simp only [fS,fS2,qA,qC]
   refine Sub.trans (Sub.fold1 20 3 15 rfl (by simp [-gD]<;>omega) rfl (by decide) (by decide) rfl) ?_
   simp only [fS,fS2,qA,qC]
   refine Sub.trans (Sub.fold1 21 0 16 rfl (by simp [-gD]<;>omega) rfl (by decide) (by decide) rfl) ?_
   simp only [fS,fS2,qA,qC]
   refine Sub.trans (Sub.fold1 21 1 17 rfl (by simp [-gD]<;>omega) rfl (by decide) (by decide) rfl) ?_
   simp only [fS,fS2,qA,qC]
   refine Sub.trans (Sub.fold1 21 2 18 rfl (by simp [-gD]<;>omega) rfl (by decide) (by decide) rfl) ?_
   simp only [fS,fS2,qA,qC]
   refine Sub.shape [] id (by omega) ?_ ?_ ?_ ?_<;>simp [qM]
  ·intro i hi
   by_cases hc:(i:Int)<m.cores.length
   ·cases b
    ·simp only [go_sem,seval,hc]
     repeat refine K ?_
     refine fz ?_; simp [qZ,qQ,qR,qN,-List.drop_one]
    ·obtain ⟨f1,f2,f3⟩:=hst rfl
     have hil:i<m.cores.length:=by omega
     have hml:=hm.cores
     obtain ⟨g1,g2⟩:=f3 i hil
     have ci:=aY p m s i hp hm hs
     rw [g1] at ci
     simp only [go_sem,seval,hc]
     repeat refine K ?_
     refine CA [] (ci) ?_
     try simp only [go_sem,seval]
     repeat refine K ?_
     try simp only [go_sem,seval]
     repeat refine K ?_
     refine CA [] (fZ p m i hp hm.cores hil) ?_
     try simp only [go_sem,seval]
     repeat refine K ?_
     cases hbt:aG p m i
     ·try simp only [go_sem,seval,hbt,qS (i:=i) (by omega)]
      repeat refine K ?_
      refine qT (i+1) ?_ hil (by omega)
      refine Sub.trans (Sub.fold1 19 0 44 rfl (by simp [-gD]<;>omega) rfl (by decide) (by decide) rfl) ?_
      simp only [fS,fS2,qA,qC]
      refine Sub.trans (Sub.fold1 19 1 45 rfl (by simp [-gD]<;>omega) rfl (by decide) (by decide) rfl) ?_
      simp only [fS,fS2,qA,qC]
      refine Sub.trans (Sub.fold1 20 0 46 rfl (by simp [-gD]<;>omega) rfl (by decide) (by decide) rfl) ?_
      simp only [fS,fS2,qA,qC]
      refine Sub.trans (Sub.fold1 20 1 43 rfl (by simp [-gD]<;>omega) rfl (by decide) (by decide) rfl) ?_
      simp only [fS,fS2,qA,qC]
      refine Sub.trans (Sub.fold1 20 2 47 rfl (by simp [-gD]<;>omega) rfl (by decide) (by decide) rfl) ?_
      simp only [fS,fS2,qA,qC]
      refine Sub.trans (Sub.fold1 20 3 48 rfl (by simp [-gD]<;>omega) rfl (by decide) (by decide) rfl) ?_
      simp only [fS,fS2,qA,qC]
      refine Sub.trans (Sub.fold1 21 0 49 rfl (by simp [-gD]<;>omega) rfl (by decide) (by decide) rfl) ?_
      simp only [fS,fS2,qA,qC]
      refine Sub.trans (Sub.fold1 21 1 50 rfl (by simp [-gD]<;>omega) rfl (by decide) (by decide) rfl) ?_
      simp only [fS,fS2,qA,qC]
      refine Sub.trans (Sub.fold1 21 2 51 rfl (by simp [-gD]<;>omega) rfl (by decide) (by decide) rfl) ?_
      simp only [fS,fS2,qA,qC]
      refine Sub.shape [] id (by omega) ?_ ?_ ?_ ?_<;>simp [qM]
     ·have hs0:=g2 hbt
      have hgt:=wH .own s.ths i (by omega)
      try simp only [go_sem,seval,hbt]
      repeat refine K ?_
      try simp only [go_sem,seval,hgt,hs0,qS (i:=i) (by omega)]
      repeat refine K ?_
      refine qT (i+1) ?_ hil (by omega)
      refine Sub.trans (Sub.fold1 19 0 44 rfl (by simp [-gD]<;>omega) rfl (by decide) (by decide) rfl) ?_
      simp only [fS,fS2,qA,qC]
      refine Sub.trans (Sub.fold1 19 1 45 rfl (by simp [-gD]<;>omega) rfl (by decide) (by decide) rfl) ?_
      simp only [fS,fS2,qA,qC]
      refine Sub.trans (Sub.fold1 20 0 46 rfl (by simp [-gD]<;>omega) rfl (by decide) (by decide) rfl) ?_
      simp only [fS,fS2,qA,qC]
      refine Sub.trans (Sub.fold1 20 1 43 rfl (by simp [-gD]<;>omega) rfl (by decide) (by decide) rfl) ?_
      simp only [fS,fS2,qA,qC]
      refine Sub.trans (Sub.fold1 20 2 47 rfl (by simp [-gD]<;>omega) rfl (by decide) (by decide) rfl) ?_
      simp only [fS,fS2,qA,qC]
      refine Sub.trans (Sub.fold1 20 3 48 rfl (by simp [-gD]<;>omega) rfl (by decide) (by decide) rfl) ?_
      simp only [fS,fS2,qA,qC]
      refine Sub.trans (Sub.fold1 21 0 49 rfl (by simp [-gD]<;>omega) rfl (by decide) (by decide) rfl) ?_
      simp only [fS,fS2,qA,qC]
      refine Sub.trans (Sub.fold1 21 1 50 rfl (by simp [-gD]<;>omega) rfl (by decide) (by decide) rfl) ?_
      simp only [fS,fS2,qA,qC]
      refine Sub.trans (Sub.fold1 21 2 51 rfl (by simp [-gD]<;>omega) rfl (by decide) (by decide) rfl) ?_
      simp only [fS,fS2,qA,qC]
      refine Sub.shape [] id (by omega) ?_ ?_ ?_ ?_<;>simp [qM]
   ·cases b
    ·simp only [go_sem,seval,hc]
     repeat refine K ?_
     refine fz ?_; simp [qZ,qQ,qR,qN,-List.drop_one]
    ·obtain ⟨f1,f2,f3⟩:=hst rfl
     simp only [go_sem,seval,hc]
     repeat refine K ?_
     refine CA [] (oZ m.tr s.tr (by have:=hm.tr; omega)) ?_
     try simp only [go_sem,seval]
     repeat refine K ?_
     try simp only [go_sem,seval,f2]
     repeat refine K ?_
     refine fz ?_; simp [qZ,qQ,qR,qN,-List.drop_one]
 ·try simp only [go_sem,seval]
  repeat refine K ?_
  refine CA [] (cls) ?_
  try simp only [go_sem,seval]
  repeat refine K ?_
  try simp only [go_sem,seval]
  repeat refine K ?_
  refine CA [] (cdc) ?_
  try simp only [go_sem,seval]
  repeat refine K ?_
  try simp only [go_sem,seval]
  repeat refine K ?_
  refine DA [] (cic) ?_
  try simp only [go_sem,seval]
  repeat refine K ?_
  try simp only [go_sem,seval]
  repeat refine K ?_
  refine DA [] (csc) ?_
  try simp only [go_sem,seval]
  repeat refine K ?_
  try simp only [go_sem,seval,e1]
  repeat refine K ?_
  refine DA [] (cih) ?_
  try simp only [go_sem,seval]
  repeat refine K ?_
  try simp only [go_sem,seval]
  repeat refine K ?_
  refine DA [] (csh) ?_
  try simp only [go_sem,seval]
  repeat refine K ?_
  try simp only [go_sem,seval,e2]
  repeat refine K ?_
  refine wB (ι:=Nat) (fun i=>.mk [(3,.ptr 19 0 0),(4,.ptr 20 0 0),(5,.ptr 21 0 0),(6,.bool b),(15,.int .i64 i)] [(19,2,[jS .own p]),(20,4,[wG .own m]),(21,3,[jB .own s])] 43) (fun i=>i≤m.cores.length) (fun i=>m.cores.length-i) 0 (by simp) ?_ ?_
  ·refine Sub.trans (Sub.fold1 19 0 10 rfl (by simp [-gD]<;>omega) rfl (by decide) (by decide) rfl) ?_
   simp only [fS,fS2,qA,qC]
   refine Sub.trans (Sub.fold1 19 1 11 rfl (by simp [-gD]<;>omega) rfl (by decide) (by decide) rfl) ?_
   simp only [fS,fS2,qA,qC]
   refine Sub.trans (Sub.fold1 20 0 12 rfl (by simp [-gD]<;>omega) rfl (by decide) (by decide) rfl) ?_
   simp only [fS,fS2,qA,qC]
   refine Sub.trans (Sub.fold1 20 1 13 rfl (by simp [-gD]<;>omega) rfl (by decide) (by decide) rfl) ?_
   simp only [fS,fS2,qA,qC]
   refine Sub.trans (Sub.fold1 20 2 14 rfl (by simp [-gD]<;>omega) rfl (by decide) (by decide) rfl) ?_
   simp only [fS,fS2,qA,qC]
   refine Sub.trans (Sub.fold1 20 3 15 rfl (by simp [-gD]<;>omega) rfl (by decide) (by decide) rfl) ?_
   simp only [fS,fS2,qA,qC]
   refine Sub.trans (Sub.fold1 21 0 16 rfl (by simp [-gD]<;>omega) rfl (by decide) (by decide) rfl) ?_
   simp only [fS,fS2,qA,qC]
   refine Sub.trans (Sub.fold1 21 1 17 rfl (by simp [-gD]<;>omega) rfl (by decide) (by decide) rfl) ?_
   simp only [fS,fS2,qA,qC]
   refine Sub.trans (Sub.fold1 21 2 18 rfl (by simp [-gD]<;>omega) rfl (by decide) (by decide) rfl) ?_
   simp only [fS,fS2,qA,qC]
   refine Sub.shape [] id (by omega) ?_ ?_ ?_ ?_<;>simp [qM]
  ·intro i hi
   by_cases hc:(i:Int)<m.cores.length
   ·cases b
    ·simp only [go_sem,seval,hc]
     repeat refine K ?_
     refine fz ?_; simp [qZ,qQ,qR,qN,-List.drop_one]
    ·obtain ⟨f1,f2,f3⟩:=hst rfl
     have hil:i<m.cores.length:=by omega
     have hml:=hm.cores
     obtain ⟨g1,g2⟩:=f3 i hil
     have ci:=aY p m s i hp hm hs
     rw [g1] at ci
     simp only [go_sem,seval,hc]
     repeat refine K ?_
     refine CA [] (ci) ?_
     try simp only [go_sem,seval]
     repeat refine K ?_
     try simp only [go_sem,seval]
     repeat refine K ?_
     refine CA [] (fZ p m i hp hm.cores hil) ?_
     try simp only [go_sem,seval]
     repeat refine K ?_
     cases hbt:aG p m i
     ·try simp only [go_sem,seval,hbt,qS (i:=i) (by omega)]
      repeat refine K ?_
      refine qT (i+1) ?_ hil (by omega)
      refine Sub.trans (Sub.fold1 19 0 44 rfl (by simp [-gD]<;>omega) rfl (by decide) (by decide) rfl) ?_
      simp only [fS,fS2,qA,qC]
      refine Sub.trans (Sub.fold1 19 1 45 rfl (by simp [-gD]<;>omega) rfl (by decide) (by decide) rfl) ?_
      simp only [fS,fS2,qA,qC]
      refine Sub.trans (Sub.fold1 20 0 46 rfl (by simp [-gD]<;>omega) rfl (by decide) (by decide) rfl) ?_
      simp only [fS,fS2,qA,qC]
      refine Sub.trans (Sub.fold1 20 1 43 rfl (by simp [-gD]<;>omega) rfl (by decide) (by decide) rfl) ?_
      simp only [fS,fS2,qA,qC]
      refine Sub.trans (Sub.fold1 20 2 47 rfl (by simp [-gD]<;>omega) rfl (by decide) (by decide) rfl) ?_
      simp only [fS,fS2,qA,qC]
      refine Sub.trans (Sub.fold1 20 3 48 rfl (by simp [-gD]<;>omega) rfl (by decide) (by decide) rfl) ?_
      simp only [fS,fS2,qA,qC]
      refine Sub.trans (Sub.fold1 21 0 49 rfl (by simp [-gD]<;>omega) rfl (by decide) (by decide) rfl) ?_
      simp only [fS,fS2,qA,qC]
      refine Sub.trans (Sub.fold1 21 1 50 rfl (by simp [-gD]<;>omega) rfl (by decide) (by decide) rfl) ?_
      simp only [fS,fS2,qA,qC]
      refine Sub.trans (Sub.fold1 21 2 51 rfl (by simp [-gD]<;>omega) rfl (by decide) (by decide) rfl) ?_
      simp only [fS,fS2,qA,qC]
      refine Sub.shape [] id (by omega) ?_ ?_ ?_ ?_<;>simp [qM]
     ·have hs0:=g2 hbt
      have hgt:=wH .own s.ths i (by omega)
      try simp only [go_sem,seval,hbt]
      repeat refine K ?_
      try simp only [go_sem,seval,hgt,hs0,qS (i:=i) (by omega)]
      repeat refine K ?_
      refine qT (i+1) ?_ hil (by omega)
      refine Sub.trans (Sub.fold1 19 0 44 rfl (by simp [-gD]<;>omega) rfl (by decide) (by decide) rfl) ?_
      simp only [fS,fS2,qA,qC]
      refine Sub.trans (Sub.fold1 19 1 45 rfl (by simp [-gD]<;>omega) rfl (by decide) (by decide) rfl) ?_
      simp only [fS,fS2,qA,qC]
      refine Sub.trans (Sub.fold1 20 0 46 rfl (by simp [-gD]<;>omega) rfl (by decide) (by decide) rfl) ?_
      simp only [fS,fS2,qA,qC]
      refine Sub.trans (Sub.fold1 20 1 43 rfl (by simp [-gD]<;>omega) rfl (by decide) (by decide) rfl) ?_
      simp only [fS,fS2,qA,qC]
      refine Sub.trans (Sub.fold1 20 2 47 rfl (by simp [-gD]<;>omega) rfl (by decide) (by decide) rfl) ?_
      simp only [fS,fS2,qA,qC]
      refine Sub.trans (Sub.fold1 20 3 48 rfl (by simp [-gD]<;>omega) rfl (by decide) (by decide) rfl) ?_
      simp only [fS,fS2,qA,qC]
      refine Sub.trans (Sub.fold1 21 0 49 rfl (by simp [-gD]<;>omega) rfl (by decide) (by decide) rfl) ?_
      simp only [fS,fS2,qA,qC]
      refine Sub.trans (Sub.fold1 21 1 50 rfl (by simp [-gD]<;>omega) rfl (by decide) (by decide) rfl) ?_
      simp only [fS,fS2,qA,qC]
      refine Sub.trans (Sub.fold1 21 2 51 rfl (by simp [-gD]<;>omega) rfl (by decide) (by decide) rfl) ?_
      simp only [fS,fS2,qA,qC]
      refine Sub.shape [] id (by omega) ?_ ?_ ?_ ?_<;>simp [qM]
   ·cases b
    ·simp only [go_sem,seval,hc]
     repeat refine K ?_
     refine fz ?_; simp [qZ,qQ,qR,qN,-List.drop_one]
    ·obtain ⟨f1,f2,f3⟩:=hst rfl
     simp only [go_sem,seval,hc]
     repeat refine K ?_
     refine CA [] (oZ m.tr s.tr (by have:=hm.tr; omega)) ?_
     try simp only [go_sem,seval]
     repeat refine K ?_
     try simp only [go_sem,seval,f2]
     repeat refine K ?_
     refine fz ?_; simp [qZ,qQ,qR,qN,-List.drop_one]
end Go.Sep
