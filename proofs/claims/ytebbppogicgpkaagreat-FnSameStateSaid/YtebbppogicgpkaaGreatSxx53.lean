/- Contracts of functions. -/
import Derived.Test.YtebbppogicgpkaaGreatSxx40
import Derived.Test.YtebbppogicgpkaaGreatSxx45
import Derived.Test.YtebbppogicgpkaaGreatSxx46
namespace Go.Sep
set_option maxHeartbeats 16000000
open Go.Proofs
set_option linter.unusedSimpArgs false
set_option linter.unusedVariables false
set_option maxRecDepth 100000
open Nat renaming reduceAdd → qA, reduceMul → qB, reduceEqDiff → qC, reduceBEq → qD
open Int renaming reduceToNat → qE, reduceEq → qF, reduceLT → qG, reduceLE → qH
open List renaming getD_eq_getElem?_getD → gD
def m438:MFn:=⟨124,[.t 2],kr [xF 2] (.seq (kr [xv 16 0,xc1 17 19 (.t 16)] (kF 17 [xT 2])) (kr [xv 19 0,xo 20 (.call 439 [true] [.t 19]),xv 18 20,xX 21 18 0,xX 22 18 1,xo 3 (.alloc [.nil,.nil]),xS 2 3 21,xv 4 22] (kr [xm 24 2 3,xv 25 4,xc2 26 407 (.t 24) (.t 25),xv 23 26,xX 27 23 0,xX 28 23 1,xX 29 23 2,xo 6 (.alloc [.nil,.nil,.nil,.nil]),xv 5 27,xS 4 6 28,xv 7 29] (kr [xm 31 2 3,xv 32 4,xc2 33 406 (.t 31) (.t 32),xv 30 33,xX 34 30 0,xX 35 30 1,xX 36 30 2,xo 9 (.alloc [.nil,.nil,.nil,.nil]),xv 8 34,xS 4 9 35,xv 10 36] (.seq (kr [xv 37 7,xv 38 10,xo 39 (.eqB true (.t 37) (.t 38)),xv 40 39,zv 41 5 40,zv 42 8 40,xg 43 (.call 23 [false,false] [.t 41,.t 42]) 40 false,zN 44 43 40,xQ 45 40 44] (kF 45 [xF 2])) (.seq (kr [xv 46 7,xN 47 46] (kF 47 [xT 2])) (kr [xm 49 2 3,xc1 50 24 (.t 49),xv 48 50,xX 51 48 0,xX 52 48 1,xo 11 (.alloc [.nil,.nil,.nil]),xS 3 11 51,xv 12 52] (kr [xm 54 2 3,xm 55 3 11,xv 56 5,xc3 57 25 (.t 54) (.t 55) (.t 56),xv 53 57,xX 58 53 0,xX 59 53 1,xS 3 11 58] (.seq (kr [xI 13 0] (.blk 0 (.loop (.seq (kr [xv 60 13,xa 61 0 3,xl 62 61,xe 63 62,bT 64 .lss 60 63] (kX 64 0)) (.seq (.blk 1 (kr [xa 68 2 6,xm 69 1 68,xa 70 0 3,xl 71 70,xv 72 13,xc3 73 423 (.t 69) (.t 71) (.t 72),xv 67 73,xX 74 67 0,xX 75 67 1,xo 14 (.alloc [.int .i64 0,.nil,.bool false]),xS 3 14 74,xv 15 75] (.seq (.dreg (.take 0 (xa 76 2 6) (.take 1 (xm 77 1 76) (.take 2 (xa 78 0 3) (.take 3 (xl 79 78) (.only 4 [] (xv 80 13) (.only 5 [1,3,0,2] (xc3 81 424 (.t 77) (.t 79) (.t 80)) (.only 6 [5,1,3,0,2] (xN 82 81) (.only 7 [5,1,3,0,2] (xv 83 82) (.only 8 [7,5,1,3,0,2] (yv 84 15 83) (.only 9 [7,5,1,3,0,2] (yN 85 84 83) (.only 10 [7,5,1,3,0,2] (yv 86 85 83) (.take 11 (za 87 1 14 86) (.take 12 (zl 88 1 87 86) (.take 13 (za 89 1 11 86) (.take 14 (zl 90 1 89 86) (.only 15 [10,7,5,1,3,0,2] (zv 91 13 86) (.only 16 [10,14,7,13,5,1,3,0,2] (xg 92 (.iad 3 (.t 90) (.t 91)) 86 false) (.only 17 [10,16,7,14,5,13,1,3,0,2] (za 93 1 92 86) (.only 18 [10,17,7,16,5,14,1,3,13,0,2] (zl 94 1 93 86) (.only 19 [10,12,18,7,11,17,5,16,1,3,14,0,2,13] (xg 95 (.call 23 [false,false] [.t 88,.t 94]) 86 false) (.only 20 [10,19,7,12,18,5,11,17,1,3,16,0,2,14,13] (zN 96 95 86) (.only 21 [7,20,5,19,1,3,12,18,0,2,11,17,16,14,13] (xg 97 (.pick (.t 86) (.c (.bool true)) (.t 96)) 83 true) (.only 22 [7,19,5,12,18,1,3,11,17,0,2,16,14,13] (yv 98 97 83) (.take 23 (za 99 2 14 98) (.take 24 (zl 100 1 99 98) (.take 25 (za 101 1 11 98) (.take 26 (zl 102 1 101 98) (.only 27 [22,7,19,5,12,18,1,3,11,17,0,2,16,14,13] (zv 103 13 98) (.only 28 [22,26,7,19,25,5,12,18,1,3,11,17,0,2,16,14,13] (xg 104 (.iad 3 (.t 102) (.t 103)) 98 false) (.only 29 [22,28,7,19,26,5,12,18,25,1,3,11,17,0,2,16,14,13] (za 105 2 104 98) (.only 30 [22,29,7,19,28,5,12,18,26,1,3,11,17,25,0,2,16,14,13] (zl 106 1 105 98) (.only 31 [22,24,30,7,19,23,29,5,12,18,28,1,3,11,17,26,0,2,16,25,14,13] (xg 107 (.eqB true (.t 100) (.t 106)) 98 false) (.only 32 [7,22,31,5,19,24,30,1,3,12,18,23,29,0,2,11,17,28,16,26,14,25,13] (xg 108 (.pick (.t 98) (.c (.bool true)) (.t 107)) 83 true) (.only 33 [7,32,5,22,31,1,3,19,24,30,0,2,12,18,23,29,11,17,28,16,26,14,25,13] (xP 109 83 108) (.done)))))))))))))))))))))))))))))))))))) (kF 109 [xF 2])))) (xr [xv 65 13,bI 66 .add 65 1,xv 13 66])))))) (kR [xm 110 2 3,xm 111 4 6,xm 112 3 11,xc3 113 395 (.t 110) (.t 111) (.t 112),xv 114 113,xg 115 (.load 2 true (.t 3)) 114 true,yv 116 4 114,xg 117 (.call 413 [false,false] [.t 115,.t 116]) 114 true,xP 118 114 117,xv 119 118,xg 120 (.load 2 true (.t 3)) 119 true,yv 121 4 119,xg 122 (.call 398 [false,false] [.t 120,.t 121]) 119 true,xP 123 119 122,xv 2 123]))))))))))⟩
theorem qZa (code:List Int):qW Tryz.prog num 438 [.sl .fz 1 (bys code)] [] (.bool true):=by
 refine EN m438 Tryz.func3 ?_
 unfold m438
 simp only [go_sem,seval]
 repeat refine K ?_
 refine CA [] (qU8 code) ?_
 try simp only [go_sem,seval]
 repeat refine K ?_
 by_cases hbig:(1048576:Int)<code.length
 ·try simp only [go_sem,seval,hbig]
  repeat refine K ?_
  refine fz ?_; simp [qZ,qU,qV,qQ,-List.drop_one]
 have hb:code.length<2^62:=by omega
 try simp only [go_sem,seval,hbig]
 repeat refine K ?_
 refine CA [] (qBz code hb) ?_
 try simp only [go_sem,seval]
 repeat refine K ?_
 obtain ⟨hp,hl,hx⟩:=qIu code
 generalize lY code=w at hp hl hx
 obtain ⟨p,l⟩:=w
 simp only at hp hl hx⊢
 have hpp:=qF3 hp
 have cw:=dN p l hpp (by omega) hx
 have cs:=cA p l hpp (by omega) hx
 have hz:=(fZ p l).1
 have hm:=fR p l
 have hn:=@rK p l
 have hI:=@qHe p l
 have hR:=fun h=>@qPs p l h (by omega)
 have ej:=qFs p l hpp (by omega) hx
 rw [qOx] at ej
 have el:=qDx p l hpp (by omega) hx
 rw [qLx] at el
 generalize wQ p l=W at *
 obtain ⟨o,m,b⟩:=W
 simp only at cw cs hz hm hn hI hR
 have eb:(b==b)=true:=by simp
 try simp only [go_sem,seval]
 repeat refine K ?_
 refine CA [] (cw) ?_
 try simp only [go_sem,seval]
 repeat refine K ?_
 try simp only [go_sem,seval]
 repeat refine K ?_
 refine CA [] (cs) ?_
 try simp only [go_sem,seval]
 repeat refine K ?_
 try simp only [go_sem,seval,eb]
 repeat refine K ?_
 refine CA [] (cC o o (by omega)) ?_
 try simp only [go_sem,seval]
 repeat refine K ?_
 cases b
 ·try simp only [go_sem,seval]
  repeat refine K ?_
  refine fz ?_; simp [qZ,qU,qV,qQ,-List.drop_one]
 obtain ⟨h1,h2,h3⟩:=hI rfl
 have hj:eL p (jY p).1 o=qA6 p o:=rfl
 have so0:=eA hp
 have csn:=kE p (by have:=hpp.caps; omega) (by have:=hpp.bods; omega) (fun b hb=>by have:=hpp.body b hb; omega)
 have n1:(jY p).2=true:=by simp [jY,hp]
 have csr:=kD p (jY p).1 o hpp (mS so0) (by omega)
 rw [n1] at csn
 rw [hj] at csr
 clear hj
 generalize qA6 p o=q at *
 obtain ⟨s,c⟩:=q
 simp only at h1 h2 h3 csr
 have hs:=mS h1.src
 generalize (jY p).1=s0 at *
 have hsame:=oA p m s hpp hm hs
 rw [h1.same] at hsame
 have hln:=h1.lens
 have hcap:=hpp.caps
 try simp only [go_sem,seval]
 repeat refine K ?_
 refine CA [] (csn) ?_
 try simp only [go_sem,seval]
 repeat refine K ?_
 try simp only [go_sem,seval]
 repeat refine K ?_
 refine CA [] (csr) ?_
 try simp only [go_sem,seval]
 repeat refine K ?_
 try simp only [go_sem,seval]
 repeat refine K ?_
 refine qX (ι:=Nat) (fun i=>.mk [(3,.ptr 13 0 0),(4,.ns 12 0 l.length),(6,.ptr 19 0 0),(11,.ptr 29 0 0),(13,.int .i64 i)] [(13,2,[jF .own p]),(12,2,uZ l),(19,4,[qR .own m]),(29,3,[vW .own s])] 34) (fun i=>i≤p.caps.length) (fun i=>p.caps.length-i) 0 (by simp) ?_ ?_
 ·refine Sub.trans (Sub.fold1 13 0 10 rfl (by simp [-gD]<;>omega) rfl (by decide) (by decide) rfl) ?_
  simp only [fS,qA,qC]
  refine Sub.trans (Sub.fold1 13 1 11 rfl (by simp [-gD]<;>omega) rfl (by decide) (by decide) rfl) ?_
  simp only [fS,qA,qC]
  refine Sub.trans (Sub.fold1 19 0 15 rfl (by simp [-gD]<;>omega) rfl (by decide) (by decide) rfl) ?_
  simp only [fS,qA,qC]
  refine Sub.trans (Sub.fold1 19 1 16 rfl (by simp [-gD]<;>omega) rfl (by decide) (by decide) rfl) ?_
  simp only [fS,qA,qC]
  refine Sub.trans (Sub.fold1 19 2 17 rfl (by simp [-gD]<;>omega) rfl (by decide) (by decide) rfl) ?_
  simp only [fS,qA,qC]
  refine Sub.trans (Sub.fold1 19 3 18 rfl (by simp [-gD]<;>omega) rfl (by decide) (by decide) rfl) ?_
  simp only [fS,qA,qC]
  refine Sub.trans (Sub.fold1 29 0 30 rfl (by simp [-gD]<;>omega) rfl (by decide) (by decide) rfl) ?_
  simp only [fS,qA,qC]
  refine Sub.trans (Sub.fold1 29 1 31 rfl (by simp [-gD]<;>omega) rfl (by decide) (by decide) rfl) ?_
  simp only [fS,qA,qC]
  refine Sub.trans (Sub.fold1 29 2 32 rfl (by simp [-gD]<;>omega) rfl (by decide) (by decide) rfl) ?_
  simp only [fS,qA,qC]
  refine Sub.shape [] id (by omega) ?_ ?_ ?_ ?_<;>simp [qK]
 ·intro i hi
  simp only [go_sem,seval]
  refine qL (fun hc=>?_) (fun hc=>?_)
  ·simp only [decide_eq_true_eq] at hc
   have hil:i<p.caps.length:=by omega
   have hik:i<s.chs.length:=by omega
   have cci:=oY m.mem.cells p.caps i hm.mem hcap
   have clk:=oX m.mem.cells p.caps i hm.mem hcap
   have hgc:=dA .own s.chs i hik
   have hch:=h1.chan hil
   have hcc:chn s i=s.chs.getD i default:=rfl
   rw [hcc] at hch
   have gw :∀r,((wW .own s.chs).set i r).getD i []=r:=fun r=>wF _ _ _ _ (by rw [iN]; exact hik)
   have hli:=hs.list _ (wU s.chs i default hik)
   simp only [go_sem,seval]
   repeat refine K ?_
   refine CA [] (cci) ?_
   try simp only [go_sem,seval]
   repeat refine K ?_
   rcases hch with hk | ⟨hk,hc2⟩
   ·rw [hk] at clk
    try simp only [go_sem,seval]
    repeat refine K ?_
    refine DA [] (clk) ?_
    try simp only [go_sem,seval]
    repeat refine K ?_
    try simp only [go_sem,seval,qS (i:=i) (by omega)]
    repeat refine K ?_
    refine qT (i+1) ?_ hil (by omega)
    refine Sub.trans (Sub.fold1 13 0 34 rfl (by simp [-gD]<;>omega) rfl (by decide) (by decide) rfl) ?_
    simp only [fS,qA,qC]
    refine Sub.trans (Sub.fold1 19 2 35 rfl (by simp [-gD]<;>omega) rfl (by decide) (by decide) rfl) ?_
    simp only [fS,qA,qC]
    refine Sub.shape [] id (by omega) ?_ ?_ ?_ ?_<;>simp [qK]
   ·rw [hk] at clk
    rw [hc2]
    try simp only [go_sem,seval]
    repeat refine K ?_
    refine DA [] (clk) ?_
    try simp only [go_sem,seval]
    repeat refine K ?_
    try simp only [go_sem,seval,hgc]
    repeat refine K ?_
    refine DA [] (cC (s.chs.getD i default).list (s.chs.getD i default).list (by omega)) ?_
    try simp only [go_sem,seval]
    repeat refine K ?_
    try simp only [go_sem,seval,gw,qS (i:=i) (by omega)]
    repeat refine K ?_
    refine qT (i+1) ?_ hil (by omega)
    refine Sub.trans (Sub.fold1 13 0 34 rfl (by simp [-gD]<;>omega) rfl (by decide) (by decide) rfl) ?_
    simp only [fS,qA,qC]
    refine Sub.trans (Sub.fold1 19 2 35 rfl (by simp [-gD]<;>omega) rfl (by decide) (by decide) rfl) ?_
    simp only [fS,qA,qC]
    refine Sub.trans (Sub.foldAt 38 1 39 rfl (by simp [-gD]<;>omega) rfl (by decide) (by decide) rfl (by simp<;>omega)) ?_
    simp only [fS,qA,qC,zO,wR s.chs i default hik]
    refine Sub.trans (Sub.fold1 29 1 38 rfl (by simp [-gD]<;>omega) rfl (by decide) (by decide) rfl) ?_
    simp only [fS,qA,qC]
    refine Sub.shape [] id (by omega) ?_ ?_ ?_ ?_<;>simp [qK]
  ·simp only [decide_eq_false_iff_not] at hc
   simp only [go_sem,seval]
   repeat refine K ?_
   refine CA [] (hsame) ?_
   try simp only [go_sem,seval]
   repeat refine K ?_
   try simp only [go_sem,seval]
   repeat refine K ?_
   refine CA [] (ej) ?_
   try simp only [go_sem,seval]
   repeat refine K ?_
   try simp only [go_sem,seval]
   repeat refine K ?_
   refine CA [] (el) ?_
   try simp only [go_sem,seval]
   repeat refine K ?_
   try simp only [go_sem,seval]
   repeat refine K ?_
   refine fz ?_; simp [qZ,qU,qV,qQ,-List.drop_one]
end Go.Sep
