/- Contracts of functions. -/
import Derived.Test.YtbfklilhgekabaaFxx14
open List renaming drop_one → wAu, take_of_length_le → qZj
namespace Go.Sep
set_option maxHeartbeats 16000000
open Go.Proofs
set_option linter.unusedSimpArgs false
set_option linter.unusedVariables false
set_option maxRecDepth 100000
def m160:MFn:=⟨26,[.t 4],kr [xF 4] (.seq (kr [xv 6 0,xe 7 6,xv 8 1,xe 9 8,bT 10 .neq 7 9] (kF 10 [xF 4])) (.seq (kr [xI 5 0] (.blk 0 (.loop (.seq (kr [xv 11 5,xv 12 0,xe 13 12,bT 14 .lss 11 13] (kX 14 0)) (.seq (.blk 1 (.seq (.dreg (.take 0 (xv 17 0) (.take 1 (xv 18 5) (.take 2 (xD 19 2 17 18) (.take 3 (xm 20 2 19) (.take 4 (xv 21 1) (.only 5 [] (xv 22 5) (.only 6 [4] (xD 23 2 21 22) (.only 7 [6,4] (xm 24 2 23) (.only 8 [3,7,2,6,0,1,4] (xo 25 (.eqS true [true,true] (.t 20) (.t 24))) (.done))))))))))) (kF 25 [xF 4]))) (xr [xv 15 5,bI 16 .add 15 1,xv 5 16])))))) (kR [xT 4])))⟩
def m481:MFn:=⟨26,[.t 4],kr [xF 4] (.seq (kr [xv 6 0,xe 7 6,xv 8 1,xe 9 8,bT 10 .neq 7 9] (kF 10 [xF 4])) (.seq (kr [xI 5 0] (.blk 0 (.loop (.seq (kr [xv 11 5,xv 12 0,xe 13 12,bT 14 .lss 11 13] (kX 14 0)) (.seq (.blk 1 (.seq (.dreg (.take 0 (xv 17 0) (.take 1 (xv 18 5) (.take 2 (xD 19 5 17 18) (.take 3 (xm 20 5 19) (.take 4 (xv 21 1) (.only 5 [] (xv 22 5) (.only 6 [4] (xD 23 5 21 22) (.only 7 [6,4] (xm 24 5 23) (.only 8 [3,7,2,6,0,1,4] (xo 25 (.eqS true [true,true,true,true,true] (.t 20) (.t 24))) (.done))))))))))) (kF 25 [xF 4]))) (xr [xv 15 5,bI 16 .add 15 1,xv 5 16])))))) (kR [xT 4])))⟩
def m482:MFn:=⟨40,[.t 4],kr [xb 2 0,xb 3 1,xF 4] (.seq (kr [xa 6 0 2,xl 7 6,xa 8 0 3,xl 9 8,xc2 10 23 (.t 7) (.t 9),xN 11 10,xv 12 11,za 13 1 2 12,zl 14 1 13 12,ze 15 14 12,za 16 1 3 12,zl 17 1 16 12,ze 18 17 12,xg 19 (.bin .neq (.t 15) (.t 18)) 12 false,xQ 20 12 19] (kF 20 [xF 4])) (.seq (kr [xI 5 0] (.blk 0 (.loop (.seq (kr [xv 21 5,xa 22 1 2,xl 23 22,xe 24 23,bT 25 .lss 21 24] (kX 25 0)) (.seq (.blk 1 (.seq (.dreg (.take 0 (xa 28 1 2) (.take 1 (xl 29 28) (.take 2 (xv 30 5) (.take 3 (xD 31 1 29 30) (.take 4 (xl 32 31) (.take 5 (xa 33 1 3) (.take 6 (xl 34 33) (.only 7 [] (xv 35 5) (.only 8 [6,5] (xD 36 1 34 35) (.only 9 [8,6,5] (xl 37 36) (.only 10 [4,9,3,8,1,2,6,0,5] (xc2 38 481 (.t 32) (.t 37)) (.only 11 [10,4,9,3,8,1,2,6,0,5] (xN 39 38) (.done)))))))))))))) (kF 39 [xF 4]))) (xr [xv 26 5,bI 27 .add 26 1,xv 5 27])))))) (kR [xT 4])))⟩
def m483:MFn:=⟨133,[.t 4],kr [xb 2 0,xb 3 1,xF 4] (.seq (kr [xa 7 0 2,xl 8 7,xe 9 8,xa 10 0 3,xl 11 10,xe 12 11,bT 13 .neq 9 12,xv 14 13,za 15 1 2 14,zl 16 1 15 14,ze 17 16 14,za 18 1 3 14,zl 19 1 18 14,ze 20 19 14,xg 21 (.bin .neq (.t 17) (.t 20)) 14 false,xQ 22 14 21,xv 23 22,za 24 2 2 23,zl 25 1 24 23,za 26 2 3 23,zl 27 1 26 23,xg 28 (.call 160 [false,false] [.t 25,.t 27]) 23 false,zN 29 28 23,xQ 30 23 29] (kF 30 [xF 4])) (.seq (kr [xI 5 0] (.blk 0 (.loop (.seq (kr [xv 31 5,xa 32 0 2,xl 33 32,xe 34 33,bT 35 .lss 31 34] (kX 35 0)) (.seq (.blk 1 (.seq (.dreg (.take 0 (xa 38 0 2) (.take 1 (xl 39 38) (.take 2 (xv 40 5) (.take 3 (xD 41 3 39 40) (.take 4 (xa 42 0 41) (.take 5 (xl 43 42) (.take 6 (xa 44 0 3) (.take 7 (xl 45 44) (.only 8 [] (xv 46 5) (.only 9 [7,6] (xD 47 3 45 46) (.only 10 [9,7,6] (xa 48 0 47) (.only 11 [10,9,7,6] (xl 49 48) (.only 12 [5,11,4,10,3,9,1,2,7,0,6] (bT 50 .neq 43 49) (.only 13 [12,5,11,4,10,3,9,1,2,7,0,6] (xv 51 50) (.take 14 (za 52 0 2 51) (.take 15 (zl 53 1 52 51) (.take 16 (zv 54 5 51) (.take 17 (xg 55 (.iad 3 (.t 53) (.t 54)) 51 false) (.take 18 (za 56 2 55 51) (.take 19 (zl 57 1 56 51) (.take 20 (za 58 0 3 51) (.take 21 (zl 59 1 58 51) (.only 22 [13,12,5,11,4,10,3,9,1,2,7,0,6] (zv 60 5 51) (.only 23 [13,21,12,20,5,11,4,10,3,9,1,2,7,0,6] (xg 61 (.iad 3 (.t 59) (.t 60)) 51 false) (.only 24 [13,23,12,21,5,11,20,4,10,3,9,1,2,7,0,6] (za 62 2 61 51) (.only 25 [13,24,12,23,5,11,21,4,10,20,3,9,1,2,7,0,6] (zl 63 1 62 51) (.only 26 [13,19,25,12,18,24,5,11,17,23,4,10,15,16,21,3,9,14,20,1,2,7,0,6] (xg 64 (.bin .neq (.t 57) (.t 63)) 51 false) (.only 27 [13,26,12,19,25,5,11,18,24,4,10,17,23,3,9,15,16,21,1,2,7,14,20,0,6] (xQ 65 51 64) (.only 28 [13,27,12,26,5,11,19,25,4,10,18,24,3,9,17,23,1,2,7,15,16,21,0,6,14,20] (xv 66 65) (.take 29 (za 67 0 2 66) (.take 30 (zl 68 1 67 66) (.take 31 (zv 69 5 66) (.take 32 (xg 70 (.iad 3 (.t 68) (.t 69)) 66 false) (.take 33 (za 71 1 70 66) (.take 34 (zl 72 1 71 66) (.take 35 (za 73 0 3 66) (.take 36 (zl 74 1 73 66) (.only 37 [28,13,27,12,26,5,11,19,25,4,10,18,24,3,9,17,23,1,2,7,15,16,21,0,6,14,20] (zv 75 5 66) (.only 38 [28,36,13,27,35,12,26,5,11,19,25,4,10,18,24,3,9,17,23,1,2,7,15,16,21,0,6,14,20] (xg 76 (.iad 3 (.t 74) (.t 75)) 66 false) (.only 39 [28,38,13,27,36,12,26,35,5,11,19,25,4,10,18,24,3,9,17,23,1,2,7,15,16,21,0,6,14,20] (za 77 1 76 66) (.only 40 [28,39,13,27,38,12,26,36,5,11,19,25,35,4,10,18,24,3,9,17,23,1,2,7,15,16,21,0,6,14,20] (zl 78 1 77 66) (.only 41 [28,34,40,13,27,33,39,12,26,32,38,5,11,19,25,30,31,36,4,10,18,24,29,35,3,9,17,23,1,2,7,15,16,21,0,6,14,20] (xg 79 (.call 23 [false,false] [.t 72,.t 78]) 66 false) (.only 42 [28,41,13,27,34,40,12,26,33,39,5,11,19,25,32,38,4,10,18,24,30,31,36,3,9,17,23,29,35,1,2,7,15,16,21,0,6,14,20] (zN 80 79 66) (.only 43 [28,42,13,27,41,12,26,34,40,5,11,19,25,33,39,4,10,18,24,32,38,3,9,17,23,30,31,36,1,2,7,15,16,21,29,35,0,6,14,20] (xQ 81 66 80) (.done)))))))))))))))))))))))))))))))))))))))))))))) (kF 81 [xF 4]))) (xr [xv 36 5,bI 37 .add 36 1,xv 5 37])))))) (.seq (kr [xI 6 0] (.blk 2 (.loop (.seq (kr [xv 82 6,xa 83 1 2,xl 84 83,xe 85 84,bT 86 .lss 82 85] (kX 86 2)) (.seq (.blk 3 (.seq (.dreg (.take 0 (xa 89 1 2) (.take 1 (xl 90 89) (.take 2 (xv 91 6) (.take 3 (xD 92 3 90 91) (.take 4 (xa 93 0 92) (.take 5 (xl 94 93) (.take 6 (xa 95 1 3) (.take 7 (xl 96 95) (.only 8 [] (xv 97 6) (.only 9 [7,6] (xD 98 3 96 97) (.only 10 [9,7,6] (xa 99 0 98) (.only 11 [10,9,7,6] (xl 100 99) (.only 12 [5,11,4,10,3,9,1,2,7,0,6] (bT 101 .neq 94 100) (.only 13 [12,5,11,4,10,3,9,1,2,7,0,6] (xv 102 101) (.take 14 (za 103 1 2 102) (.take 15 (zl 104 1 103 102) (.take 16 (zv 105 6 102) (.take 17 (xg 106 (.iad 3 (.t 104) (.t 105)) 102 false) (.take 18 (za 107 2 106 102) (.take 19 (zl 108 1 107 102) (.take 20 (za 109 1 3 102) (.take 21 (zl 110 1 109 102) (.only 22 [13,12,5,11,4,10,3,9,1,2,7,0,6] (zv 111 6 102) (.only 23 [13,21,12,20,5,11,4,10,3,9,1,2,7,0,6] (xg 112 (.iad 3 (.t 110) (.t 111)) 102 false) (.only 24 [13,23,12,21,5,11,20,4,10,3,9,1,2,7,0,6] (za 113 2 112 102) (.only 25 [13,24,12,23,5,11,21,4,10,20,3,9,1,2,7,0,6] (zl 114 1 113 102) (.only 26 [13,19,25,12,18,24,5,11,17,23,4,10,15,16,21,3,9,14,20,1,2,7,0,6] (xg 115 (.eqB true (.t 108) (.t 114)) 102 false) (.only 27 [13,26,12,19,25,5,11,18,24,4,10,17,23,3,9,15,16,21,1,2,7,14,20,0,6] (xQ 116 102 115) (.only 28 [13,27,12,26,5,11,19,25,4,10,18,24,3,9,17,23,1,2,7,15,16,21,0,6,14,20] (xv 117 116) (.take 29 (za 118 1 2 117) (.take 30 (zl 119 1 118 117) (.take 31 (zv 120 6 117) (.take 32 (xg 121 (.iad 3 (.t 119) (.t 120)) 117 false) (.take 33 (za 122 1 121 117) (.take 34 (zl 123 1 122 117) (.take 35 (za 124 1 3 117) (.take 36 (zl 125 1 124 117) (.only 37 [28,13,27,12,26,5,11,19,25,4,10,18,24,3,9,17,23,1,2,7,15,16,21,0,6,14,20] (zv 126 6 117) (.only 38 [28,36,13,27,35,12,26,5,11,19,25,4,10,18,24,3,9,17,23,1,2,7,15,16,21,0,6,14,20] (xg 127 (.iad 3 (.t 125) (.t 126)) 117 false) (.only 39 [28,38,13,27,36,12,26,35,5,11,19,25,4,10,18,24,3,9,17,23,1,2,7,15,16,21,0,6,14,20] (za 128 1 127 117) (.only 40 [28,39,13,27,38,12,26,36,5,11,19,25,35,4,10,18,24,3,9,17,23,1,2,7,15,16,21,0,6,14,20] (zl 129 1 128 117) (.only 41 [28,34,40,13,27,33,39,12,26,32,38,5,11,19,25,30,31,36,4,10,18,24,29,35,3,9,17,23,1,2,7,15,16,21,0,6,14,20] (xg 130 (.call 23 [false,false] [.t 123,.t 129]) 117 false) (.only 42 [28,41,13,27,34,40,12,26,33,39,5,11,19,25,32,38,4,10,18,24,30,31,36,3,9,17,23,29,35,1,2,7,15,16,21,0,6,14,20] (zN 131 130 117) (.only 43 [28,42,13,27,41,12,26,34,40,5,11,19,25,33,39,4,10,18,24,32,38,3,9,17,23,30,31,36,1,2,7,15,16,21,29,35,0,6,14,20] (xQ 132 117 131) (.done)))))))))))))))))))))))))))))))))))))))))))))) (kF 132 [xF 4]))) (xr [xv 87 6,bI 88 .add 87 1,xv 6 88])))))) (kR [xT 4]))))⟩
theorem qS2 {a b:List gJ} (i:Nat) (ha:i<a.length) (hb:i<b.length) (h:a.take i=b.take i) (he:a.getD i default=b.getD i default):a.take (i+1)=b.take (i+1):=by
 rw [dW a default i ha,dW b default i hb,h,he]
theorem qK0 (a b:List gJ) (ha:a.length<2^47):wA Try.prog num 160 [.sl .bw 2 (jC a),.sl .bw 2 (jC b)] [] (.bool (decide (a=b))):=by
 refine EN m160 Try.func11 ?_
 unfold m160
 by_cases hl:a.length=b.length
 ·have d0:(!decide ((a.length:Int)=(b.length:Int)))=false:=by simp [hl]
  simp only [go_sem,seval,d0]
  refine wD (ι:=Nat) (fun i=>.mk [(0,.sl .bw 2 (jC a)),(1,.sl .bw 2 (jC b)),(5,.int .i64 i)] [] 10) (fun i=>i≤a.length∧a.take i=b.take i) (fun i=>a.length-i) 0 (by simp) ?_ ?_
  ·refine Sub.shape [] id (by omega) ?_ ?_ ?_ ?_<;>simp [qL]
  ·rintro i ⟨hi,hp⟩
   simp only [go_sem,seval]
   refine qS (fun hc=>?_) (fun hc=>?_)
   ·simp only [decide_eq_true_eq] at hc
    have hil:i<a.length:=by omega
    have g1:=sR a i hil
    have g2:=sR b i (by omega)
    have ht:=qS2 i hil (by omega) hp
    have hdec:(decide ((a.getD i default).who=(b.getD i default).who)&&decide ((a.getD i default).v=(b.getD i default).v))=decide (a.getD i default=b.getD i default):=by
     generalize a.getD i default=x
     generalize b.getD i default=y
     obtain ⟨x1,x2⟩:=x
     obtain ⟨y1,y2⟩:=y
     by_cases h1:x1=y1<;>by_cases h2:x2=y2<;>simp [h1,h2]
    simp only [go_sem,seval,g1,g2,hdec,qW (i:=i) (by omega)]
    repeat refine K ?_
    by_cases he:a.getD i default=b.getD i default
    ·have h2:=ht he
     have d3:(!decide (a.getD i default=b.getD i default))=false:=by rw [decide_eq_true he]; rfl
     try simp only [go_sem,seval,d3,qW (i:=i) (by omega)]
     refine qU (i+1) (Sub.shape [] id (by omega) ?_ ?_ ?_ ?_) ⟨hil,h2⟩ (by omega)<;>simp [qL]
    ·have hne :¬a=b:=fun e=>he (by rw [e])
     have d3:(!decide (a.getD i default=b.getD i default))=true:=by rw [decide_eq_false he]; rfl
     try simp only [go_sem,seval,d3]
     refine fz ?_; simp [yK,wB,wC,wJ,-wAu]
     all_goals simp [hne]
   ·simp only [decide_eq_false_iff_not] at hc
    have hab:a=b:=by
     have h1:a.take i=a:=qZj (by omega)
     have h2:b.take i=b:=qZj (by omega)
     rw [←h1,hp,h2]
    simp only [go_sem,seval]
    refine fz ?_; simp [yK,wB,wC,wJ,-wAu]
    all_goals simp [hab]
 ·have d0:(!decide ((a.length:Int)=(b.length:Int)))=true:=by simp; omega
  have hne :¬a=b:=fun e=>hl (by rw [e])
  simp only [go_sem,seval,d0]
  refine fz ?_; simp [yK,wB,wC,wJ,-wAu]
  all_goals simp [hne]
theorem qEg (l:List Ins) (hl:l.length<2^40):wA Try.prog num 481 [.sl .bw 5 (jG l),.sl .bw 5 (jG l)] [] (.bool true):=by
 refine EN m481 Try.func23 ?_
 unfold m481
 simp only [go_sem,seval]
 repeat refine K ?_
 refine wD (ι:=Nat) (fun i=>.mk [(0,.sl .bw 5 (jG l)),(1,.sl .bw 5 (jG l)),(5,.int .i64 i)] [] 10) (fun i=>i≤l.length) (fun i=>l.length-i) 0 (by simp) ?_ ?_
 ·refine Sub.shape [] id (by omega) ?_ ?_ ?_ ?_<;>simp [qL]
 ·intro i hi
  simp only [go_sem,seval]
  refine qS (fun hc=>?_) (fun hc=>?_)
  ·simp only [decide_eq_true_eq] at hc
   have hil:i<l.length:=by omega
   simp only [go_sem,seval,vB l i hil,qW (i:=i) (by omega)]
   repeat refine K ?_
   refine qU (i+1) (Sub.shape [] id (by omega) ?_ ?_ ?_ ?_) ?_ ?_
   any_goals (first | omega | (simp [qL]; done))
  ·simp only [decide_eq_false_iff_not] at hc
   simp only [go_sem,seval]
   repeat refine K ?_
   refine fz ?_; simp [yK,wB,wC,wJ,-wAu]
theorem qCf (p:wV) (hp:aG p):wA Try.prog num 482 [.agg (vN .bw p),.agg (vN .bw p)] [] (.bool true):=by
 have hbl:=hp.bods
 have hcl:=hp.caps
 refine EN m482 Try.func26 ?_
 unfold m482
 simp only [go_sem,seval]
 repeat refine K ?_
 refine CA [] (iG p.caps p.caps (by omega)) ?_
 try simp only [go_sem,seval]
 repeat refine K ?_
 try simp only [go_sem,seval]
 repeat refine K ?_
 refine wD (ι:=Nat) (fun i=>.mk [(2,.ptr 10 0 0),(3,.ptr 11 0 0),(5,.int .i64 i)] [(10,2,[vN .bw p]),(11,2,[vN .bw p])] 12) (fun i=>i≤p.bods.length) (fun i=>p.bods.length-i) 0 (by simp) ?_ ?_
 ·refine Sub.shape [] id (by omega) ?_ ?_ ?_ ?_<;>simp [qL]
 ·intro i hi
  simp only [go_sem,seval]
  refine qS (fun hc=>?_) (fun hc=>?_)
  ·simp only [decide_eq_true_eq] at hc
   have hil:i<p.bods.length:=by omega
   have hg:=qX .bw p.bods i hil
   have hb:=hp.body _ (yL p.bods i [] hil)
   simp only [go_sem,seval,hg]
   repeat refine K ?_
   refine DA [] (qEg (p.bods.getD i []) hb) ?_
   try simp only [go_sem,seval]
   repeat refine K ?_
   try simp only [go_sem,seval,qW (i:=i) (by omega)]
   repeat refine K ?_
   refine qU (i+1) (Sub.shape [] id (by omega) ?_ ?_ ?_ ?_) ?_ ?_
   any_goals (first | omega | (simp [qL]; done))
  ·simp only [decide_eq_false_iff_not] at hc
   simp only [go_sem,seval]
   repeat refine K ?_
   refine fz ?_; simp [yK,wB,wC,wJ,-wAu]
theorem qH7 (s:qV) (hs:qGl s):wA Try.prog num 483 [.agg (vA .bw s),.agg (vA .bw s)] [] (.bool true):=by
 have htl:=hs.ths
 have hcl:=hs.chs
 refine EN m483 Try.func31 ?_
 unfold m483
 simp only [go_sem,seval]
 repeat refine K ?_
 refine CA [] (qK0 s.tr s.tr (by have:=hs.tr; omega)) ?_
 try simp only [go_sem,seval]
 repeat refine K ?_
 try simp only [go_sem,seval]
 repeat refine K ?_
 refine wD (ι:=Nat) (fun i=>.mk [(2,.ptr 10 0 0),(3,.ptr 11 0 0),(5,.int .i64 i)] [(10,3,[vA .bw s]),(11,3,[vA .bw s])] 12) (fun i=>i≤s.ths.length) (fun i=>s.ths.length-i) 0 (by simp) ?_ ?_
 ·refine Sub.shape [] id (by omega) ?_ ?_ ?_ ?_<;>simp [qL]
 ·intro i hi
  simp only [go_sem,seval]
  refine qS (fun hc=>?_) (fun hc=>?_)
  ·simp only [decide_eq_true_eq] at hc
   have hil:i<s.ths.length:=by omega
   have hg:=qT .bw s.ths i hil
   have hr:=hs.regs _ (yL s.ths i default hil)
   simp only [go_sem,seval,hg]
   repeat refine K ?_
   refine DA [] (iG (s.ths.getD i default).regs (s.ths.getD i default).regs (by omega)) ?_
   try simp only [go_sem,seval]
   repeat refine K ?_
   try simp only [go_sem,seval,qW (i:=i) (by omega)]
   repeat refine K ?_
   refine qU (i+1) (Sub.shape [] id (by omega) ?_ ?_ ?_ ?_) ?_ ?_
   any_goals (first | omega | (simp [qL]; done))
  ·simp only [decide_eq_false_iff_not] at hc
   simp only [go_sem,seval]
   repeat refine K ?_
   refine wD (ι:=Nat) (fun i=>.mk [(2,.ptr 10 0 0),(3,.ptr 11 0 0),(6,.int .i64 i)] [(10,3,[vA .bw s]),(11,3,[vA .bw s])] 12) (fun i=>i≤s.chs.length) (fun i=>s.chs.length-i) 0 (by simp) ?_ ?_
   ·refine Sub.shape [] id (by omega) ?_ ?_ ?_ ?_<;>simp [qL]
   ·intro j hj
    simp only [go_sem,seval]
    refine qS (fun hc=>?_) (fun hc=>?_)
    ·simp only [decide_eq_true_eq] at hc
     have hil:j<s.chs.length:=by omega
     have hg:=bP .bw s.chs j hil
     have hr:=hs.list _ (yL s.chs j default hil)
     simp only [go_sem,seval,hg]
     repeat refine K ?_
     refine DA [] (iG (s.chs.getD j default).list (s.chs.getD j default).list (by omega)) ?_
     try simp only [go_sem,seval]
     repeat refine K ?_
     try simp only [go_sem,seval,qW (i:=j) (by omega)]
     repeat refine K ?_
     refine qU (j+1) (Sub.shape [] id (by omega) ?_ ?_ ?_ ?_) ?_ ?_
     any_goals (first | omega | (simp [qL]; done))
    ·simp only [decide_eq_false_iff_not] at hc
     simp only [go_sem,seval]
     repeat refine K ?_
     refine fz ?_; simp [yK,wB,wC,wJ,-wAu]
end Go.Sep
