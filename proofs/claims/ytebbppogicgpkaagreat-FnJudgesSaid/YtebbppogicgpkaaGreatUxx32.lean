/- Contracts of functions. -/
import Derived.Test.YtebbppogicgpkaaGreatUxx30
open List renaming drop_one → qZ8, range → qZg
namespace Go.Sep
set_option maxHeartbeats 16000000
open Go.Proofs
set_option linter.unusedSimpArgs false
set_option linter.unusedVariables false
set_option maxRecDepth 100000
def m394:MFn:=⟨66,[.t 6],kr [xb 3 0,xb 4 1,xb 5 2,xF 6] (.seq (kr [xm 9 2 3,xc1 10 62 (.t 9),xN 11 10,xv 12 11,xg 13 (.load 4 true (.t 4)) 12 false,xg 14 (.call 233 [false] [.t 13]) 12 false,zN 15 14 12,xQ 16 12 15,xv 17 16,xg 18 (.load 2 true (.t 3)) 17 false,xg 19 (.load 3 true (.t 5)) 17 false,xg 20 (.call 63 [false,false] [.t 18,.t 19]) 17 false,zN 21 20 17,xQ 22 17 21,xv 23 22,za 24 3 4 23,zl 25 1 24 23,za 26 2 5 23,zl 27 1 26 23,xg 28 (.call 417 [false,false] [.t 25,.t 27]) 23 false,zN 29 28 23,xQ 30 23 29,xv 31 30,za 32 1 4 31,zl 33 1 32 31,ze 34 33 31,za 35 0 5 31,zl 36 1 35 31,ze 37 36 31,xg 38 (.bin .neq (.t 34) (.t 37)) 31 false,xQ 39 31 38] (kF 39 [xF 6])) (.seq (kr [xI 7 0] (.blk 0 (.loop (.seq (kr [xv 40 7,xa 41 1 4,xl 42 41,xe 43 42,bT 44 .lss 40 43] (kX 44 0)) (.seq (.blk 1 (kr [xm 47 2 3,xm 48 4 4,xm 49 3 5,xv 50 7,xo 51 (.call 174 [false,false,false,false] [.t 47,.t 48,.t 49,.t 50]),xN 52 51] (kF 52 [xF 6]))) (xr [xv 45 7,bI 46 .add 45 1,xv 7 46])))))) (.seq (kr [xI 8 0] (.blk 2 (.loop (.seq (kr [xv 53 8,xa 54 0 3,xl 55 54,xe 56 55,bT 57 .lss 53 56] (kX 57 2)) (.seq (.blk 3 (kr [xm 60 2 3,xm 61 4 4,xm 62 3 5,xv 63 8,xo 64 (.call 418 [false,false,false,false] [.t 60,.t 61,.t 62,.t 63]),xN 65 64] (kF 65 [xF 6]))) (xr [xv 58 8,bI 59 .add 58 1,xv 8 59])))))) (kR [xT 6]))))⟩
def m395:MFn:=⟨66,[.t 6],kr [xb 3 0,xb 4 1,xb 5 2,xF 6] (.seq (kr [xm 9 2 3,xc1 10 48 (.t 9),xN 11 10,xv 12 11,xg 13 (.load 4 true (.t 4)) 12 false,xg 14 (.call 235 [false] [.t 13]) 12 false,zN 15 14 12,xQ 16 12 15,xv 17 16,xg 18 (.load 2 true (.t 3)) 17 false,xg 19 (.load 3 true (.t 5)) 17 false,xg 20 (.call 50 [false,false] [.t 18,.t 19]) 17 false,zN 21 20 17,xQ 22 17 21,xv 23 22,za 24 1 4 23,zl 25 1 24 23,ze 26 25 23,za 27 0 5 23,zl 28 1 27 23,ze 29 28 23,xg 30 (.bin .neq (.t 26) (.t 29)) 23 false,xQ 31 23 30,xv 32 31,za 33 3 4 32,zl 34 1 33 32,za 35 2 5 32,zl 36 1 35 32,xg 37 (.call 419 [false,false] [.t 34,.t 36]) 32 false,zN 38 37 32,xQ 39 32 38] (kF 39 [xF 6])) (.seq (kr [xa 40 1 4,xl 41 40,xe 42 41,xI 43 0] (.blk 0 (.loop (kr [bT 44 .lss 43 42] (.seq (kX 44 0) (.seq (.blk 1 (kr [xv 45 43,xv 7 45] (kr [xm 46 2 3,xm 47 4 4,xm 48 3 5,xv 49 7,xo 50 (.call 175 [false,false,false,false] [.t 46,.t 47,.t 48,.t 49]),xN 51 50] (kF 51 [xF 6])))) (xr [bI 52 .add 43 1,xv 43 52]))))))) (.seq (kr [xa 53 0 3,xl 54 53,xe 55 54,xI 56 0] (.blk 2 (.loop (kr [bT 57 .lss 56 55] (.seq (kX 57 2) (.seq (.blk 3 (kr [xv 58 56,xv 8 58] (kr [xm 59 2 3,xm 60 4 4,xm 61 3 5,xv 62 8,xo 63 (.call 420 [false,false,false,false] [.t 59,.t 60,.t 61,.t 62]),xN 64 63] (kF 64 [xF 6])))) (xr [bI 65 .add 56 1,xv 56 65]))))))) (kR [xT 6]))))⟩
def m417:MFn:=⟨32,[.t 4],kr [xF 4] (.seq (kr [xI 5 0] (.blk 0 (.loop (.seq (kr [xv 6 5,xv 7 0,xe 8 7,bT 9 .lss 6 8,xv 10 9,yv 11 5 10,yv 12 1 10,ye 13 12 10,xg 14 (.bin .lss (.t 11) (.t 13)) 10 true,xP 15 10 14] (kX 15 0)) (.seq (.blk 1 (.seq (.dreg (.take 0 (xv 18 0) (.take 1 (xv 19 5) (.take 2 (xD 20 2 18 19) (.take 3 (xm 21 2 20) (.take 4 (xv 22 1) (.only 5 [] (xv 23 5) (.only 6 [4] (xD 24 2 22 23) (.only 7 [6,4] (xm 25 2 24) (.only 8 [3,7,2,6,0,1,4] (xo 26 (.eqS true [true,true] (.t 21) (.t 25))) (.done))))))))))) (kF 26 [xF 4]))) (xr [xv 16 5,bI 17 .add 16 1,xv 5 17])))))) (kR [xv 27 0,xe 28 27,xv 29 1,xe 30 29,bT 31 .eql 28 30,xv 4 31]))⟩
def m418:MFn:=⟨66,[.t 8],kr [xb 4 0,xb 5 1,xb 6 2,xF 8] (.seq (kr [xa 12 0 4,xl 13 12,xv 14 3,xc2 15 257 (.t 13) (.t 14),bI 16 .lss 15 0,xv 17 16,zv 18 3 17,za 19 1 6 17,zl 20 1 19 17,ze 21 20 17,xg 22 (.bin .geq (.t 18) (.t 21)) 17 false,xQ 23 17 22] (kF 23 [xF 8])) (.seq (kr [xa 24 2 5,xm 25 1 24,xa 26 0 4,xl 27 26,xv 28 3,xc3 29 422 (.t 25) (.t 27) (.t 28)] (kF 29 [xT 8])) (kr [xa 31 2 5,xm 32 1 31,xa 33 0 4,xl 34 33,xv 35 3,xc3 36 421 (.t 32) (.t 34) (.t 35),xv 30 36,xX 37 30 0,xX 38 30 1,xo 9 (.alloc [.int .i64 0,.nil,.bool false]),xS 3 9 37,xv 10 38] (kr [xa 39 1 6,xl 40 39,xv 41 3,xD 42 3 40 41,xm 43 3 42,xo 11 (.alloc [.int .i64 0,.nil,.bool false]),xS 3 11 43] (kR [xv 44 10,xv 45 44,ya 46 0 9 45,yl 47 1 46 45,ya 48 0 11 45,yl 49 1 48 45,xg 50 (.bin .eql (.t 47) (.t 49)) 45 true,xP 51 45 50,xv 52 51,ya 53 2 9 52,yl 54 1 53 52,ya 55 2 11 52,yl 56 1 55 52,xg 57 (.eqB false (.t 54) (.t 56)) 52 true,xP 58 52 57,xv 59 58,ya 60 1 9 59,yl 61 1 60 59,ya 62 1 11 59,yl 63 1 62 59,xg 64 (.call 433 [false,false] [.t 61,.t 63]) 59 true,xP 65 59 64,xv 8 65])))))⟩
def m419:MFn:=⟨26,[.t 4],kr [xF 4] (.seq (kr [xv 6 0,xe 7 6,xv 8 1,xe 9 8,bT 10 .neq 7 9] (kF 10 [xF 4])) (.seq (kr [xv 11 0,xe 12 11,xI 13 0] (.blk 0 (.loop (kr [bT 14 .lss 13 12] (.seq (kX 14 0) (.seq (.blk 1 (kr [xv 15 13,xv 5 15] (.seq (.dreg (.take 0 (xv 16 0) (.take 1 (xv 17 5) (.take 2 (xD 18 2 16 17) (.take 3 (xm 19 2 18) (.take 4 (xv 20 1) (.only 5 [] (xv 21 5) (.only 6 [4] (xD 22 2 20 21) (.only 7 [6,4] (xm 23 2 22) (.only 8 [3,7,2,6,0,1,4] (xo 24 (.eqS true [true,true] (.t 19) (.t 23))) (.done))))))))))) (kF 24 [xF 4])))) (xr [bI 25 .add 13 1,xv 13 25]))))))) (kR [xT 4])))⟩
def m420:MFn:=⟨68,[.t 8],kr [xb 4 0,xb 5 1,xb 6 2,xF 8] (.seq (kr [xv 12 3,xa 13 0 4,xl 14 13,xe 15 14,bI 16 .sub 15 1,xc3 17 59 (.t 12) (xi 0) (.t 16),xN 18 17,xv 19 18,zv 20 3 19,za 21 1 6 19,zl 22 1 21 19,ze 23 22 19,xg 24 (.bin .geq (.t 20) (.t 23)) 19 false,xQ 25 19 24] (kF 25 [xF 8])) (.seq (kr [xa 26 2 5,xm 27 1 26,xa 28 0 4,xl 29 28,xv 30 3,xc3 31 424 (.t 27) (.t 29) (.t 30)] (kF 31 [xT 8])) (kr [xa 33 2 5,xm 34 1 33,xa 35 0 4,xl 36 35,xv 37 3,xc3 38 423 (.t 34) (.t 36) (.t 37),xv 32 38,xX 39 32 0,xX 40 32 1,xo 9 (.alloc [.int .i64 0,.nil,.bool false]),xS 3 9 39,xv 10 40] (kr [xa 41 1 6,xl 42 41,xv 43 3,xD 44 3 42 43,xm 45 3 44,xo 11 (.alloc [.int .i64 0,.nil,.bool false]),xS 3 11 45] (kR [xv 46 10,xv 47 46,ya 48 0 9 47,yl 49 1 48 47,ya 50 0 11 47,yl 51 1 50 47,xg 52 (.bin .eql (.t 49) (.t 51)) 47 true,xP 53 47 52,xv 54 53,ya 55 1 9 54,yl 56 1 55 54,ya 57 1 11 54,yl 58 1 57 54,xg 59 (.call 34 [false,false] [.t 56,.t 58]) 54 true,xP 60 54 59,xv 61 60,ya 62 2 9 61,yl 63 1 62 61,ya 64 2 11 61,yl 65 1 64 61,xg 66 (.eqB false (.t 63) (.t 65)) 61 true,xP 67 61 66,xv 8 67])))))⟩
def m433:MFn:=⟨32,[.t 4],kr [xF 4] (.seq (kr [xI 5 0] (.blk 0 (.loop (.seq (kr [xv 6 5,xv 7 0,xe 8 7,bT 9 .lss 6 8,xv 10 9,yv 11 5 10,yv 12 1 10,ye 13 12 10,xg 14 (.bin .lss (.t 11) (.t 13)) 10 true,xP 15 10 14] (kX 15 0)) (.seq (.blk 1 (.seq (.dreg (.take 0 (xv 18 0) (.take 1 (xv 19 5) (.take 2 (xD 20 1 18 19) (.take 3 (xl 21 20) (.take 4 (xv 22 1) (.only 5 [] (xv 23 5) (.only 6 [4] (xD 24 1 22 23) (.only 7 [6,4] (xl 25 24) (.only 8 [3,7,2,6,0,1,4] (bT 26 .neq 21 25) (.done))))))))))) (kF 26 [xF 4]))) (xr [xv 16 5,bI 17 .add 16 1,xv 5 17])))))) (kR [xv 27 0,xe 28 27,xv 29 1,xe 30 29,bT 31 .eql 28 30,xv 4 31]))⟩
theorem qHf {a b:List aP} (i:Nat) (h1:i<a.length) (h2:i<b.length) (hp:a.take i=b.take i) (he:a.getD i default=b.getD i default):a.take (i+1)=b.take (i+1):=by
 rw [uZ a default i h1,uZ b default i h2,hp,he]
theorem qNn (x y:aP):(decide (x.who=y.who)&&decide (x.v=y.v))=decide (x=y):=by
 obtain ⟨x1,x2⟩:=x
 obtain ⟨y1,y2⟩:=y
 by_cases h1:x1=y1<;>by_cases h2:x2=y2<;>simp [h1,h2]
theorem qGj {α:Type} {a b:List α} {i:Nat} (hp:a.take i=b.take i) (h1:a.length≤i∨b.length≤i) (hl:a.length=b.length):a=b:=by
 rw [←List.take_of_length_le (show a.length≤i by omega),hp,List.take_of_length_le (by omega)]
theorem qBh (a b:List Int) (h1:a.length<2^40):qU Tryz.prog num 433 [.sl .bw 1 (wS a),.sl .bw 1 (wS b)] [] (.bool (decide (a=b))):=by
 refine EN m433 Tryz.func110 ?_
 unfold m433
 simp only [go_sem,seval]
 refine wC (ι:=Nat) (fun i=>.mk [(0,.sl .bw 1 (wS a)),(1,.sl .bw 1 (wS b)),(5,.int .i64 i)] [] 10) (fun i=>i≤a.length∧i≤b.length∧a.take i=b.take i) (fun i=>a.length-i) 0 (by simp) ?_ ?_
 ·refine Sub.shape [] id (by omega) ?_ ?_ ?_ ?_<;>simp [qM]
 ·rintro i ⟨hi,hj,hp⟩
  have hend:(a.length≤i∨b.length≤i)→decide ((a.length:Int)=b.length)=decide (a=b):=fun h=>by
   by_cases hl:a.length=b.length
   ·rw [qGj hp h hl]
    simp
   ·have :¬a=b:=fun e=>hl (by rw [e])
    simp [this]
    omega
  by_cases hc1:(i:Int)<a.length
  case neg =>
   simp only [go_sem,seval,hc1,hend (.inl (by omega))]
   refine fz ?_; simp [wA,qR,qS,qN,-qZ8]
  by_cases hc2:(i:Int)<b.length
  case neg =>
   simp only [go_sem,seval,hc1,hc2,hend (.inr (by omega))]
   refine fz ?_; simp [wA,qR,qS,qN,-qZ8]
  have g1:i<a.length:=by omega
  have g2:i<b.length:=by omega
  simp only [go_sem,seval,hc1,hc2,qI a i g1,qI b i g2]
  repeat refine K ?_
  by_cases he:a.getD i 0=b.getD i 0
  ·try simp only [go_sem,seval,he,qV (i:=i) (by omega)]
   refine qW (i+1) (Sub.shape [] id (by omega) ?_ ?_ ?_ ?_) ⟨g1,g2,by rw [uZ a 0 i g1,uZ b 0 i g2,hp,he]⟩ (by omega)<;>simp [qM]
  ·have hne :¬a=b:=fun e=>he (by rw [e])
   try simp only [go_sem,seval,he]
   refine fz ?_; simp [wA,qR,qS,qN,-qZ8]
   all_goals simp [hne]
theorem tB (a b:List aP) (h1:a.length<2^40):qU Tryz.prog num 417 [.sl .bw 2 (jZ a),.sl .bw 2 (jZ b)] [] (.bool (decide (a=b))):=by
 refine EN m417 Tryz.func121 ?_
 unfold m417
 simp only [go_sem,seval]
 refine wC (ι:=Nat) (fun i=>.mk [(0,.sl .bw 2 (jZ a)),(1,.sl .bw 2 (jZ b)),(5,.int .i64 i)] [] 10) (fun i=>i≤a.length∧i≤b.length∧a.take i=b.take i) (fun i=>a.length-i) 0 (by simp) ?_ ?_
 ·refine Sub.shape [] id (by omega) ?_ ?_ ?_ ?_<;>simp [qM]
 ·rintro i ⟨hi,hj,hp⟩
  have hend:(a.length≤i∨b.length≤i)→decide ((a.length:Int)=b.length)=decide (a=b):=fun h=>by
   by_cases hl:a.length=b.length
   ·rw [qGj hp h hl]
    simp
   ·have :¬a=b:=fun e=>hl (by rw [e])
    simp [this]
    omega
  by_cases hc1:(i:Int)<a.length
  case neg =>
   simp only [go_sem,seval,hc1,hend (.inl (by omega))]
   refine fz ?_; simp [wA,qR,qS,qN,-qZ8]
  by_cases hc2:(i:Int)<b.length
  case neg =>
   simp only [go_sem,seval,hc1,hc2,hend (.inr (by omega))]
   refine fz ?_; simp [wA,qR,qS,qN,-qZ8]
  have g1:i<a.length:=by omega
  have g2:i<b.length:=by omega
  simp only [go_sem,seval,hc1,hc2,fG a i g1,fG b i g2,qNn]
  repeat refine K ?_
  by_cases he:a.getD i default=b.getD i default
  ·have d3:(!decide (a.getD i default=b.getD i default))=false:=by rw [decide_eq_true he]; rfl
   try simp only [go_sem,seval,d3,qV (i:=i) (by omega)]
   refine qW (i+1) (Sub.shape [] id (by omega) ?_ ?_ ?_ ?_) ⟨g1,g2,qHf i g1 g2 hp he⟩ (by omega)<;>simp [qM]
  ·have hne :¬a=b:=fun e=>he (by rw [e])
   have d3:(!decide (a.getD i default=b.getD i default))=true:=by rw [decide_eq_false he]; rfl
   try simp only [go_sem,seval,d3]
   refine fz ?_; simp [wA,qR,qS,qN,-qZ8]
   all_goals simp [hne]
theorem oD (a b:List aP) (h1:a.length<2^40):qU Tryz.prog num 419 [.sl .bw 2 (jZ a),.sl .bw 2 (jZ b)] [] (.bool (decide (a=b))):=by
 refine EN m419 Tryz.func80 ?_
 unfold m419
 by_cases hl:a.length=b.length
 ·have d0:decide ((a.length:Int)=(b.length:Int))=true:=by simp [hl]
  simp only [go_sem,seval,d0]
  refine wC (ι:=Nat) (fun i=>.mk [(0,.sl .bw 2 (jZ a)),(1,.sl .bw 2 (jZ b)),(12,.int .i64 a.length),(13,.int .i64 i)] [] 10) (fun i=>i≤a.length∧a.take i=b.take i) (fun i=>a.length-i) 0 (by simp) ?_ ?_
  ·refine Sub.shape [] id (by omega) ?_ ?_ ?_ ?_<;>simp [qM]
  ·rintro i ⟨hi,hp⟩
   simp only [go_sem,seval]
   refine qP (fun hc=>?_) (fun hc=>?_)
   ·simp only [decide_eq_true_eq] at hc
    have g1:i<a.length:=by omega
    have g2:i<b.length:=by omega
    simp only [go_sem,seval,fG a i g1,fG b i g2,qNn]
    repeat refine K ?_
    by_cases he:a.getD i default=b.getD i default
    ·have d3:(!decide (a.getD i default=b.getD i default))=false:=by rw [decide_eq_true he]; rfl
     try simp only [go_sem,seval,d3,qV (i:=i) (by omega)]
     refine qW (i+1) (Sub.shape [] id (by omega) ?_ ?_ ?_ ?_) ⟨g1,qHf i g1 g2 hp he⟩ (by omega)<;>simp [qM]
    ·have hne :¬a=b:=fun e=>he (by rw [e])
     have d3:(!decide (a.getD i default=b.getD i default))=true:=by rw [decide_eq_false he]; rfl
     try simp only [go_sem,seval,d3]
     refine fz ?_; simp [wA,qR,qS,qN,-qZ8]
     all_goals simp [hne]
   ·simp only [decide_eq_false_iff_not] at hc
    have hab:a=b:=qGj hp (.inl (by omega)) hl
    simp only [go_sem,seval]
    refine fz ?_; simp [wA,qR,qS,qN,-qZ8]
    all_goals simp [hab]
 ·have d0:decide ((a.length:Int)=(b.length:Int))=false:=by simp; omega
  have hne :¬a=b:=fun e=>hl (by rw [e])
  simp only [go_sem,seval,d0]
  refine fz ?_; simp [wA,qR,qS,qN,-qZ8]
  all_goals simp [hne]
def vQ (p:wV) (m:qY) (s:wL) (n:Int):Bool :=
 qL n 0 (p.caps.length-1)&&decide (n<s.chs.length) &&
  (uB m.mem.cells p.caps n||((uC m.mem.cells p.caps n).2&&decide ((uC m.mem.cells p.caps n).1.cap=(s.chs.getD n.toNat default).cap)&&decide ((uC m.mem.cells p.caps n).1.list=(s.chs.getD n.toNat default).list)&&decide ((uC m.mem.cells p.caps n).1.closed=(s.chs.getD n.toNat default).closed)))
theorem qIi (cs:List (List wY)) (caps:List Int) (n:Int):(uC cs caps n).1.list.length<2^40:=by
 unfold uC
 split
 ·rename_i h
  simp only [Bool.and_eq_true,Bool.not_eq_true',decide_eq_false_iff_not] at h
  obtain ⟨_,_,_,_,_,h3⟩:=aZ h.1
  rw [qO] at h3
  unfold zU
  split
  ·rename_i hh
   simp only [Bool.and_eq_true,qO] at hh
   simp only [lP]
   omega
  ·simp [dG]
 ·simp [dG]
theorem qFw (p:wV) (m:qY) (s:wL) (n:Int) (hp:uD p) (hm:lF m) (hs:iF s):qU Tryz.prog num 420 [.agg (jA .bw p),.agg (qX .bw m),.agg (yM .bw s),.int .i64 n] [] (.bool (vQ p m s n)):=by
 have h1:=hp.caps
 have h2:=hs.chs
 have w1:IntKind.i64.wrap ((p.caps.length:Int)-1)=p.caps.length-1:=wK (by omega) (by omega)
 refine EN m420 Tryz.func55 ?_
 unfold m420
 simp only [go_sem,seval,w1]
 refine CA [] (yE n 0 (p.caps.length-1)) ?_
 try simp only [go_sem,seval]
 cases hw:qL n 0 (p.caps.length-1)
 ·try simp only [go_sem,seval,hw]
  refine fz ?_; simp [wA,qR,qS,qN,-qZ8]
  all_goals simp [vQ,hw]
 have hw':=qO.1 hw
 by_cases hn:(s.chs.length:Int)≤n
 ·try simp only [go_sem,seval,hw,hn]
  refine fz ?_; simp [wA,qR,qS,qN,-qZ8]
  all_goals simp [vQ,show¬n<s.chs.length by omega]
 have hn':n<s.chs.length:=by omega
 obtain ⟨i,rfl⟩:=Int.eq_ofNat_of_zero_le hw'.1
 have hi:i<s.chs.length:=by omega
 have hcg:=uW .bw s.chs i hi
 have hres:vQ p m s i=(uB m.mem.cells p.caps i||((uC m.mem.cells p.caps i).2&&decide ((uC m.mem.cells p.caps i).1.cap=(s.chs.getD i default).cap)&&decide ((uC m.mem.cells p.caps i).1.list=(s.chs.getD i default).list)&&decide ((uC m.mem.cells p.caps i).1.closed=(s.chs.getD i default).closed))):=by
  unfold vQ
  rw [hw,decide_eq_true hn',Int.toNat_natCast]
  rfl
 rw [hres]
 clear hres
 have hlk:=qAy m.mem.cells p.caps i hm.mem h1
 have hci:=qB0 m.mem.cells p.caps i hm.mem h1
 have hcl:=qIi m.mem.cells p.caps i
 try simp only [go_sem,seval,hw,hn,hcg]
 refine CA [] (hlk) ?_
 try simp only [go_sem,seval]
 generalize hL:uB m.mem.cells p.caps i=L
 cases L
 ·try simp only [go_sem,seval,hL]
  refine CA [] (hci) ?_
  try simp only [go_sem,seval]
  repeat refine K ?_
  generalize uC m.mem.cells p.caps i=q at *
  obtain ⟨c,b⟩:=q
  generalize s.chs.getD i default=d at *
  simp only at hcl⊢
  cases b
  ·try simp only [go_sem,seval,hcg]
   refine fz ?_; simp [wA,qR,qS,qN,-qZ8]
  by_cases hc1:c.cap=d.cap
  case neg =>
   try simp only [go_sem,seval,hc1,hcg]
   refine fz ?_; simp [wA,qR,qS,qN,-qZ8]
   all_goals simp [hc1]
  try simp only [go_sem,seval,hc1,hcg]
  refine CA [] (hD c.list d.list (by omega)) ?_
  try simp only [go_sem,seval]
  by_cases hc2:c.list=d.list
  case neg =>
   try simp only [go_sem,seval,hc2]
   refine fz ?_; simp [wA,qR,qS,qN,-qZ8]
   all_goals simp [hc2]
  try simp only [go_sem,seval,hc2,hcg]
  refine fz ?_; simp [wA,qR,qS,qN,-qZ8]
  all_goals (cases c.closed<;>cases d.closed<;>simp [hc1,hc2])
 ·try simp only [go_sem,seval,hL]
  refine fz ?_; simp [wA,qR,qS,qN,-qZ8]
theorem qFq (p:wV) (m:qY) (s:wL) (n:Int) (hp:uD p) (hm:lF m) (hs:iF s):qU Tryz.prog num 418 [.agg (jA .bw p),.agg (qX .bw m),.agg (yM .bw s),.int .i64 n] [] (.bool (vQ p m s n)):=by
 have h1:=hp.caps
 have h2:=hs.chs
 refine EN m418 Tryz.func56 ?_
 unfold m418
 simp only [go_sem,seval]
 refine CA [] (nA p.caps n h1) ?_
 try simp only [go_sem,seval]
 by_cases hb:base p.caps n<0
 ·have hno:vQ p m s n=false:=by
   unfold vQ
   have e1:uB m.mem.cells p.caps n=false:=by
    unfold uB
    rw [decide_eq_false (by omega)]
    rfl
   rw [e1,pE (.inl hb)]
   simp
  rw [hno]
  try simp only [go_sem,seval,hb]
  refine fz ?_; simp [wA,qR,qS,qN,-qZ8]
 obtain ⟨n0,n1,_⟩:=aZ hb
 have hw:qL n 0 (p.caps.length-1)=true:=by rw [qO]; omega
 by_cases hn:(s.chs.length:Int)≤n
 ·try simp only [go_sem,seval,hb,hn]
  refine fz ?_; simp [wA,qR,qS,qN,-qZ8]
  all_goals simp [vQ,show¬n<s.chs.length by omega]
 have hn':n<s.chs.length:=by omega
 obtain ⟨i,rfl⟩:=Int.eq_ofNat_of_zero_le n0
 have hi:i<s.chs.length:=by omega
 have hcg:=uW .bw s.chs i hi
 have hres:vQ p m s i=(uB m.mem.cells p.caps i||((uC m.mem.cells p.caps i).2&&decide ((uC m.mem.cells p.caps i).1.cap=(s.chs.getD i default).cap)&&decide ((uC m.mem.cells p.caps i).1.list=(s.chs.getD i default).list)&&decide ((uC m.mem.cells p.caps i).1.closed=(s.chs.getD i default).closed))):=by
  unfold vQ
  rw [hw,decide_eq_true hn',Int.toNat_natCast]
  rfl
 rw [hres]
 clear hres
 have hlk:=qAn m.mem.cells p.caps i hm.mem h1
 have hci:=qAp m.mem.cells p.caps i hm.mem h1
 have hcl:=qIi m.mem.cells p.caps i
 try simp only [go_sem,seval,hb,hn,hcg]
 refine CA [] (hlk) ?_
 try simp only [go_sem,seval]
 generalize hL:uB m.mem.cells p.caps i=L
 cases L
 ·try simp only [go_sem,seval,hL]
  refine CA [] (hci) ?_
  try simp only [go_sem,seval]
  repeat refine K ?_
  generalize uC m.mem.cells p.caps i=q at *
  obtain ⟨c,b⟩:=q
  generalize s.chs.getD i default=d at *
  simp only at hcl⊢
  cases b
  ·try simp only [go_sem,seval,hcg]
   refine fz ?_; simp [wA,qR,qS,qN,-qZ8]
  by_cases hc1:c.cap=d.cap
  case neg =>
   try simp only [go_sem,seval,hc1,hcg]
   refine fz ?_; simp [wA,qR,qS,qN,-qZ8]
   all_goals simp [hc1]
  by_cases hc3:c.closed=d.closed
  case neg =>
   have e3:(c.closed==d.closed)=false:=by simpa using hc3
   try simp only [go_sem,seval,hc1,e3,hcg]
   refine fz ?_; simp [wA,qR,qS,qN,-qZ8]
   all_goals simp [hc3]
  have e3:(c.closed==d.closed)=true:=by simpa using hc3
  try simp only [go_sem,seval,hc1,e3,hcg]
  refine CA [] (qBh c.list d.list (by omega)) ?_
  try simp only [go_sem,seval]
  refine fz ?_; simp [wA,qR,qS,qN,-qZ8]
  all_goals simp [hc1,hc3]
 ·try simp only [go_sem,seval,hL]
  refine fz ?_; simp [wA,qR,qS,qN,-qZ8]
def same (p:wV) (m:qY) (s:wL):Bool :=
 jX p&&jJ m&&wO p s&&decide (m.cores.length=s.ths.length)&&decide (m.tr=s.tr) &&
  (qZg m.cores.length).all (fun i=>vJ p m s i)&&(qZg p.caps.length).all (fun n=>vQ p m s n)
theorem qN5 (p:wV) (m:qY) (s:wL) (hp:uD p) (hm:lF m) (hs:iF s):qU Tryz.prog num 394 [.agg (jA .bw p),.agg (qX .bw m),.agg (yM .bw s)] [] (.bool (same p m s)):=by
 have h1:=hp.caps
 have h2:=hp.bods
 have h3:=hp.body'
 have h4:=hm.cores
 have h5:=hm.tr
 refine EN m394 Tryz.func50 ?_
 unfold m394
 simp only [go_sem,seval]
 refine CA [] (eG p (by omega) (by omega) h3) ?_
 try simp only [go_sem,seval]
 cases k1:jX p
 ·try simp only [go_sem,seval,k1]
  refine fz ?_; simp [wA,qR,qS,qN,-qZ8]
  all_goals simp [same,k1]
 try simp only [go_sem,seval,k1]
 refine CA [] (oL m hm) ?_
 try simp only [go_sem,seval]
 cases k2:jJ m
 ·try simp only [go_sem,seval,k2]
  refine fz ?_; simp [wA,qR,qS,qN,-qZ8]
  all_goals simp [same,k2]
 try simp only [go_sem,seval,k2]
 refine CA [] (kY p s hp hs) ?_
 try simp only [go_sem,seval]
 cases k3:wO p s
 ·try simp only [go_sem,seval,k3]
  refine fz ?_; simp [wA,qR,qS,qN,-qZ8]
  all_goals simp [same,k3]
 try simp only [go_sem,seval,k3]
 refine CA [] (tB m.tr s.tr (by omega)) ?_
 try simp only [go_sem,seval]
 by_cases k4:m.tr=s.tr
 case neg =>
  try simp only [go_sem,seval,k4]
  refine fz ?_; simp [wA,qR,qS,qN,-qZ8]
  all_goals simp [same,k4]
 by_cases k5:(m.cores.length:Int)=s.ths.length
 case neg =>
  try simp only [go_sem,seval,k4,k5]
  refine fz ?_; simp [wA,qR,qS,qN,-qZ8]
  all_goals simp [same,show¬m.cores.length=s.ths.length by omega]
 try simp only [go_sem,seval,k4,k5]
 refine wC (ι:=Nat) (fun i=>.mk [(3,.ptr 10 0 0),(4,.ptr 11 0 0),(5,.ptr 12 0 0),(7,.int .i64 i)] [(10,2,[jA .bw p]),(11,4,[qX .bw m]),(12,3,[yM .bw s])] 13) (fun i=>i≤m.cores.length∧(qZg i).all (fun j=>vJ p m s j)=true) (fun i=>m.cores.length-i) 0 (by simp) ?_ ?_
 ·refine Sub.shape [] id (by omega) ?_ ?_ ?_ ?_<;>simp [qM]
  all_goals simp [k4]
 ·rintro i ⟨hi,hq⟩
  simp only [go_sem,seval]
  refine qP (fun hc=>?_) (fun hc=>?_)
  ·simp only [decide_eq_true_eq] at hc
   have hil:i<m.cores.length:=by omega
   simp only [go_sem,seval]
   refine CA [] (qFp p m s i hp hm hs) ?_
   try simp only [go_sem,seval]
   cases hcs:vJ p m s i
   ·try simp only [go_sem,seval,hcs]
    refine fz ?_; simp [wA,qR,qS,qN,-qZ8]
    have:(qZg m.cores.length).all (fun j=>vJ p m s j)=false:=vM (P:=fun j=>vJ p m s j) hil hcs
    simp [same,this]
   ·try simp only [go_sem,seval,hcs,qV (i:=i) (by omega)]
    refine qW (i+1) (Sub.shape [] id (by omega) ?_ ?_ ?_ ?_) ?_ ?_
    any_goals (first | omega | (simp [qM]; done))
    exact ⟨hil,gC (P:=fun j=>vJ p m s j) hq hcs⟩
  ·simp only [decide_eq_false_iff_not] at hc
   have hall:(qZg m.cores.length).all (fun j=>vJ p m s j)=true:=cF (P:=fun j=>vJ p m s j) hq hc hi
   simp only [go_sem,seval]
   refine wC (ι:=Nat) (fun i=>.mk [(3,.ptr 10 0 0),(4,.ptr 11 0 0),(5,.ptr 12 0 0),(8,.int .i64 i)] [(10,2,[jA .bw p]),(11,4,[qX .bw m]),(12,3,[yM .bw s])] 13) (fun i=>i≤p.caps.length∧(qZg i).all (fun j=>vQ p m s j)=true) (fun i=>p.caps.length-i) 0 (by simp) ?_ ?_
   ·refine Sub.shape [] id (by omega) ?_ ?_ ?_ ?_<;>simp [qM]
   ·clear hc hq hi
    clear i
    rintro i ⟨hi,hq⟩
    simp only [go_sem,seval]
    refine qP (fun hc=>?_) (fun hc=>?_)
    ·simp only [decide_eq_true_eq] at hc
     have hil:i<p.caps.length:=by omega
     simp only [go_sem,seval]
     refine CA [] (qFq p m s i hp hm hs) ?_
     try simp only [go_sem,seval]
     cases hcs:vQ p m s i
     ·try simp only [go_sem,seval,hcs]
      refine fz ?_; simp [wA,qR,qS,qN,-qZ8]
      have:(qZg p.caps.length).all (fun j=>vQ p m s j)=false:=vM (P:=fun j=>vQ p m s j) hil hcs
      simp [same,this]
     ·try simp only [go_sem,seval,hcs,qV (i:=i) (by omega)]
      refine qW (i+1) (Sub.shape [] id (by omega) ?_ ?_ ?_ ?_) ?_ ?_
      any_goals (first | omega | (simp [qM]; done))
      exact ⟨hil,gC (P:=fun j=>vQ p m s j) hq hcs⟩
    ·simp only [decide_eq_false_iff_not] at hc
     have hall2:(qZg p.caps.length).all (fun j=>vQ p m s j)=true:=cF (P:=fun j=>vQ p m s j) hq hc hi
     have e5:m.cores.length=s.ths.length:=by omega
     simp only [go_sem,seval]
     refine fz ?_; simp [wA,qR,qS,qN,-qZ8]
     unfold same
     rw [k1,k2,k3,hall,hall2,decide_eq_true k4,decide_eq_true e5]
     rfl
theorem qOh (p:wV) (m:qY) (s:wL) (hp:uD p) (hm:lF m) (hs:iF s):qU Tryz.prog num 395 [.agg (jA .bw p),.agg (qX .bw m),.agg (yM .bw s)] [] (.bool (same p m s)):=by
 have h1:=hp.caps
 have h2:=hp.bods
 have h3:=hp.body'
 have h4:=hm.cores
 have h5:=hm.tr
 refine EN m395 Tryz.func23 ?_
 unfold m395
 simp only [go_sem,seval]
 refine CA [] (cZ p (by omega) (by omega) h3) ?_
 try simp only [go_sem,seval]
 cases k1:jX p
 ·try simp only [go_sem,seval,k1]
  refine fz ?_; simp [wA,qR,qS,qN,-qZ8]
  all_goals simp [same,k1]
 try simp only [go_sem,seval,k1]
 refine CA [] (oZ m hm) ?_
 try simp only [go_sem,seval]
 cases k2:jJ m
 ·try simp only [go_sem,seval,k2]
  refine fz ?_; simp [wA,qR,qS,qN,-qZ8]
  all_goals simp [same,k2]
 try simp only [go_sem,seval,k2]
 refine CA [] (sD p s hp hs) ?_
 try simp only [go_sem,seval]
 cases k3:wO p s
 ·try simp only [go_sem,seval,k3]
  refine fz ?_; simp [wA,qR,qS,qN,-qZ8]
  all_goals simp [same,k3]
 by_cases k5:(m.cores.length:Int)=s.ths.length
 case neg =>
  try simp only [go_sem,seval,k3,k5]
  refine fz ?_; simp [wA,qR,qS,qN,-qZ8]
  all_goals simp [same,show¬m.cores.length=s.ths.length by omega]
 try simp only [go_sem,seval,k3,k5]
 refine CA [] (oD m.tr s.tr (by omega)) ?_
 try simp only [go_sem,seval]
 by_cases k4:m.tr=s.tr
 case neg =>
  try simp only [go_sem,seval,k4]
  refine fz ?_; simp [wA,qR,qS,qN,-qZ8]
  all_goals simp [same,k4]
 try simp only [go_sem,seval,k4]
 refine wC (ι:=Nat) (fun i=>.mk [(3,.ptr 10 0 0),(4,.ptr 11 0 0),(5,.ptr 12 0 0),(42,.int .i64 m.cores.length),(43,.int .i64 i)] [(10,2,[jA .bw p]),(11,4,[qX .bw m]),(12,3,[yM .bw s])] 13) (fun i=>i≤m.cores.length∧(qZg i).all (fun j=>vJ p m s j)=true) (fun i=>m.cores.length-i) 0 (by simp) ?_ ?_
 ·refine Sub.shape [] id (by omega) ?_ ?_ ?_ ?_<;>simp [qM]
  all_goals simp [k4,k5]
 ·rintro i ⟨hi,hq⟩
  simp only [go_sem,seval]
  refine qP (fun hc=>?_) (fun hc=>?_)
  ·simp only [decide_eq_true_eq] at hc
   have hil:i<m.cores.length:=by omega
   simp only [go_sem,seval]
   refine CA [] (qFv p m s i hp hm hs) ?_
   try simp only [go_sem,seval]
   cases hcs:vJ p m s i
   ·try simp only [go_sem,seval,hcs]
    refine fz ?_; simp [wA,qR,qS,qN,-qZ8]
    have:(qZg m.cores.length).all (fun j=>vJ p m s j)=false:=vM (P:=fun j=>vJ p m s j) hil hcs
    simp [same,this]
   ·try simp only [go_sem,seval,hcs,qV (i:=i) (by omega)]
    refine qW (i+1) (Sub.shape [] id (by omega) ?_ ?_ ?_ ?_) ?_ ?_
    any_goals (first | omega | (simp [qM]; done))
    exact ⟨hil,gC (P:=fun j=>vJ p m s j) hq hcs⟩
  ·simp only [decide_eq_false_iff_not] at hc
   have hall:(qZg m.cores.length).all (fun j=>vJ p m s j)=true:=cF (P:=fun j=>vJ p m s j) hq hc hi
   simp only [go_sem,seval]
   refine wC (ι:=Nat) (fun i=>.mk [(3,.ptr 10 0 0),(4,.ptr 11 0 0),(5,.ptr 12 0 0),(55,.int .i64 p.caps.length),(56,.int .i64 i)] [(10,2,[jA .bw p]),(11,4,[qX .bw m]),(12,3,[yM .bw s])] 13) (fun i=>i≤p.caps.length∧(qZg i).all (fun j=>vQ p m s j)=true) (fun i=>p.caps.length-i) 0 (by simp) ?_ ?_
   ·refine Sub.shape [] id (by omega) ?_ ?_ ?_ ?_<;>simp [qM]
   ·clear hc hq hi
    clear i
    rintro i ⟨hi,hq⟩
    simp only [go_sem,seval]
    refine qP (fun hc=>?_) (fun hc=>?_)
    ·simp only [decide_eq_true_eq] at hc
     have hil:i<p.caps.length:=by omega
     simp only [go_sem,seval]
     refine CA [] (qFw p m s i hp hm hs) ?_
     try simp only [go_sem,seval]
     cases hcs:vQ p m s i
     ·try simp only [go_sem,seval,hcs]
      refine fz ?_; simp [wA,qR,qS,qN,-qZ8]
      have:(qZg p.caps.length).all (fun j=>vQ p m s j)=false:=vM (P:=fun j=>vQ p m s j) hil hcs
      simp [same,this]
     ·try simp only [go_sem,seval,hcs,qV (i:=i) (by omega)]
      refine qW (i+1) (Sub.shape [] id (by omega) ?_ ?_ ?_ ?_) ?_ ?_
      any_goals (first | omega | (simp [qM]; done))
      exact ⟨hil,gC (P:=fun j=>vQ p m s j) hq hcs⟩
    ·simp only [decide_eq_false_iff_not] at hc
     have hall2:(qZg p.caps.length).all (fun j=>vQ p m s j)=true:=cF (P:=fun j=>vQ p m s j) hq hc hi
     have e5:m.cores.length=s.ths.length:=by omega
     simp only [go_sem,seval]
     refine fz ?_; simp [wA,qR,qS,qN,-qZ8]
     unfold same
     rw [k1,k2,k3,hall,hall2,decide_eq_true k4,decide_eq_true e5]
     rfl
end Go.Sep
