/- Contracts of functions. -/
import Derived.Test.YtjbknbgdfhihcaaGreatJxx0
namespace Go.Sep
set_option maxHeartbeats 16000000
open Go.Proofs
set_option linter.unusedSimpArgs false
set_option linter.unusedVariables false
set_option maxRecDepth 100000
open Nat renaming reduceAdd → qA, reduceMul → qB, reduceEqDiff → qC, reduceBEq → qD
open Int renaming reduceToNat → qE, reduceEq → qF, reduceLT → qG, reduceLE → qH
open List renaming getD_eq_getElem?_getD → gD
def m48:MFn:=⟨34,[.t 2],kr [xb 1 0,xF 2] (.seq (kr [xa 5 1 1,xl 6 5,xe 7 6,xI 8 0] (.blk 0 (.loop (kr [bT 9 .lss 8 7] (.seq (kX 9 0) (.seq (.blk 1 (kr [xD 10 1 6 8,xl 11 10,xv 4 11] (kr [xv 12 4,xa 13 0 1,xl 14 13,xe 15 14,xc2 16 67 (.t 12) (.t 15),xN 17 16] (kF 17 [xF 2])))) (xr [bI 18 .add 8 1,xv 8 18]))))))) (kR [xa 19 0 1,xl 20 19,xe 21 20,bI 22 .leq 21 3,xv 23 22,ya 24 0 1 23,yl 25 1 24 23,xg 26 (.call 68 [false] [.t 25]) 23 true,xP 27 23 26,xv 28 27,ya 29 1 1 28,yl 30 1 29 28,ye 31 30 28,xg 32 (.call 59 [false,false,false] [.t 31,xi 1,xi 4]) 28 true,xP 33 28 32,xv 2 33]))⟩
def m62:MFn:=⟨46,[.t 2],kr [xb 1 0,xF 2] (.seq (kr [xI 3 0] (.blk 0 (.loop (.seq (kr [xv 5 3,xa 6 0 1,xl 7 6,xe 8 7,bT 9 .lss 5 8] (kX 9 0)) (.seq (.blk 1 (kr [xa 12 0 1,xl 13 12,xv 14 3,xD 15 1 13 14,xl 16 15,xc3 17 64 (.t 16) (xi 1) (xi 4),xN 18 17] (kF 18 [xF 2]))) (xr [xv 10 3,bI 11 .add 10 1,xv 3 11])))))) (.seq (kr [xI 4 0] (.blk 2 (.loop (.seq (kr [xv 19 4,xa 20 1 1,xl 21 20,xe 22 21,bT 23 .lss 19 22] (kX 23 2)) (.seq (.blk 3 (.seq (.dreg (.take 0 (xa 26 1 1) (.take 1 (xl 27 26) (.take 2 (xv 28 4) (.take 3 (xD 29 1 27 28) (.take 4 (xl 30 29) (.only 5 [] (xa 31 0 1) (.only 6 [] (xl 32 31) (.only 7 [] (xe 33 32) (.only 8 [4,3,1,2,0] (xc2 34 82 (.t 30) (.t 33)) (.only 9 [8,4,3,1,2,0] (xN 35 34) (.done)))))))))))) (kF 35 [xF 2]))) (xr [xv 24 4,bI 25 .add 24 1,xv 4 25])))))) (kR [xa 36 0 1,xl 37 36,xe 38 37,bI 39 .leq 38 3,xv 40 39,ya 41 1 1 40,yl 42 1 41 40,ye 43 42 40,xg 44 (.call 64 [false,false,false] [.t 43,xi 1,xi 4]) 40 true,xP 45 40 44,xv 2 45])))⟩
def m67:MFn:=⟨43,[.t 4],kr [xF 4] (.seq (kr [xv 8 1,xc3 9 59 (.t 8) (xi 0) (xi 3),xN 10 9,xv 11 10,zv 12 0 11,ze 13 12 11,xg 14 (.call 59 [false,false,false] [.t 13,xi 1,xi 24]) 11 false,zN 15 14 11,xQ 16 11 15] (kF 16 [xF 4])) (.seq (kr [xv 17 0,xe 18 17,xI 19 0] (.blk 0 (.loop (kr [bT 20 .lss 19 18] (.seq (kX 20 0) (.seq (.blk 1 (kr [xD 21 5 17 19,xm 22 5 21,xo 6 (.alloc [xz,xz,xz,xz,xz]),xS 5 6 22] (kr [xm 23 5 6,xv 24 0,xe 25 24,xv 26 1,xc3 27 88 (.t 23) (.t 25) (.t 26),xN 28 27] (kF 28 [xF 4])))) (xr [bI 29 .add 19 1,xv 19 29]))))))) (kr [xv 30 0,xv 31 0,xe 32 31,bI 33 .sub 32 1,xD 34 5 30 33,xa 35 0 34,xl 36 35,xv 7 36] (kR [xv 37 7,bI 38 .eql 37 13,xv 39 38,zv 40 7 39,zI 41 .eql 40 11 39,xQ 42 39 41,xv 4 42]))))⟩
def m68:MFn:=⟨15,[.t 2],kr [xF 2] (.seq (kr [xv 5 0,xe 6 5,xI 7 0] (.blk 0 (.loop (kr [bT 8 .lss 7 6] (.seq (kX 8 0) (.seq (.blk 1 (kr [xD 9 1 5 7,xl 10 9,xv 4 10] (kr [xv 11 4,xc3 12 59 (.t 11) (xi 1) (xi 4),xN 13 12] (kF 13 [xF 2])))) (xr [bI 14 .add 7 1,xv 7 14]))))))) (kR [xT 2]))⟩
def m82:MFn:=⟨46,[.t 4],kr [xF 4] (kr [xv 7 0,xe 8 7,xv 5 8] (.seq (kr [xI 6 0] (.blk 0 (.loop (.seq (kr [xv 9 6,xv 10 5,bT 11 .lss 9 10] (kX 11 0)) (.seq (.blk 1 (kr [xv 14 0,xv 15 6,xD 16 5 14 15,xm 17 5 16,xv 18 5,xv 19 1,xc3 20 92 (.t 17) (.t 18) (.t 19),xN 21 20] (kF 21 [xF 4]))) (xr [xv 12 6,bI 13 .add 12 1,xv 6 13])))))) (kR [xv 22 5,xc3 23 64 (.t 22) (xi 1) (xi 24),xv 24 23,yv 25 1 24,xg 26 (.call 64 [false,false,false] [.t 25,xi 0,xi 3]) 24 true,xP 27 24 26,xv 28 27,yv 29 0 28,yv 30 5 28,yI 31 .sub 30 1 28,xg 32 (.iad 5 (.t 29) (.t 31)) 28 true,ya 33 0 32 28,yl 34 1 33 28,yI 35 .eql 34 13 28,yv 36 35 28,zv 37 0 36,zv 38 5 36,zI 39 .sub 38 1 36,xg 40 (.iad 5 (.t 37) (.t 39)) 36 false,za 41 0 40 36,zl 42 1 41 36,zI 43 .eql 42 11 36,xg 44 (.pick (.t 36) (.c (.bool true)) (.t 43)) 28 true,xP 45 28 44,xv 4 45])))⟩
theorem qC2 {α:Type} {l:List α} {p:α→Bool} {d:α} {i:Nat} (h:(l.take i).all p=true) (hi:i<l.length) (hp:p (l.getD i d)=true):(l.take (i+1)).all p=true:=by
 rw [List.take_succ_eq_append_getElem hi,List.all_append,h]
 have h1:l.getD i d=l[i]:=by simp [List.getD_eq_getElem?_getD,hi]
 rw [h1] at hp
 simp [hp]
theorem qBq {α:Type} {l:List α} {p:α→Bool} {d:α} {i:Nat} (hi:i<l.length) (hp:p (l.getD i d)=false):l.all p=false:=by
 have h1:l.getD i d=l[i]:=by simp [List.getD_eq_getElem?_getD,hi]
 rw [h1] at hp
 cases h:l.all p with
 | false=>rfl
 | true=>rw [List.all_eq_true.1 h l[i] (List.getElem_mem hi)] at hp; exact absurd hp (by decide)
theorem qDa {α:Type} {l:List α} {p:α→Bool} {i:Nat} (h:(l.take i).all p=true) (hi :¬(i:Int)<l.length):l.all p=true:=by
 rw [List.take_of_length_le (by omega)] at h
 exact h
def capsOk (l:List Int):Bool:=l.all fun c=>within c 1 4
theorem capsOk_ok (l:List Int) (hl:l.length<2^47):CallOk Tryz.prog num 68 [.sl .bw 1 (ints l)] [] (.bool (capsOk l)):=by
 refine EN m68 Tryz.func177 ?_
 unfold m68
 simp only [go_sem,seval]
 repeat refine K ?_
 refine qA8 (ι:=Nat) (fun i=>.mk [(5,.sl .bw 1 (ints l)),(6,.int .i64 l.length),(7,.int .i64 i)] [] 10) (fun i=>i≤l.length∧(l.take i).all (fun c=>within c 1 4)=true) (fun i=>l.length-i) 0 (by simp) ?_ ?_
 ·refine Sub.shape [] id (by omega) ?_ ?_ ?_ ?_<;>simp [qA2]
 ·rintro i ⟨hi,hp⟩
  simp only [go_sem,seval]
  refine qA1 (fun hc=>?_) (fun hc=>?_)
  ·simp only [decide_eq_true_eq] at hc
   have hl':i<l.length:=by omega
   simp only [go_sem,seval,qA0 l i hl',qA7 (i:=i) (by omega)]
   repeat refine K ?_
   refine CA [] (qAk (l.getD i 0) 1 4) ?_
   try simp only [go_sem,seval]
   repeat refine K ?_
   cases hw:within (l.getD i 0) 1 4
   ·simp only [go_sem,seval,hw]
    repeat refine K ?_
    refine fz ?_; simp [FinS,nilL,nilV,oneOr,-List.drop_one]
    simp only [capsOk]
    exact qBq hl' hw
   ·simp only [go_sem,seval,hw,qA7 (i:=i) (by omega)]
    repeat refine K ?_
    refine qA6 (i+1) (Sub.shape [] id (by omega) ?_ ?_ ?_ ?_) ?_ ?_
    any_goals (first | omega | (simp [qA2]; done))
    exact ⟨hl',qC2 hp hl' hw⟩
  ·simp only [decide_eq_false_iff_not] at hc
   simp only [go_sem,seval]
   repeat refine K ?_
   refine fz ?_; simp [FinS,nilL,nilV,oneOr,-List.drop_one]
   exact qDa hp hc
def lastOp (l:List Ins):Int:=(l.getD (l.length-1) default).op
def bodyOk (l:List Ins) (ch:Int):Bool:=within ch 0 3&&within l.length 1 24&&l.all (fun x=>insOk x l.length ch)&&(decide (lastOp l=13)||decide (lastOp l=11))
theorem implBodyOk_ok (l:List Ins) (ch:Int) (hl:l.length<2^47) (h0:0≤ch) (h1:ch<2^62):CallOk Tryz.prog num 67 [.sl .bw 5 (inss l),.int .i64 ch] [] (.bool (bodyOk l ch)):=by
 refine EN m67 Tryz.func176 ?_
 unfold m67
 simp only [go_sem,seval]
 repeat refine K ?_
 refine CA [] (qAk ch 0 3) ?_
 try simp only [go_sem,seval]
 repeat refine K ?_
 cases hw:within ch 0 3
 ·simp only [go_sem,seval,hw]
  repeat refine K ?_
  refine fz ?_; simp [FinS,nilL,nilV,oneOr,-List.drop_one]
  simp [bodyOk,hw]
 ·simp only [go_sem,seval,hw]
  repeat refine K ?_
  refine CA [] (qAk l.length 1 24) ?_
  try simp only [go_sem,seval]
  repeat refine K ?_
  cases hw2:within l.length 1 24
  ·simp only [go_sem,seval,hw2]
   repeat refine K ?_
   refine fz ?_; simp [FinS,nilL,nilV,oneOr,-List.drop_one]
   simp [bodyOk,hw,hw2]
  ·simp only [go_sem,seval,hw2]
   repeat refine K ?_
   refine qA8 (ι:=Nat) (fun i=>.mk [(0,.sl .bw 5 (inss l)),(1,.int .i64 ch),(17,.sl .bw 5 (inss l)),(18,.int .i64 l.length),(19,.int .i64 i)] [] 10) (fun i=>i≤l.length∧(l.take i).all (fun x=>insOk x l.length ch)=true) (fun i=>l.length-i) 0 (by simp) ?_ ?_
   ·refine Sub.shape [] id (by omega) ?_ ?_ ?_ ?_<;>simp [qA2]
   ·rintro i ⟨hi,hp⟩
    simp only [go_sem,seval]
    refine qA1 (fun hc=>?_) (fun hc=>?_)
    ·simp only [decide_eq_true_eq] at hc
     have hl':i<l.length:=by omega
     simp only [go_sem,seval,qBh l i hl']
     repeat refine K ?_
     refine CA [] (implInsOk_ok (l.getD i default) l.length ch (by omega) (by omega) (by omega) (by omega)) ?_
     try simp only [go_sem,seval]
     repeat refine K ?_
     cases hw3:insOk (l.getD i default) l.length ch
     ·simp only [go_sem,seval,hw3]
      repeat refine K ?_
      refine fz ?_; simp [FinS,nilL,nilV,oneOr,-List.drop_one]
      simp only [bodyOk]
      rw [qBq (p:=fun x=>insOk x l.length ch) hl' hw3]
      simp
     ·simp only [go_sem,seval,hw3,qA7 (i:=i) (by omega)]
      repeat refine K ?_
      refine qA6 (i+1) (Sub.shape [] id (by omega) ?_ ?_ ?_ ?_) ?_ ?_
      any_goals (first | omega | (simp [qA2]; done))
      exact ⟨hl',qC2 (p:=fun x=>insOk x l.length ch) hp hl' hw3⟩
    ·simp only [decide_eq_false_iff_not] at hc
     have hlen:1≤l.length:=by rw [within_iff] at hw2; omega
     have ht:Int.toNat ((l.length:Int)-1)=l.length-1:=by omega
     have hwr:IntKind.i64.wrap ((l.length:Int)-1)=(l.length:Int)-1:=qAg (by omega) (by omega)
     simp only [go_sem,seval,hwr,ht,qBh l (l.length-1) (by omega)]
     repeat refine K ?_
     have he:=qDa hp hc
     by_cases hx:(l.getD (l.length-1) default).op=13
     ·simp only [go_sem,seval,hx]
      repeat refine K ?_
      refine fz ?_; simp [FinS,nilL,nilV,oneOr,-List.drop_one]
      simp only [bodyOk,hw,hw2,he,lastOp,hx]
      rfl
     ·simp only [go_sem,seval,hx]
      repeat refine K ?_
      refine fz ?_; simp [FinS,nilL,nilV,oneOr,-List.drop_one]
      simp only [bodyOk,hw,hw2,he,lastOp,hx]
      simp
theorem specBodyOk_ok (l:List Ins) (ch:Int) (hl:l.length<2^47) (h0:0≤ch) (h1:ch<2^62):CallOk Tryz.prog num 82 [.sl .bw 5 (inss l),.int .i64 ch] [] (.bool (bodyOk l ch)):=by
 refine EN m82 Tryz.func168 ?_
 unfold m82
 simp only [go_sem,seval]
 repeat refine K ?_
 refine qA8 (ι:=Nat) (fun i=>.mk [(0,.sl .bw 5 (inss l)),(1,.int .i64 ch),(5,.int .i64 l.length),(6,.int .i64 i)] [] 10) (fun i=>i≤l.length∧(l.take i).all (fun x=>insOk x l.length ch)=true) (fun i=>l.length-i) 0 (by simp) ?_ ?_
 ·refine Sub.shape [] id (by omega) ?_ ?_ ?_ ?_<;>simp [qA2]
 ·rintro i ⟨hi,hp⟩
  simp only [go_sem,seval]
  refine qA1 (fun hc=>?_) (fun hc=>?_)
  ·simp only [decide_eq_true_eq] at hc
   have hl':i<l.length:=by omega
   simp only [go_sem,seval,qBh l i hl']
   repeat refine K ?_
   refine CA [] (specInsOk_ok (l.getD i default) l.length ch (by omega) (by omega)) ?_
   try simp only [go_sem,seval]
   repeat refine K ?_
   cases hw3:insOk (l.getD i default) l.length ch
   ·simp only [go_sem,seval,hw3]
    repeat refine K ?_
    refine fz ?_; simp [FinS,nilL,nilV,oneOr,-List.drop_one]
    simp only [bodyOk]
    rw [qBq (p:=fun x=>insOk x l.length ch) hl' hw3]
    simp
   ·simp only [go_sem,seval,hw3,qA7 (i:=i) (by omega)]
    repeat refine K ?_
    refine qA6 (i+1) (Sub.shape [] id (by omega) ?_ ?_ ?_ ?_) ?_ ?_
    any_goals (first | omega | (simp [qA2]; done))
    exact ⟨hl',qC2 (p:=fun x=>insOk x l.length ch) hp hl' hw3⟩
  ·simp only [decide_eq_false_iff_not] at hc
   have he:=qDa hp hc
   simp only [go_sem,seval]
   repeat refine K ?_
   refine CA [] (qAq l.length 1 24) ?_
   try simp only [go_sem,seval]
   repeat refine K ?_
   cases hw2:within l.length 1 24
   ·simp only [go_sem,seval,hw2]
    repeat refine K ?_
    refine fz ?_; simp [FinS,nilL,nilV,oneOr,-List.drop_one]
    simp [bodyOk,hw2]
   ·simp only [go_sem,seval,hw2]
    repeat refine K ?_
    refine CA [] (qAq ch 0 3) ?_
    try simp only [go_sem,seval]
    repeat refine K ?_
    cases hw:within ch 0 3
    ·simp only [go_sem,seval,hw]
     repeat refine K ?_
     refine fz ?_; simp [FinS,nilL,nilV,oneOr,-List.drop_one]
     simp [bodyOk,hw,hw2]
    ·have hlen:1≤l.length:=by rw [within_iff] at hw2; omega
     have ht:Int.toNat ((l.length:Int)-1)=l.length-1:=by omega
     have hwr:IntKind.i64.wrap ((l.length:Int)-1)=(l.length:Int)-1:=qAg (by omega) (by omega)
     simp only [go_sem,seval,hw,hwr,ht,qBh l (l.length-1) (by omega)]
     repeat refine K ?_
     by_cases hx:(l.getD (l.length-1) default).op=13
     ·simp only [go_sem,seval,hx]
      repeat refine K ?_
      refine fz ?_; simp [FinS,nilL,nilV,oneOr,-List.drop_one]
      simp only [bodyOk,hw,hw2,he,lastOp,hx]
      rfl
     ·simp only [go_sem,seval,hx,hwr,ht,qBh l (l.length-1) (by omega)]
      repeat refine K ?_
      refine fz ?_; simp [FinS,nilL,nilV,oneOr,-List.drop_one]
      simp only [bodyOk,hw,hw2,he,lastOp,hx]
      simp
def progOk (p:Prog):Bool:=p.bods.all (fun b=>bodyOk b p.caps.length)&&decide ((p.caps.length:Int)≤3)&&capsOk p.caps&&within p.bods.length 1 4
theorem implProgOk_ok (p:Prog) (h1:p.caps.length<2^47) (h2:p.bods.length<2^47) (h3 :∀b∈p.bods,b.length<2^47):CallOk Tryz.prog num 48 [.agg (progC .bw p)] [] (.bool (progOk p)):=by
 refine EN m48 Tryz.func97 ?_
 unfold m48
 simp only [go_sem,seval]
 repeat refine K ?_
 refine qA8 (ι:=Nat) (fun i=>.mk [(1,.ptr 10 0 0),(6,.sl .bw 1 (bodies .bw p.bods)),(7,.int .i64 p.bods.length),(8,.int .i64 i)] [(10,2,[progC .bw p])] 11) (fun i=>i≤p.bods.length∧(p.bods.take i).all (fun b=>bodyOk b p.caps.length)=true) (fun i=>p.bods.length-i) 0 (by simp) ?_ ?_
 ·refine Sub.shape [] id (by omega) ?_ ?_ ?_ ?_<;>simp [qA2]
 ·rintro i ⟨hi,hp⟩
  simp only [go_sem,seval]
  refine qA1 (fun hc=>?_) (fun hc=>?_)
  ·simp only [decide_eq_true_eq] at hc
   have hl':i<p.bods.length:=by omega
   have hb:(p.bods.getD i []).length<2^47:=h3 _ (by simp [List.getD_eq_getElem?_getD,hl'])
   simp only [go_sem,seval,qA9 .bw p.bods i hl']
   repeat refine K ?_
   refine CA [] (implBodyOk_ok (p.bods.getD i []) p.caps.length hb (by omega) (by omega)) ?_
   try simp only [go_sem,seval]
   repeat refine K ?_
   cases hw:bodyOk (p.bods.getD i []) p.caps.length
   ·simp only [go_sem,seval,hw]
    repeat refine K ?_
    refine fz ?_; simp [FinS,nilL,nilV,oneOr,-List.drop_one]
    simp only [progOk]
    rw [qBq (p:=fun b=>bodyOk b p.caps.length) hl' hw]
    simp
   ·simp only [go_sem,seval,hw,qA7 (i:=i) (by omega)]
    repeat refine K ?_
    refine qA6 (i+1) (Sub.shape [] id (by omega) ?_ ?_ ?_ ?_) ?_ ?_
    any_goals (first | omega | (simp [qA2]; done))
    exact ⟨hl',qC2 (p:=fun b=>bodyOk b p.caps.length) hp hl' hw⟩
  ·simp only [decide_eq_false_iff_not] at hc
   have he:=qDa hp hc
   simp only [go_sem,seval]
   repeat refine K ?_
   by_cases hx:(p.caps.length:Int)≤3
   ·simp only [go_sem,seval,hx]
    repeat refine K ?_
    refine CA [] (capsOk_ok p.caps h1) ?_
    try simp only [go_sem,seval]
    repeat refine K ?_
    cases hw:capsOk p.caps
    ·simp only [go_sem,seval,hw]
     repeat refine K ?_
     refine fz ?_; simp [FinS,nilL,nilV,oneOr,-List.drop_one]
     simp [progOk,hw]
    ·simp only [go_sem,seval,hw]
     repeat refine K ?_
     refine CA [] (qAk p.bods.length 1 4) ?_
     try simp only [go_sem,seval]
     repeat refine K ?_
     refine fz ?_; simp [FinS,nilL,nilV,oneOr,-List.drop_one]
     simp only [progOk,he,hw,hx]
     simp
   ·simp only [go_sem,seval,hx]
    repeat refine K ?_
    refine fz ?_; simp [FinS,nilL,nilV,oneOr,-List.drop_one]
    simp [progOk,hx]
theorem qDk (p:Prog) (h1:p.caps.length<2^47) (h2:p.bods.length<2^47) (h3 :∀b∈p.bods,b.length<2^47):CallOk Tryz.prog num 62 [.agg (progC .bw p)] [] (.bool (progOk p)):=by
 refine EN m62 Tryz.func90 ?_
 unfold m62
 simp only [go_sem,seval]
 repeat refine K ?_
 refine qA8 (ι:=Nat) (fun i=>.mk [(1,.ptr 10 0 0),(3,.int .i64 i)] [(10,2,[progC .bw p])] 11) (fun i=>i≤p.caps.length∧(p.caps.take i).all (fun c=>within c 1 4)=true) (fun i=>p.caps.length-i) 0 (by simp) ?_ ?_
 ·refine Sub.shape [] id (by omega) ?_ ?_ ?_ ?_<;>simp [qA2]
 ·rintro i ⟨hi,hp⟩
  simp only [go_sem,seval]
  repeat refine K ?_
  refine qA1 (fun hc=>?_) (fun hc=>?_)
  ·simp only [decide_eq_true_eq] at hc
   have hl':i<p.caps.length:=by omega
   simp only [go_sem,seval,qA0 p.caps i hl']
   repeat refine K ?_
   refine CA [] (qAq (p.caps.getD i 0) 1 4) ?_
   try simp only [go_sem,seval]
   repeat refine K ?_
   cases hw:within (p.caps.getD i 0) 1 4
   ·simp only [go_sem,seval,hw]
    repeat refine K ?_
    refine fz ?_; simp [FinS,nilL,nilV,oneOr,-List.drop_one]
    simp only [progOk,capsOk]
    rw [qBq (p:=fun c=>within c 1 4) hl' hw]
    simp
   ·simp only [go_sem,seval,hw,qA7 (i:=i) (by omega)]
    repeat refine K ?_
    refine qA6 (i+1) (Sub.shape [] id (by omega) ?_ ?_ ?_ ?_) ?_ ?_
    any_goals (first | omega | (simp [qA2]; done))
    exact ⟨hl',qC2 (p:=fun c=>within c 1 4) hp hl' hw⟩
  ·simp only [decide_eq_false_iff_not] at hc
   have hcap:capsOk p.caps=true:=qDa hp hc
   simp only [go_sem,seval]
   repeat refine K ?_
   refine qA8 (ι:=Nat) (fun i=>.mk [(1,.ptr 10 0 0),(4,.int .i64 i)] [(10,2,[progC .bw p])] 11) (fun i=>i≤p.bods.length∧(p.bods.take i).all (fun b=>bodyOk b p.caps.length)=true) (fun i=>p.bods.length-i) 0 (by simp) ?_ ?_
   ·refine Sub.shape [] id (by omega) ?_ ?_ ?_ ?_<;>simp [qA2]
   ·rintro i ⟨hi,hp⟩
    simp only [go_sem,seval]
    repeat refine K ?_
    refine qA1 (fun hc=>?_) (fun hc=>?_)
    ·simp only [decide_eq_true_eq] at hc
     have hl':i<p.bods.length:=by omega
     have hb:(p.bods.getD i []).length<2^47:=h3 _ (by simp [List.getD_eq_getElem?_getD,hl'])
     simp only [go_sem,seval,qA9 .bw p.bods i hl']
     repeat refine K ?_
     refine DA [] (specBodyOk_ok (p.bods.getD i []) p.caps.length hb (by omega) (by omega)) ?_
     try simp only [go_sem,seval]
     repeat refine K ?_
     cases hw:bodyOk (p.bods.getD i []) p.caps.length
     ·simp only [go_sem,seval,hw]
      repeat refine K ?_
      refine fz ?_; simp [FinS,nilL,nilV,oneOr,-List.drop_one]
      simp only [progOk]
      rw [qBq (p:=fun b=>bodyOk b p.caps.length) hl' hw]
      simp
     ·simp only [go_sem,seval,hw,qA7 (i:=i) (by omega)]
      repeat refine K ?_
      refine qA6 (i+1) (Sub.shape [] id (by omega) ?_ ?_ ?_ ?_) ?_ ?_
      any_goals (first | omega | (simp [qA2]; done))
      exact ⟨hl',qC2 (p:=fun b=>bodyOk b p.caps.length) hp hl' hw⟩
    ·simp only [decide_eq_false_iff_not] at hc
     have he:=qDa hp hc
     simp only [go_sem,seval]
     repeat refine K ?_
     by_cases hx:(p.caps.length:Int)≤3
     ·simp only [go_sem,seval,hx]
      repeat refine K ?_
      refine CA [] (qAq p.bods.length 1 4) ?_
      try simp only [go_sem,seval]
      repeat refine K ?_
      refine fz ?_; simp [FinS,nilL,nilV,oneOr,-List.drop_one]
      simp only [progOk,he,hcap,hx]
      simp
     ·simp only [go_sem,seval,hx]
      repeat refine K ?_
      refine fz ?_; simp [FinS,nilL,nilV,oneOr,-List.drop_one]
      simp [progOk,hx]
def m71:MFn:=⟨23,[.t 4],kr [xF 4] (.seq (kr [xv 7 0,xe 8 7,xI 9 0] (.blk 0 (.loop (kr [bT 10 .lss 9 8] (.seq (kX 10 0) (.seq (.blk 1 (kr [xD 11 2 7 9,xm 12 2 11,xo 6 (.alloc [xz,xz]),xS 2 6 12] (kr [xa 13 0 6,xl 14 13,xv 15 1,bI 16 .sub 15 1,xc3 17 59 (.t 14) (xi 0) (.t 16),xN 18 17] (kF 18 [xF 4])))) (xr [bI 19 .add 9 1,xv 9 19]))))))) (kR [xv 20 0,xe 21 20,bI 22 .leq 21 4000,xv 4 22]))⟩
theorem qAd {α:Type} (l:List α) (i:Nat) (d:α) (h:i<l.length):l.getD i d∈l:=by simp [List.getD_eq_getElem?_getD,h]
def notesOk (l:List Note) (n:Int):Bool:=l.all (fun x=>within x.who 0 (n-1))&&decide ((l.length:Int)≤4000)
theorem notesOk_ok (l:List Note) (n:Int) (hl:l.length<2^47) (h0:0≤n) (h1:n<2^62):CallOk Tryz.prog num 71 [.sl .bw 2 (notes l),.int .i64 n] [] (.bool (notesOk l n)):=by
 refine EN m71 Tryz.func138 ?_
 unfold m71
 have hw1:IntKind.i64.wrap (n-1)=n-1:=qAg (by omega) (by omega)
 simp only [go_sem,seval]
 repeat refine K ?_
 refine qA8 (ι:=Nat) (fun i=>.mk [(0,.sl .bw 2 (notes l)),(1,.int .i64 n),(7,.sl .bw 2 (notes l)),(8,.int .i64 l.length),(9,.int .i64 i)] [] 10) (fun i=>i≤l.length∧(l.take i).all (fun x=>within x.who 0 (n-1))=true) (fun i=>l.length-i) 0 (by simp) ?_ ?_
 ·refine Sub.shape [] id (by omega) ?_ ?_ ?_ ?_<;>simp [qA2]
 ·rintro i ⟨hi,hp⟩
  simp only [go_sem,seval]
  refine qA1 (fun hc=>?_) (fun hc=>?_)
  ·simp only [decide_eq_true_eq] at hc
   have hl':i<l.length:=by omega
   simp only [go_sem,seval,qCq l i hl',hw1]
   repeat refine K ?_
   refine CA [] (qAk (l.getD i default).who 0 (n-1)) ?_
   try simp only [go_sem,seval]
   repeat refine K ?_
   cases hw:within (l.getD i default).who 0 (n-1)
   ·simp only [go_sem,seval,hw]
    repeat refine K ?_
    refine fz ?_; simp [FinS,nilL,nilV,oneOr,-List.drop_one]
    simp only [notesOk]
    rw [qBq (p:=fun x:Note=>within x.who 0 (n-1)) hl' hw]
    rfl
   ·simp only [go_sem,seval,hw,qA7 (i:=i) (by omega)]
    repeat refine K ?_
    refine qA6 (i+1) (Sub.shape [] id (by omega) ?_ ?_ ?_ ?_) ?_ ?_
    any_goals (first | omega | (simp [qA2]; done))
    exact ⟨hl',qC2 (p:=fun x:Note=>within x.who 0 (n-1)) hp hl' hw⟩
  ·simp only [decide_eq_false_iff_not] at hc
   simp only [go_sem,seval]
   repeat refine K ?_
   refine fz ?_; simp [FinS,nilL,nilV,oneOr,-List.drop_one]
   simp only [notesOk,qDa hp hc]
   simp
theorem qBt {P:Nat→Bool} {i:Nat} (h:(List.range i).all P=true) (hp:P i=true):(List.range (i+1)).all P=true:=by
 rw [List.range_succ,List.all_append,h]
 simp [hp]
theorem qB3 {P:Nat→Bool} {i n:Nat} (hi:i<n) (hp:P i=false):(List.range n).all P=false:=by
 cases h:(List.range n).all P with
 | false=>rfl
 | true=>rw [List.all_eq_true.1 h i (List.mem_range.2 hi)] at hp; exact absurd hp (by decide)
theorem range_end {P:Nat→Bool} {i n:Nat} (h:(List.range i).all P=true) (hi :¬(i:Int)<n) (hle:i≤n):(List.range n).all P=true:=by
 have:i=n:=by omega
 rw [←this]
 exact h
structure SmallP (p:Prog):Prop where
 caps:p.caps.length<2^40
 bods:p.bods.length<2^40
 body :∀b∈p.bods,b.length<2^40
@[simp] def srcV (s:Source):AV:=.agg [.ns 0 0 s.ths.length,.ns 1 0 s.chs.length,.ns 2 0 s.tr.length]
@[simp] def srcF (s:Source):FP:=[(0,some (3,threads .own s.ths),none),(1,some (3,chans .own s.chs),none),(2,some (2,notes s.tr),none)]
def m27:MFn:=⟨18,[.t 4],kr [xb 2 0,xI 4 0] (kr [xa 5 0 2,xl 6 5,xv 7 1,xc2 8 35 (.t 6) (.t 7),xv 1 8] (.seq (kr [xv 9 1,bI 10 .lss 9 0] (kF 10 [xo 4 (.mv (.c (.int .i64 (-1))))])) (kr [xa 11 1 2,xl 12 11,xv 13 1,xc2 14 51 (.t 12) (.t 13),xv 1 14] (.seq (kr [xv 15 1,bI 16 .lss 15 0] (kF 16 [xo 4 (.mv (.c (.int .i64 (-1))))])) (kR [xv 17 1,xv 4 17])))))⟩
def m28:MFn:=⟨13,[.cell 2 2 true],kr [xb 1 0,xo 2 (.alloc [.nil,.nil])] (kr [xo 3 (.alloc [.nil,.nil])] (kr [xa 4 0 1,xl 5 4,xc1 6 5 (.t 5),xa 7 0 3,xS 1 7 6] (kr [xa 8 1 1,xl 9 8,xc1 10 52 (.t 9),xa 11 1 3,xS 1 11 10] (kR [xm 12 2 3,xS 2 2 12]))))⟩
def m30:MFn:=⟨17,[.t 4],kr [xb 2 0,xb 3 1,xF 4] (.seq (kr [xa 5 0 2,xl 6 5,xa 7 0 3,xl 8 7,xc2 9 8 (.t 6) (.t 8),xN 10 9] (kF 10 [xF 4])) (.seq (kr [xa 11 1 2,xl 12 11,xa 13 1 3,xl 14 13,xc2 15 53 (.t 12) (.t 14),xN 16 15] (kF 16 [xF 4])) (kR [xT 4])))⟩
def m51:MFn:=⟨27,[.t 4],kr [xI 4 0] (kr [xv 6 1,xv 7 0,xe 8 7,bT 9 .sub 6 8,xv 1 9] (.seq (kr [xv 10 1,bI 11 .lss 10 0] (kF 11 [xo 4 (.mv (.c (.int .i64 (-1))))])) (.seq (kr [xI 5 0] (.blk 0 (.loop (.seq (kr [xv 12 5,xv 13 0,xe 14 13,bT 15 .lss 12 14] (kX 15 0)) (.seq (.blk 1 (kr [xv 18 0,xv 19 5,xD 20 1 18 19,xl 21 20,xv 22 1,xc2 23 73 (.t 21) (.t 22),xv 1 23] (kr [xv 24 1,bI 25 .lss 24 0] (kF 25 [xo 4 (.mv (.c (.int .i64 (-1))))])))) (xr [xv 16 5,bI 17 .add 16 1,xv 5 17])))))) (kR [xv 26 1,xv 4 26]))))⟩
def m52:MFn:=⟨23,[.t 2],kr [xo 2 (.mv (.c (.nil)))] (kr [xv 5 0,xe 6 5,xo 7 (.mkS [.nil] 24 (.t 6) (.t 6)),xv 3 7] (.seq (kr [xI 4 0] (.blk 0 (.loop (.seq (kr [xv 8 4,xv 9 0,xe 10 9,bT 11 .lss 8 10] (kX 11 0)) (.seq (.blk 1 (xr [xv 14 3,xv 15 4,xv 16 0,xv 17 4,xD 18 1 16 17,xl 19 18,xc1 20 74 (.t 19),xD 21 1 14 15,xS 1 21 20])) (xr [xv 12 4,bI 13 .add 12 1,xv 4 13])))))) (kR [xv 22 3,xv 2 22])))⟩
def m53:MFn:=⟨27,[.t 4],kr [xF 4] (.seq (kr [xv 6 0,xe 7 6,xv 8 1,xe 9 8,bT 10 .neq 7 9] (kF 10 [xF 4])) (.seq (kr [xI 5 0] (.blk 0 (.loop (.seq (kr [xv 11 5,xv 12 0,xe 13 12,bT 14 .lss 11 13] (kX 14 0)) (.seq (.blk 1 (.seq (.dreg (.take 0 (xv 17 0) (.take 1 (xv 18 5) (.take 2 (xD 19 1 17 18) (.take 3 (xl 20 19) (.take 4 (xv 21 1) (.only 5 [] (xv 22 5) (.only 6 [4] (xD 23 1 21 22) (.only 7 [6,4] (xl 24 23) (.only 8 [3,7,2,6,0,1,4] (xc2 25 75 (.t 20) (.t 24)) (.only 9 [8,3,7,2,6,0,1,4] (xN 26 25) (.done)))))))))))) (kF 26 [xF 4]))) (xr [xv 15 5,bI 16 .add 15 1,xv 5 16])))))) (kR [xT 4])))⟩
def m73:MFn:=⟨12,[.t 4],kr [xI 4 0] (kr [xv 5 1,xv 6 0,xe 7 6,bT 8 .sub 5 7,xv 1 8] (.seq (kr [xv 9 1,bI 10 .lss 9 0] (kF 10 [xo 4 (.mv (.c (.int .i64 (-1))))])) (kR [xv 11 1,xv 4 11])))⟩
def m74:MFn:=⟨23,[.t 2],kr [xo 2 (.mv (.c (.nil)))] (kr [xv 5 0,xe 6 5,xo 7 (.mkS [xz,xz,xz,xz,xz] 40 (.t 6) (.t 6)),xv 3 7] (.seq (kr [xI 4 0] (.blk 0 (.loop (.seq (kr [xv 8 4,xv 9 0,xe 10 9,bT 11 .lss 8 10] (kX 11 0)) (.seq (.blk 1 (xr [xv 14 3,xv 15 4,xv 16 0,xv 17 4,xD 18 5 16 17,xm 19 5 18,xc1 20 89 (.t 19),xD 21 5 14 15,xS 5 21 20])) (xr [xv 12 4,bI 13 .add 12 1,xv 4 13])))))) (kR [xv 22 3,xv 2 22])))⟩
def m75:MFn:=⟨27,[.t 4],kr [xF 4] (.seq (kr [xv 6 0,xe 7 6,xv 8 1,xe 9 8,bT 10 .neq 7 9] (kF 10 [xF 4])) (.seq (kr [xI 5 0] (.blk 0 (.loop (.seq (kr [xv 11 5,xv 12 0,xe 13 12,bT 14 .lss 11 13] (kX 14 0)) (.seq (.blk 1 (.seq (.dreg (.take 0 (xv 17 0) (.take 1 (xv 18 5) (.take 2 (xD 19 5 17 18) (.take 3 (xm 20 5 19) (.take 4 (xv 21 1) (.only 5 [] (xv 22 5) (.only 6 [4] (xD 23 5 21 22) (.only 7 [6,4] (xm 24 5 23) (.only 8 [3,7,2,6,0,1,4] (xc2 25 90 (.t 20) (.t 24)) (.only 9 [8,3,7,2,6,0,1,4] (xN 26 25) (.done)))))))))))) (kF 26 [xF 4]))) (xr [xv 15 5,bI 16 .add 15 1,xv 5 16])))))) (kR [xT 4])))⟩
def m89:MFn:=⟨20,[.cell 2 5 true],kr [xb 1 0,xo 2 (.alloc [xz,xz,xz,xz,xz])] (kr [xo 3 (.alloc [xz,xz,xz,xz,xz])] (kr [xa 4 0 1,xl 5 4,xa 6 0 3,xS 1 6 5] (kr [xa 7 1 1,xl 8 7,xa 9 1 3,xS 1 9 8] (kr [xa 10 2 1,xl 11 10,xa 12 2 3,xS 1 12 11] (kr [xa 13 3 1,xl 14 13,xa 15 3 3,xS 1 15 14] (kr [xa 16 4 1,xl 17 16,xa 18 4 3,xS 1 18 17] (kR [xm 19 5 3,xS 5 2 19])))))))⟩
def m90:MFn:=⟨30,[.t 4],kr [xb 2 0,xb 3 1,xF 4] (.seq (kr [xa 5 0 2,xl 6 5,xa 7 0 3,xl 8 7,bT 9 .neq 6 8] (kF 9 [xF 4])) (.seq (kr [xa 10 1 2,xl 11 10,xa 12 1 3,xl 13 12,bT 14 .neq 11 13] (kF 14 [xF 4])) (.seq (kr [xa 15 2 2,xl 16 15,xa 17 2 3,xl 18 17,bT 19 .neq 16 18] (kF 19 [xF 4])) (.seq (kr [xa 20 3 2,xl 21 20,xa 22 3 3,xl 23 22,bT 24 .neq 21 23] (kF 24 [xF 4])) (.seq (kr [xa 25 4 2,xl 26 25,xa 27 4 3,xl 28 27,bT 29 .neq 26 28] (kF 29 [xF 4])) (kR [xT 4]))))))⟩
theorem szInsS_ok (xs:List Ins) (n:Int) (hx:xs.length<2^63) (h0:0≤n) (h1:n≤2^62):CallOk Tryz.prog num 73 [.sl .bw 5 (inss xs),.int .i64 n] [] (.int .i64 (szL xs.length n)):=by
 refine EN m73 Tryz.func154 ?_
 unfold m73
 have hw:IntKind.i64.wrap (n-xs.length)=n-xs.length:=qAg (by omega) (by omega)
 simp only [go_sem,seval,hw]
 repeat refine K ?_
 refine qA1 (fun hc=>?_) (fun hc=>?_)
 ·simp only [go_sem,seval]
  repeat refine K ?_
  refine fz ?_; simp [FinS,nilL,nilV,oneOr,-List.drop_one]
  simp only [decide_eq_true_eq] at hc
  simp [szL,hc]
 ·simp only [go_sem,seval]
  repeat refine K ?_
  refine fz ?_; simp [FinS,nilL,nilV,oneOr,-List.drop_one]
  simp only [decide_eq_false_iff_not] at hc
  simp [szL,hc]
def szRows:List (List Ins)→Int→Int
 | [],n=>n
 | b::l,n=>if szL b.length n<0 then -1 else szRows l (szL b.length n)
def szBods (l:List (List Ins)) (n:Int):Int:=if szL l.length n<0 then -1 else szRows l (szL l.length n)
theorem qDj {k:Nat} {n:Int} (h :¬szL k n<0):szL k n=n-k:=by
 unfold szL at h⊢
 split
 ·rename_i h4; rw [if_pos h4] at h; simp at h
 ·rfl
theorem szInsSS_ok (l:List (List Ins)) (n:Int) (hl:l.length<2^63) (hb :∀b∈l,b.length<2^63) (h0:0≤n) (h1:n≤2^61):CallOk Tryz.prog num 51 [.sl .bw 1 (bodies .bw l),.int .i64 n] [] (.int .i64 (szBods l n)):=by
 refine EN m51 Tryz.func79 ?_
 unfold m51
 have hw:IntKind.i64.wrap (n-l.length)=n-l.length:=qAg (by omega) (by omega)
 simp only [go_sem,seval,hw]
 repeat refine K ?_
 refine qA1 (fun hc=>?_) (fun hc=>?_)
 ·simp only [go_sem,seval]
  repeat refine K ?_
  refine fz ?_; simp [FinS,nilL,nilV,oneOr,-List.drop_one]
  simp only [decide_eq_true_eq] at hc
  simp [szBods,szL,hc]
 ·simp only [decide_eq_false_iff_not] at hc
  simp only [go_sem,seval]
  repeat refine K ?_
  refine qA8 (ι:=Nat×Int) (fun i=>.mk [(0,.sl .bw 1 (bodies .bw l)),(1,.int .i64 i.2),(5,.int .i64 i.1)] [] 10) (fun i=>i.1≤l.length∧0≤i.2∧i.2≤2^61∧szRows (l.drop i.1) i.2=szRows l (n-l.length)) (fun i=>l.length-i.1) (0,n-l.length) ⟨by simp,by simp; omega,by simp; omega,rfl⟩ ?_ ?_
  ·refine Sub.shape [] id (by omega) ?_ ?_ ?_ ?_<;>simp [qA2]
  ·rintro ⟨i,m⟩ ⟨hi,hm0,hm1,hs⟩
   simp only at hi hm0 hm1 hs⊢
   simp only [go_sem,seval]
   refine qA1 (fun hc2=>?_) (fun hc2=>?_)
   ·simp only [decide_eq_true_eq] at hc2
    have hl':i<l.length:=by omega
    have hbl:=hb _ (qAd l i [] hl')
    have hd:l.drop i=l.getD i []::l.drop (i+1):=by rw [List.drop_eq_getElem_cons hl']; simp [List.getD_eq_getElem?_getD,hl']
    rw [hd] at hs
    simp only [szRows] at hs
    simp only [go_sem,seval,qA9 .bw l i hl']
    repeat refine K ?_
    refine CA [] (szInsS_ok (l.getD i []) m hbl hm0 (by omega)) ?_
    try simp only [go_sem,seval]
    repeat refine K ?_
    have hle:=szL_le (k:=(l.getD i []).length) hm0
    refine qA1 (fun hc3=>?_) (fun hc3=>?_)
    ·simp only [go_sem,seval]
     repeat refine K ?_
     refine fz ?_; simp [FinS,nilL,nilV,oneOr,-List.drop_one]
     simp only [decide_eq_true_eq] at hc3
     rw [if_pos hc3] at hs
     have e:szL l.length n=n-l.length:=by unfold szL; rw [if_neg hc]
     simp only [szBods,e,if_neg hc]
     exact hs.symm
    ·simp only [decide_eq_false_iff_not] at hc3
     rw [if_neg hc3] at hs
     simp only [go_sem,seval,qA7 (i:=i) (by omega)]
     repeat refine K ?_
     refine qA6 (i+1,szL (l.getD i []).length m) (Sub.shape [] id (by omega) ?_ ?_ ?_ ?_) ⟨hl',by simp only; omega,by simp only; omega,hs⟩ (by simp only; omega)
     all_goals simp [qA2]
   ·simp only [decide_eq_false_iff_not] at hc2
    have hd:l.drop i=[]:=List.drop_eq_nil_of_le (by omega)
    rw [hd] at hs
    simp only [szRows] at hs
    simp only [go_sem,seval]
    repeat refine K ?_
    refine fz ?_; simp [FinS,nilL,nilV,oneOr,-List.drop_one]
    have e:szL l.length n=n-l.length:=by unfold szL; rw [if_neg hc]
    simp only [szBods,e,if_neg hc]
    exact hs.symm
def szProg (p:Prog) (n:Int):Int:=if szL p.caps.length n<0 then -1 else if szBods p.bods (szL p.caps.length n)<0 then -1 else szBods p.bods (szL p.caps.length n)
theorem szProg_ok (p:Prog) (n:Int) (hc:p.caps.length<2^63) (hl:p.bods.length<2^63) (hb :∀b∈p.bods,b.length<2^63) (h0:0≤n) (h1:n≤2^61):CallOk Tryz.prog num 27 [.agg (progC .bw p),.int .i64 n] [] (.int .i64 (szProg p n)):=by
 refine EN m27 Tryz.func26 ?_
 unfold m27
 simp only [go_sem,seval]
 repeat refine K ?_
 refine CA [] (szIntS_ok p.caps n hc h0 (by omega)) ?_
 try simp only [go_sem,seval]
 repeat refine K ?_
 have hle:=szL_le (k:=p.caps.length) h0
 refine qA1 (fun hk=>?_) (fun hk=>?_)
 ·simp only [decide_eq_true_eq] at hk
  simp only [go_sem,seval]
  repeat refine K ?_
  refine fz ?_; simp [FinS,nilL,nilV,oneOr,-List.drop_one]
  simp [szProg,hk]
 ·simp only [decide_eq_false_iff_not] at hk
  simp only [go_sem,seval]
  repeat refine K ?_
  refine CA [] (szInsSS_ok p.bods (szL p.caps.length n) hl hb (by omega) (by omega)) ?_
  try simp only [go_sem,seval]
  repeat refine K ?_
  refine qA1 (fun hk2=>?_) (fun hk2=>?_)
  ·simp only [decide_eq_true_eq] at hk2
   simp only [go_sem,seval]
   repeat refine K ?_
   refine fz ?_; simp [FinS,nilL,nilV,oneOr,-List.drop_one]
   simp [szProg,hk,hk2]
  ·simp only [decide_eq_false_iff_not] at hk2
   simp only [go_sem,seval]
   repeat refine K ?_
   refine fz ?_; simp [FinS,nilL,nilV,oneOr,-List.drop_one]
   simp [szProg,hk,hk2]
theorem toIns_ok (x:Ins):CallOk Tryz.prog num 89 [.agg (insC x)] [] (.agg (insC x)):=by
 refine EN m89 Tryz.func217 ?_
 unfold m89
 simp only [go_sem,seval]
 repeat refine K ?_
 refine ⟨_,Sub.refl _,qAm ?_⟩; simp [-List.drop_one]
theorem fill_set {α:Type} (l:List α) (d e:α) (i:Nat) (h:i<l.length):(l.take i++List.replicate (l.length-i) e).set i (l.getD i d)=l.take (i+1)++List.replicate (l.length-(i+1)) e:=by
 have h1:l.length-i=(l.length-(i+1))+1:=by omega
 rw [List.set_append_right _ _ (by simp; omega),List.length_take,Nat.min_eq_left (by omega),Nat.sub_self,h1,List.replicate_succ,List.set_cons_zero,List.take_succ_eq_append_getElem h,List.append_assoc]
 congr 1
 simp [List.getD_eq_getElem?_getD,h]
theorem qCc {α:Type} (l:List α) (e:α) (i:Nat) (h:i≤l.length):(l.take i++List.replicate (l.length-i) e).length=l.length:=by simp; omega
theorem toInsS_ok (l:List Ins) (hl:40*l.length≤2^47):CallOk Tryz.prog num 74 [.sl .bw 5 (inss l)] [] (.sl .own 5 (inss l)):=by
 refine EN m74 Tryz.func159 ?_
 unfold m74
 simp only [go_sem,seval]
 repeat refine K ?_
 refine qA8 (ι:=Nat) (fun i=>.mk [(0,.sl .bw 5 (inss l)),(3,.ns 10 0 l.length),(4,.int .i64 i)] [(10,5,inss (l.take i++List.replicate (l.length-i) ⟨0,0,0,0,0⟩))] 11) (fun i=>i≤l.length) (fun i=>l.length-i) 0 (by simp) ?_ ?_
 ·refine Sub.shape [] id (by omega) ?_ ?_ ?_ ?_<;>simp [qA2]
  left
  exact inss_rep _ _ _ _ _ _
 ·intro i hi
  simp only [go_sem,seval]
  refine qA1 (fun hc=>?_) (fun hc=>?_)
  ·simp only [decide_eq_true_eq] at hc
   have hl':i<l.length:=by omega
   have hm:=qCc l (⟨0,0,0,0,0⟩:Ins) i hi
   simp only [go_sem,seval,qBh l i hl',hm]
   repeat refine K ?_
   refine CA [] (toIns_ok (l.getD i default)) ?_
   try simp only [go_sem,seval]
   repeat refine K ?_
   have hs:=fill_set l default (⟨0,0,0,0,0⟩:Ins) i hl'
   have hs':(l.take i++List.replicate (l.length-i) (⟨0,0,0,0,0⟩:Ins)).set i ⟨(l.getD i default).op,(l.getD i default).r,(l.getD i default).a,(l.getD i default).b,(l.getD i default).n⟩=l.take (i+1)++List.replicate (l.length-(i+1)) ⟨0,0,0,0,0⟩:=hs
   try simp only [go_sem,seval,qBh _ i (hm▸hl'),hm,hs',qA7 (i:=i) (by omega)]
   repeat refine K ?_
   refine qA6 (i+1) (Sub.shape [] id (by omega) ?_ ?_ ?_ ?_) ?_ ?_
   any_goals (first | omega | (simp [qA2]; done))
  ·simp only [decide_eq_false_iff_not] at hc
   have:i=l.length:=by omega
   subst this
   simp only [go_sem,seval]
   repeat refine K ?_
   refine fz ?_; simp [FinS,nilL,nilV,oneOr,-List.drop_one]
theorem nil_rows :∀(n:Nat),nilRs (List.replicate n [AV.nil]) (bodies .own (List.replicate n []))
 | 0=>by simp [bodies]
 | n+1=>by
  have:=nil_rows n
  simp only [List.replicate_succ,bodies,List.map_cons] at this⊢
  exact (qCs _ _ _ _).2 ⟨by simp [inss],this⟩
theorem toInsSS_ok (l:List (List Ins)) (hl:24*l.length≤2^47) (hb :∀b∈l,40*b.length≤2^47):CallOk Tryz.prog num 52 [.sl .bw 1 (bodies .bw l)] [] (.sl .own 1 (bodies .own l)):=by
 refine EN m52 Tryz.func83 ?_
 unfold m52
 simp only [go_sem,seval]
 repeat refine K ?_
 refine qA8 (ι:=Nat) (fun i=>.mk [(0,.sl .bw 1 (bodies .bw l)),(3,.ns 10 0 l.length),(4,.int .i64 i)] [(10,1,bodies .own (l.take i++List.replicate (l.length-i) []))] 11) (fun i=>i≤l.length) (fun i=>l.length-i) 0 (by simp) ?_ ?_
 ·refine Sub.shape [] id (by omega) ?_ ?_ ?_ ?_<;>simp [qA2]
  right
  exact nil_rows _
 ·intro i hi
  simp only [go_sem,seval]
  refine qA1 (fun hc=>?_) (fun hc=>?_)
  ·simp only [decide_eq_true_eq] at hc
   have hl':i<l.length:=by omega
   have hm:=qCc l ([]:List Ins) i hi
   simp only [go_sem,seval,qA9 .bw l i hl',hm]
   repeat refine K ?_
   refine CA [] (toInsS_ok (l.getD i []) (hb _ (qAd l i [] hl'))) ?_
   try simp only [go_sem,seval]
   repeat refine K ?_
   have hs:=fill_set l [] ([]:List Ins) i hl'
   try simp only [go_sem,seval,qA9 .own _ i (hm▸hl'),hm,qA7 (i:=i) (by omega)]
   repeat refine K ?_
   refine qA6 (i+1) ?_ hl' (by omega)
   refine Sub.trans (Sub.foldAt 10 0 11 rfl (by simp [-gD]<;>omega) rfl (by decide) (by decide) rfl (by simp<;>omega)) ?_
   simp only [fS,qA,qC,bodies_set,hs]
   refine Sub.shape [] id (by omega) ?_ ?_ ?_ ?_<;>simp [qA2]
  ·simp only [decide_eq_false_iff_not] at hc
   have:i=l.length:=by omega
   subst this
   simp only [go_sem,seval]
   repeat refine K ?_
   refine fz ?_; simp [FinS,nilL,nilV,oneOr,-List.drop_one]
theorem toProg_ok (p:Prog) (hc:8*p.caps.length≤2^47) (hl:24*p.bods.length≤2^47) (hb :∀b∈p.bods,40*b.length≤2^47):CallOk Tryz.prog num 28 [.agg (progC .bw p)] [] (.agg (progC .own p)):=by
 refine EN m28 Tryz.func28 ?_
 unfold m28
 simp only [go_sem,seval]
 repeat refine K ?_
 refine CA [] (toIntS_ok p.caps hc) ?_
 try simp only [go_sem,seval]
 repeat refine K ?_
 refine CA [] (toInsSS_ok p.bods hl hb) ?_
 try simp only [go_sem,seval]
 repeat refine K ?_
 refine ⟨_,Sub.refl _,qAm ?_⟩; simp [-List.drop_one]
theorem eqIns_ok (x y:Ins):CallOk Tryz.prog num 90 [.agg (insC x),.agg (insC y)] [] (.bool (decide (x=y))):=by
 refine EN m90 Tryz.func226 ?_
 unfold m90
 obtain ⟨a,b,c,d,e⟩:=x
 obtain ⟨a',b',c',d',e'⟩:=y
 repeat' (first
  | (simp only [go_sem,seval])
  | (refine qA1 (fun hc=>?_) (fun hc=>?_)<;>((try simp only [Bool.not_eq_true',Bool.not_eq_false',ne_eq,Bool.not_eq_true,Bool.not_eq_false] at hc)<;>(try simp only [hc])))
  | (refine qB4 (fun hc=>?_) (fun hc=>?_)<;>((try simp only [Bool.not_eq_true',Bool.not_eq_false',ne_eq,Bool.not_eq_true,Bool.not_eq_false] at hc)<;>(try simp only [hc])))
  | (refine qAy (fun hc=>?_) (fun hc=>?_)<;>((try simp only [Bool.not_eq_true',Bool.not_eq_false',ne_eq,Bool.not_eq_true,Bool.not_eq_false] at hc)<;>(try simp only [hc])))
  | (refine ⟨by first | omega | (simp; done),?_⟩)
  | fail)
 all_goals (refine fz ?_; simp [FinS,nilL,nilV,oneOr,-List.drop_one])
 all_goals (try (simp_all; done))
theorem eqInsS_ok (xs ys:List Ins) (hx:xs.length≤2^47):CallOk Tryz.prog num 75 [.sl .bw 5 (inss xs),.sl .bw 5 (inss ys)] [] (.bool (decide (xs=ys))):=by
 refine EN m75 Tryz.func164 ?_
 unfold m75
 simp only [go_sem,seval]
 repeat refine K ?_
 refine qA1 (fun hc=>?_) (fun hc=>?_)
 ·have hne:xs≠ys:=fun he=>by subst he; simp at hc
  simp only [go_sem,seval]
  repeat refine K ?_
  refine fz ?_; simp [FinS,nilL,nilV,oneOr,-List.drop_one]
  exact hne
 ·have hl:xs.length=ys.length:=by simp at hc; omega
  simp only [go_sem,seval]
  repeat refine K ?_
  refine qA8 (ι:=Nat) (fun i=>.mk [(0,.sl .bw 5 (inss xs)),(1,.sl .bw 5 (inss ys)),(5,.int .i64 i)] [] 10) (fun i=>i≤xs.length∧xs.take i=ys.take i) (fun i=>xs.length-i) 0 (by simp) ?_ ?_
  ·refine Sub.shape [] id (by omega) ?_ ?_ ?_ ?_<;>simp [qA2]
  ·rintro i ⟨hi,hp⟩
   simp only [go_sem,seval]
   repeat refine K ?_
   refine qA1 (fun hc=>?_) (fun hc=>?_)
   ·simp only [decide_eq_true_eq] at hc
    have hil:i<xs.length:=by omega
    have hjl:i<ys.length:=by omega
    simp only [go_sem,seval,qBh xs i hil,qBh ys i hjl]
    repeat refine K ?_
    refine DA [] (eqIns_ok (xs.getD i default) (ys.getD i default)) ?_
    try simp only [go_sem,seval]
    repeat refine K ?_
    by_cases he:xs.getD i default=ys.getD i default
    ·simp only [go_sem,seval,he,qA7 (i:=i) (by omega)]
     repeat refine K ?_
     refine qA6 (i+1) (Sub.shape [] id (by omega) ?_ ?_ ?_ ?_) ?_ ?_
     any_goals (first | omega | (simp [qA2]; done))
     refine ⟨hil,?_⟩
     rw [List.take_succ_eq_append_getElem hil,List.take_succ_eq_append_getElem hjl,hp]
     have he':xs[i]=ys[i]:=by simpa [List.getD_eq_getElem?_getD,hil,hjl] using he
     rw [he']
    ·simp only [go_sem,seval,he]
     repeat refine K ?_
     refine fz ?_; simp [FinS,nilL,nilV,oneOr,-List.drop_one]
     intro h
     subst h
     exact he rfl
   ·simp only [decide_eq_false_iff_not] at hc
    have he:xs=ys:=by
     have h1:i=xs.length:=by omega
     rw [h1,List.take_length,hl,List.take_length] at hp
     exact hp
    simp only [go_sem,seval]
    repeat refine K ?_
    refine fz ?_; simp [FinS,nilL,nilV,oneOr,-List.drop_one]
    exact he
theorem eqInsSS_ok (xs ys:List (List Ins)) (hx:xs.length≤2^47) (hb :∀b∈xs,b.length≤2^47):CallOk Tryz.prog num 53 [.sl .bw 1 (bodies .bw xs),.sl .bw 1 (bodies .bw ys)] [] (.bool (decide (xs=ys))):=by
 refine EN m53 Tryz.func86 ?_
 unfold m53
 simp only [go_sem,seval]
 repeat refine K ?_
 refine qA1 (fun hc=>?_) (fun hc=>?_)
 ·have hne:xs≠ys:=fun he=>by subst he; simp at hc
  simp only [go_sem,seval]
  repeat refine K ?_
  refine fz ?_; simp [FinS,nilL,nilV,oneOr,-List.drop_one]
  exact hne
 ·have hl:xs.length=ys.length:=by simp at hc; omega
  simp only [go_sem,seval]
  repeat refine K ?_
  refine qA8 (ι:=Nat) (fun i=>.mk [(0,.sl .bw 1 (bodies .bw xs)),(1,.sl .bw 1 (bodies .bw ys)),(5,.int .i64 i)] [] 10) (fun i=>i≤xs.length∧xs.take i=ys.take i) (fun i=>xs.length-i) 0 (by simp) ?_ ?_
  ·refine Sub.shape [] id (by omega) ?_ ?_ ?_ ?_<;>simp [qA2]
  ·rintro i ⟨hi,hp⟩
   simp only [go_sem,seval]
   repeat refine K ?_
   refine qA1 (fun hc=>?_) (fun hc=>?_)
   ·simp only [decide_eq_true_eq] at hc
    have hil:i<xs.length:=by omega
    have hjl:i<ys.length:=by omega
    simp only [go_sem,seval,qA9 .bw xs i hil,qA9 .bw ys i hjl]
    repeat refine K ?_
    refine DA [] (eqInsS_ok (xs.getD i []) (ys.getD i []) (hb _ (qAd xs i [] hil))) ?_
    try simp only [go_sem,seval]
    repeat refine K ?_
    by_cases he:xs.getD i []=ys.getD i []
    ·simp only [go_sem,seval,he,qA7 (i:=i) (by omega)]
     repeat refine K ?_
     refine qA6 (i+1) (Sub.shape [] id (by omega) ?_ ?_ ?_ ?_) ?_ ?_
     any_goals (first | omega | (simp [qA2]; done))
     refine ⟨hil,?_⟩
     rw [List.take_succ_eq_append_getElem hil,List.take_succ_eq_append_getElem hjl,hp]
     have he':xs[i]=ys[i]:=by simpa [List.getD_eq_getElem?_getD,hil,hjl] using he
     rw [he']
    ·simp only [go_sem,seval,he]
     repeat refine K ?_
     refine fz ?_; simp [FinS,nilL,nilV,oneOr,-List.drop_one]
     intro h
     subst h
     exact he rfl
   ·simp only [decide_eq_false_iff_not] at hc
    have he:xs=ys:=by
     have h1:i=xs.length:=by omega
     rw [h1,List.take_length,hl,List.take_length] at hp
     exact hp
    simp only [go_sem,seval]
    repeat refine K ?_
    refine fz ?_; simp [FinS,nilL,nilV,oneOr,-List.drop_one]
    exact he
theorem eqProg_ok (p q:Prog) (h1:p.caps.length≤2^47) (h2:p.bods.length≤2^47) (h3 :∀b∈p.bods,b.length≤2^47):CallOk Tryz.prog num 30 [.agg (progC .bw p),.agg (progC .bw q)] [] (.bool (decide (p.caps=q.caps)&&decide (p.bods=q.bods))):=by
 refine EN m30 Tryz.func30 ?_
 unfold m30
 simp only [go_sem,seval]
 repeat refine K ?_
 refine CA [] (eqIntS_ok p.caps q.caps h1) ?_
 try simp only [go_sem,seval]
 repeat refine K ?_
 refine qA1 (fun hc=>?_) (fun hc=>?_)
 ·simp only [go_sem,seval]
  repeat refine K ?_
  refine fz ?_; simp [FinS,nilL,nilV,oneOr,-List.drop_one]
  simp_all
 ·simp only [go_sem,seval]
  repeat refine K ?_
  refine CA [] (eqInsSS_ok p.bods q.bods h2 h3) ?_
  try simp only [go_sem,seval]
  repeat refine K ?_
  refine qA1 (fun hc2=>?_) (fun hc2=>?_)
  ·simp only [go_sem,seval]
   repeat refine K ?_
   refine fz ?_; simp [FinS,nilL,nilV,oneOr,-List.drop_one]
   simp_all
  ·simp only [go_sem,seval]
   repeat refine K ?_
   refine fz ?_; simp [FinS,nilL,nilV,oneOr,-List.drop_one]
   simp_all
def tot:List (List Ins)→Nat
 | []=>0
 | b::l=>b.length+tot l
theorem qBm {α:Type} (l:List α) (d:α) (i:Nat) (h:i<l.length):l.take (i+1)=l.take i++[l.getD i d]:=by
 rw [List.take_succ_eq_append_getElem h]
 simp [List.getD_eq_getElem?_getD,h]
def tots {α:Type} (w:α→Nat):List α→Nat
 | []=>0
 | a::l=>w a+tots w l
theorem tots_mem {α:Type} {w:α→Nat} :∀{l:List α} {x:α},x∈l→w x≤tots w l
 | [],x,h=>by simp at h
 | a::l,x,h=>by
  simp only [tots]
  rcases List.mem_cons.1 h with rfl | h
  ·omega
  ·have:=tots_mem (w:=w) h
   omega
def mks {α:Type} (w:α→Nat) (f:Int→α→α):Int→List α→List α
 | _,[]=>[]
 | k,a::l=>f k a::mks w f (k+w a) l
@[simp] theorem mks_length {α:Type} (w:α→Nat) (f:Int→α→α) :∀(k:Int) (l:List α),(mks w f k l).length=l.length
 | _,[]=>rfl
 | k,b::l=>by simp [mks,mks_length]
@[simp] theorem mks_take {α:Type} (w:α→Nat) (f:Int→α→α) (k:Int) (l:List α):(mks w f k l).take l.length=mks w f k l:=List.take_of_length_le (by simp)
theorem szL_add (a b:Nat) (n:Int) (h:0≤n):(if szL a n<0 then -1 else szL b (szL a n))=szL (a+b) n:=by
 unfold szL
 by_cases h1:n-a<0
 ·rw [if_pos h1,if_pos (by decide),if_pos (by push_cast; omega)]
 ·rw [if_neg h1,if_neg h1]
  by_cases h2:n-a-b<0
  ·rw [if_pos h2,if_pos (by push_cast; omega)]
  ·rw [if_neg h2,if_neg (by push_cast; omega)]
   push_cast
   omega
theorem szL_neg {k:Nat} {n:Int} (h:szL k n<0):szL k n=-1:=by
 unfold szL at h⊢
 split
 ·rfl
 ·rename_i h4; rw [if_neg h4] at h; omega
theorem szL_ge {k:Nat} {n:Int} (h :¬szL k n<0) (h0:0≤n):(k:Int)≤n:=by
 have:=qDj h
 omega
theorem szRows_eq :∀(l:List (List Ins)) (n:Int),0≤n→szRows l n=szL (tot l) n
 | [],n,h=>by
  simp only [szRows,tot]
  unfold szL
  rw [if_neg (by push_cast; omega)]
  push_cast
  omega
 | a::l,n,h=>by
  simp only [szRows,tot]
  rw [←szL_add _ _ _ h]
  by_cases h2:szL a.length n<0
  ·rw [if_pos h2,if_pos h2]
  ·rw [if_neg h2,if_neg h2]
   exact szRows_eq l _ (by omega)
def wProg (p:Prog):Nat:=p.caps.length+(p.bods.length+tot p.bods)
theorem szProg_eq (p:Prog) (n:Int) (h:0≤n):szProg p n=szL (wProg p) n:=by
 unfold szProg wProg szBods
 rw [←szL_add _ _ _ h]
 by_cases h1:szL p.caps.length n<0
 ·rw [if_pos h1,if_pos h1]
 ·have h1':0≤szL p.caps.length n:=by omega
  rw [if_neg h1,if_neg h1,←szL_add _ _ _ h1']
  by_cases h2:szL p.bods.length (szL p.caps.length n)<0
  ·simp only [if_pos h2]
   rfl
  ·simp only [if_neg h2]
   rw [szRows_eq _ _ (by omega)]
   by_cases h3:szL (tot p.bods) (szL p.bods.length (szL p.caps.length n))<0
   ·rw [if_pos h3,szL_neg h3]
   ·rw [if_neg h3]
def wNote (_x:Note):Nat:=2
def markNoteF (k:Int) (_x:Note):Note:=⟨k,k+1⟩
structure PrgSz (p:Prog) (n:Nat):Prop where
 caps:p.caps.length≤n
 bods:p.bods.length≤n
 body :∀b∈p.bods,b.length≤n
 tot:tot p.bods≤n
theorem tot_mem :∀{l:List (List Ins)} {b:List Ins},b∈l→b.length≤tot l
 | [],b,h=>by simp at h
 | a::l,b,h=>by
  simp only [tot]
  rcases List.mem_cons.1 h with rfl | h
  ·omega
  ·have:=tot_mem h
   omega
theorem prgSz_of {p:Prog} {n:Nat} (h:wProg p≤n):PrgSz p n:=by
 unfold wProg at h
 exact ⟨by omega,by omega,fun b hb=>by have:=tot_mem hb; omega,by omega⟩
end Go.Sep
