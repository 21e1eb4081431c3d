/- Contracts of functions. -/
import Derived.Test.YtfecojefbnnknaaGreatRxx1
open List renaming drop_one → wD9, getD_eq_getElem?_getD → wBr
namespace Go.Sep
set_option maxHeartbeats 16000000
open Go.Proofs
set_option linter.unusedSimpArgs false
set_option linter.unusedVariables false
set_option maxRecDepth 100000
def m48:MFn:=⟨34,[.t 2],kr [xb 1 0,xF 2] (.seq (kr [xa 5 1 1,xl 6 5,xe 7 6,xI 8 0] (.blk 0 (.loop (kr [bT 9 .lss 8 7] (.seq (kX 9 0) (.seq (.blk 1 (kr [xD 10 1 6 8,xl 11 10,xv 4 11] (kr [xv 12 4,xa 13 0 1,xl 14 13,xe 15 14,xc2 16 67 (.t 12) (.t 15),xN 17 16] (kF 17 [xF 2])))) (xr [bI 18 .add 8 1,xv 8 18]))))))) (kR [xa 19 0 1,xl 20 19,xe 21 20,bI 22 .leq 21 3,xv 23 22,ya 24 0 1 23,yl 25 1 24 23,xg 26 (.call 68 [false] [.t 25]) 23 true,xP 27 23 26,xv 28 27,ya 29 1 1 28,yl 30 1 29 28,ye 31 30 28,xg 32 (.call 59 [false,false,false] [.t 31,xi 1,xi 4]) 28 true,xP 33 28 32,xv 2 33]))⟩
def m62:MFn:=⟨46,[.t 2],kr [xb 1 0,xF 2] (.seq (kr [xI 3 0] (.blk 0 (.loop (.seq (kr [xv 5 3,xa 6 0 1,xl 7 6,xe 8 7,bT 9 .lss 5 8] (kX 9 0)) (.seq (.blk 1 (kr [xa 12 0 1,xl 13 12,xv 14 3,xD 15 1 13 14,xl 16 15,xc3 17 64 (.t 16) (xi 1) (xi 4),xN 18 17] (kF 18 [xF 2]))) (xr [xv 10 3,bI 11 .add 10 1,xv 3 11])))))) (.seq (kr [xI 4 0] (.blk 2 (.loop (.seq (kr [xv 19 4,xa 20 1 1,xl 21 20,xe 22 21,bT 23 .lss 19 22] (kX 23 2)) (.seq (.blk 3 (.seq (.dreg (.take 0 (xa 26 1 1) (.take 1 (xl 27 26) (.take 2 (xv 28 4) (.take 3 (xD 29 1 27 28) (.take 4 (xl 30 29) (.only 5 [] (xa 31 0 1) (.only 6 [] (xl 32 31) (.only 7 [] (xe 33 32) (.only 8 [4,3,1,2,0] (xc2 34 82 (.t 30) (.t 33)) (.only 9 [8,4,3,1,2,0] (xN 35 34) (.done)))))))))))) (kF 35 [xF 2]))) (xr [xv 24 4,bI 25 .add 24 1,xv 4 25])))))) (kR [xa 36 0 1,xl 37 36,xe 38 37,bI 39 .leq 38 3,xv 40 39,ya 41 1 1 40,yl 42 1 41 40,ye 43 42 40,xg 44 (.call 64 [false,false,false] [.t 43,xi 1,xi 4]) 40 true,xP 45 40 44,xv 2 45])))⟩
def m67:MFn:=⟨43,[.t 4],kr [xF 4] (.seq (kr [xv 8 1,xc3 9 59 (.t 8) (xi 0) (xi 3),xN 10 9,xv 11 10,zv 12 0 11,ze 13 12 11,xg 14 (.call 59 [false,false,false] [.t 13,xi 1,xi 24]) 11 false,zN 15 14 11,xQ 16 11 15] (kF 16 [xF 4])) (.seq (kr [xv 17 0,xe 18 17,xI 19 0] (.blk 0 (.loop (kr [bT 20 .lss 19 18] (.seq (kX 20 0) (.seq (.blk 1 (kr [xD 21 5 17 19,xm 22 5 21,xo 6 (.alloc [xz,xz,xz,xz,xz]),xS 5 6 22] (kr [xm 23 5 6,xv 24 0,xe 25 24,xv 26 1,xc3 27 88 (.t 23) (.t 25) (.t 26),xN 28 27] (kF 28 [xF 4])))) (xr [bI 29 .add 19 1,xv 19 29]))))))) (kr [xv 30 0,xv 31 0,xe 32 31,bI 33 .sub 32 1,xD 34 5 30 33,xa 35 0 34,xl 36 35,xv 7 36] (kR [xv 37 7,bI 38 .eql 37 13,xv 39 38,zv 40 7 39,zI 41 .eql 40 11 39,xQ 42 39 41,xv 4 42]))))⟩
def m68:MFn:=⟨15,[.t 2],kr [xF 2] (.seq (kr [xv 5 0,xe 6 5,xI 7 0] (.blk 0 (.loop (kr [bT 8 .lss 7 6] (.seq (kX 8 0) (.seq (.blk 1 (kr [xD 9 1 5 7,xl 10 9,xv 4 10] (kr [xv 11 4,xc3 12 59 (.t 11) (xi 1) (xi 4),xN 13 12] (kF 13 [xF 2])))) (xr [bI 14 .add 7 1,xv 7 14]))))))) (kR [xT 2]))⟩
def m82:MFn:=⟨46,[.t 4],kr [xF 4] (kr [xv 7 0,xe 8 7,xv 5 8] (.seq (kr [xI 6 0] (.blk 0 (.loop (.seq (kr [xv 9 6,xv 10 5,bT 11 .lss 9 10] (kX 11 0)) (.seq (.blk 1 (kr [xv 14 0,xv 15 6,xD 16 5 14 15,xm 17 5 16,xv 18 5,xv 19 1,xc3 20 92 (.t 17) (.t 18) (.t 19),xN 21 20] (kF 21 [xF 4]))) (xr [xv 12 6,bI 13 .add 12 1,xv 6 13])))))) (kR [xv 22 5,xc3 23 64 (.t 22) (xi 1) (xi 24),xv 24 23,yv 25 1 24,xg 26 (.call 64 [false,false,false] [.t 25,xi 0,xi 3]) 24 true,xP 27 24 26,xv 28 27,yv 29 0 28,yv 30 5 28,yI 31 .sub 30 1 28,xg 32 (.iad 5 (.t 29) (.t 31)) 28 true,ya 33 0 32 28,yl 34 1 33 28,yI 35 .eql 34 13 28,yv 36 35 28,zv 37 0 36,zv 38 5 36,zI 39 .sub 38 1 36,xg 40 (.iad 5 (.t 37) (.t 39)) 36 false,za 41 0 40 36,zl 42 1 41 36,zI 43 .eql 42 11 36,xg 44 (.pick (.t 36) (.c (.bool true)) (.t 43)) 28 true,xP 45 28 44,xv 4 45])))⟩
theorem hX {α:Type} {l:List α} {p:α→Bool} {d:α} {i:Nat} (h:(l.take i).all p=true) (hi:i<l.length) (hp:p (l.getD i d)=true):(l.take (i+1)).all p=true:=by
 rw [List.take_succ_eq_append_getElem hi,List.all_append,h]
 have h1:l.getD i d=l[i]:=by simp [wBr,hi]
 rw [h1] at hp
 simp [hp]
theorem hP {α:Type} {l:List α} {p:α→Bool} {d:α} {i:Nat} (hi:i<l.length) (hp:p (l.getD i d)=false):l.all p=false:=by
 have h1:l.getD i d=l[i]:=by simp [wBr,hi]
 rw [h1] at hp
 cases h:l.all p with
 | false=>rfl
 | true=>rw [List.all_eq_true.1 h l[i] (List.getElem_mem hi)] at hp; exact absurd hp (by decide)
theorem mX {α:Type} {l:List α} {p:α→Bool} {i:Nat} (h:(l.take i).all p=true) (hi :¬(i:Int)<l.length):l.all p=true:=by
 rw [List.take_of_length_le (by omega)] at h
 exact h
def dY (l:List Int):Bool:=l.all fun c=>qW c 1 4
theorem qUq (l:List Int) (hl:l.length<2^47):qY Tryz.prog num 68 [.sl .bw 1 (wE l)] [] (.bool (dY l)):=by
 refine EN m68 Tryz.func65 ?_
 unfold m68
 simp only [go_sem,seval]
 refine qZ (ι:=Nat) (fun i=>.mk [(5,.sl .bw 1 (wE l)),(6,.int .i64 l.length),(7,.int .i64 i)] [] 10) (fun i=>i≤l.length∧(l.take i).all (fun c=>qW c 1 4)=true) (fun i=>l.length-i) 0 (by simp) ?_ ?_
 ·refine Sub.shape [] id (by omega) ?_ ?_ ?_ ?_<;>simp [qK]
 ·rintro i ⟨hi,hp⟩
  simp only [go_sem,seval]
  refine qP (fun hc=>?_) (fun hc=>?_)
  ·simp only [decide_eq_true_eq] at hc
   have hl':i<l.length:=by omega
   simp only [go_sem,seval,qI l i hl',qN (i:=i) (by omega)]
   repeat refine K ?_
   refine CA [] (bG (l.getD i 0) 1 4) ?_
   try simp only [go_sem,seval]
   cases hw:qW (l.getD i 0) 1 4
   ·simp only [go_sem,seval,hw]
    refine fz ?_; simp [yQ,wJ,wK,wR,-wD9]
    simp only [dY]
    exact hP hl' hw
   ·simp only [go_sem,seval,hw,qN (i:=i) (by omega)]
    refine qM (i+1) (Sub.shape [] id (by omega) ?_ ?_ ?_ ?_) ?_ ?_
    any_goals (first | omega | (simp [qK]; done))
    exact ⟨hl',hX hp hl' hw⟩
  ·simp only [decide_eq_false_iff_not] at hc
   simp only [go_sem,seval]
   refine fz ?_; simp [yQ,wJ,wK,wR,-wD9]
   exact mX hp hc
def xK (l:List Ins):Int:=(l.getD (l.length-1) default).op
def wF (l:List Ins) (ch:Int):Bool:=qW ch 0 3&&qW l.length 1 24&&l.all (fun x=>jJ x l.length ch)&&(decide (xK l=13)||decide (xK l=11))
theorem kK (l:List Ins) (ch:Int) (hl:l.length<2^47) (h0:0≤ch) (h1:ch<2^62):qY Tryz.prog num 67 [.sl .bw 5 (yV l),.int .i64 ch] [] (.bool (wF l ch)):=by
 refine EN m67 Tryz.func39 ?_
 unfold m67
 simp only [go_sem,seval]
 refine CA [] (bG ch 0 3) ?_
 try simp only [go_sem,seval]
 cases hw:qW ch 0 3
 ·simp only [go_sem,seval,hw]
  refine fz ?_; simp [yQ,wJ,wK,wR,-wD9]
  simp [wF,hw]
 ·simp only [go_sem,seval,hw]
  refine CA [] (bG l.length 1 24) ?_
  try simp only [go_sem,seval]
  cases hw2:qW l.length 1 24
  ·simp only [go_sem,seval,hw2]
   refine fz ?_; simp [yQ,wJ,wK,wR,-wD9]
   simp [wF,hw,hw2]
  ·simp only [go_sem,seval,hw2]
   refine qZ (ι:=Nat) (fun i=>.mk [(0,.sl .bw 5 (yV l)),(1,.int .i64 ch),(17,.sl .bw 5 (yV l)),(18,.int .i64 l.length),(19,.int .i64 i)] [] 10) (fun i=>i≤l.length∧(l.take i).all (fun x=>jJ x l.length ch)=true) (fun i=>l.length-i) 0 (by simp) ?_ ?_
   ·refine Sub.shape [] id (by omega) ?_ ?_ ?_ ?_<;>simp [qK]
   ·rintro i ⟨hi,hp⟩
    simp only [go_sem,seval]
    refine qP (fun hc=>?_) (fun hc=>?_)
    ·simp only [decide_eq_true_eq] at hc
     have hl':i<l.length:=by omega
     simp only [go_sem,seval,jQ l i hl']
     repeat refine K ?_
     refine CA [] (qLg (l.getD i default) l.length ch (by omega) (by omega) (by omega) (by omega)) ?_
     try simp only [go_sem,seval]
     cases hw3:jJ (l.getD i default) l.length ch
     ·simp only [go_sem,seval,hw3]
      refine fz ?_; simp [yQ,wJ,wK,wR,-wD9]
      simp only [wF]
      rw [hP (p:=fun x=>jJ x l.length ch) hl' hw3]
      simp
     ·simp only [go_sem,seval,hw3,qN (i:=i) (by omega)]
      refine qM (i+1) (Sub.shape [] id (by omega) ?_ ?_ ?_ ?_) ?_ ?_
      any_goals (first | omega | (simp [qK]; done))
      exact ⟨hl',hX (p:=fun x=>jJ x l.length ch) hp hl' hw3⟩
    ·simp only [decide_eq_false_iff_not] at hc
     have hlen:1≤l.length:=by rw [qL] at hw2; omega
     have ht:Int.toNat ((l.length:Int)-1)=l.length-1:=by omega
     have hwr:IntKind.i64.wrap ((l.length:Int)-1)=(l.length:Int)-1:=yL (by omega) (by omega)
     simp only [go_sem,seval,hwr,ht,jQ l (l.length-1) (by omega)]
     repeat refine K ?_
     have he:=mX hp hc
     by_cases hx:(l.getD (l.length-1) default).op=13
     ·simp only [go_sem,seval,hx]
      refine fz ?_; simp [yQ,wJ,wK,wR,-wD9]
      simp only [wF,hw,hw2,he,xK,hx]
      rfl
     ·simp only [go_sem,seval,hx]
      refine fz ?_; simp [yQ,wJ,wK,wR,-wD9]
      simp only [wF,hw,hw2,he,xK,hx]
      simp
theorem kA (l:List Ins) (ch:Int) (hl:l.length<2^47) (h0:0≤ch) (h1:ch<2^62):qY Tryz.prog num 82 [.sl .bw 5 (yV l),.int .i64 ch] [] (.bool (wF l ch)):=by
 refine EN m82 Tryz.func70 ?_
 unfold m82
 simp only [go_sem,seval]
 refine qZ (ι:=Nat) (fun i=>.mk [(0,.sl .bw 5 (yV l)),(1,.int .i64 ch),(5,.int .i64 l.length),(6,.int .i64 i)] [] 10) (fun i=>i≤l.length∧(l.take i).all (fun x=>jJ x l.length ch)=true) (fun i=>l.length-i) 0 (by simp) ?_ ?_
 ·refine Sub.shape [] id (by omega) ?_ ?_ ?_ ?_<;>simp [qK]
 ·rintro i ⟨hi,hp⟩
  simp only [go_sem,seval]
  refine qP (fun hc=>?_) (fun hc=>?_)
  ·simp only [decide_eq_true_eq] at hc
   have hl':i<l.length:=by omega
   simp only [go_sem,seval,jQ l i hl']
   repeat refine K ?_
   refine CA [] (qKn (l.getD i default) l.length ch (by omega) (by omega)) ?_
   try simp only [go_sem,seval]
   cases hw3:jJ (l.getD i default) l.length ch
   ·simp only [go_sem,seval,hw3]
    refine fz ?_; simp [yQ,wJ,wK,wR,-wD9]
    simp only [wF]
    rw [hP (p:=fun x=>jJ x l.length ch) hl' hw3]
    simp
   ·simp only [go_sem,seval,hw3,qN (i:=i) (by omega)]
    refine qM (i+1) (Sub.shape [] id (by omega) ?_ ?_ ?_ ?_) ?_ ?_
    any_goals (first | omega | (simp [qK]; done))
    exact ⟨hl',hX (p:=fun x=>jJ x l.length ch) hp hl' hw3⟩
  ·simp only [decide_eq_false_iff_not] at hc
   have he:=mX hp hc
   simp only [go_sem,seval]
   refine CA [] (mG l.length 1 24) ?_
   try simp only [go_sem,seval]
   cases hw2:qW l.length 1 24
   ·simp only [go_sem,seval,hw2]
    refine fz ?_; simp [yQ,wJ,wK,wR,-wD9]
    simp [wF,hw2]
   ·simp only [go_sem,seval,hw2]
    refine CA [] (mG ch 0 3) ?_
    try simp only [go_sem,seval]
    cases hw:qW ch 0 3
    ·simp only [go_sem,seval,hw]
     refine fz ?_; simp [yQ,wJ,wK,wR,-wD9]
     simp [wF,hw,hw2]
    ·have hlen:1≤l.length:=by rw [qL] at hw2; omega
     have ht:Int.toNat ((l.length:Int)-1)=l.length-1:=by omega
     have hwr:IntKind.i64.wrap ((l.length:Int)-1)=(l.length:Int)-1:=yL (by omega) (by omega)
     simp only [go_sem,seval,hw,hwr,ht,jQ l (l.length-1) (by omega)]
     repeat refine K ?_
     by_cases hx:(l.getD (l.length-1) default).op=13
     ·simp only [go_sem,seval,hx]
      refine fz ?_; simp [yQ,wJ,wK,wR,-wD9]
      simp only [wF,hw,hw2,he,xK,hx]
      rfl
     ·simp only [go_sem,seval,hx,hwr,ht,jQ l (l.length-1) (by omega)]
      repeat refine K ?_
      refine fz ?_; simp [yQ,wJ,wK,wR,-wD9]
      simp only [wF,hw,hw2,he,xK,hx]
      simp
def yR (p:wQ):Bool:=p.bods.all (fun b=>wF b p.caps.length)&&decide ((p.caps.length:Int)≤3)&&dY p.caps&&qW p.bods.length 1 4
theorem eN (p:wQ) (h1:p.caps.length<2^47) (h2:p.bods.length<2^47) (h3 :∀b∈p.bods,b.length<2^47):qY Tryz.prog num 48 [.agg (jY .bw p)] [] (.bool (yR p)):=by
 refine EN m48 Tryz.func23 ?_
 unfold m48
 simp only [go_sem,seval]
 refine qZ (ι:=Nat) (fun i=>.mk [(1,.ptr 10 0 0),(6,.sl .bw 1 (yT .bw p.bods)),(7,.int .i64 p.bods.length),(8,.int .i64 i)] [(10,2,[jY .bw p])] 11) (fun i=>i≤p.bods.length∧(p.bods.take i).all (fun b=>wF b p.caps.length)=true) (fun i=>p.bods.length-i) 0 (by simp) ?_ ?_
 ·refine Sub.shape [] id (by omega) ?_ ?_ ?_ ?_<;>simp [qK]
 ·rintro i ⟨hi,hp⟩
  simp only [go_sem,seval]
  refine qP (fun hc=>?_) (fun hc=>?_)
  ·simp only [decide_eq_true_eq] at hc
   have hl':i<p.bods.length:=by omega
   have hb:(p.bods.getD i []).length<2^47:=h3 _ (by simp [wBr,hl'])
   simp only [go_sem,seval,wB .bw p.bods i hl']
   repeat refine K ?_
   refine CA [] (kK (p.bods.getD i []) p.caps.length hb (by omega) (by omega)) ?_
   try simp only [go_sem,seval]
   cases hw:wF (p.bods.getD i []) p.caps.length
   ·simp only [go_sem,seval,hw]
    refine fz ?_; simp [yQ,wJ,wK,wR,-wD9]
    simp only [yR]
    rw [hP (p:=fun b=>wF b p.caps.length) hl' hw]
    simp
   ·simp only [go_sem,seval,hw,qN (i:=i) (by omega)]
    refine qM (i+1) (Sub.shape [] id (by omega) ?_ ?_ ?_ ?_) ?_ ?_
    any_goals (first | omega | (simp [qK]; done))
    exact ⟨hl',hX (p:=fun b=>wF b p.caps.length) hp hl' hw⟩
  ·simp only [decide_eq_false_iff_not] at hc
   have he:=mX hp hc
   simp only [go_sem,seval]
   by_cases hx:(p.caps.length:Int)≤3
   ·simp only [go_sem,seval,hx]
    refine CA [] (qUq p.caps h1) ?_
    try simp only [go_sem,seval]
    cases hw:dY p.caps
    ·simp only [go_sem,seval,hw]
     refine fz ?_; simp [yQ,wJ,wK,wR,-wD9]
     simp [yR,hw]
    ·simp only [go_sem,seval,hw]
     refine CA [] (bG p.bods.length 1 4) ?_
     try simp only [go_sem,seval]
     refine fz ?_; simp [yQ,wJ,wK,wR,-wD9]
     simp only [yR,he,hw,hx]
     simp
   ·simp only [go_sem,seval,hx]
    refine fz ?_; simp [yQ,wJ,wK,wR,-wD9]
    simp [yR,hx]
theorem qHf (p:wQ) (h1:p.caps.length<2^47) (h2:p.bods.length<2^47) (h3 :∀b∈p.bods,b.length<2^47):qY Tryz.prog num 62 [.agg (jY .bw p)] [] (.bool (yR p)):=by
 refine EN m62 Tryz.func63 ?_
 unfold m62
 simp only [go_sem,seval]
 refine qZ (ι:=Nat) (fun i=>.mk [(1,.ptr 10 0 0),(3,.int .i64 i)] [(10,2,[jY .bw p])] 11) (fun i=>i≤p.caps.length∧(p.caps.take i).all (fun c=>qW c 1 4)=true) (fun i=>p.caps.length-i) 0 (by simp) ?_ ?_
 ·refine Sub.shape [] id (by omega) ?_ ?_ ?_ ?_<;>simp [qK]
 ·rintro i ⟨hi,hp⟩
  simp only [go_sem,seval]
  refine qP (fun hc=>?_) (fun hc=>?_)
  ·simp only [decide_eq_true_eq] at hc
   have hl':i<p.caps.length:=by omega
   simp only [go_sem,seval,qI p.caps i hl']
   repeat refine K ?_
   refine CA [] (mG (p.caps.getD i 0) 1 4) ?_
   try simp only [go_sem,seval]
   cases hw:qW (p.caps.getD i 0) 1 4
   ·simp only [go_sem,seval,hw]
    refine fz ?_; simp [yQ,wJ,wK,wR,-wD9]
    simp only [yR,dY]
    rw [hP (p:=fun c=>qW c 1 4) hl' hw]
    simp
   ·simp only [go_sem,seval,hw,qN (i:=i) (by omega)]
    refine qM (i+1) (Sub.shape [] id (by omega) ?_ ?_ ?_ ?_) ?_ ?_
    any_goals (first | omega | (simp [qK]; done))
    exact ⟨hl',hX (p:=fun c=>qW c 1 4) hp hl' hw⟩
  ·simp only [decide_eq_false_iff_not] at hc
   have hcap:dY p.caps=true:=mX hp hc
   simp only [go_sem,seval]
   refine qZ (ι:=Nat) (fun i=>.mk [(1,.ptr 10 0 0),(4,.int .i64 i)] [(10,2,[jY .bw p])] 11) (fun i=>i≤p.bods.length∧(p.bods.take i).all (fun b=>wF b p.caps.length)=true) (fun i=>p.bods.length-i) 0 (by simp) ?_ ?_
   ·refine Sub.shape [] id (by omega) ?_ ?_ ?_ ?_<;>simp [qK]
   ·rintro i ⟨hi,hp⟩
    simp only [go_sem,seval]
    refine qP (fun hc=>?_) (fun hc=>?_)
    ·simp only [decide_eq_true_eq] at hc
     have hl':i<p.bods.length:=by omega
     have hb:(p.bods.getD i []).length<2^47:=h3 _ (by simp [wBr,hl'])
     simp only [go_sem,seval,wB .bw p.bods i hl']
     repeat refine K ?_
     refine DA [] (kA (p.bods.getD i []) p.caps.length hb (by omega) (by omega)) ?_
     try simp only [go_sem,seval]
     cases hw:wF (p.bods.getD i []) p.caps.length
     ·simp only [go_sem,seval,hw]
      refine fz ?_; simp [yQ,wJ,wK,wR,-wD9]
      simp only [yR]
      rw [hP (p:=fun b=>wF b p.caps.length) hl' hw]
      simp
     ·simp only [go_sem,seval,hw,qN (i:=i) (by omega)]
      refine qM (i+1) (Sub.shape [] id (by omega) ?_ ?_ ?_ ?_) ?_ ?_
      any_goals (first | omega | (simp [qK]; done))
      exact ⟨hl',hX (p:=fun b=>wF b p.caps.length) hp hl' hw⟩
    ·simp only [decide_eq_false_iff_not] at hc
     have he:=mX hp hc
     simp only [go_sem,seval]
     by_cases hx:(p.caps.length:Int)≤3
     ·simp only [go_sem,seval,hx]
      refine CA [] (mG p.bods.length 1 4) ?_
      try simp only [go_sem,seval]
      refine fz ?_; simp [yQ,wJ,wK,wR,-wD9]
      simp only [yR,he,hcap,hx]
      simp
     ·simp only [go_sem,seval,hx]
      refine fz ?_; simp [yQ,wJ,wK,wR,-wD9]
      simp [yR,hx]
end Go.Sep
