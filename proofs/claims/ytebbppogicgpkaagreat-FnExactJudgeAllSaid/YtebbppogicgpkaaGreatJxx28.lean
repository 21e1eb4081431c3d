/- Contracts of functions. -/
import Derived.Test.YtebbppogicgpkaaGreatJxx27
open Bool renaming not_eq_false → qYo, not_eq_false' → qYm, not_eq_true → qYn, not_eq_true' → qYl
open List renaming drop_one → qYj, replicate → qWo, take_succ_eq_append_getElem → qYi
namespace Go.Sep
set_option maxHeartbeats 16000000
open Go.Proofs
set_option linter.unusedSimpArgs false
set_option linter.unusedVariables false
set_option maxRecDepth 100000
def m348:MFn:=⟨11,[.cell 2 2 true],kr [xb 1 0,xo 2 (.alloc [xz,xz])] (kr [xo 3 (.alloc [xz,xz])] (kr [xa 4 0 1,xl 5 4,xa 6 0 3,xS 1 6 5] (kr [xa 7 1 1,xl 8 7,xa 9 1 3,xS 1 9 8] (kR [xm 10 2 3,xS 2 2 10]))))⟩
def m384:MFn:=⟨12,[.t 4],kr [xI 4 0] (kr [xv 5 1,xv 6 0,xe 7 6,bT 8 .sub 5 7,xv 1 8] (.seq (kr [xv 9 1,bI 10 .lss 9 0] (kF 10 [xo 4 (.mv (.c (.int .i64 (-1))))])) (kR [xv 11 1,xv 4 11])))⟩
def m385:MFn:=⟨23,[.t 2],kr [xo 2 (.mv (.c (.nil)))] (kr [xv 5 0,xe 6 5,xo 7 (.mkS [xz,xz] 16 (.t 6) (.t 6)),xv 3 7] (.seq (kr [xI 4 0] (.blk 0 (.loop (.seq (kr [xv 8 4,xv 9 0,xe 10 9,bT 11 .lss 8 10] (kX 11 0)) (.seq (.blk 1 (xr [xv 14 3,xv 15 4,xv 16 0,xv 17 4,xD 18 2 16 17,xm 19 2 18,xc1 20 348 (.t 19),xD 21 2 14 15,xS 2 21 20])) (xr [xv 12 4,bI 13 .add 12 1,xv 4 13])))))) (kR [xv 22 3,xv 2 22])))⟩
def m388:MFn:=⟨27,[.t 4],kr [xF 4] (.seq (kr [xv 6 0,xe 7 6,xv 8 1,xe 9 8,bT 10 .neq 7 9] (kF 10 [xF 4])) (.seq (kr [xI 5 0] (.blk 0 (.loop (.seq (kr [xv 11 5,xv 12 0,xe 13 12,bT 14 .lss 11 13] (kX 14 0)) (.seq (.blk 1 (.seq (.dreg (.take 0 (xv 17 0) (.take 1 (xv 18 5) (.take 2 (xD 19 2 17 18) (.take 3 (xm 20 2 19) (.take 4 (xv 21 1) (.only 5 [] (xv 22 5) (.only 6 [4] (xD 23 2 21 22) (.only 7 [6,4] (xm 24 2 23) (.only 8 [3,7,2,6,0,1,4] (xc2 25 414 (.t 20) (.t 24)) (.only 9 [8,3,7,2,6,0,1,4] (xN 26 25) (.done)))))))))))) (kF 26 [xF 4]))) (xr [xv 15 5,bI 16 .add 15 1,xv 5 16])))))) (kR [xT 4])))⟩
def m414:MFn:=⟨15,[.t 4],kr [xb 2 0,xb 3 1,xF 4] (.seq (kr [xa 5 0 2,xl 6 5,xa 7 0 3,xl 8 7,bT 9 .neq 6 8] (kF 9 [xF 4])) (.seq (kr [xa 10 1 2,xl 11 10,xa 12 1 3,xl 13 12,bT 14 .neq 11 13] (kF 14 [xF 4])) (kR [xT 4])))⟩
theorem qQq (x:uF):qU Tryz.prog num 348 [.agg (fG x)] [] (.agg (fG x)):=by
 refine EN m348 Tryz.func114 ?_
 unfold m348
 simp only [go_sem,seval]
 refine ⟨_,Sub.refl _,yR ?_⟩; simp [-qYj]
theorem qNx (l:List uF) (hl:64*l.length≤2^47):qU Tryz.prog num 385 [.sl .bw 2 (dR l)] [] (.sl .own 2 (dR l)):=by
 refine EN m385 Tryz.func45 ?_
 unfold m385
 simp only [go_sem,seval]
 repeat refine K ?_
 refine wB (ι:=Nat) (fun i=>.mk [(0,.sl .bw 2 (dR l)),(3,.ns 10 0 l.length),(4,.int .i64 i)] [(10,2,dR (l.take i++qWo (l.length-i) ⟨0,0⟩))] 11) (fun i=>i≤l.length) (fun i=>l.length-i) 0 (by simp) ?_ ?_
 ·refine Sub.shape [] id (by omega) ?_ ?_ ?_ ?_<;>simp [qN]
  left
  exact qT1 _ _ _
 ·intro i hi
  simp only [go_sem,seval]
  refine qM (fun hc=>?_) (fun hc=>?_)
  ·simp only [decide_eq_true_eq] at hc
   have hl':i<l.length:=by omega
   have hm:=sO l (⟨0,0⟩:uF) i hi
   simp only [go_sem,seval,fH l i hl',hm]
   repeat refine K ?_
   refine CA [] (qQq (l.getD i default)) ?_
   try simp only [go_sem,seval]
   repeat refine K ?_
   have hs:=qHd l default (⟨0,0⟩:uF) i hl'
   have hs':(l.take i++qWo (l.length-i) (⟨0,0⟩:uF)).set i ⟨(l.getD i default).who,(l.getD i default).late⟩=l.take (i+1)++qWo (l.length-(i+1)) ⟨0,0⟩:=hs
   try simp only [go_sem,seval,fH _ i (hm▸hl'),hm,hs',qW (i:=i) (by omega)]
   repeat refine K ?_
   refine qV (i+1) (Sub.shape [] id (by omega) ?_ ?_ ?_ ?_) ?_ ?_
   any_goals (first | omega | (simp [qN]; done))
  ·simp only [decide_eq_false_iff_not] at hc
   have:i=l.length:=by omega
   subst this
   simp only [go_sem,seval]
   refine fz ?_; simp [qX,qQ,qR,qL,-qYj]
theorem qNz (xs:List uF) (n:Int) (hx:xs.length<2^63) (h0:0≤n) (h1:n≤2^62):qU Tryz.prog num 384 [.sl .bw 2 (dR xs),.int .i64 n] [] (.int .i64 (szL xs.length n)):=by
 refine EN m384 Tryz.func42 ?_
 unfold m384
 have hw:IntKind.i64.wrap (n-xs.length)=n-xs.length:=wM (by omega) (by omega)
 simp only [go_sem,seval,hw]
 refine qM (fun hc=>?_) (fun hc=>?_)
 ·simp only [go_sem,seval]
  refine fz ?_; simp [qX,qQ,qR,qL,-qYj]
  simp only [decide_eq_true_eq] at hc
  simp [szL,hc]
 ·simp only [go_sem,seval]
  refine fz ?_; simp [qX,qQ,qR,qL,-qYj]
  simp only [decide_eq_false_iff_not] at hc
  simp [szL,hc]
theorem qRz (x y:uF):qU Tryz.prog num 414 [.agg (fG x),.agg (fG y)] [] (.bool (decide (x=y))):=by
 refine EN m414 Tryz.func117 ?_
 unfold m414
 cases x
 cases y
 repeat' (first
  | (simp only [go_sem,seval])
  | (refine qM (fun hc=>?_) (fun hc=>?_)<;>((try simp only [qYl,qYm,ne_eq,qYn,qYo] at hc)<;>(try simp only [hc])))
  | (refine uH (fun hc=>?_) (fun hc=>?_)<;>((try simp only [qYl,qYm,ne_eq,qYn,qYo] at hc)<;>(try simp only [hc])))
  | (refine vP (fun hc=>?_) (fun hc=>?_)<;>((try simp only [qYl,qYm,ne_eq,qYn,qYo] at hc)<;>(try simp only [hc])))
  | (refine ⟨by first | omega | (simp; done),?_⟩)
  | fail)
 all_goals (refine fz ?_; simp [qX,qQ,qR,qL,-qYj])
 all_goals (try (simp_all; done))
theorem qOu (xs ys:List uF) (hx:xs.length≤2^47)  : qU Tryz.prog num 388 [.sl .bw 2 (dR xs),.sl .bw 2 (dR ys)] [] (.bool (decide (xs=ys))):=by
 refine EN m388 Tryz.func47 ?_
 unfold m388
 simp only [go_sem,seval]
 refine qM (fun hc=>?_) (fun hc=>?_)
 ·have hne:xs≠ys:=fun he=>by subst he; simp at hc
  simp only [go_sem,seval]
  refine fz ?_; simp [qX,qQ,qR,qL,-qYj]
  exact hne
 ·have hl:xs.length=ys.length:=by simp at hc; omega
  simp only [go_sem,seval]
  refine wB (ι:=Nat) (fun i=>.mk [(0,.sl .bw 2 (dR xs)),(1,.sl .bw 2 (dR ys)),(5,.int .i64 i)] [] 10) (fun i=>i≤xs.length∧xs.take i=ys.take i) (fun i=>xs.length-i) 0 (by simp) ?_ ?_
  ·refine Sub.shape [] id (by omega) ?_ ?_ ?_ ?_<;>simp [qN]
  ·rintro i ⟨hi,hp⟩
   simp only [go_sem,seval]
   refine qM (fun hc=>?_) (fun hc=>?_)
   ·simp only [decide_eq_true_eq] at hc
    have hil:i<xs.length:=by omega
    have hjl:i<ys.length:=by omega
    simp only [go_sem,seval,fH xs i hil,fH ys i hjl]
    repeat refine K ?_
    refine DA [] (qRz (xs.getD i default) (ys.getD i default)) ?_
    try simp only [go_sem,seval]
    by_cases he:xs.getD i default=ys.getD i default
    ·simp only [go_sem,seval,he,qW (i:=i) (by omega)]
     refine qV (i+1) (Sub.shape [] id (by omega) ?_ ?_ ?_ ?_) ?_ ?_
     any_goals (first | omega | (simp [qN]; done))
     refine ⟨hil,?_⟩
     rw [qYi hil,qYi hjl,hp]
     have he':xs[i]=ys[i]:=by simpa [List.getD_eq_getElem?_getD,hil,hjl] using he
     rw [he']
    ·simp only [go_sem,seval,he]
     refine fz ?_; simp [qX,qQ,qR,qL,-qYj]
     intro h
     subst h
     exact he rfl
   ·simp only [decide_eq_false_iff_not] at hc
    have he:xs=ys:=by
     have h1:i=xs.length:=by omega
     rw [h1,List.take_length,hl,List.take_length] at hp
     exact hp
    simp only [go_sem,seval]
    refine fz ?_; simp [qX,qQ,qR,qL,-qYj]
    exact he
end Go.Sep
