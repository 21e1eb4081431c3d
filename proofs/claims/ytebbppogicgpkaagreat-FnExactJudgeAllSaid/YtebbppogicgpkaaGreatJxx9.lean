/- Contracts of functions. -/
import Derived.Test.YtebbppogicgpkaaGreatJxx4
import Derived.Test.YtebbppogicgpkaaGreatJxx5
open Bool renaming not_eq_false → qYo, not_eq_false' → qYm, not_eq_true → qYn, not_eq_true' → qYl
open List renaming drop_one → qYj, getD_eq_getElem?_getD → qWw, replicate → qWo, replicate_succ → qXc, take_length → qYk, take_succ_eq_append_getElem → qYi
namespace Go.Sep
set_option maxHeartbeats 16000000
open Go.Proofs
set_option linter.unusedSimpArgs false
set_option linter.unusedVariables false
set_option maxRecDepth 100000
open Nat renaming reduceAdd → qA, reduceMul → qB, reduceEqDiff → qC, reduceBEq → qD
open Int renaming reduceToNat → qE, reduceEq → qF, reduceLT → qG, reduceLE → qH
open List renaming getD_eq_getElem?_getD → gD
def m27:MFn:=⟨18,[.t 4],kr [xb 2 0,xI 4 0] (kr [xa 5 0 2,xl 6 5,xv 7 1,xc2 8 35 (.t 6) (.t 7),xv 1 8] (.seq (kr [xv 9 1,bI 10 .lss 9 0] (kF 10 [xo 4 (.mv (.c (.int .i64 (-1))))])) (kr [xa 11 1 2,xl 12 11,xv 13 1,xc2 14 51 (.t 12) (.t 13),xv 1 14] (.seq (kr [xv 15 1,bI 16 .lss 15 0] (kF 16 [xo 4 (.mv (.c (.int .i64 (-1))))])) (kR [xv 17 1,xv 4 17])))))⟩
def m28:MFn:=⟨13,[.cell 2 2 true],kr [xb 1 0,xo 2 (.alloc [.nil,.nil])] (kr [xo 3 (.alloc [.nil,.nil])] (kr [xa 4 0 1,xl 5 4,xc1 6 5 (.t 5),xa 7 0 3,xS 1 7 6] (kr [xa 8 1 1,xl 9 8,xc1 10 52 (.t 9),xa 11 1 3,xS 1 11 10] (kR [xm 12 2 3,xS 2 2 12]))))⟩
def m30:MFn:=⟨17,[.t 4],kr [xb 2 0,xb 3 1,xF 4] (.seq (kr [xa 5 0 2,xl 6 5,xa 7 0 3,xl 8 7,xc2 9 8 (.t 6) (.t 8),xN 10 9] (kF 10 [xF 4])) (.seq (kr [xa 11 1 2,xl 12 11,xa 13 1 3,xl 14 13,xc2 15 53 (.t 12) (.t 14),xN 16 15] (kF 16 [xF 4])) (kR [xT 4])))⟩
def m51:MFn:=⟨27,[.t 4],kr [xI 4 0] (kr [xv 6 1,xv 7 0,xe 8 7,bT 9 .sub 6 8,xv 1 9] (.seq (kr [xv 10 1,bI 11 .lss 10 0] (kF 11 [xo 4 (.mv (.c (.int .i64 (-1))))])) (.seq (kr [xI 5 0] (.blk 0 (.loop (.seq (kr [xv 12 5,xv 13 0,xe 14 13,bT 15 .lss 12 14] (kX 15 0)) (.seq (.blk 1 (kr [xv 18 0,xv 19 5,xD 20 1 18 19,xl 21 20,xv 22 1,xc2 23 73 (.t 21) (.t 22),xv 1 23] (kr [xv 24 1,bI 25 .lss 24 0] (kF 25 [xo 4 (.mv (.c (.int .i64 (-1))))])))) (xr [xv 16 5,bI 17 .add 16 1,xv 5 17])))))) (kR [xv 26 1,xv 4 26]))))⟩
def m52:MFn:=⟨23,[.t 2],kr [xo 2 (.mv (.c (.nil)))] (kr [xv 5 0,xe 6 5,xo 7 (.mkS [.nil] 24 (.t 6) (.t 6)),xv 3 7] (.seq (kr [xI 4 0] (.blk 0 (.loop (.seq (kr [xv 8 4,xv 9 0,xe 10 9,bT 11 .lss 8 10] (kX 11 0)) (.seq (.blk 1 (xr [xv 14 3,xv 15 4,xv 16 0,xv 17 4,xD 18 1 16 17,xl 19 18,xc1 20 74 (.t 19),xD 21 1 14 15,xS 1 21 20])) (xr [xv 12 4,bI 13 .add 12 1,xv 4 13])))))) (kR [xv 22 3,xv 2 22])))⟩
def m53:MFn:=⟨27,[.t 4],kr [xF 4] (.seq (kr [xv 6 0,xe 7 6,xv 8 1,xe 9 8,bT 10 .neq 7 9] (kF 10 [xF 4])) (.seq (kr [xI 5 0] (.blk 0 (.loop (.seq (kr [xv 11 5,xv 12 0,xe 13 12,bT 14 .lss 11 13] (kX 14 0)) (.seq (.blk 1 (.seq (.dreg (.take 0 (xv 17 0) (.take 1 (xv 18 5) (.take 2 (xD 19 1 17 18) (.take 3 (xl 20 19) (.take 4 (xv 21 1) (.only 5 [] (xv 22 5) (.only 6 [4] (xD 23 1 21 22) (.only 7 [6,4] (xl 24 23) (.only 8 [3,7,2,6,0,1,4] (xc2 25 75 (.t 20) (.t 24)) (.only 9 [8,3,7,2,6,0,1,4] (xN 26 25) (.done)))))))))))) (kF 26 [xF 4]))) (xr [xv 15 5,bI 16 .add 15 1,xv 5 16])))))) (kR [xT 4])))⟩
def m73:MFn:=⟨12,[.t 4],kr [xI 4 0] (kr [xv 5 1,xv 6 0,xe 7 6,bT 8 .sub 5 7,xv 1 8] (.seq (kr [xv 9 1,bI 10 .lss 9 0] (kF 10 [xo 4 (.mv (.c (.int .i64 (-1))))])) (kR [xv 11 1,xv 4 11])))⟩
def m74:MFn:=⟨23,[.t 2],kr [xo 2 (.mv (.c (.nil)))] (kr [xv 5 0,xe 6 5,xo 7 (.mkS [xz,xz,xz,xz,xz] 40 (.t 6) (.t 6)),xv 3 7] (.seq (kr [xI 4 0] (.blk 0 (.loop (.seq (kr [xv 8 4,xv 9 0,xe 10 9,bT 11 .lss 8 10] (kX 11 0)) (.seq (.blk 1 (xr [xv 14 3,xv 15 4,xv 16 0,xv 17 4,xD 18 5 16 17,xm 19 5 18,xc1 20 89 (.t 19),xD 21 5 14 15,xS 5 21 20])) (xr [xv 12 4,bI 13 .add 12 1,xv 4 13])))))) (kR [xv 22 3,xv 2 22])))⟩
def m75:MFn:=⟨27,[.t 4],kr [xF 4] (.seq (kr [xv 6 0,xe 7 6,xv 8 1,xe 9 8,bT 10 .neq 7 9] (kF 10 [xF 4])) (.seq (kr [xI 5 0] (.blk 0 (.loop (.seq (kr [xv 11 5,xv 12 0,xe 13 12,bT 14 .lss 11 13] (kX 14 0)) (.seq (.blk 1 (.seq (.dreg (.take 0 (xv 17 0) (.take 1 (xv 18 5) (.take 2 (xD 19 5 17 18) (.take 3 (xm 20 5 19) (.take 4 (xv 21 1) (.only 5 [] (xv 22 5) (.only 6 [4] (xD 23 5 21 22) (.only 7 [6,4] (xm 24 5 23) (.only 8 [3,7,2,6,0,1,4] (xc2 25 90 (.t 20) (.t 24)) (.only 9 [8,3,7,2,6,0,1,4] (xN 26 25) (.done)))))))))))) (kF 26 [xF 4]))) (xr [xv 15 5,bI 16 .add 15 1,xv 5 16])))))) (kR [xT 4])))⟩
def m89:MFn:=⟨20,[.cell 2 5 true],kr [xb 1 0,xo 2 (.alloc [xz,xz,xz,xz,xz])] (kr [xo 3 (.alloc [xz,xz,xz,xz,xz])] (kr [xa 4 0 1,xl 5 4,xa 6 0 3,xS 1 6 5] (kr [xa 7 1 1,xl 8 7,xa 9 1 3,xS 1 9 8] (kr [xa 10 2 1,xl 11 10,xa 12 2 3,xS 1 12 11] (kr [xa 13 3 1,xl 14 13,xa 15 3 3,xS 1 15 14] (kr [xa 16 4 1,xl 17 16,xa 18 4 3,xS 1 18 17] (kR [xm 19 5 3,xS 5 2 19])))))))⟩
def m90:MFn:=⟨30,[.t 4],kr [xb 2 0,xb 3 1,xF 4] (.seq (kr [xa 5 0 2,xl 6 5,xa 7 0 3,xl 8 7,bT 9 .neq 6 8] (kF 9 [xF 4])) (.seq (kr [xa 10 1 2,xl 11 10,xa 12 1 3,xl 13 12,bT 14 .neq 11 13] (kF 14 [xF 4])) (.seq (kr [xa 15 2 2,xl 16 15,xa 17 2 3,xl 18 17,bT 19 .neq 16 18] (kF 19 [xF 4])) (.seq (kr [xa 20 3 2,xl 21 20,xa 22 3 3,xl 23 22,bT 24 .neq 21 23] (kF 24 [xF 4])) (.seq (kr [xa 25 4 2,xl 26 25,xa 27 4 3,xl 28 27,bT 29 .neq 26 28] (kF 29 [xF 4])) (kR [xT 4]))))))⟩
theorem qQx (xs:List Ins) (n:Int) (hx:xs.length<2^63) (h0:0≤n) (h1:n≤2^62):qU Tryz.prog num 73 [.sl .bw 5 (aA xs),.int .i64 n] [] (.int .i64 (szL xs.length n)):=by
 refine EN m73 Tryz.func159 ?_
 unfold m73
 have hw:IntKind.i64.wrap (n-xs.length)=n-xs.length:=wM (by omega) (by omega)
 simp only [go_sem,seval,hw]
 refine qM (fun hc=>?_) (fun hc=>?_)
 ·simp only [go_sem,seval]
  refine fz ?_; simp [qX,qQ,qR,qL,-qYj]
  simp only [decide_eq_true_eq] at hc
  simp [szL,hc]
 ·simp only [go_sem,seval]
  refine fz ?_; simp [qX,qQ,qR,qL,-qYj]
  simp only [decide_eq_false_iff_not] at hc
  simp [szL,hc]
def pA:List (List Ins)→Int→Int
 | [],n=>n
 | b::l,n=>if szL b.length n<0 then -1 else pA l (szL b.length n)
def qAi (l:List (List Ins)) (n:Int):Int:=if szL l.length n<0 then -1 else pA l (szL l.length n)
theorem qO0 {k:Nat} {n:Int} (h :¬szL k n<0):szL k n=n-k:=by
 unfold szL at h⊢
 split
 ·rename_i h4; rw [if_pos h4] at h; simp at h
 ·rfl
theorem qO2 (l:List (List Ins)) (n:Int) (hl:l.length<2^63) (hb :∀b∈l,b.length<2^63) (h0:0≤n) (h1:n≤2^61):qU Tryz.prog num 51 [.sl .bw 1 (uX .bw l),.int .i64 n] [] (.int .i64 (qAi l n)):=by
 refine EN m51 Tryz.func109 ?_
 unfold m51
 have hw:IntKind.i64.wrap (n-l.length)=n-l.length:=wM (by omega) (by omega)
 simp only [go_sem,seval,hw]
 refine qM (fun hc=>?_) (fun hc=>?_)
 ·simp only [go_sem,seval]
  refine fz ?_; simp [qX,qQ,qR,qL,-qYj]
  simp only [decide_eq_true_eq] at hc
  simp [qAi,szL,hc]
 ·simp only [decide_eq_false_iff_not] at hc
  simp only [go_sem,seval]
  refine wB (ι:=Nat×Int) (fun i=>.mk [(0,.sl .bw 1 (uX .bw l)),(1,.int .i64 i.2),(5,.int .i64 i.1)] [] 10) (fun i=>i.1≤l.length∧0≤i.2∧i.2≤2^61∧pA (l.drop i.1) i.2=pA l (n-l.length)) (fun i=>l.length-i.1) (0,n-l.length) ⟨by simp,by simp; omega,by simp; omega,rfl⟩ ?_ ?_
  ·refine Sub.shape [] id (by omega) ?_ ?_ ?_ ?_<;>simp [qN]
  ·rintro ⟨i,m⟩ ⟨hi,hm0,hm1,hs⟩
   simp only at hi hm0 hm1 hs⊢
   simp only [go_sem,seval]
   refine qM (fun hc2=>?_) (fun hc2=>?_)
   ·simp only [decide_eq_true_eq] at hc2
    have hl':i<l.length:=by omega
    have hbl:=hb _ (wZ l i [] hl')
    have hd:l.drop i=l.getD i []::l.drop (i+1):=by rw [List.drop_eq_getElem_cons hl']; simp [qWw,hl']
    rw [hd] at hs
    simp only [pA] at hs
    simp only [go_sem,seval,qZ .bw l i hl']
    repeat refine K ?_
    refine CA [] (qQx (l.getD i []) m hbl hm0 (by omega)) ?_
    try simp only [go_sem,seval]
    have hle:=qO1 (k:=(l.getD i []).length) hm0
    refine qM (fun hc3=>?_) (fun hc3=>?_)
    ·simp only [go_sem,seval]
     refine fz ?_; simp [qX,qQ,qR,qL,-qYj]
     simp only [decide_eq_true_eq] at hc3
     rw [if_pos hc3] at hs
     have e:szL l.length n=n-l.length:=by unfold szL; rw [if_neg hc]
     simp only [qAi,e,if_neg hc]
     exact hs.symm
    ·simp only [decide_eq_false_iff_not] at hc3
     rw [if_neg hc3] at hs
     simp only [go_sem,seval,qW (i:=i) (by omega)]
     refine qV (i+1,szL (l.getD i []).length m) (Sub.shape [] id (by omega) ?_ ?_ ?_ ?_) ⟨hl',by simp only; omega,by simp only; omega,hs⟩ (by simp only; omega)
     all_goals simp [qN]
   ·simp only [decide_eq_false_iff_not] at hc2
    have hd:l.drop i=[]:=List.drop_eq_nil_of_le (by omega)
    rw [hd] at hs
    simp only [pA] at hs
    simp only [go_sem,seval]
    refine fz ?_; simp [qX,qQ,qR,qL,-qYj]
    have e:szL l.length n=n-l.length:=by unfold szL; rw [if_neg hc]
    simp only [qAi,e,if_neg hc]
    exact hs.symm
def qCt (p:wU) (n:Int):Int:=if szL p.caps.length n<0 then -1 else if qAi p.bods (szL p.caps.length n)<0 then -1 else qAi p.bods (szL p.caps.length n)
theorem qQu (p:wU) (n:Int) (hc:p.caps.length<2^63) (hl:p.bods.length<2^63) (hb :∀b∈p.bods,b.length<2^63) (h0:0≤n) (h1:n≤2^61):qU Tryz.prog num 27 [.agg (yT .bw p),.int .i64 n] [] (.int .i64 (qCt p n)):=by
 refine EN m27 Tryz.func41 ?_
 unfold m27
 simp only [go_sem,seval]
 refine CA [] (qQw p.caps n hc h0 (by omega)) ?_
 try simp only [go_sem,seval]
 have hle:=qO1 (k:=p.caps.length) h0
 refine qM (fun hk=>?_) (fun hk=>?_)
 ·simp only [decide_eq_true_eq] at hk
  simp only [go_sem,seval]
  refine fz ?_; simp [qX,qQ,qR,qL,-qYj]
  simp [qCt,hk]
 ·simp only [decide_eq_false_iff_not] at hk
  simp only [go_sem,seval]
  refine CA [] (qO2 p.bods (szL p.caps.length n) hl hb (by omega) (by omega)) ?_
  try simp only [go_sem,seval]
  refine qM (fun hk2=>?_) (fun hk2=>?_)
  ·simp only [decide_eq_true_eq] at hk2
   simp only [go_sem,seval]
   refine fz ?_; simp [qX,qQ,qR,qL,-qYj]
   simp [qCt,hk,hk2]
  ·simp only [decide_eq_false_iff_not] at hk2
   simp only [go_sem,seval]
   refine fz ?_; simp [qX,qQ,qR,qL,-qYj]
   simp [qCt,hk,hk2]
theorem qSq (x:Ins):qU Tryz.prog num 89 [.agg (cJ x)] [] (.agg (cJ x)):=by
 refine EN m89 Tryz.func194 ?_
 unfold m89
 simp only [go_sem,seval]
 refine ⟨_,Sub.refl _,yR ?_⟩; simp [-qYj]
theorem qHd {α:Type} (l:List α) (d e:α) (i:Nat) (h:i<l.length):(l.take i++qWo (l.length-i) e).set i (l.getD i d)=l.take (i+1)++qWo (l.length-(i+1)) e:=by
 have h1:l.length-i=(l.length-(i+1))+1:=by omega
 rw [List.set_append_right _ _ (by simp; omega),List.length_take,Nat.min_eq_left (by omega),Nat.sub_self,h1,qXc,List.set_cons_zero,qYi h,List.append_assoc]
 congr 1
 simp [qWw,h]
theorem sO {α:Type} (l:List α) (e:α) (i:Nat) (h:i≤l.length):(l.take i++List.replicate (l.length-i) e).length=l.length:=by simp; omega
theorem qQs (l:List Ins) (hl:40*l.length≤2^47):qU Tryz.prog num 74 [.sl .bw 5 (aA l)] [] (.sl .own 5 (aA l)):=by
 refine EN m74 Tryz.func160 ?_
 unfold m74
 simp only [go_sem,seval]
 repeat refine K ?_
 refine wB (ι:=Nat) (fun i=>.mk [(0,.sl .bw 5 (aA l)),(3,.ns 10 0 l.length),(4,.int .i64 i)] [(10,5,aA (l.take i++qWo (l.length-i) ⟨0,0,0,0,0⟩))] 11) (fun i=>i≤l.length) (fun i=>l.length-i) 0 (by simp) ?_ ?_
 ·refine Sub.shape [] id (by omega) ?_ ?_ ?_ ?_<;>simp [qN]
  left
  exact qTl _ _ _ _ _ _
 ·intro i hi
  simp only [go_sem,seval]
  refine qM (fun hc=>?_) (fun hc=>?_)
  ·simp only [decide_eq_true_eq] at hc
   have hl':i<l.length:=by omega
   have hm:=sO l (⟨0,0,0,0,0⟩:Ins) i hi
   simp only [go_sem,seval,uW l i hl',hm]
   repeat refine K ?_
   refine CA [] (qSq (l.getD i default)) ?_
   try simp only [go_sem,seval]
   repeat refine K ?_
   have hs:=qHd l default (⟨0,0,0,0,0⟩:Ins) i hl'
   have hs':(l.take i++qWo (l.length-i) (⟨0,0,0,0,0⟩:Ins)).set i ⟨(l.getD i default).op,(l.getD i default).r,(l.getD i default).a,(l.getD i default).b,(l.getD i default).n⟩=l.take (i+1)++qWo (l.length-(i+1)) ⟨0,0,0,0,0⟩:=hs
   try simp only [go_sem,seval,uW _ i (hm▸hl'),hm,hs',qW (i:=i) (by omega)]
   repeat refine K ?_
   refine qV (i+1) (Sub.shape [] id (by omega) ?_ ?_ ?_ ?_) ?_ ?_
   any_goals (first | omega | (simp [qN]; done))
  ·simp only [decide_eq_false_iff_not] at hc
   have:i=l.length:=by omega
   subst this
   simp only [go_sem,seval]
   refine fz ?_; simp [qX,qQ,qR,qL,-qYj]
theorem qMj :∀(n:Nat),aT (qWo n [AV.nil]) (uX .own (qWo n []))
 | 0=>by simp [uX]
 | n+1=>by
  have:=qMj n
  simp only [qXc,uX,List.map_cons] at this⊢
  exact (lX _ _ _ _).2 ⟨by simp [aA],this⟩
theorem qNy (l:List (List Ins)) (hl:24*l.length≤2^47) (hb :∀b∈l,40*b.length≤2^47):qU Tryz.prog num 52 [.sl .bw 1 (uX .bw l)] [] (.sl .own 1 (uX .own l)):=by
 refine EN m52 Tryz.func113 ?_
 unfold m52
 simp only [go_sem,seval]
 repeat refine K ?_
 refine wB (ι:=Nat) (fun i=>.mk [(0,.sl .bw 1 (uX .bw l)),(3,.ns 10 0 l.length),(4,.int .i64 i)] [(10,1,uX .own (l.take i++qWo (l.length-i) []))] 11) (fun i=>i≤l.length) (fun i=>l.length-i) 0 (by simp) ?_ ?_
 ·refine Sub.shape [] id (by omega) ?_ ?_ ?_ ?_<;>simp [qN]
  right
  exact qMj _
 ·intro i hi
  simp only [go_sem,seval]
  refine qM (fun hc=>?_) (fun hc=>?_)
  ·simp only [decide_eq_true_eq] at hc
   have hl':i<l.length:=by omega
   have hm:=sO l ([]:List Ins) i hi
   simp only [go_sem,seval,qZ .bw l i hl',hm]
   repeat refine K ?_
   refine CA [] (qQs (l.getD i []) (hb _ (wZ l i [] hl'))) ?_
   try simp only [go_sem,seval]
   repeat refine K ?_
   have hs:=qHd l [] ([]:List Ins) i hl'
   try simp only [go_sem,seval,qZ .own _ i (hm▸hl'),hm,qW (i:=i) (by omega)]
   repeat refine K ?_
   refine qV (i+1) ?_ hl' (by omega)
   refine Sub.trans (Sub.foldAt 10 0 11 rfl (by simp [-gD]<;>omega) rfl (by decide) (by decide) rfl (by simp<;>omega)) ?_
   simp only [fS,qA,qC,qHx,hs]
   refine Sub.shape [] id (by omega) ?_ ?_ ?_ ?_<;>simp [qN]
  ·simp only [decide_eq_false_iff_not] at hc
   have:i=l.length:=by omega
   subst this
   simp only [go_sem,seval]
   refine fz ?_; simp [qX,qQ,qR,qL,-qYj]
theorem qQp (p:wU) (hc:8*p.caps.length≤2^47) (hl:24*p.bods.length≤2^47) (hb :∀b∈p.bods,40*b.length≤2^47):qU Tryz.prog num 28 [.agg (yT .bw p)] [] (.agg (yT .own p)):=by
 refine EN m28 Tryz.func44 ?_
 unfold m28
 simp only [go_sem,seval]
 refine CA [] (qQr p.caps hc) ?_
 try simp only [go_sem,seval]
 refine CA [] (qNy p.bods hl hb) ?_
 try simp only [go_sem,seval]
 refine ⟨_,Sub.refl _,yR ?_⟩; simp [-qYj]
theorem qTp (x y:Ins):qU Tryz.prog num 90 [.agg (cJ x),.agg (cJ y)] [] (.bool (decide (x=y))):=by
 refine EN m90 Tryz.func195 ?_
 unfold m90
 obtain ⟨a,b,c,d,e⟩:=x
 obtain ⟨a',b',c',d',e'⟩:=y
 repeat' (first
  | (simp only [go_sem,seval])
  | (refine qM (fun hc=>?_) (fun hc=>?_)<;>((try simp only [qYl,qYm,ne_eq,qYn,qYo] at hc)<;>(try simp only [hc])))
  | (refine uH (fun hc=>?_) (fun hc=>?_)<;>((try simp only [qYl,qYm,ne_eq,qYn,qYo] at hc)<;>(try simp only [hc])))
  | (refine vP (fun hc=>?_) (fun hc=>?_)<;>((try simp only [qYl,qYm,ne_eq,qYn,qYo] at hc)<;>(try simp only [hc])))
  | (refine ⟨by first | omega | (simp; done),?_⟩)
  | fail)
 all_goals (refine fz ?_; simp [qX,qQ,qR,qL,-qYj])
 all_goals (try (simp_all; done))
theorem qS1 (xs ys:List Ins) (hx:xs.length≤2^47):qU Tryz.prog num 75 [.sl .bw 5 (aA xs),.sl .bw 5 (aA ys)] [] (.bool (decide (xs=ys))):=by
 refine EN m75 Tryz.func161 ?_
 unfold m75
 simp only [go_sem,seval]
 refine qM (fun hc=>?_) (fun hc=>?_)
 ·have hne:xs≠ys:=fun he=>by subst he; simp at hc
  simp only [go_sem,seval]
  refine fz ?_; simp [qX,qQ,qR,qL,-qYj]
  exact hne
 ·have hl:xs.length=ys.length:=by simp at hc; omega
  simp only [go_sem,seval]
  refine wB (ι:=Nat) (fun i=>.mk [(0,.sl .bw 5 (aA xs)),(1,.sl .bw 5 (aA ys)),(5,.int .i64 i)] [] 10) (fun i=>i≤xs.length∧xs.take i=ys.take i) (fun i=>xs.length-i) 0 (by simp) ?_ ?_
  ·refine Sub.shape [] id (by omega) ?_ ?_ ?_ ?_<;>simp [qN]
  ·rintro i ⟨hi,hp⟩
   simp only [go_sem,seval]
   refine qM (fun hc=>?_) (fun hc=>?_)
   ·simp only [decide_eq_true_eq] at hc
    have hil:i<xs.length:=by omega
    have hjl:i<ys.length:=by omega
    simp only [go_sem,seval,uW xs i hil,uW ys i hjl]
    repeat refine K ?_
    refine DA [] (qTp (xs.getD i default) (ys.getD i default)) ?_
    try simp only [go_sem,seval]
    by_cases he:xs.getD i default=ys.getD i default
    ·simp only [go_sem,seval,he,qW (i:=i) (by omega)]
     refine qV (i+1) (Sub.shape [] id (by omega) ?_ ?_ ?_ ?_) ?_ ?_
     any_goals (first | omega | (simp [qN]; done))
     refine ⟨hil,?_⟩
     rw [qYi hil,qYi hjl,hp]
     have he':xs[i]=ys[i]:=by simpa [qWw,hil,hjl] using he
     rw [he']
    ·simp only [go_sem,seval,he]
     refine fz ?_; simp [qX,qQ,qR,qL,-qYj]
     intro h
     subst h
     exact he rfl
   ·simp only [decide_eq_false_iff_not] at hc
    have he:xs=ys:=by
     have h1:i=xs.length:=by omega
     rw [h1,qYk,hl,qYk] at hp
     exact hp
    simp only [go_sem,seval]
    refine fz ?_; simp [qX,qQ,qR,qL,-qYj]
    exact he
theorem qOv (xs ys:List (List Ins)) (hx:xs.length≤2^47) (hb :∀b∈xs,b.length≤2^47):qU Tryz.prog num 53 [.sl .bw 1 (uX .bw xs),.sl .bw 1 (uX .bw ys)] [] (.bool (decide (xs=ys))):=by
 refine EN m53 Tryz.func116 ?_
 unfold m53
 simp only [go_sem,seval]
 refine qM (fun hc=>?_) (fun hc=>?_)
 ·have hne:xs≠ys:=fun he=>by subst he; simp at hc
  simp only [go_sem,seval]
  refine fz ?_; simp [qX,qQ,qR,qL,-qYj]
  exact hne
 ·have hl:xs.length=ys.length:=by simp at hc; omega
  simp only [go_sem,seval]
  refine wB (ι:=Nat) (fun i=>.mk [(0,.sl .bw 1 (uX .bw xs)),(1,.sl .bw 1 (uX .bw ys)),(5,.int .i64 i)] [] 10) (fun i=>i≤xs.length∧xs.take i=ys.take i) (fun i=>xs.length-i) 0 (by simp) ?_ ?_
  ·refine Sub.shape [] id (by omega) ?_ ?_ ?_ ?_<;>simp [qN]
  ·rintro i ⟨hi,hp⟩
   simp only [go_sem,seval]
   refine qM (fun hc=>?_) (fun hc=>?_)
   ·simp only [decide_eq_true_eq] at hc
    have hil:i<xs.length:=by omega
    have hjl:i<ys.length:=by omega
    simp only [go_sem,seval,qZ .bw xs i hil,qZ .bw ys i hjl]
    repeat refine K ?_
    refine DA [] (qS1 (xs.getD i []) (ys.getD i []) (hb _ (wZ xs i [] hil))) ?_
    try simp only [go_sem,seval]
    by_cases he:xs.getD i []=ys.getD i []
    ·simp only [go_sem,seval,he,qW (i:=i) (by omega)]
     refine qV (i+1) (Sub.shape [] id (by omega) ?_ ?_ ?_ ?_) ?_ ?_
     any_goals (first | omega | (simp [qN]; done))
     refine ⟨hil,?_⟩
     rw [qYi hil,qYi hjl,hp]
     have he':xs[i]=ys[i]:=by simpa [qWw,hil,hjl] using he
     rw [he']
    ·simp only [go_sem,seval,he]
     refine fz ?_; simp [qX,qQ,qR,qL,-qYj]
     intro h
     subst h
     exact he rfl
   ·simp only [decide_eq_false_iff_not] at hc
    have he:xs=ys:=by
     have h1:i=xs.length:=by omega
     rw [h1,qYk,hl,qYk] at hp
     exact hp
    simp only [go_sem,seval]
    refine fz ?_; simp [qX,qQ,qR,qL,-qYj]
    exact he
theorem qRy (p q:wU) (h1:p.caps.length≤2^47) (h2:p.bods.length≤2^47) (h3 :∀b∈p.bods,b.length≤2^47):qU Tryz.prog num 30 [.agg (yT .bw p),.agg (yT .bw q)] [] (.bool (decide (p.caps=q.caps)&&decide (p.bods=q.bods))):=by
 refine EN m30 Tryz.func46 ?_
 unfold m30
 simp only [go_sem,seval]
 refine CA [] (qS0 p.caps q.caps h1) ?_
 try simp only [go_sem,seval]
 refine qM (fun hc=>?_) (fun hc=>?_)
 ·simp only [go_sem,seval]
  refine fz ?_; simp [qX,qQ,qR,qL,-qYj]
  simp_all
 ·simp only [go_sem,seval]
  refine CA [] (qOv p.bods q.bods h2 h3) ?_
  try simp only [go_sem,seval]
  refine qM (fun hc2=>?_) (fun hc2=>?_)
  ·simp only [go_sem,seval]
   refine fz ?_; simp [qX,qQ,qR,qL,-qYj]
   simp_all
  ·simp only [go_sem,seval]
   refine fz ?_; simp [qX,qQ,qR,qL,-qYj]
   simp_all
def tot:List (List Ins)→Nat
 | []=>0
 | b::l=>b.length+tot l
theorem bL {α:Type} (l:List α) (d:α) (i:Nat) (h:i<l.length):l.take (i+1)=l.take i++[l.getD i d]:=by
 rw [qYi h]
 simp [qWw,h]
end Go.Sep
