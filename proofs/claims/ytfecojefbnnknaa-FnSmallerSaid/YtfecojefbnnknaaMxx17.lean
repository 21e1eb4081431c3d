/- Contracts of functions. -/
import Derived.Test.YtfecojefbnnknaaMxx16
namespace Go.Sep
set_option maxHeartbeats 16000000
open Go.Proofs
set_option linter.unusedSimpArgs false
set_option linter.unusedVariables false
set_option maxRecDepth 100000
open Nat renaming reduceAdd → qA, reduceMul → qB, reduceEqDiff → qC, reduceBEq → qD
open Int renaming reduceToNat → qE, reduceEq → qF, reduceLT → qG, reduceLE → qH
open List renaming getD_eq_getElem?_getD → gD
def m247:MFn:=⟨26,[.cell 2 2 true],kr [xb 1 0,xo 2 (.alloc [.nil,.nil])] (kr [xa 6 0 1,xl 7 6,xc1 8 36 (.t 7),xo 9 (.build [.nil,.nil] [(0,1,.t 8)]),xo 3 (.alloc [.nil,.nil]),xS 2 3 9] (.seq (kr [xa 10 1 1,xl 11 10,xe 12 11,xI 13 0] (.blk 0 (.loop (kr [bT 14 .lss 13 12] (.seq (kX 14 0) (.seq (.blk 1 (kr [xD 15 1 11 13,xl 16 15,xv 5 16] (.dreg (.take 0 (xa 17 1 3) (.take 1 (xl 18 17) (.only 2 [] (xv 19 5) (.only 3 [] (xc1 20 248 (.t 19)) (.only 4 [] (xo 21 (.mkSl [.nil] 1 [(0,.t 20)])) (.only 5 [1,0] (xA 22 1 24 18 21) (.only 6 [0,1] (xa 23 1 3) (.only 7 [0,1] (xS 1 23 22) (.done)))))))))))) (xr [bI 24 .add 13 1,xv 13 24]))))))) (kR [xm 25 2 3,xS 2 2 25])))⟩
def m248:MFn:=⟨6,[.t 2],kr [xo 2 (.mv (.c (.nil)))] (kR [xo 3 (.mkSl [xz,xz,xz,xz,xz] 0 []),xv 4 0,xA 5 5 40 3 4,xv 2 5])⟩
theorem cU (l:List Ins) (hx:40*l.length≤2^47):wD Try.prog num 248 [.sl .bw 5 (yX l)] [] (.sl .own 5 (yX l)):=by
 refine EN m248 Try.func49 ?_
 unfold m248
 simp only [go_sem,seval]
 repeat refine K ?_
 refine ⟨_,Sub.refl _,wG ?_⟩; simp [-List.drop_one]
theorem qVi (l:List (List Ins)) (i:Nat) (h:i<l.length):yR .own (l.take i)++[[AV.sl .own 5 (yX (l.getD i []))]]=yR .own (l.take (i+1)):=by
 rw [bG l [] i h]
 simp [yR]
theorem qOl (p:wK) (hp:eZ p):wD Try.prog num 247 [.agg (bH .bw p)] [] (.agg (bH .own p)):=by
 obtain ⟨h1,h2,h3⟩:=hp
 refine EN m247 Try.func48 ?_
 unfold m247
 simp only [go_sem,seval]
 repeat refine K ?_
 refine CA [] (cT p.caps (by omega)) ?_
 try simp only [go_sem,seval]
 repeat refine K ?_
 try simp only [go_sem,seval]
 repeat refine K ?_
 refine wJ (ι:=Nat) (fun i=>.mk [(2,.ptr 11 0 0),(3,.ptr 13 0 0),(11,.sl .bw 1 (yR .bw p.bods)),(12,.int .i64 p.bods.length),(13,.int .i64 i)] [(11,2,[[.nil,.nil]]),(13,2,[[.sl .own 1 (wR p.caps),.sl .own 1 (yR .own (p.bods.take i))]])] 14) (fun i=>i≤p.bods.length) (fun i=>p.bods.length-i) 0 (by simp) ?_ ?_
 ·refine Sub.trans (Sub.fold1 13 0 12 rfl (by simp [-gD]<;>omega) rfl (by decide) (by decide) rfl) ?_
  simp only [fS,fS3,qA,qC]
  refine Sub.shape [] id (by omega) ?_ ?_ ?_ ?_<;>simp [qL]
 ·rintro i hi
  simp only [go_sem,seval]
  refine qX (fun hc=>?_) (fun hc=>?_)
  ·simp only [decide_eq_true_eq] at hc
   have hl':i<p.bods.length:=by omega
   have hlt:(p.bods.take i).length=i:=by simp; omega
   have hr:=h3 _ (yL p.bods i [] hl')
   have hn:=qVi p.bods i hl'
   have hlt2:(p.bods.take (i+1)).length=i+1:=by simp; omega
   simp only [go_sem,seval,wF .bw p.bods i hl',hlt]
   repeat refine K ?_
   refine DA [] (cU (p.bods.getD i []) (by omega)) ?_
   try simp only [go_sem,seval]
   repeat refine K ?_
   try simp only [go_sem,seval,hlt,qV (i:=i) (by omega)]
   repeat refine K ?_
   refine qT (i+1) ?_ hl' (by omega)
   refine Sub.trans (Sub.foldLast 17 0 15 rfl (by simp [-gD]<;>omega) rfl (by decide) (by decide) rfl) ?_
   simp only [fS,fS3,qA,qC,hn]
   refine Sub.trans (Sub.fold1 13 1 17 rfl (by simp [-gD]<;>omega) rfl (by decide) (by decide) rfl) ?_
   simp only [fS,fS3,qA,qC,hlt2]
   refine Sub.shape [] id (by omega) ?_ ?_ ?_ ?_<;>simp [qL]
  ·simp only [decide_eq_false_iff_not] at hc
   have he:p.bods.take i=p.bods:=List.take_of_length_le (by omega)
   simp only [go_sem,seval,he]
   repeat refine K ?_
   refine ⟨_,Sub.refl _,wG ?_⟩; simp [-List.drop_one]
theorem fP (S:KS):(aC S).length=S.length:=by simp [aC]
theorem tJ (S:KS) (n:Nat) (h:n<S.length):(aC S).getD n []=if kat S n=[] then List.replicate 4 kno else kat S n:=by
 simp [aC,kat,List.getD_eq_getElem?_getD,h]
def qSa:KV:=List.replicate 4 ⟨false,0⟩
theorem qTz:[[AV.bool false,AV.int IntKind.i64 0],[AV.bool false,AV.int IntKind.i64 0],[AV.bool false,AV.int IntKind.i64 0],[AV.bool false,AV.int IntKind.i64 0]]=yP qSa:=rfl
theorem qBx {α:Type} (l:List α) (i:Nat) (d:α) (h:i<l.length):l.set i (l.getD i d)=l:=by
 rw [List.getD_eq_getElem?_getD,List.getElem?_eq_getElem h,Option.getD_some,List.set_getElem_self]
end Go.Sep
