/- Contracts of functions. -/
import Derived.Test.YtfecojefbnnknaaTxx15
open List renaming drop_one → wAs
namespace Go.Sep
set_option maxHeartbeats 16000000
open Go.Proofs
set_option linter.unusedSimpArgs false
set_option linter.unusedVariables false
set_option maxRecDepth 100000
open Nat renaming reduceAdd → qA, reduceMul → qB, reduceEqDiff → qC, reduceBEq → qD
open Int renaming reduceToNat → qE, reduceEq → qF, reduceLT → qG, reduceLE → qH
open List renaming getD_eq_getElem?_getD → gD
def m217:MFn:=⟨22,[.t 2],kr [xb 1 0,xo 2 (.mv (.c (.nil)))] (.seq (kr [xa 3 0 1,xl 4 3] (.blk 0 (.seq (kr [bI 6 .eql 4 1,xv 5 6] (.cond 5 (.skip) (kr [bI 7 .eql 4 2,xv 5 7] (.cond 5 (.skip) (kr [bI 8 .eql 4 3,xv 5 8] (.cond 5 (.skip) (kr [bI 9 .eql 4 4,xv 5 9] (.cond 5 (.skip) (xr [bI 10 .eql 4 7,xv 5 10]))))))))) (.cond 5 (kR [xa 11 1 1,xl 12 11,xo 13 (.mkSl [xz] 1 [(0,.t 12)]),xv 2 13]) (.seq (kr [bI 15 .eql 4 6,xv 14 15] (.cond 14 (.skip) (xr [bI 16 .eql 4 8,xv 14 16]))) (kF 14 [xa 17 1 1,xl 18 17,xa 19 3 1,xl 20 19,xo 21 (.mkSl [xz] 2 [(0,.t 18),(1,.t 20)]),xv 2 21])))))) (kR [xo 2 (.mv (.c (.nil)))]))⟩
theorem qLl (x:Ins):wB Try.prog num 217 [.agg (dZ x)] [] (.sl .own 1 (wK (gW x))):=by
 refine EN m217 Try.func36 ?_
 unfold m217
 by_cases h1:x.op=1
 ·simp only [go_sem,seval,h1]
  repeat refine K ?_
  refine ⟨_,Sub.refl _,wO ?_⟩; simp [-wAs]
  all_goals simp [gW,h1,wK]
 by_cases h2:x.op=2
 ·simp only [go_sem,seval,h1,h2]
  repeat refine K ?_
  refine ⟨_,Sub.refl _,wO ?_⟩; simp [-wAs]
  all_goals simp [gW,h2,wK]
 by_cases h3:x.op=3
 ·simp only [go_sem,seval,h1,h2,h3]
  repeat refine K ?_
  refine ⟨_,Sub.refl _,wO ?_⟩; simp [-wAs]
  all_goals simp [gW,h3,wK]
 by_cases h4:x.op=4
 ·simp only [go_sem,seval,h1,h2,h3,h4]
  repeat refine K ?_
  refine ⟨_,Sub.refl _,wO ?_⟩; simp [-wAs]
  all_goals simp [gW,h4,wK]
 by_cases h7:x.op=7
 ·simp only [go_sem,seval,h1,h2,h3,h4,h7]
  repeat refine K ?_
  refine ⟨_,Sub.refl _,wO ?_⟩; simp [-wAs]
  all_goals simp [gW,h7,wK]
 by_cases h6:x.op=6
 ·simp only [go_sem,seval,h1,h2,h3,h4,h7,h6]
  repeat refine K ?_
  refine ⟨_,Sub.refl _,wO ?_⟩; simp [-wAs]
  all_goals simp [gW,h6,wK]
 by_cases h8:x.op=8
 ·simp only [go_sem,seval,h1,h2,h3,h4,h7,h6,h8]
  repeat refine K ?_
  refine ⟨_,Sub.refl _,wO ?_⟩; simp [-wAs]
  all_goals simp [gW,h8,wK]
 simp only [go_sem,seval,h1,h2,h3,h4,h7,h6,h8]
 repeat refine K ?_
 refine ⟨_,Sub.refl _,wO ?_⟩; simp [-wAs]
 all_goals simp [gW,h1,h2,h3,h4,h7,h6,h8,wK]
theorem qT3 (x:Ins):(gW x).length≤2:=by
 unfold gW
 repeat' split
 all_goals simp
def m247:MFn:=⟨26,[.cell 2 2 true],kr [xb 1 0,xo 2 (.alloc [.nil,.nil])] (kr [xa 6 0 1,xl 7 6,xc1 8 36 (.t 7),xo 9 (.build [.nil,.nil] [(0,1,.t 8)]),xo 3 (.alloc [.nil,.nil]),xS 2 3 9] (.seq (kr [xa 10 1 1,xl 11 10,xe 12 11,xI 13 0] (.blk 0 (.loop (kr [bT 14 .lss 13 12] (.seq (kX 14 0) (.seq (.blk 1 (kr [xD 15 1 11 13,xl 16 15,xv 5 16] (.dreg (.take 0 (xa 17 1 3) (.take 1 (xl 18 17) (.only 2 [] (xv 19 5) (.only 3 [] (xc1 20 248 (.t 19)) (.only 4 [] (xo 21 (.mkSl [.nil] 1 [(0,.t 20)])) (.only 5 [1,0] (xA 22 1 24 18 21) (.only 6 [0,1] (xa 23 1 3) (.only 7 [0,1] (xS 1 23 22) (.done)))))))))))) (xr [bI 24 .add 13 1,xv 13 24]))))))) (kR [xm 25 2 3,xS 2 2 25])))⟩
def m248:MFn:=⟨6,[.t 2],kr [xo 2 (.mv (.c (.nil)))] (kR [xo 3 (.mkSl [xz,xz,xz,xz,xz] 0 []),xv 4 0,xA 5 5 40 3 4,xv 2 5])⟩
theorem qBu (l:List Ins) (hx:40*l.length≤2^47):wB Try.prog num 248 [.sl .bw 5 (vC l)] [] (.sl .own 5 (vC l)):=by
 refine EN m248 Try.func49 ?_
 unfold m248
 simp only [go_sem,seval]
 repeat refine K ?_
 refine ⟨_,Sub.refl _,wO ?_⟩; simp [-wAs]
theorem qS9 (l:List (List Ins)) (i:Nat) (h:i<l.length):yO .own (l.take i)++[[AV.sl .own 5 (vC (l.getD i []))]]=yO .own (l.take (i+1)):=by
 rw [gJ l [] i h]
 simp [yO]
theorem qLu (p:wT) (hp:iO p):wB Try.prog num 247 [.agg (gY .bw p)] [] (.agg (gY .own p)):=by
 obtain ⟨h1,h2,h3⟩:=hp
 refine EN m247 Try.func48 ?_
 unfold m247
 simp only [go_sem,seval]
 repeat refine K ?_
 refine CA [] (eL p.caps (by omega)) ?_
 try simp only [go_sem,seval]
 repeat refine K ?_
 try simp only [go_sem,seval]
 repeat refine K ?_
 refine wR (ι:=Nat) (fun i=>.mk [(2,.ptr 11 0 0),(3,.ptr 13 0 0),(11,.sl .bw 1 (yO .bw p.bods)),(12,.int .i64 p.bods.length),(13,.int .i64 i)] [(11,2,[[.nil,.nil]]),(13,2,[[.sl .own 1 (wK p.caps),.sl .own 1 (yO .own (p.bods.take i))]])] 14) (fun i=>i≤p.bods.length) (fun i=>p.bods.length-i) 0 (by simp) ?_ ?_
 ·refine Sub.trans (Sub.fold1 13 0 12 rfl (by simp [-gD]<;>omega) rfl (by decide) (by decide) rfl) ?_
  simp only [fS,fS3,qA,qC]
  refine Sub.shape [] id (by omega) ?_ ?_ ?_ ?_<;>simp [qU]
 ·rintro i hi
  simp only [go_sem,seval]
  refine qZ (fun hc=>?_) (fun hc=>?_)
  ·simp only [decide_eq_true_eq] at hc
   have hl':i<p.bods.length:=by omega
   have hlt:(p.bods.take i).length=i:=by simp; omega
   have hr:=h3 _ (yL p.bods i [] hl')
   have hn:=qS9 p.bods i hl'
   have hlt2:(p.bods.take (i+1)).length=i+1:=by simp; omega
   simp only [go_sem,seval,qX .bw p.bods i hl',hlt]
   repeat refine K ?_
   refine DA [] (qBu (p.bods.getD i []) (by omega)) ?_
   try simp only [go_sem,seval]
   repeat refine K ?_
   try simp only [go_sem,seval,hlt,wD (i:=i) (by omega)]
   repeat refine K ?_
   refine wC (i+1) ?_ hl' (by omega)
   refine Sub.trans (Sub.foldLast 17 0 15 rfl (by simp [-gD]<;>omega) rfl (by decide) (by decide) rfl) ?_
   simp only [fS,fS3,qA,qC,hn]
   refine Sub.trans (Sub.fold1 13 1 17 rfl (by simp [-gD]<;>omega) rfl (by decide) (by decide) rfl) ?_
   simp only [fS,fS3,qA,qC,hlt2]
   refine Sub.shape [] id (by omega) ?_ ?_ ?_ ?_<;>simp [qU]
  ·simp only [decide_eq_false_iff_not] at hc
   have he:p.bods.take i=p.bods:=List.take_of_length_le (by omega)
   simp only [go_sem,seval,he]
   repeat refine K ?_
   refine ⟨_,Sub.refl _,wO ?_⟩; simp [-wAs]
end Go.Sep
