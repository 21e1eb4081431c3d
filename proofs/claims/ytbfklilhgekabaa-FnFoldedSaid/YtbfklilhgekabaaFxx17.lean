/- Contracts of functions. -/
import Derived.Test.YtbfklilhgekabaaFxx16
open List renaming drop_one → wAu, getD_eq_getElem?_getD → qZc, getElem?_eq_getElem → wAt, length_append → qZq, length_cons → qZ5, length_singleton → wBe, map_replicate → wBf, map_set → wBc, replicate → qZ4, set_getElem_self → wBd, take → wBg, take_of_length_le → qZj
namespace Go.Sep
set_option maxHeartbeats 16000000
open Go.Proofs
set_option linter.unusedSimpArgs false
set_option linter.unusedVariables false
set_option maxRecDepth 100000
open Nat renaming reduceAdd → qA, reduceMul → qB, reduceEqDiff → qC, reduceBEq → qD
open Int renaming reduceToNat → qE, reduceEq → qF, reduceLT → qG, reduceLE → qH
open List renaming getD_eq_getElem?_getD → gD
def m238:MFn:=⟨30,[.cell 2 2 true],kr [xb 1 0,xo 2 (.alloc [.nil,.nil])] (kr [xo 5 (.mkSl [xz] 0 []),xa 6 0 1,xl 7 6,xA 8 1 8 5 7,xo 9 (.build [.nil,.nil] [(0,1,.t 8)]),xo 3 (.alloc [.nil,.nil]),xS 2 3 9] (.seq (kr [xI 4 0] (.blk 0 (.loop (.seq (kr [xv 10 4,xa 11 1 1,xl 12 11,xe 13 12,bT 14 .lss 10 13] (kX 14 0)) (.seq (.blk 1 (.dreg (.take 0 (xa 17 1 3) (.take 1 (xl 18 17) (.take 3 (xa 20 1 1) (.take 4 (xl 21 20) (.take 5 (xv 22 4) (.take 6 (xD 23 1 21 22) (.take 7 (xl 24 23) (.only 2 [] (xo 19 (.mkSl [xz,xz,xz,xz,xz] 0 [])) (.only 8 [7,6,4,5,3] (xA 25 5 40 19 24) (.only 9 [8,7,6,4,5,3] (xo 26 (.mkSl [.nil] 1 [(0,.t 25)])) (.only 10 [1,8,0,7,6,4,5,3] (xA 27 1 24 18 26) (.only 11 [0,1,3,4,5,6,7] (xa 28 1 3) (.only 12 [0,1,3,4,5,6,7] (xS 1 28 27) (.done)))))))))))))))) (xr [xv 15 4,bI 16 .add 15 1,xv 4 16])))))) (kR [xm 29 2 3,xS 2 2 29])))⟩
def m247:MFn:=⟨26,[.cell 2 2 true],kr [xb 1 0,xo 2 (.alloc [.nil,.nil])] (kr [xa 6 0 1,xl 7 6,xc1 8 36 (.t 7),xo 9 (.build [.nil,.nil] [(0,1,.t 8)]),xo 3 (.alloc [.nil,.nil]),xS 2 3 9] (.seq (kr [xa 10 1 1,xl 11 10,xe 12 11,xI 13 0] (.blk 0 (.loop (kr [bT 14 .lss 13 12] (.seq (kX 14 0) (.seq (.blk 1 (kr [xD 15 1 11 13,xl 16 15,xv 5 16] (.dreg (.take 0 (xa 17 1 3) (.take 1 (xl 18 17) (.only 2 [] (xv 19 5) (.only 3 [] (xc1 20 248 (.t 19)) (.only 4 [] (xo 21 (.mkSl [.nil] 1 [(0,.t 20)])) (.only 5 [1,0] (xA 22 1 24 18 21) (.only 6 [0,1] (xa 23 1 3) (.only 7 [0,1] (xS 1 23 22) (.done)))))))))))) (xr [bI 24 .add 13 1,xv 13 24]))))))) (kR [xm 25 2 3,xS 2 2 25])))⟩
def m248:MFn:=⟨6,[.t 2],kr [xo 2 (.mv (.c (.nil)))] (kR [xo 3 (.mkSl [xz,xz,xz,xz,xz] 0 []),xv 4 0,xA 5 5 40 3 4,xv 2 5])⟩
def m289:MFn:=⟨115,[.t 2],kr [xo 2 (.mv (.c (.nil)))] (kr [xo 15 (.mkSl [.nil] 0 []),xv 3 15] (.seq (kr [xv 16 0,xc2 17 82 (.t 16) (xi 3),xN 18 17] (kF 18 [xv 19 3,xv 2 19])) (kr [xv 20 0,xe 21 20,xo 22 (.mkS [.bool false] 1 (.t 21) (.t 21)),xv 4 22] (.seq (kr [xI 5 0] (.blk 0 (.loop (.seq (kr [xv 23 5,xv 24 0,xe 25 24,bT 26 .lss 23 25] (kX 26 0)) (.seq (.blk 1 (xr [xv 29 3,xo 30 (.mkS [.bool false,.int .i64 0] 16 (xi 4) (xi 4)),xo 31 (.mkSl [.nil] 1 [(0,.t 30)]),xA 32 1 24 29 31,xv 3 32])) (xr [xv 27 5,bI 28 .add 27 1,xv 5 28])))))) (.seq (kr [xI 6 0] (.blk 2 (.loop (.seq (kr [xv 33 6,bI 34 .lss 33 4] (kX 34 2)) (.seq (.blk 3 (xr [xv 37 3,xo 38 (.iad 1 (.t 37) (xi 0)),xl 39 38,xv 40 6,xo 41 (.build [.bool false,.int .i64 0] [(0,1,.c (.bool true))]),xD 42 2 39 40,xS 2 42 41])) (xr [xv 35 6,bI 36 .add 35 1,xv 6 36])))))) (kr [xv 43 4,xo 44 (.iad 1 (.t 43) (xi 0)),⟨none,.store 1 (.t 44) (.c (.bool true)),none⟩] (kr [xo 45 (.mkSl [xz] 1 [(0,xi 0)]),xv 7 45] (.seq (.blk 4 (.loop (.seq (kr [xv 46 7,xe 47 46,bI 48 .gtr 47 0] (kX 48 4)) (.blk 5 (kr [xv 49 7,xo 50 (.iad 1 (.t 49) (xi 0)),xl 51 50,xv 8 51] (kr [xo 52 (.mkSl [xz] 0 []),xv 53 7,xo 54 (.cut 1 (.t 53) (some (xi 1)) none),xA 55 1 8 52 54,xv 7 55] (.seq (.dreg (.take 0 (xv 56 0) (.take 1 (xv 57 8) (.take 2 (xD 58 5 56 57) (.take 3 (xm 59 5 58) (.take 4 (xv 60 3) (.only 5 [] (xv 61 8) (.only 6 [4] (xD 62 1 60 61) (.only 7 [6,4] (xl 63 62) (.only 8 [3,7,2,6,0,1,4] (xc2 64 325 (.t 59) (.t 63)) (.only 9 [0,1,2,3,4] (xv 9 64) (.done)))))))))))) (kr [xv 65 0,xv 66 8,xc2 67 326 (.t 65) (.t 66),xv 10 67] (kr [xI 11 0] (.blk 6 (.loop (.seq (kr [xv 68 11,xv 69 10,xe 70 69,bT 71 .lss 68 70] (kX 71 6)) (.seq (.blk 7 (kr [xv 74 10,xv 75 11,xD 76 1 74 75,xl 77 76,xv 12 77] (.seq (kr [xv 78 4,xv 79 12,xD 80 1 78 79,xl 81 80,xN 82 81] (.cond 82 (kr [xv 83 4,xv 84 12,xD 85 1 83 84,⟨none,.store 1 (.t 85) (.c (.bool true)),none⟩] (kr [xv 86 3,xv 87 12,xo 88 (.mkSl [.bool false,.int .i64 0] 0 []),xv 89 9,xA 90 2 16 88 89,xD 91 1 86 87,xS 1 91 90] (kr [xv 92 7,xv 93 12,xo 94 (.mkSl [xz] 1 [(0,.t 93)]),xA 95 1 8 92 94,xv 7 95] (.exit 7)))) (.skip))) (kr [xv 97 3,xv 98 12,xD 99 1 97 98,xl 100 99,xv 101 9,xc2 102 327 (.t 100) (.t 101),xv 96 102,xX 103 96 0,xX 104 96 1,xv 13 103,xv 14 104] (kr [xv 105 14] (.cond 105 (kr [xv 106 3,xv 107 12,xv 108 13,xD 109 1 106 107,xS 1 109 108] (xr [xv 110 7,xv 111 12,xo 112 (.mkSl [xz] 1 [(0,.t 111)]),xA 113 1 8 110 112,xv 7 113])) (.skip))))))) (xr [xv 72 11,bI 73 .add 72 1,xv 11 73])))))))))))))) (kR [xv 114 3,xv 2 114])))))))))⟩
def m326:MFn:=⟨57,[.t 4],kr [xo 4 (.mv (.c (.nil)))] (.seq (kr [xv 6 0,xc2 7 82 (.t 6) (xi 3),xN 8 7,xv 9 8,zv 10 1 9,zv 11 0 9,ze 12 11 9,zI 13 .sub 12 1 9,xg 14 (.call 64 [false,false,false] [.t 10,xi 0,.t 13]) 9 false,zN 15 14 9,xQ 16 9 15] (kF 16 [xo 17 (.mkSl [xz] 0 []),xv 4 17])) (kr [xv 18 0,xv 19 1,xD 20 5 18 19,xm 21 5 20,xo 5 (.alloc [xz,xz,xz,xz,xz]),xS 5 5 21] (.seq (kr [xa 22 0 5,xl 23 22] (.blk 0 (kr [bI 25 .eql 23 13,xv 24 25] (.cond 24 (kR [xo 26 (.mkSl [xz] 0 []),xv 4 26]) (kr [bI 28 .eql 23 11,xv 27 28] (.cond 27 (kR [xa 29 4 5,xl 30 29,xo 31 (.mkSl [xz] 1 [(0,.t 30)]),xv 4 31]) (kr [bI 33 .eql 23 12,xv 32 33] (.cond 32 (.seq (kr [xa 34 4 5,xl 35 34,xv 36 1,bI 37 .add 36 1,bT 38 .lss 35 37] (kF 38 [xa 39 4 5,xl 40 39,xv 41 1,bI 42 .add 41 1,xo 43 (.mkSl [xz] 2 [(0,.t 40),(1,.t 42)]),xv 4 43])) (kr [xa 44 4 5,xl 45 44,xv 46 1,bI 47 .add 46 1,bT 48 .gtr 45 47] (kF 48 [xv 49 1,bI 50 .add 49 1,xa 51 4 5,xl 52 51,xo 53 (.mkSl [xz] 2 [(0,.t 50),(1,.t 52)]),xv 4 53]))) (.skip))))))))) (kR [xv 54 1,bI 55 .add 54 1,xo 56 (.mkSl [xz] 1 [(0,.t 55)]),xv 4 56]))))⟩
theorem qCw (l:List Ins) (hx:40*l.length≤2^47):wA Try.prog num 248 [.sl .bw 5 (jG l)] [] (.sl .own 5 (jG l)):=by
 refine EN m248 Try.func60 ?_
 unfold m248
 simp only [go_sem,seval]
 repeat refine K ?_
 refine ⟨_,Sub.refl _,wI ?_⟩; simp [-wAu]
theorem qJ4 (l:List (List Ins)) (i:Nat) (h:i<l.length):yU .own (l.take i)++[[AV.sl .own 5 (jG (l.getD i []))]]=yU .own (l.take (i+1)):=by
 rw [dW l [] i h]
 simp [yU]
theorem qN5 (p:wV) (hp:aG p):wA Try.prog num 247 [.agg (vN .bw p)] [] (.agg (vN .own p)):=by
 obtain ⟨h1,h2,h3⟩:=hp
 refine EN m247 Try.func65 ?_
 unfold m247
 simp only [go_sem,seval]
 repeat refine K ?_
 refine CA [] (pF p.caps (by omega)) ?_
 try simp only [go_sem,seval]
 repeat refine K ?_
 try simp only [go_sem,seval]
 repeat refine K ?_
 refine wD (ι:=Nat) (fun i=>.mk [(2,.ptr 11 0 0),(3,.ptr 13 0 0),(11,.sl .bw 1 (yU .bw p.bods)),(12,.int .i64 p.bods.length),(13,.int .i64 i)] [(11,2,[[.nil,.nil]]),(13,2,[[.sl .own 1 (wR p.caps),.sl .own 1 (yU .own (p.bods.take i))]])] 14) (fun i=>i≤p.bods.length) (fun i=>p.bods.length-i) 0 (by simp) ?_ ?_
 ·refine Sub.trans (Sub.fold1 13 0 12 rfl (by simp [-gD]<;>omega) rfl (by decide) (by decide) rfl) ?_
  simp only [fS,fS3,qA,qC]
  refine Sub.shape [] id (by omega) ?_ ?_ ?_ ?_<;>simp [qL]
 ·rintro i hi
  simp only [go_sem,seval]
  refine qS (fun hc=>?_) (fun hc=>?_)
  ·simp only [decide_eq_true_eq] at hc
   have hl':i<p.bods.length:=by omega
   have hlt:(p.bods.take i).length=i:=by simp; omega
   have hr:=h3 _ (yL p.bods i [] hl')
   have hn:=qJ4 p.bods i hl'
   have hlt2:(p.bods.take (i+1)).length=i+1:=by simp; omega
   simp only [go_sem,seval,qX .bw p.bods i hl',hlt]
   repeat refine K ?_
   refine DA [] (qCw (p.bods.getD i []) (by omega)) ?_
   try simp only [go_sem,seval]
   repeat refine K ?_
   try simp only [go_sem,seval,hlt,qW (i:=i) (by omega)]
   repeat refine K ?_
   refine qU (i+1) ?_ hl' (by omega)
   refine Sub.trans (Sub.foldLast 17 0 15 rfl (by simp [-gD]<;>omega) rfl (by decide) (by decide) rfl) ?_
   simp only [fS,fS3,qA,qC,hn]
   refine Sub.trans (Sub.fold1 13 1 17 rfl (by simp [-gD]<;>omega) rfl (by decide) (by decide) rfl) ?_
   simp only [fS,fS3,qA,qC,hlt2]
   refine Sub.shape [] id (by omega) ?_ ?_ ?_ ?_<;>simp [qL]
  ·simp only [decide_eq_false_iff_not] at hc
   have he:p.bods.take i=p.bods:=qZj (by omega)
   simp only [go_sem,seval,he]
   repeat refine K ?_
   refine ⟨_,Sub.refl _,wI ?_⟩; simp [-wAu]
theorem qOs (p:wV) (hp:aG p):wA Try.prog num 238 [.agg (vN .bw p)] [] (.agg (vN .own p)):=by
 obtain ⟨h1,h2,h3⟩:=hp
 refine EN m238 Try.func61 ?_
 unfold m238
 simp only [go_sem,seval]
 repeat refine K ?_
 refine wD (ι:=Nat) (fun i=>.mk [(1,.ptr 10 0 0),(2,.ptr 11 0 0),(3,.ptr 14 0 0),(4,.int .i64 i)] [(10,2,[vN .bw p]),(11,2,[[.nil,.nil]]),(14,2,[[.sl .own 1 (wR p.caps),.sl .own 1 (yU .own (p.bods.take i))]])] 15) (fun i=>i≤p.bods.length) (fun i=>p.bods.length-i) 0 (by simp) ?_ ?_
 ·refine Sub.trans (Sub.fold1 14 0 13 rfl (by simp [-gD]<;>omega) rfl (by decide) (by decide) rfl) ?_
  simp only [fS,fS3,qA,qC]
  refine Sub.shape [] id (by omega) ?_ ?_ ?_ ?_<;>simp [qL]
 ·rintro i hi
  simp only [go_sem,seval]
  repeat refine K ?_
  refine qS (fun hc=>?_) (fun hc=>?_)
  ·simp only [decide_eq_true_eq] at hc
   have hl':i<p.bods.length:=by omega
   have hlt:(p.bods.take i).length=i:=by simp; omega
   have hr:=h3 _ (yL p.bods i [] hl')
   have hn:=qJ4 p.bods i hl'
   have hlt2:(p.bods.take (i+1)).length=i+1:=by simp; omega
   simp only [go_sem,seval,qX .bw p.bods i hl',hlt,qW (i:=i) (by omega)]
   repeat refine K ?_
   refine qU (i+1) ?_ hl' (by omega)
   refine Sub.trans (Sub.foldLast 19 0 17 rfl (by simp [-gD]<;>omega) rfl (by decide) (by decide) rfl) ?_
   simp only [fS,fS3,qA,qC,hn]
   refine Sub.trans (Sub.fold1 14 1 19 rfl (by simp [-gD]<;>omega) rfl (by decide) (by decide) rfl) ?_
   simp only [fS,fS3,qA,qC,hlt2]
   refine Sub.shape [] id (by omega) ?_ ?_ ?_ ?_<;>simp [qL]
  ·simp only [decide_eq_false_iff_not] at hc
   have he:p.bods.take i=p.bods:=qZj (by omega)
   simp only [go_sem,seval,he]
   repeat refine K ?_
   refine ⟨_,Sub.refl _,wI ?_⟩; simp [-wAu]
theorem qH0 (l:List Ins) (a:Nat) (hb:wT l 3=true) (ha:a<l.length):wA Try.prog num 326 [.sl .bw 5 (jG l),.int .i64 a] [] (.sl .own 1 (wR (yJ l a))):=by
 obtain ⟨hl1,hl2⟩:=lM hb
 have hg:=vB l a ha
 have hw:qO (a:Int) 0 ((l.length:Int)-1)=true:=by rw [qK]; omega
 have hw1:IntKind.i64.wrap ((a:Int)+1)=(a:Int)+1:=jD (by omega) (by omega)
 have hw2:IntKind.i64.wrap ((l.length:Int)-1)=(l.length:Int)-1:=jD (by omega) (by omega)
 refine EN m326 Try.func48 ?_
 unfold m326
 simp only [go_sem,seval]
 repeat refine K ?_
 refine CA [] (kC l 3 (by omega) (by omega) (by omega)) ?_
 try simp only [go_sem,seval]
 repeat refine K ?_
 try simp only [go_sem,seval,hb,hw2]
 repeat refine K ?_
 refine CA [] (eU (a:Int) 0 ((l.length:Int)-1)) ?_
 try simp only [go_sem,seval]
 repeat refine K ?_
 try simp only [go_sem,seval,hw,hg]
 repeat refine K ?_
 unfold yJ
 generalize l.getD a default=x at hg
 simp only
 by_cases h13:x.op=13
 ·try simp only [go_sem,seval,h13]
  repeat refine K ?_
  refine ⟨_,Sub.refl _,wI ?_⟩; simp [-wAu]
  all_goals (try simp [h13,wR])
 by_cases h11:x.op=11
 ·try simp only [go_sem,seval,h13,h11]
  repeat refine K ?_
  refine ⟨_,Sub.refl _,wI ?_⟩; simp [-wAu]
  all_goals (try simp [h13,h11,wR])
 by_cases h12:x.op=12
 ·by_cases h1:x.n<(a:Int)+1
  ·try simp only [go_sem,seval,h13,h11,h12,hw1,h1]
   repeat refine K ?_
   refine ⟨_,Sub.refl _,wI ?_⟩; simp [-wAu]
   all_goals (try simp [h13,h11,h12,h1,wR])
  ·by_cases h2:(a:Int)+1<x.n
   ·try simp only [go_sem,seval,h13,h11,h12,hw1,h1,h2]
    repeat refine K ?_
    refine ⟨_,Sub.refl _,wI ?_⟩; simp [-wAu]
    all_goals (try simp [h13,h11,h12,h1,h2,wR])
   ·try simp only [go_sem,seval,h13,h11,h12,hw1,h1,h2]
    repeat refine K ?_
    refine ⟨_,Sub.refl _,wI ?_⟩; simp [-wAu]
    all_goals (try simp [h13,h11,h12,h1,h2,wR])
 try simp only [go_sem,seval,h13,h11,h12,hw1]
 repeat refine K ?_
 refine ⟨_,Sub.refl _,wI ?_⟩; simp [-wAu]
 all_goals (try simp [h13,h11,h12,wR])
theorem zC (S:KS):(uY S).length=S.length:=by simp [uY]
theorem aE (S:KS) (n:Nat) (h:n<S.length):(uY S).getD n []=if kat S n=[] then qZ4 4 kno else kat S n:=by
 simp [uY,kat,qZc,h]
def zL (S:KS):List Bool:=S.map fun v=>decide (v≠[])
theorem kM (S:KS):(zL S).length=S.length:=by simp [zL]
theorem qDa (S:KS) (n:Nat) (h:n<S.length):(zL S).getD n false=decide (kat S n≠[]):=by
 simp [zL,kat,qZc,h]
theorem qQr {S:KS} {out:KV} {n:Nat} (hw:kat S n=[]∨WfV (kat S n)) (ho:WfV out):(if kat S n=[] then out else jK (kat S n) out)≠[]:=by
 split
 ·exact qCb ho
 ·rename_i h
  exact qCb (qA8 _ (hw.resolve_left h))
theorem qIn {S:KS} {out:KV} {n:Nat} (hw:kat S n=[]∨WfV (kat S n)) (ho:WfV out):uY (upd S out n)=(uY S).set n (if kat S n=[] then out else jK (kat S n) out):=by
 have:=qQr hw ho
 unfold upd
 generalize (if kat S n=[] then out else jK (kat S n) out)=v at this
 unfold uY
 rw [wBc,if_neg this]
theorem qGg {S:KS} {out:KV} {n:Nat} (hw:kat S n=[]∨WfV (kat S n)) (ho:WfV out):zL (upd S out n)=(zL S).set n true:=by
 have:=qQr hw ho
 unfold upd
 generalize (if kat S n=[] then out else jK (kat S n) out)=v at this
 unfold zL
 rw [wBc]
 simp [this]
theorem qDh {S:KS} {n:Nat} (h:n<S.length) (hk:kat S n≠[]):(zL S).set n true=zL S:=by
 have:(zL S).set n ((zL S).getD n false)=zL S:=by
  have hb:n<(zL S).length:=by rw [kM]; exact h
  rw [qZc,wAt hb,Option.getD_some,wBd]
 rw [qDa S n h,decide_eq_true hk] at this
 exact this
structure qJe (l:List Ins) (S:KS) (td:List Int):Prop where
 inv:qB2 l S
 tok :∀t∈td,0≤t∧t.toNat<l.length∧kat S t.toNat≠[]
 oth :∀b,b<l.length→(b:Int)∉td→EOk l S b
 me:mS S+td.length≤5*l.length
structure qGw (l:List Ins) (S:KS) (a:Nat) (tl:List Int) (out:KV) (j:Nat) (T:KS) (td:List Int):Prop where
 inv:qB2 l T
 tok :∀t∈td,0≤t∧t.toNat<l.length∧kat T t.toNat≠[]
 oth :∀b,b<l.length→b≠a→(b:Int)∉td→EOk l T b
 own:(a:Int)∉td→kat T a=kat S a
 edg :∀i,i<j→kat T ((yJ l a).getD i 0).toNat≠[]∧vle out (kat T ((yJ l a).getD i 0).toNat)
 me:mS T+td.length≤mS S+tl.length
 me2:2*mS T+td.length≤2*mS S+tl.length
theorem qMo {l:List Ins} {S:KS} {a:Int} {tl:List Int} {out:KV} (h:qJe l S (a::tl)):qGw l S a.toNat tl out 0 S tl:=by
 have ha:=(h.tok a (by simp)).1
 refine ⟨h.inv,fun t ht=>h.tok t (by simp [ht]),fun b hb hne hn=>h.oth b hb ?_,fun _=>rfl,fun i hi=>by omega,Nat.le_refl _,Nat.le_refl _⟩
 intro hm
 rcases List.mem_cons.1 hm with e | hm
 ·exact hne (by omega)
 ·exact hn hm
theorem qOz {l:List Ins} {S T:KS} {a:Nat} {tl td:List Int} {out:KV} {j:Nat} (hb:wT l 3=true) (ha:a<l.length) (hS:qB2 l S) (hs:kat S a≠[]) (ho:out=bQ (l.getD a default) (kat S a)) (h:qGw l S a tl out j T td)
  (hj:j<(yJ l a).length) (hd:nJ T out ((yJ l a).getD j 0).toNat=true):qGw l S a tl out (j+1) (upd T out ((yJ l a).getD j 0).toNat) (td++[(yJ l a).getD j 0]):=by
 have hm:=yL (yJ l a) j 0 hj
 have hn:=pZ hb ha _ hm
 generalize hne:(yJ l a).getD j 0=n at hm hn hd⊢
 have hn':n.toNat<T.length:=by rw [h.inv.len]; exact hn.2
 have hwo:WfV out:=ho▸lR _ ((hS.wf a).resolve_left hs)
 have hw:=h.inv.wf n.toNat
 have hle:=qTl hn' hw hwo
 have hmm:=qE4 hn' hw hwo
 have hlt:=hmm.2 hd
 have hold :∀b,b≠n.toNat→kat (upd T out n.toNat) b=kat T b:=fun b hbn=>by rw [qE5 T out n.toNat b hn',if_neg hbn]
 refine ⟨qJm h.inv hn.2 hwo fun U hU=>ho▸qOb hS ha (lL hb ha) hs U hU n hm,fun t ht=>?_,fun b hbl hba hbn=>?_,fun han=>?_,fun i hi=>?_,?_,?_⟩
 ·rcases List.mem_append.1 ht with ht | ht
  ·have:=h.tok t ht
   refine ⟨this.1,this.2.1,?_⟩
   rcases hle t.toNat with e | e
   ·exact absurd e this.2.2
   ·exact e.1
  ·rw [List.mem_singleton.1 ht]
   exact ⟨hn.1,hn.2,(tL hn' hw hwo).1⟩
 ·have hbn':b≠n.toNat:=fun e=>hbn (by rw [e]; simp; right; omega)
  exact qV6 hle (hold b hbn') (h.oth b hbl hba fun hm=>hbn (by simp [hm]))
 ·have han':a≠n.toNat:=fun e=>han (by rw [e]; simp; right; omega)
  rw [hold a han']
  exact h.own fun hm=>han (by simp [hm])
 ·by_cases hij:i<j
  ·have:=h.edg i hij
   rcases hle ((yJ l a).getD i 0).toNat with e | e
   ·exact absurd e this.1
   ·exact ⟨e.1,pQ this.2 e.2⟩
  ·have:i=j:=by omega
   subst this
   rw [hne]
   exact tL hn' hw hwo
 ·have:=h.me
  simp only [qZq,wBe]
  omega
 ·have:=h.me2
  simp only [qZq,wBe]
  omega
theorem qP0 {l:List Ins} {S T:KS} {a:Nat} {tl td:List Int} {out:KV} {j:Nat} (hb:wT l 3=true) (ha:a<l.length) (hwo:WfV out) (h:qGw l S a tl out j T td)
  (hj:j<(yJ l a).length) (hd:nJ T out ((yJ l a).getD j 0).toNat=false):qGw l S a tl out (j+1) T td:=by
 have hm:=yL (yJ l a) j 0 hj
 have hn:=pZ hb ha _ hm
 refine ⟨h.inv,h.tok,h.oth,h.own,fun i hi=>?_,h.me,h.me2⟩
 by_cases hij:i<j
 ·exact h.edg i hij
 ·have:i=j:=by omega
  subst this
  have hn':((yJ l a).getD i 0).toNat<T.length:=by rw [h.inv.len]; exact hn.2
  have:=tL hn' (h.inv.wf _) hwo
  rw [qE3 hd] at this
  exact this
theorem qSm {l:List Ins} {S T:KS} {a:Int} {tl td:List Int} {out:KV} (hO:qJe l S (a::tl)) (ho:out=bQ (l.getD a.toNat default) (kat S a.toNat)) (h:qGw l S a.toNat tl out (yJ l a.toNat).length T td):qJe l T td:=by
 refine ⟨h.inv,h.tok,fun b hb hn=>?_,by have:=h.me; have:=hO.me; simp only [qZ5] at this; omega⟩
 by_cases hba:b=a.toNat
 ·subst hba
  intro hs n hm
  rw [h.own hn] at hs⊢
  obtain ⟨i,hi,e⟩:=List.getElem_of_mem hm
  have:=h.edg i hi
  have e':(yJ l a.toNat).getD i 0=n:=by rw [←e]; simp [qZc,hi]
  rw [e',ho] at this
  exact this
 ·exact h.oth b hb hba hn
theorem qUg {n:Nat} (h:0<n):mS (aD n)+1=5*n:=by
 have ht :∀n,nR wS (qZ4 n ([]:KV))=5*n:=by
  intro n
  induction n with
  | zero=>rfl
  | succ n ih=>rw [List.replicate_succ,nR,ih]; have:wS []=5:=rfl; omega
 have hs:=qE8 wS [] (qZ4 n ([]:KV)) 0 qCq (by simpa using h)
 have e:wS ((qZ4 n ([]:KV)).getD 0 [])=5:=by
  cases n with
  | zero=>omega
  | succ n=>rfl
 have e2:wS qCq=4:=by decide
 rw [ht n,e,e2] at hs
 unfold mS aD
 omega
theorem qLx {l:List Ins} (hb:wT l 3=true):qJe l (aD l.length) [0]:=by
 have hl:=(lM hb).1
 refine ⟨sV hl,fun t ht=>?_,fun b hbl hn=>?_,by have:=qUg hl; simp only [wBe]; omega⟩
 ·rw [List.mem_singleton.1 ht]
  refine ⟨by omega,by omega,?_⟩
  rw [lE _ _ hl]
  decide
 ·intro hs
  rw [lE _ _ hl,if_neg (fun e=>hn (by rw [e]; simp))] at hs
  exact absurd rfl hs
theorem qRu {l:List Ins} {S:KS} (h:qJe l S []):sI l S:=⟨h.inv,fun a ha=>h.oth a ha (by simp)⟩
def kZ:KV:=qZ4 4 ⟨false,0⟩
def ini (j:Nat):KV:=qZ4 j ⟨true,0⟩++qZ4 (4-j) ⟨false,0⟩
theorem qMv (n:Nat) (h:0<n):uY (aD n)=(qZ4 n kZ).set 0 (ini 4):=by
 unfold uY aD
 rw [wBc,wBf]
 rfl
theorem qL3 (n:Nat) (h:0<n):zL (aD n)=(qZ4 n false).set 0 true:=by
 unfold zL aD
 rw [wBc,wBf]
 rfl
theorem qFm (j:Nat) (h:j≤4):(ini j).length=4:=by simp [ini]; omega
theorem qUz :∀j,j<4→(ini j).set j ⟨true,0⟩=ini (j+1):=by
 intro j h
 rcases j with _ | _ | _ | _ | j
 ·rfl
 ·rfl
 ·rfl
 ·rfl
 ·omega
theorem qRq (n:Nat) (v:KV):List.replicate n v++[v]=List.replicate (n+1) v:=by rw [List.replicate_succ']
theorem qI8:[[AV.bool false,AV.int IntKind.i64 0],[AV.bool false,AV.int IntKind.i64 0],[AV.bool false,AV.int IntKind.i64 0],[AV.bool false,AV.int IntKind.i64 0]]=wN kZ:=rfl
theorem pS {α:Type} (l:List α) (i:Nat) (d:α) (h:i<l.length):l.set i (l.getD i d)=l:=by
 rw [qZc,wAt h,Option.getD_some,wBd]
theorem qFr (S:KS) (n:Nat) (h:n<S.length) (hk:kat S n≠[]):(wL .own (uY S)).set n [.sl .own 2 (wN (kat S n))]=wL .own (uY S):=by
 have e:=pS (uY S) n [] (by rw [zC]; exact h)
 rw [aE S n h,if_neg hk] at e
 rw [dE,e]
theorem qEc (l:List Ins) (Kx:KS) (hl:l.length<2^47) (hK:wT l 3=true→sI l Kx):wA Try.prog num 289 [.sl .bw 5 (jG l)] [] (.sl .own 1 (wL .own (xW l Kx))):=by
 refine EN m289 Try.func15 ?_
 unfold m289
 simp only [go_sem,seval]
 repeat refine K ?_
 refine CA [] (kC l 3 (by omega) (by omega) (by omega)) ?_
 try simp only [go_sem,seval]
 repeat refine K ?_
 cases hb:wT l 3
 ·try simp only [go_sem,seval,hb]
  repeat refine K ?_
  refine ⟨_,Sub.refl _,wI ?_⟩; simp [-wAu]
  all_goals (try simp [xW,hb])
 have hK':=hK hb
 obtain ⟨hl1,hl2⟩:=lM hb
 have hn4:kZ.length=4:=rfl
 have hbr:(qZ4 l.length false).length=l.length:=by simp
 try simp only [go_sem,seval,hb]
 repeat refine K ?_
 refine wD (ι:=Nat) (fun i=>.mk [(0,.sl .bw 5 (jG l)),(3,.ns 10 0 i),(4,.ns 11 0 l.length),(5,.int .i64 i)] [(10,1,wL .own (qZ4 i kZ)),(11,1,vC (qZ4 l.length false))] 12) (fun i=>i≤l.length) (fun i=>l.length-i) 0 (by simp) ?_ ?_
 ·refine Sub.shape [] id (by omega) ?_ ?_ ?_ ?_<;>simp [qL]
  all_goals (exact .inl (qPr _ _))
 ·intro i hi
  simp only [go_sem,seval]
  refine qS (fun hc=>?_) (fun hc=>?_)
  ·simp only [decide_eq_true_eq] at hc
   have hi':i<l.length:=by omega
   simp only [go_sem,seval,qW (i:=i) (by omega)]
   repeat refine K ?_
   rw [qI8]
   refine qU (i+1) ?_ hi' (by omega)
   refine Sub.trans (Sub.foldLast 14 0 12 rfl (by simp [-gD]<;>omega) rfl (by decide) (by decide) rfl) ?_
   simp only [fS,fS3,qA,qC,hn4]
   refine Sub.shape [] (fun n=>if n=10 then 14 else n) (by omega) ?_ ?_ ?_ ?_<;>simp [qL]
   all_goals (rw [qMh,oS,qRq])
   all_goals (exact .inl rfl)
  ·simp only [decide_eq_false_iff_not] at hc
   have he:i=l.length:=by omega
   subst he
   simp only [go_sem,seval]
   repeat refine K ?_
   refine wD (ι:=Nat) (fun j=>.mk [(0,.sl .bw 5 (jG l)),(3,.ns 10 0 l.length),(4,.ns 11 0 l.length),(6,.int .i64 j)] [(10,1,wL .own ((qZ4 l.length kZ).set 0 (ini j))),(11,1,vC (qZ4 l.length false))] 12) (fun j=>j≤4) (fun j=>4-j) 0 (by simp) ?_ ?_
   ·have e0:(qZ4 l.length kZ).set 0 (ini 0)=qZ4 l.length kZ:=by
     have e:ini 0=kZ:=rfl
     rw [e]
     cases h:l.length with
     | zero=>rfl
     | succ n=>rfl
    refine Sub.shape [] id (by omega) ?_ ?_ ?_ ?_<;>simp [qL]
    all_goals (rw [e0])
    all_goals (exact .inl rfl)
   ·intro j hj
    have hil:=qFm j hj
    have hlen:((qZ4 l.length kZ).set 0 (ini j)).length=l.length:=by simp
    have hg0:(wL .own ((qZ4 l.length kZ).set 0 (ini j))).getD 0 []=[.sl .own 2 (wN (ini j))]:=by
     rw [bY _ _ _ (by omega),jY _ _ _ _ (by simp; omega)]
    simp only [go_sem,seval]
    refine qS (fun hc=>?_) (fun hc=>?_)
    ·simp only [decide_eq_true_eq] at hc
     have hj':j<4:=by omega
     have hgj:=jE (ini j) j (by omega)
     simp only [go_sem,seval,hg0,hgj,hlen,hil,qW (i:=j) (by omega),uE,qUz j hj']
     repeat refine K ?_
     refine qU (j+1) ?_ hj' (by omega)
     have hil2:=qFm (j+1) hj'
     refine Sub.trans (Sub.foldAt 10 0 12 rfl (by simp [-gD]<;>omega) rfl (by decide) (by decide) rfl (by simp<;>omega)) ?_
     simp only [fS,fS3,qA,qC,hil2]
     refine Sub.shape [] id (by omega) ?_ ?_ ?_ ?_<;>simp [qL]
     all_goals (rw [dE,List.set_set])
     all_goals (exact .inl rfl)
    ·simp only [decide_eq_false_iff_not] at hc
     have he:j=4:=by omega
     subst he
     have hgb:(vC (qZ4 l.length false)).getD 0 []=[.bool false]:=by
      rw [qD5 _ _ (by omega)]
      cases h:l.length with
      | zero=>omega
      | succ n=>rfl
     simp only [go_sem,seval,hlen,hgb,hbr]
     repeat refine K ?_
     refine wD (ι:=KS×List Int) (fun q=>.mk [(0,.sl .bw 5 (jG l)),(3,.ns 10 0 l.length),(4,.ns 11 0 l.length),(7,.ns 12 0 q.2.length)] [(10,1,wL .own (uY q.1)),(11,1,vC (zL q.1)),(12,1,wR q.2)] 13) (fun q=>qJe l q.1 q.2) (fun q=>2*mS q.1+q.2.length) (aD l.length,[0]) (qLx hb) ?_ ?_
     ·have e1:=qMv l.length (by omega)
      have e2:=qL3 l.length (by omega)
      refine Sub.shape [] id (by omega) ?_ ?_ ?_ ?_<;>simp [qL]
      all_goals (try rw [e1])
      all_goals (try rw [e2])
      all_goals (exact ⟨.inl rfl,.inl rfl,.inl rfl⟩)
     ·rintro ⟨T,td⟩ hO
      have hO':=hO
      simp only at hO'
      have hTl:=hO'.inv.len
      have hfl:=zC T
      have hbl:=kM T
      simp only [go_sem,seval]
      refine qS (fun hc=>?_) (fun hc=>?_)
      ·rcases td with _ | ⟨a,tl⟩
       ·simp at hc
       have hat:=hO'.tok a (by simp)
       obtain ⟨n,rfl⟩ :∃n:Nat,a=(n:Int):=⟨a.toNat,by omega⟩
       simp only [Int.toNat_natCast] at hat
       have hgi:=vB l n hat.2.1
       have hgk:(wL .own (uY T)).getD n []=[.sl .own 2 (wN (kat T n))]:=by
        rw [bY _ _ _ (by omega),aE T n (by omega),if_neg hat.2.2]
       have hwn:=(hO'.inv.wf n).resolve_left hat.2.2
       have hme:=hO'.me
       simp only [qZ5] at hme
       have hg7:(wR ((n:Int)::tl)).getD 0 []=[.int .i64 n]:=rfl
       simp only [go_sem,seval,hg7,hgi,hgk,hfl,hTl]
       repeat refine K ?_
       have hwo:=lR (l.getD n default) hwn
       have hk4:=hwn.1
       refine DA [] (qH1 (l.getD n default) (kat T n) (lL hb hat.2.1) hwn.1) ?_
       try simp only [go_sem,seval]
       repeat refine K ?_
       try simp only [go_sem,seval,hk4]
       repeat refine K ?_
       refine CA [] (qH0 l n hb hat.2.1) ?_
       try simp only [go_sem,seval]
       repeat refine K ?_
       try simp only [go_sem,seval,hk4]
       repeat refine K ?_
       have htk:wBg (tl.length+1-1) tl=tl:=by simp
       first | rw [htk] | rw [List.take_length] | skip
       have ho:bQ (l.getD n default) (kat T n)=bQ (l.getD n default) (kat T n):=rfl
       have hin:=pZ hb hat.2.1
       have hst:=qMo (out:=bQ (l.getD n default) (kat T n)) hO'
       have hen:=fun U td=>qSm (T:=U) (td:=td) hO' rfl
       have hsk:=fun U td j=>qP0 (S:=T) (tl:=tl) (T:=U) (td:=td) (j:=j) hb hat.2.1 hwo
       have hsp:=fun U td j=>qOz (S:=T) (tl:=tl) (T:=U) (td:=td) (j:=j) hb hat.2.1 hO'.inv hat.2.2 ho
       simp only [Int.toNat_natCast] at hst hen
       generalize bQ (l.getD n default) (kat T n)=out at hwo hst hen hsk hsp ho⊢
       have hol:=hwo.1
       have hot:wBg 4 out=out:=qZj (by omega)
       rw [hol]
       refine wD (ι:=Nat×KS×List Int) (fun q=>.mk [(0,.sl .bw 5 (jG l)),(3,.ns 10 0 l.length),(4,.ns 11 0 l.length),(7,.ns 12 0 q.2.2.length),(9,.ns 13 0 4),(10,.ns 14 0 (yJ l n).length),(11,.int .i64 q.1)] [(10,1,wL .own (uY q.2.1)),(11,1,vC (zL q.2.1)),(12,1,wR q.2.2),(13,2,wN out),(14,1,wR (yJ l n))] 15) (fun q=>q.1≤(yJ l n).length∧qGw l T n tl out q.1 q.2.1 q.2.2) (fun q=>(yJ l n).length-q.1) (0,T,tl) ⟨Nat.zero_le _,hst⟩ ?_ ?_
       ·refine Sub.trans (Sub.foldAt 10 0 15 rfl (by simp [-gD]<;>omega) rfl (by decide) (by decide) rfl (by simp<;>omega)) ?_
        simp only [fS,fS3,qA,qC,hk4]
        refine Sub.shape [] (fun m=>if m=12 then 14 else if m=13 then 16 else if m=14 then 17 else m) (by omega) ?_ ?_ ?_ ?_<;>simp [qL]
        all_goals (exact .inl (qFr T n (by omega) hat.2.2))
       ·rintro ⟨j,U,td⟩ ⟨hj,hI⟩
        simp only at hj hI
        have hUl:=hI.inv.len
        have hful:=zC U
        have hbul:=kM U
        simp only [go_sem,seval]
        refine qS (fun hc2=>?_) (fun hc2=>?_)
        ·simp only [decide_eq_true_eq] at hc2
         have hj':j<(yJ l n).length:=by omega
         have hgn:=qJ (yJ l n) j hj'
         have hmn:=hin _ (yL (yJ l n) j 0 hj')
         have hsk':=hsk U td j hI hj'
         have hsp':=hsp U td j hI hj'
         generalize (yJ l n).getD j 0=w at hgn hmn hsk' hsp'
         obtain ⟨m,rfl⟩ :∃m:Nat,w=(m:Int):=⟨w.toNat,by omega⟩
         simp only [Int.toNat_natCast] at hmn hsk' hsp'
         have hgb2:(vC (zL U)).getD m []=[.bool (decide (kat U m≠[]))]:=by rw [qD5 _ _ (by omega),qDa U m (by omega)]
         have hme2:=hI.me
         have hnl:(yJ l n).length≤2:=by
          unfold yJ
          simp only
          repeat' split
          all_goals simp
         by_cases hkm:kat U m=[]
         ·have hd:nJ U out m=true:=by unfold nJ; rw [decide_eq_true hkm]; rfl
          have hnx:=hsp' hd
          have hfu:=qIn (out:=out) (.inl hkm) hwo
          have hbu:=qGg (out:=out) (.inl hkm) hwo
          rw [if_pos hkm] at hfu
          rw [show decide (kat U m≠[])=false from decide_eq_false (fun h=>h hkm)] at hgb2
          have hgk2:(wL .own (uY U)).getD m []=[.sl .own 2 (wN (qZ4 4 kno))]:=by
           rw [bY _ _ _ (by omega),aE U m (by omega),if_pos hkm]
          simp only [go_sem,seval,hgn,hgb2,hgk2,hful,hbul,hUl,qG9,hol,hot,qW (i:=j) (by omega)]
          repeat refine K ?_
          refine qU (j+1,upd U out m,td++[(m:Int)]) ?_ ⟨hj',hnx⟩ (by simp only; omega)
          refine Sub.trans (Sub.foldAt 10 0 16 rfl (by simp [-gD]<;>omega) rfl (by decide) (by decide) rfl (by simp<;>omega)) ?_
          simp only [fS,fS3,qA,qC,hol,hot]
          simp only [hfu,hbu,qZq,wBe]
          refine Sub.shape [] (fun q=>if q=12 then 18 else q) (by omega) ?_ ?_ ?_ ?_<;>simp [qL]
          all_goals (rw [dE,qMl,iO])
          all_goals (exact ⟨.inl rfl,.inl rfl⟩)
         ·rw [show decide (kat U m≠[])=true from decide_eq_true hkm] at hgb2
          have hgk2:(wL .own (uY U)).getD m []=[.sl .own 2 (wN (kat U m))]:=by
           rw [bY _ _ _ (by omega),aE U m (by omega),if_neg hkm]
          have hwm:=(hI.inv.wf m).resolve_left hkm
          have hm4:=hwm.1
          have hmt:wBg 4 (kat U m)=kat U m:=qZj (by omega)
          have hsame:=qFr U m (by omega) hkm
          have hfu:=qIn (out:=out) (.inr hwm) hwo
          have hbu:=qGg (out:=out) (.inr hwm) hwo
          rw [qDh (by omega) hkm] at hbu
          rw [if_neg hkm] at hfu
          have hud:nJ U out m=xK (kat U m) out:=by unfold nJ; rw [decide_eq_false hkm]; rfl
          rw [hud] at hsk' hsp'
          have hmml:=uZ (kat U m) out
          rw [hm4] at hmml
          have hmmt:wBg 4 (jK (kat U m) out)=jK (kat U m) out:=qZj (by omega)
          generalize kat U m=v at hgk2 hm4 hmt hsame hfu hud hsk' hsp' hmml hmmt
          simp only [go_sem,seval,hgn,hgb2,hgk2,hful,hbul,hUl,hm4,hmt,hot]
          repeat refine K ?_
          refine CA [] (qLj v out (by omega) (by omega)) ?_
          try simp only [go_sem,seval]
          repeat refine K ?_
          cases hls:xK v out
          ·try simp only [go_sem,seval,hls,hm4,hmml,hmmt,hmt,hot,qW (i:=j) (by omega)]
           repeat refine K ?_
           refine qU (j+1,U,td) ?_ ⟨hj',hsk' hls⟩ (by simp only; omega)
           refine Sub.trans (Sub.foldAt 10 0 15 rfl (by simp [-gD]<;>omega) rfl (by decide) (by decide) rfl (by simp<;>omega)) ?_
           simp only [fS,fS3,qA,qC,hm4,hmt]
           simp only [hsame]
           refine Sub.shape [] id (by omega) ?_ ?_ ?_ ?_<;>simp [qL]
           all_goals trace_state
          ·have hgs :∀r,((wL .own (uY U)).set m r).getD m []=r:=fun r=>jY _ _ _ _ (by rw [uD]; omega)
           try simp only [go_sem,seval,hls,hm4,hmml,hmmt,hmt,hot,hgs,qW (i:=j) (by omega)]
           repeat refine K ?_
           refine qU (j+1,upd U out m,td++[(m:Int)]) ?_ ⟨hj',hsp' hls⟩ (by simp only; omega)
           refine Sub.trans (Sub.foldAt 10 0 16 rfl (by simp [-gD]<;>omega) rfl (by decide) (by decide) rfl (by simp<;>omega)) ?_
           simp only [fS,fS3,qA,qC,hmml,hmmt]
           simp only [hfu,hbu,qZq,wBe]
           refine Sub.shape [] (fun q=>if q=12 then 18 else q) (by omega) ?_ ?_ ?_ ?_<;>simp [qL]
           all_goals (rw [dE,qMl,iO])
           all_goals (exact ⟨.inl rfl,.inl rfl⟩)
        ·simp only [decide_eq_false_iff_not] at hc2
         have he:j=(yJ l n).length:=by omega
         subst he
         have hE:=hen U td hI
         have hm2:=hI.me2
         simp only [go_sem,seval,hful,hUl]
         repeat refine K ?_
         refine qU (U,td) ?_ hE (by simp only; omega)
         refine Sub.shape [] id (by omega) ?_ ?_ ?_ ?_<;>simp [qL]
      ·have he:td=[]:=by
        cases td with
        | nil=>rfl
        | cons a tl=>simp at hc
       subst he
       have hTK:=qF9 (qRu hO') hK'
       rw [hTK] at hfl hTl⊢
       have hKl:(uY Kx).length=l.length:=by rw [hfl,hTl]
       simp only [go_sem,seval]
       repeat refine K ?_
       refine ⟨_,Sub.refl _,wI ?_⟩; simp [-wAu]
       all_goals (try simp [xW,hb,hKl])
end Go.Sep
