/- Contracts of functions. -/
import Derived.Test.YtfecojefbnnknaaGreatRxx2
open Bool renaming and_eq_true → wBp, not_eq_false → wDd, not_eq_false' → wDb, not_eq_true → wDc, not_eq_true' → wDa
open List renaming drop_one → wD9, getD_eq_getElem?_getD → wBr, length_take → wBi, range → wDf, replicate → wBj, take_of_length_le → wBy, take_succ_eq_append_getElem → wDe
namespace Go.Sep
set_option maxHeartbeats 16000000
open Go.Proofs
set_option linter.unusedSimpArgs false
set_option linter.unusedVariables false
set_option maxRecDepth 100000
open Nat renaming reduceAdd → qA, reduceMul → qB, reduceEqDiff → qC, reduceBEq → qD
open Int renaming reduceToNat → qE, reduceEq → qF, reduceLT → qG, reduceLE → qH
open List renaming getD_eq_getElem?_getD → gD
def m24:MFn:=⟨41,[.cell 2 3 true,.t 3],kr [xb 1 0,xo 2 (.alloc [.nil,.nil,.nil]),xF 3] (kr [xo 7 (.build [.nil,.nil,.nil] []),xo 4 (.alloc [.nil,.nil,.nil]),xS 3 4 7] (.seq (kr [xm 8 2 1,xc1 9 48 (.t 8),xN 10 9] (kF 10 [xm 11 3 4,xS 3 2 11,xF 3])) (.seq (kr [xa 12 1 1,xl 13 12,xe 14 13,xI 15 0] (.blk 0 (.loop (kr [bT 16 .lss 15 14] (.seq (kX 16 0) (.seq (.blk 1 (.dreg (.take 0 (xa 17 0 4) (.take 1 (xl 18 17) (.only 2 [] (xo 19 (.mkS [xz] 8 (xi 4) (xi 4))) (.only 3 [] (xo 20 (.build [.int .i64 0,.nil,.int .i64 0] [(1,1,.t 19)])) (.only 4 [] (xo 21 (.mkSl [.int .i64 0,.nil,.int .i64 0] 1 [(0,.t 20)])) (.only 5 [1,0] (xA 22 3 40 18 21) (.only 6 [0,1] (xa 23 0 4) (.only 7 [0,1] (xS 1 23 22) (.done))))))))))) (xr [bI 24 .add 15 1,xv 15 24]))))))) (.seq (kr [xa 25 0 1,xl 26 25,xe 27 26,xI 28 0] (.blk 2 (.loop (kr [bT 29 .lss 28 27] (.seq (kX 29 2) (.seq (.blk 3 (kr [xD 30 1 26 28,xl 31 30,xv 6 31] (xr [xa 32 1 4,xl 33 32,xv 34 6,xo 35 (.build [.int .i64 0,.nil,.bool false] [(0,1,.t 34)]),xo 36 (.mkSl [.int .i64 0,.nil,.bool false] 1 [(0,.t 35)]),xA 37 3 40 33 36,xa 38 1 4,xS 1 38 37]))) (xr [bI 39 .add 28 1,xv 28 39]))))))) (kR [xm 40 3 4,xS 3 2 40,xT 3])))))⟩
def m41:MFn:=⟨98,[.t 6],kr [xb 3 0,xI 6 0] (.seq (kr [xv 12 2,xv 13 1,xk 14 13,xa 15 0 14,xl 16 15,xe 17 16,bI 18 .sub 17 1,xc3 19 59 (.t 12) (xi 0) (.t 18),xN 20 19] (kF 20 [xI 6 2])) (kr [xv 21 1,xk 22 21,xa 23 0 22,xl 24 23,xv 25 2,xD 26 3 24 25,xm 27 3 26,xo 7 (.alloc [.int .i64 0,.nil,.int .i64 0]),xS 3 7 27] (.seq (.dreg (.take 0 (xa 28 1 3) (.take 1 (xl 29 28) (.take 2 (xv 30 2) (.take 3 (xD 31 1 29 30) (.take 4 (xl 32 31) (.take 5 (xa 33 0 7) (.take 6 (xl 34 33) (.take 7 (xD 35 5 32 34) (.take 8 (xm 36 5 35) (.only 9 [] (xo 8 (.alloc [xz,xz,xz,xz,xz])) (.only 10 [0,1,2,3,4,5,6,7,8] (xS 5 8 36) (.done))))))))))))) (.seq (kr [xa 37 2 7,xl 38 37,bI 39 .neq 38 0,xv 40 39,za 41 0 8 40,zl 42 1 41 40,zI 43 .eql 42 10 40,zv 44 43 40,yv 45 1 44,xg 46 (.nilck (.t 45)) 44 true,ya 47 2 46 44,yl 48 1 47 44,ye 49 48 44,yI 50 .eql 49 4000 44,xg 51 (.pick (.t 44) (.t 50) (.c (.bool false))) 40 false,xQ 52 40 51] (kF 52 [xI 6 3])) (.seq (kr [xa 53 0 8,xl 54 53,bI 55 .neq 54 5,xv 56 55,ya 57 0 8 56,yl 58 1 57 56,yI 59 .neq 58 6 56,xP 60 56 59] (kF 60 [xI 6 0])) (.seq (.dreg (.take 0 (xv 61 1) (.take 1 (xk 62 61) (.take 2 (xa 63 1 62) (.take 3 (xl 64 63) (.take 4 (xa 65 4 8) (.take 5 (xl 66 65) (.take 6 (xD 67 3 64 66) (.take 7 (xm 68 3 67) (.only 8 [] (xo 9 (.alloc [.int .i64 0,.nil,.bool false])) (.only 9 [0,1,2,3,4,5,6,7] (xS 3 9 68) (.done)))))))))))) (kr [xa 69 0 8,xl 70 69,bI 71 .eql 70 5,xv 72 71,ya 73 1 9 72,yl 74 1 73 72,ye 75 74 72,ya 76 0 9 72,yl 77 1 76 72,xg 78 (.bin .eql (.t 75) (.t 77)) 72 true,xP 79 72 78,xv 10 79] (kr [xa 80 0 8,xl 81 80,bI 82 .eql 81 6,xv 83 82,ya 84 1 9 83,yl 85 1 84 83,ye 86 85 83,yI 87 .eql 86 0 83,xP 88 83 87,xv 11 88] (.seq (kr [xa 89 2 9,xl 90 89,xN 91 90,xv 92 91,yv 93 10 92,yv 94 93 92,zv 95 11 94,xg 96 (.pick (.t 94) (.c (.bool true)) (.t 95)) 92 true,xP 97 92 96] (kF 97 [xI 6 4])) (kR [xI 6 0]))))))))))⟩
def m49:MFn:=⟨49,[.cell 2 3 true],kr [xb 1 0,xo 2 (.alloc [.nil,.nil,.nil])] (kr [xa 8 2 1,xl 9 8,xc1 10 69 (.t 9),xo 11 (.build [.nil,.nil,.nil] [(2,1,.t 10)]),xo 3 (.alloc [.nil,.nil,.nil]),xS 3 3 11] (.seq (kr [xa 12 0 1,xl 13 12,xe 14 13,xI 15 0] (.blk 0 (.loop (kr [bT 16 .lss 15 14] (.seq (kX 16 0) (.seq (.blk 1 (kr [xD 17 3 13 15,xm 18 3 17,xo 5 (.alloc [.int .i64 0,.nil,.int .i64 0]),xS 3 5 18] (.dreg (.take 0 (xa 19 0 3) (.take 1 (xl 20 19) (.take 2 (xa 21 0 5) (.take 3 (xl 22 21) (.take 4 (xa 23 1 5) (.take 5 (xl 24 23) (.take 7 (xa 26 2 5) (.take 8 (xl 27 26) (.only 6 [5,4] (xc1 25 36 (.t 24)) (.only 9 [3,6,8,2,5,7,4] (xo 28 (.build [.int .i64 0,.nil,.int .i64 0] [(0,1,.t 22),(1,1,.t 25),(2,1,.t 27)])) (.only 10 [9,3,6,8,2,5,7,4] (xo 29 (.mkSl [.int .i64 0,.nil,.int .i64 0] 1 [(0,.t 28)])) (.only 11 [1,6,10,0,5,9,4,3,8,2,7] (xA 30 3 40 20 29) (.only 12 [0,1,2,3,4,5,7,8] (xa 31 0 3) (.only 13 [0,1,2,3,4,5,7,8] (xS 1 31 30) (.done)))))))))))))))))) (xr [bI 32 .add 15 1,xv 15 32]))))))) (.seq (kr [xa 33 1 1,xl 34 33,xe 35 34,xI 36 0] (.blk 2 (.loop (kr [bT 37 .lss 36 35] (.seq (kX 37 2) (.seq (.blk 3 (kr [xD 38 3 34 36,xm 39 3 38,xo 7 (.alloc [.int .i64 0,.nil,.bool false]),xS 3 7 39] (.dreg (.take 0 (xa 40 1 3) (.take 1 (xl 41 40) (.only 2 [] (xm 42 3 7) (.only 3 [] (xc1 43 70 (.t 42)) (.only 4 [] (xo 44 (.mkSl [.int .i64 0,.nil,.bool false] 1 [(0,.t 43)])) (.only 5 [1,0] (xA 45 3 40 41 44) (.only 6 [0,1] (xa 46 1 3) (.only 7 [0,1] (xS 1 46 45) (.done)))))))))))) (xr [bI 47 .add 36 1,xv 36 47]))))))) (kR [xm 48 3 3,xS 3 2 48]))))⟩
def m50:MFn:=⟨93,[.t 4],kr [xb 2 0,xb 3 1,xF 4] (.seq (kr [xm 9 2 2,xc1 10 48 (.t 9),xN 11 10,xv 12 11,za 13 0 3 12,zl 14 1 13 12,ze 15 14 12,za 16 1 2 12,zl 17 1 16 12,ze 18 17 12,xg 19 (.bin .neq (.t 15) (.t 18)) 12 false,xQ 20 12 19,xv 21 20,za 22 1 3 21,zl 23 1 22 21,ze 24 23 21,za 25 0 2 21,zl 26 1 25 21,ze 27 26 21,xg 28 (.bin .neq (.t 24) (.t 27)) 21 false,xQ 29 21 28,xv 30 29,za 31 2 3 30,zl 32 1 31 30,za 33 0 3 30,zl 34 1 33 30,ze 35 34 30,xg 36 (.call 71 [false,false] [.t 32,.t 35]) 30 false,zN 37 36 30,xQ 38 30 37] (kF 38 [xF 4])) (.seq (kr [xa 39 0 3,xl 40 39,xe 41 40,xI 42 0] (.blk 0 (.loop (kr [bT 43 .lss 42 41] (.seq (kX 43 0) (.seq (.blk 1 (kr [xv 44 42,xD 45 3 40 42,xm 46 3 45,xo 6 (.alloc [.int .i64 0,.nil,.int .i64 0]),xv 5 44,xS 3 6 46] (.seq (.dreg (.only 0 [] (xa 47 1 6) (.only 1 [] (xl 48 47) (.only 2 [] (xe 49 48) (.only 3 [] (bI 50 .neq 49 4) (.only 4 [] (xv 51 50) (.only 5 [] (za 52 2 6 51) (.only 6 [] (zl 53 1 52 51) (.only 7 [] (xg 54 (.call 59 [false,false,false] [.t 53,xi 0,xi 2]) 51 false) (.only 8 [] (zN 55 54 51) (.only 9 [] (xQ 56 51 55) (.only 10 [] (xv 57 56) (.take 11 (za 58 0 6 57) (.take 12 (zl 59 1 58 57) (.take 13 (za 60 1 2 57) (.take 14 (zl 61 1 60 57) (.only 15 [] (zv 62 5 57) (.only 16 [14,13] (xg 63 (.iad 1 (.t 61) (.t 62)) 57 false) (.only 17 [16,14,13] (zl 64 1 63 57) (.only 18 [17,16,14,13] (ze 65 64 57) (.only 19 [18,17,16,14,13] (zI 66 .sub 65 1 57) (.only 20 [12,19,11,18,17,16,14,13] (xg 67 (.call 59 [false,false,false] [.t 59,xi 0,.t 66]) 57 false) (.only 21 [20,12,19,11,18,17,16,14,13] (zN 68 67 57) (.only 22 [21,20,12,19,11,18,17,16,14,13] (xQ 69 57 68) (.done))))))))))))))))))))))))) (kF 69 [xF 4])))) (xr [bI 70 .add 42 1,xv 42 70]))))))) (.seq (kr [xa 71 1 3,xl 72 71,xe 73 72,xI 74 0] (.blk 2 (.loop (kr [bT 75 .lss 74 73] (.seq (kX 75 2) (.seq (.blk 3 (kr [xv 76 74,xD 77 3 72 74,xm 78 3 77,xo 8 (.alloc [.int .i64 0,.nil,.bool false]),xv 7 76,xS 3 8 78] (.seq (.dreg (.only 0 [] (xm 79 3 8) (.only 1 [] (xc1 80 72 (.t 79)) (.only 2 [] (xN 81 80) (.only 3 [] (xv 82 81) (.take 4 (za 83 0 8 82) (.take 5 (zl 84 1 83 82) (.take 6 (za 85 0 2 82) (.take 7 (zl 86 1 85 82) (.only 8 [] (zv 87 7 82) (.only 9 [7,6] (xg 88 (.iad 1 (.t 86) (.t 87)) 82 false) (.only 10 [9,7,6] (zl 89 1 88 82) (.only 11 [5,10,4,9,7,6] (xg 90 (.bin .neq (.t 84) (.t 89)) 82 false) (.only 12 [11,5,10,4,9,7,6] (xQ 91 82 90) (.done))))))))))))))) (kF 91 [xF 4])))) (xr [bI 92 .add 74 1,xv 74 92]))))))) (kR [xT 4]))))⟩
def m71:MFn:=⟨23,[.t 4],kr [xF 4] (.seq (kr [xv 7 0,xe 8 7,xI 9 0] (.blk 0 (.loop (kr [bT 10 .lss 9 8] (.seq (kX 10 0) (.seq (.blk 1 (kr [xD 11 2 7 9,xm 12 2 11,xo 6 (.alloc [xz,xz]),xS 2 6 12] (kr [xa 13 0 6,xl 14 13,xv 15 1,bI 16 .sub 15 1,xc3 17 59 (.t 14) (xi 0) (.t 16),xN 18 17] (kF 18 [xF 4])))) (xr [bI 19 .add 9 1,xv 9 19]))))))) (kR [xv 20 0,xe 21 20,bI 22 .leq 21 4000,xv 4 22]))⟩
def zT:yP:=⟨0,[0,0,0,0],0⟩
def yJ (p:wQ):wA×Bool :=
 if yR p then (⟨wBj p.bods.length zT,p.caps.map fun c=>⟨c,[],false⟩,[]⟩,true) else (⟨[],[],[]⟩,false)
theorem qVn {α:Type} (i:Nat) (x:α):wBj (i+1) x=wBj i x++[x]:=List.replicate_succ'
theorem lG (p:wQ) (h1:p.caps.length<2^40) (h2:p.bods.length<2^40) (h3 :∀b∈p.bods,b.length<2^47):qY Tryz.prog num 24 [.agg (jY .bw p)] [] (.tup [.agg (uD .own (yJ p).1),.bool (yJ p).2]):=by
 refine EN m24 Tryz.func24 ?_
 unfold m24
 simp only [go_sem,seval]
 refine CA [] (eN p (by omega) (by omega) h3) ?_
 try simp only [go_sem,seval]
 cases hok:yR p
 ·simp only [go_sem,seval,hok]
  refine ⟨_,Sub.refl _,qHb (by simp) ?_⟩; simp [-wD9]
  simp [yJ,hok,yH,wH,yY]
 ·simp only [go_sem,seval,hok]
  refine qZ (ι:=Nat) (fun i=>.mk [(1,.ptr 10 0 0),(2,.ptr 11 0 0),(4,.ptr 12 0 0),(14,.int .i64 p.bods.length),(15,.int .i64 i)] [(10,2,[jY .bw p]),(11,3,[[.nil,.nil,.nil]]),(12,3,[[.sl .own 3 (yH .own (wBj i zT)),.nil,.nil]])] 13) (fun i=>i≤p.bods.length) (fun i=>p.bods.length-i) 0 (by simp) ?_ ?_
  ·refine Sub.shape [] id (by omega) ?_ ?_ ?_ ?_<;>simp [qK]
  ·rintro i hi
   simp only [go_sem,seval]
   refine qP (fun hc=>?_) (fun hc=>?_)
   ·simp only [decide_eq_true_eq] at hc
    have hl':i<p.bods.length:=by omega
    simp only [go_sem,seval,qN (i:=i) (by omega),List.length_replicate]
    repeat refine K ?_
    have he:yH .own (wBj i zT)++[[AV.int .i64 0,.sl .own 1 [[.int .i64 0],[.int .i64 0],[.int .i64 0],[.int .i64 0]],.int .i64 0]]=yH .own (wBj (i+1) zT):=by
     rw [qVn,←fF]
     rfl
    refine qM (i+1) ?_ hl' (by omega)
    refine Sub.trans (Sub.foldLast 16 1 14 rfl (by simp [-gD]<;>omega) rfl (by decide) (by decide) rfl) ?_
    simp only [fS,qA,qC,he]
    refine Sub.trans (Sub.fold1 12 0 16 rfl (by simp [-gD]<;>omega) rfl (by decide) (by decide) rfl) ?_
    simp only [fS,qA,qC]
    refine Sub.shape [] id (by omega) ?_ ?_ ?_ ?_<;>simp [qK]
   ·simp only [decide_eq_false_iff_not] at hc
    have hie:i=p.bods.length:=by omega
    subst hie
    simp only [go_sem,seval]
    refine qZ (ι:=Nat) (fun i=>.mk [(2,.ptr 11 0 0),(4,.ptr 12 0 0),(26,.sl .bw 1 (wE p.caps)),(27,.int .i64 p.caps.length),(28,.int .i64 i)] [(11,3,[[.nil,.nil,.nil]]),(12,3,[[.sl .own 3 (yH .own (wBj p.bods.length zT)),.sl .own 3 (wH .own ((p.caps.take i).map fun c=>⟨c,[],false⟩)),.nil]])] 13) (fun i=>i≤p.caps.length) (fun i=>p.caps.length-i) 0 (by simp) ?_ ?_
    ·refine Sub.shape [] id (by omega) ?_ ?_ ?_ ?_<;>simp [qK]
    ·rintro i hi
     simp only [go_sem,seval]
     refine qP (fun hc=>?_) (fun hc=>?_)
     ·simp only [decide_eq_true_eq] at hc
      have hl':i<p.caps.length:=by omega
      have hlt:(p.caps.take i).length=i:=by simp; omega
      simp only [go_sem,seval,qN (i:=i) (by omega),qI p.caps i hl',List.length_map,hlt]
      repeat refine K ?_
      have he:wH .own ((p.caps.take i).map fun c=>⟨c,[],false⟩)++[[AV.int .i64 (p.caps.getD i 0),.sl .own 1 [],.bool false]]=wH .own ((p.caps.take (i+1)).map fun c=>⟨c,[],false⟩):=by
       rw [wDe hl',List.map_append,←mU]
       simp [wH,wBr,hl',qAl]
      refine qM (i+1) ?_ hl' (by omega)
      refine Sub.trans (Sub.nilLast 15 (r':=[.int .i64 (p.caps.getD i 0),.sl .own 1 [],.bool false]) rfl (by simp) (by simp [wA6,yW,jK,bnd])) ?_
      simp only [put,Nat.reduceEqDiff,if_true,if_false]
      rw [he]
      refine Sub.trans (Sub.fold1 12 1 15 rfl (by simp [-gD]<;>omega) rfl (by decide) (by decide) rfl) ?_
      simp only [fS,qA,qC,List.length_map,wBi,Nat.min_eq_left (show i+1≤p.caps.length from hl')]
      refine Sub.shape [] id (by omega) ?_ ?_ ?_ ?_<;>simp [qK]
     ·simp only [decide_eq_false_iff_not] at hc
      have hie:p.caps.take i=p.caps:=wBy (by omega)
      simp only [go_sem,seval,hie]
      refine ⟨_,Sub.refl _,qHb (by simp) ?_⟩; simp [-wD9]
      simp [yJ,hok]
structure qK1 (s:wA):Prop where
 ths:s.ths.length<2^40
 chs:s.chs.length<2^40
 tr:s.tr.length<2^40
 regs :∀t∈s.ths,t.regs.length<2^40
 list :∀c∈s.chs,c.list.length<2^40
theorem qKh (l:List yP) (i:Nat) (h:i<l.length):yH .own (l.take i)++[[AV.int .i64 (l.getD i default).at_,.sl .own 1 (wE (l.getD i default).regs),.int .i64 (l.getD i default).st]]=yH .own (l.take (i+1)):=by
 rw [wDe h,←fF]
 simp [yH,wBr,h]
theorem qQq (l:List jZ) (i:Nat) (h:i<l.length):wH .own (l.take i)++[[AV.int .i64 (l.getD i default).cap,.sl .own 1 (wE (l.getD i default).list),.bool (l.getD i default).closed]]=wH .own (l.take (i+1)):=by
 rw [wDe h,←mU]
 simp [wH,wBr,h]
theorem yB {α:Type} (l:List α) (i:Nat) (d:α) (h:i<l.length):l.getD i d∈l:=by simp [List.getD_eq_getElem?_getD,h]
theorem qHx (s:wA) (hs:qK1 s):qY Tryz.prog num 49 [.agg (uD .bw s)] [] (.agg (uD .own s)):=by
 obtain ⟨hs1,hs2,hs3,hs4,hs5⟩:=hs
 refine EN m49 Tryz.func66 ?_
 unfold m49
 simp only [go_sem,seval]
 refine CA [] (qLl s.tr (by omega)) ?_
 try simp only [go_sem,seval]
 refine qZ (ι:=Nat) (fun i=>.mk [(1,.ptr 10 0 0),(2,.ptr 11 0 0),(3,.ptr 13 0 0),(13,.sl .bw 3 (yH .bw s.ths)),(14,.int .i64 s.ths.length),(15,.int .i64 i)] [(10,3,[uD .bw s]),(11,3,[[.nil,.nil,.nil]]),(13,3,[[.sl .own 3 (yH .own (s.ths.take i)),.nil,.sl .own 2 (yY s.tr)]])] 14) (fun i=>i≤s.ths.length) (fun i=>s.ths.length-i) 0 (by simp) ?_ ?_
 ·refine Sub.trans (Sub.fold1 13 2 12 rfl (by simp [-gD]<;>omega) rfl (by decide) (by decide) rfl) ?_
  simp only [fS,qA,qC]
  refine Sub.shape [] id (by omega) ?_ ?_ ?_ ?_<;>simp [qK]
 ·rintro i hi
  simp only [go_sem,seval]
  refine qP (fun hc=>?_) (fun hc=>?_)
  ·simp only [decide_eq_true_eq] at hc
   have hl':i<s.ths.length:=by omega
   have hlt:(s.ths.take i).length=i:=by simp; omega
   have hr:=hs4 _ (yB s.ths i default hl')
   simp only [go_sem,seval,qN (i:=i) (by omega),qV .bw s.ths i hl',hlt]
   repeat refine K ?_
   refine DA [] (cD (s.ths.getD i default).regs (by omega)) ?_
   try simp only [go_sem,seval]
   repeat refine K ?_
   simp only [go_sem,seval,qN (i:=i) (by omega),hlt]
   refine qM (i+1) ?_ hl' (by omega)
   refine Sub.trans (Sub.foldLast 18 1 16 rfl (by simp [-gD]<;>omega) rfl (by decide) (by decide) rfl) ?_
   simp only [fS,qA,qC,qKh s.ths i hl']
   refine Sub.trans (Sub.fold1 13 0 18 rfl (by simp [-gD]<;>omega) rfl (by decide) (by decide) rfl) ?_
   simp only [fS,qA,qC,wBi,Nat.min_eq_left (show i+1≤s.ths.length from hl')]
   refine Sub.shape [] id (by omega) ?_ ?_ ?_ ?_<;>simp [qK]
  ·simp only [decide_eq_false_iff_not] at hc
   have hie:s.ths.take i=s.ths:=wBy (by omega)
   simp only [go_sem,seval,hie]
   refine qZ (ι:=Nat) (fun i=>.mk [(2,.ptr 11 0 0),(3,.ptr 13 0 0),(34,.sl .bw 3 (wH .bw s.chs)),(35,.int .i64 s.chs.length),(36,.int .i64 i)] [(11,3,[[.nil,.nil,.nil]]),(13,3,[[.sl .own 3 (yH .own s.ths),.sl .own 3 (wH .own (s.chs.take i)),.sl .own 2 (yY s.tr)]])] 14) (fun i=>i≤s.chs.length) (fun i=>s.chs.length-i) 0 (by simp) ?_ ?_
   ·refine Sub.shape [] id (by omega) ?_ ?_ ?_ ?_<;>simp [qK]
   ·rintro i hi
    simp only [go_sem,seval]
    refine qP (fun hc=>?_) (fun hc=>?_)
    ·simp only [decide_eq_true_eq] at hc
     have hl':i<s.chs.length:=by omega
     have hlt:(s.chs.take i).length=i:=by simp; omega
     have hr:=hs5 _ (yB s.chs i default hl')
     simp only [go_sem,seval,qN (i:=i) (by omega),bM .bw s.chs i hl',hlt]
     repeat refine K ?_
     refine DA [] (iO (s.chs.getD i default) (by omega)) ?_
     try simp only [go_sem,seval]
     repeat refine K ?_
     simp only [go_sem,seval,qN (i:=i) (by omega),hlt]
     refine qM (i+1) ?_ hl' (by omega)
     refine Sub.trans (Sub.foldLast 18 1 16 rfl (by simp [-gD]<;>omega) rfl (by decide) (by decide) rfl) ?_
     simp only [fS,qA,qC,qQq s.chs i hl']
     refine Sub.trans (Sub.fold1 13 1 18 rfl (by simp [-gD]<;>omega) rfl (by decide) (by decide) rfl) ?_
     simp only [fS,qA,qC,wBi,Nat.min_eq_left (show i+1≤s.chs.length from hl')]
     refine Sub.shape [] id (by omega) ?_ ?_ ?_ ?_<;>simp [qK]
    ·simp only [decide_eq_false_iff_not] at hc
     have hie:s.chs.take i=s.chs:=wBy (by omega)
     simp only [go_sem,seval,hie]
     refine ⟨_,Sub.refl _,qU ?_⟩; simp [-wD9]
def zV (l:List bP) (n:Int):Bool:=l.all (fun x=>qW x.who 0 (n-1))&&decide ((l.length:Int)≤4000)
theorem qPu (l:List bP) (n:Int) (hl:l.length<2^47) (h0:0≤n) (h1:n<2^62):qY Tryz.prog num 71 [.sl .bw 2 (yY l),.int .i64 n] [] (.bool (zV l n)):=by
 refine EN m71 Tryz.func106 ?_
 unfold m71
 have hw1:IntKind.i64.wrap (n-1)=n-1:=yL (by omega) (by omega)
 simp only [go_sem,seval]
 refine qZ (ι:=Nat) (fun i=>.mk [(0,.sl .bw 2 (yY l)),(1,.int .i64 n),(7,.sl .bw 2 (yY l)),(8,.int .i64 l.length),(9,.int .i64 i)] [] 10) (fun i=>i≤l.length∧(l.take i).all (fun x=>qW x.who 0 (n-1))=true) (fun i=>l.length-i) 0 (by simp) ?_ ?_
 ·refine Sub.shape [] id (by omega) ?_ ?_ ?_ ?_<;>simp [qK]
 ·rintro i ⟨hi,hp⟩
  simp only [go_sem,seval]
  refine qP (fun hc=>?_) (fun hc=>?_)
  ·simp only [decide_eq_true_eq] at hc
   have hl':i<l.length:=by omega
   simp only [go_sem,seval,sR l i hl',hw1]
   repeat refine K ?_
   refine CA [] (bG (l.getD i default).who 0 (n-1)) ?_
   try simp only [go_sem,seval]
   cases hw:qW (l.getD i default).who 0 (n-1)
   ·simp only [go_sem,seval,hw]
    refine fz ?_; simp [yQ,wJ,wK,wR,-wD9]
    simp only [zV]
    rw [hP (p:=fun x:bP=>qW x.who 0 (n-1)) hl' hw]
    rfl
   ·simp only [go_sem,seval,hw,qN (i:=i) (by omega)]
    refine qM (i+1) (Sub.shape [] id (by omega) ?_ ?_ ?_ ?_) ?_ ?_
    any_goals (first | omega | (simp [qK]; done))
    exact ⟨hl',hX (p:=fun x:bP=>qW x.who 0 (n-1)) hp hl' hw⟩
  ·simp only [decide_eq_false_iff_not] at hc
   simp only [go_sem,seval]
   refine fz ?_; simp [yQ,wJ,wK,wR,-wD9]
   simp only [zV,mX hp hc]
   simp
def uC (b:List Ins) (t:yP):Bool:=decide ((t.regs.length:Int)=4)&&qW t.st 0 2&&qW t.at_ 0 (b.length-1)
def wG (p:wQ) (s:wA):Bool :=
 yR p&&decide (s.ths.length=p.bods.length)&&decide (s.chs.length=p.caps.length)&&zV s.tr s.ths.length &&
 (wDf s.ths.length).all (fun i=>uC (p.bods.getD i []) (s.ths.getD i default)) &&
 (wDf s.chs.length).all (fun i=>jT (s.chs.getD i default)&&decide ((s.chs.getD i default).cap=p.caps.getD i 0))
theorem qF9 {P:Nat→Bool} {i:Nat} (h:(wDf i).all P=true) (hp:P i=true):(wDf (i+1)).all P=true:=by
 rw [List.range_succ,List.all_append,h]
 simp [hp]
theorem fJ {P:Nat→Bool} {i n:Nat} (hi:i<n) (hp:P i=false):(wDf n).all P=false:=by
 cases h:(wDf n).all P with
 | false=>rfl
 | true=>rw [List.all_eq_true.1 h i (List.mem_range.2 hi)] at hp; exact absurd hp (by decide)
theorem qIn {P:Nat→Bool} {i n:Nat} (h:(wDf i).all P=true) (hi :¬(i:Int)<n) (hle:i≤n):(wDf n).all P=true:=by
 have:i=n:=by omega
 rw [←this]
 exact h
structure aW (p:wQ):Prop where
 caps:p.caps.length<2^40
 bods:p.bods.length<2^40
 body :∀b∈p.bods,b.length<2^40
theorem aW.body' {p:wQ} (h:aW p) :∀b∈p.bods,b.length<2^47:=fun b hb=>Nat.lt_trans (h.body b hb) (by decide)
theorem qDr (p:wQ) (s:wA) (hp:aW p) (hs:qK1 s):qY Tryz.prog num 50 [.agg (jY .bw p),.agg (uD .bw s)] [] (.bool (wG p s)):=by
 have hb:=hp.body'
 obtain ⟨hp1,hp2,hp3⟩:=hp
 obtain ⟨hs1,hs2,hs3,hs4,hs5⟩:=hs
 refine EN m50 Tryz.func67 ?_
 unfold m50
 simp only [go_sem,seval]
 refine CA [] (eN p (by omega) (by omega) hb) ?_
 try simp only [go_sem,seval]
 cases h:yR p
 ·simp only [go_sem,seval,h]
  refine fz ?_; simp [yQ,wJ,wK,wR,-wD9]
  simp [wG,h]
 ·simp only [go_sem,seval,h]
  by_cases h1:(s.ths.length:Int)=p.bods.length
  case neg =>
   simp only [go_sem,seval,h1]
   refine fz ?_; simp [yQ,wJ,wK,wR,-wD9]
   have :¬s.ths.length=p.bods.length:=by omega
   simp [wG,this]
  simp only [go_sem,seval,h1]
  by_cases h2:(s.chs.length:Int)=p.caps.length
  case neg =>
   simp only [go_sem,seval,h2]
   refine fz ?_; simp [yQ,wJ,wK,wR,-wD9]
   have :¬s.chs.length=p.caps.length:=by omega
   simp [wG,this]
  simp only [go_sem,seval,h2]
  refine CA [] (qPu s.tr s.ths.length (by omega) (by omega) (by omega)) ?_
  try simp only [go_sem,seval]
  cases h3:zV s.tr s.ths.length
  ·simp only [go_sem,seval,h3]
   refine fz ?_; simp [yQ,wJ,wK,wR,-wD9]
   simp [wG,h3]
  simp only [go_sem,seval,h3]
  refine qZ (ι:=Nat) (fun i=>.mk [(2,.ptr 10 0 0),(3,.ptr 11 0 0),(40,.sl .bw 3 (yH .bw s.ths)),(41,.int .i64 s.ths.length),(42,.int .i64 i)] [(10,2,[jY .bw p]),(11,3,[uD .bw s])] 12) (fun i=>i≤s.ths.length∧(wDf i).all (fun i=>uC (p.bods.getD i []) (s.ths.getD i default))=true) (fun i=>s.ths.length-i) 0 (by simp) ?_ ?_
  ·refine Sub.shape [] id (by omega) ?_ ?_ ?_ ?_<;>simp [qK]
  ·rintro i ⟨hi,hpr⟩
   simp only [go_sem,seval]
   refine qP (fun hc=>?_) (fun hc=>?_)
   ·simp only [decide_eq_true_eq] at hc
    have hl':i<s.ths.length:=by omega
    have hlb:i<p.bods.length:=by omega
    have hbl:=hp3 _ (yB p.bods i [] hlb)
    have hw1:IntKind.i64.wrap (((p.bods.getD i []).length:Int)-1)=((p.bods.getD i []).length:Int)-1:=yL (by omega) (by omega)
    simp only [go_sem,seval,qV .bw s.ths i hl']
    repeat refine K ?_
    by_cases h4:((s.ths.getD i default).regs.length:Int)=4
    case neg =>
     simp only [go_sem,seval,h4]
     refine fz ?_; simp [yQ,wJ,wK,wR,-wD9]
     simp only [wG]
     rw [fJ (P:=fun i=>uC (p.bods.getD i []) (s.ths.getD i default)) hl' (by simp only [uC,h4]; rfl)]
     simp
    simp only [go_sem,seval,h4]
    refine DA [] (bG (s.ths.getD i default).st 0 2) ?_
    try simp only [go_sem,seval]
    cases h5:qW (s.ths.getD i default).st 0 2
    ·simp only [go_sem,seval,h5]
     refine fz ?_; simp [yQ,wJ,wK,wR,-wD9]
     simp only [wG]
     rw [fJ (P:=fun i=>uC (p.bods.getD i []) (s.ths.getD i default)) hl' (by simp only [uC,h4,h5]; rfl)]
     simp
    simp only [go_sem,seval,h5,wB .bw p.bods i hlb,hw1]
    repeat refine K ?_
    refine DA [] (bG (s.ths.getD i default).at_ 0 ((p.bods.getD i []).length-1)) ?_
    try simp only [go_sem,seval]
    cases h6:qW (s.ths.getD i default).at_ 0 ((p.bods.getD i []).length-1)
    ·simp only [go_sem,seval,h6]
     refine fz ?_; simp [yQ,wJ,wK,wR,-wD9]
     simp only [wG]
     rw [fJ (P:=fun i=>uC (p.bods.getD i []) (s.ths.getD i default)) hl' (by simp only [uC,h4,h5,h6]; rfl)]
     simp
    simp only [go_sem,seval,h6,qN (i:=i) (by omega)]
    refine qM (i+1) (Sub.shape [] id (by omega) ?_ ?_ ?_ ?_) ?_ ?_
    any_goals (first | omega | (simp [qK]; done))
    exact ⟨hl',qF9 hpr (by simp only [uC,h4,h5,h6]; rfl)⟩
   ·simp only [decide_eq_false_iff_not] at hc
    have he1:=qIn hpr hc hi
    simp only [go_sem,seval]
    refine qZ (ι:=Nat) (fun i=>.mk [(2,.ptr 10 0 0),(3,.ptr 11 0 0),(72,.sl .bw 3 (wH .bw s.chs)),(73,.int .i64 s.chs.length),(74,.int .i64 i)] [(10,2,[jY .bw p]),(11,3,[uD .bw s])] 12) (fun i=>i≤s.chs.length∧(wDf i).all (fun i=>jT (s.chs.getD i default)&&decide ((s.chs.getD i default).cap=p.caps.getD i 0))=true) (fun i=>s.chs.length-i) 0 (by simp) ?_ ?_
    ·refine Sub.shape [] id (by omega) ?_ ?_ ?_ ?_<;>simp [qK]
    ·rintro i ⟨hi,hpr⟩
     simp only [go_sem,seval]
     refine qP (fun hc=>?_) (fun hc=>?_)
     ·simp only [decide_eq_true_eq] at hc
      have hl':i<s.chs.length:=by omega
      have hlb:i<p.caps.length:=by omega
      simp only [go_sem,seval,bM .bw s.chs i hl']
      repeat refine K ?_
      refine DA [] (eO (s.chs.getD i default)) ?_
      try simp only [go_sem,seval]
      cases h5:jT (s.chs.getD i default)
      ·simp only [go_sem,seval,h5]
       refine fz ?_; simp [yQ,wJ,wK,wR,-wD9]
       simp only [wG]
       rw [fJ (P:=fun i=>jT (s.chs.getD i default)&&decide ((s.chs.getD i default).cap=p.caps.getD i 0)) hl' (by simp only [h5]; rfl)]
       simp
      simp only [go_sem,seval,h5,qI p.caps i hlb]
      repeat refine K ?_
      by_cases h6:(s.chs.getD i default).cap=p.caps.getD i 0
      case neg =>
       simp only [go_sem,seval,h6]
       refine fz ?_; simp [yQ,wJ,wK,wR,-wD9]
       simp only [wG]
       rw [fJ (P:=fun i=>jT (s.chs.getD i default)&&decide ((s.chs.getD i default).cap=p.caps.getD i 0)) hl' (by simp only [h5,h6]; rfl)]
       simp
      simp only [go_sem,seval,h6,qN (i:=i) (by omega)]
      refine qM (i+1) (Sub.shape [] id (by omega) ?_ ?_ ?_ ?_) ?_ ?_
      any_goals (first | omega | (simp [qK]; done))
      exact ⟨hl',qF9 hpr (by simp only [h5,h6]; rfl)⟩
     ·simp only [decide_eq_false_iff_not] at hc
      have he2:=qIn hpr hc hi
      simp only [go_sem,seval]
      refine fz ?_; simp [yQ,wJ,wK,wR,-wD9]
      have e1:s.ths.length=p.bods.length:=by omega
      have e2:s.chs.length=p.caps.length:=by omega
      simp only [wG]
      rw [he1,he2,h,h3]
      simp [e1,e2]
def ins (p:wQ) (s:wA) (i:Nat):Ins:=(p.bods.getD i []).getD (s.ths.getD i default).at_.toNat default
structure At (p:wQ) (s:wA) (i:Nat):Prop where
 hi:i<s.ths.length
 hb:i<p.bods.length
 regs:(s.ths.getD i default).regs.length=4
 at0:0≤(s.ths.getD i default).at_
 at1:(s.ths.getD i default).at_.toNat<(p.bods.getD i []).length
 len:(p.bods.getD i []).length≤24
 r0:0≤(ins p s i).r
 r1:(ins p s i).r.toNat<4
 a0:0≤(ins p s i).a
 a1:(ins p s i).a.toNat<4
 b0:0≤(ins p s i).b
 b1:(ins p s i).b.toNat<4
 ch:5≤(ins p s i).op→(ins p s i).op≤9→0≤(ins p s i).n∧(ins p s i).n.toNat<s.chs.length
 jm:(ins p s i).op=11∨(ins p s i).op=12→0≤(ins p s i).n∧(ins p s i).n.toNat<(p.bods.getD i []).length
 op:1≤(ins p s i).op∧(ins p s i).op≤13
theorem qG1 {x:Ins} {pl ch:Int} (h:jJ x pl ch=true) (h5:5≤x.op) (h9:x.op≤9):0≤x.n∧x.n<ch:=by
 rw [←rE] at h
 simp only [oY,wBp] at h
 have h2:=h.2
 rw [if_neg (by omega),if_neg (by omega)] at h2
 split at h2
 ·simp at h2
 ·simp only [Bool.or_eq_true,wDa,qL] at h2
  rcases h2 with h2 | h2
  ·rw [qBa] at h2
   simp at h2
   omega
  ·omega
theorem qO2 {x:Ins} {pl ch:Int} (h:jJ x pl ch=true) (h5:x.op=11∨x.op=12):0≤x.n∧x.n<pl:=by
 rw [←rE] at h
 simp only [oY,wBp] at h
 have h2:=h.2
 rw [if_neg (by omega),if_pos h5,qL] at h2
 omega
theorem oX {x:Ins} {pl ch:Int} (h:jJ x pl ch=true):qW x.op 1 13=true∧qW x.r 0 3=true∧qW x.a 0 3=true∧qW x.b 0 3=true:=by
 rw [←rE] at h
 simp only [oY,wBp] at h
 exact ⟨h.1.1.1.1.1.2,h.1.1.1.2,h.1.1.2,h.1.2⟩
theorem qB4 {p:wQ} {s:wA} (h:wG p s=true) {i:Nat} (hi:i<s.ths.length):At p s i:=by
 simp only [wG,wBp,decide_eq_true_eq] at h
 obtain ⟨⟨⟨⟨⟨h1,h2⟩,h3⟩,_⟩,h5⟩,_⟩:=h
 have ht:=List.all_eq_true.1 h5 i (List.mem_range.2 hi)
 simp only [uC,wBp,decide_eq_true_eq,qL] at ht
 have hb:i<p.bods.length:=by omega
 simp only [yR,wBp] at h1
 have hbody:=List.all_eq_true.1 h1.1.1.1 _ (yB p.bods i [] hb)
 simp only [wF,wBp,qL] at hbody
 have hat:(s.ths.getD i default).at_.toNat<(p.bods.getD i []).length:=by omega
 have hx:jJ (ins p s i) _ _=true:=List.all_eq_true.1 hbody.1.2 _ (yB (p.bods.getD i []) _ default hat)
 obtain ⟨o1,o2,o3,o4⟩:=oX hx
 rw [qL] at o1 o2 o3 o4
 exact {
  hi:=hi,hb:=hb,regs:=by omega,at0:=by omega,at1:=hat,len:=by omega
  r0:=by omega,r1:=by omega,a0:=by omega,a1:=by omega,b0:=by omega,b1:=by omega
  ch:=fun a b=>by have:=qG1 hx a b; omega
  jm:=fun a=>by have:=qO2 hx a; omega
  op:=by omega}
def wU (p:wQ) (s:wA) (who:Int):Int :=
 if qW who 0 (s.ths.length-1)=false then 2
 else if¬(s.ths.getD who.toNat default).st=0∨((ins p s who.toNat).op=10∧(s.tr.length:Int)=4000) then 3
 else if¬(ins p s who.toNat).op=5∧¬(ins p s who.toNat).op=6 then 0
 else if (s.chs.getD (ins p s who.toNat).n.toNat default).closed=false∧(((ins p s who.toNat).op=5∧((s.chs.getD (ins p s who.toNat).n.toNat default).list.length:Int)=(s.chs.getD (ins p s who.toNat).n.toNat default).cap)∨((ins p s who.toNat).op=6∧((s.chs.getD (ins p s who.toNat).n.toNat default).list.length:Int)=0)) then 4
 else 0
theorem qHi (p:wQ) (s:wA) (who:Int) (hp:aW p) (hs:qK1 s) (h:wG p s=true):qY Tryz.prog num 41 [.agg (jY .bw p),.fptr .bw (uD .bw s) 0,.int .i64 who] [] (.int .i64 (wU p s who)):=by
 obtain ⟨hs1,hs2,hs3,hs4,hs5⟩:=hs
 refine EN m41 Tryz.func108 ?_
 unfold m41
 have hw1:IntKind.i64.wrap ((s.ths.length:Int)-1)=(s.ths.length:Int)-1:=yL (by omega) (by omega)
 simp only [go_sem,seval,hw1]
 refine CA [] (bG who 0 (s.ths.length-1)) ?_
 try simp only [go_sem,seval]
 cases hw:qW who 0 (s.ths.length-1)
 ·simp only [go_sem,seval,hw]
  refine fz ?_; simp [yQ,wJ,wK,wR,-wD9]
  simp [wU,hw]
 have hw':=hw
 rw [qL] at hw'
 obtain ⟨i,rfl⟩:=Int.eq_ofNat_of_zero_le hw'.1
 have ha:=qB4 h (i:=i) (by omega)
 have e1:=ha.at0
 have e2:=ha.at1
 have e3:=ha.hb
 have hch:=ha.ch
 have hx:(p.bods.getD i []).getD (s.ths.getD i default).at_.toNat default=ins p s i:=rfl
 simp only [go_sem,seval,hw,Int.toNat_natCast,qV .bw s.ths i ha.hi,wB .bw p.bods i ha.hb,jQ (p.bods.getD i []) (s.ths.getD i default).at_.toNat ha.at1,hx]
 repeat refine K ?_
 by_cases h5:(ins p s i).op=5∨(ins p s i).op=6
 ·obtain ⟨n0,n1⟩:=hch (by omega) (by omega)
  rcases h5 with h5 | h5
  ·simp only [go_sem,seval,h5]
   repeat' (first
    | (simp only [go_sem,seval,h5,bM .bw s.chs (ins p s i).n.toNat n1])
    | (refine qP (fun hc=>?_) (fun hc=>?_)<;>((try simp only [wDa,wDb,ne_eq,wDc,wDd] at hc)<;>(try simp only [hc])))
    | (refine aE (fun hc=>?_) (fun hc=>?_)<;>((try simp only [wDa,wDb,ne_eq,wDc,wDd] at hc)<;>(try simp only [hc])))
    | (refine zZ (fun hc=>?_) (fun hc=>?_)<;>((try simp only [wDa,wDb,ne_eq,wDc,wDd] at hc)<;>(try simp only [hc])))
    | (refine ⟨by first | omega | (simp; done),?_⟩)
    | fail)
   all_goals (refine fz ?_; simp [yQ,wJ,wK,wR,-wD9])
   all_goals (try (simp_all [wU]; done))
  ·simp only [go_sem,seval,h5]
   repeat' (first
    | (simp only [go_sem,seval,h5,bM .bw s.chs (ins p s i).n.toNat n1])
    | (refine qP (fun hc=>?_) (fun hc=>?_)<;>((try simp only [wDa,wDb,ne_eq,wDc,wDd] at hc)<;>(try simp only [hc])))
    | (refine aE (fun hc=>?_) (fun hc=>?_)<;>((try simp only [wDa,wDb,ne_eq,wDc,wDd] at hc)<;>(try simp only [hc])))
    | (refine zZ (fun hc=>?_) (fun hc=>?_)<;>((try simp only [wDa,wDb,ne_eq,wDc,wDd] at hc)<;>(try simp only [hc])))
    | (refine ⟨by first | omega | (simp; done),?_⟩)
    | fail)
   all_goals (refine fz ?_; simp [yQ,wJ,wK,wR,-wD9])
   all_goals (try (simp_all [wU]; done))
 ·have h51 :¬(ins p s i).op=5:=fun h=>h5 (.inl h)
  have h61 :¬(ins p s i).op=6:=fun h=>h5 (.inr h)
  repeat' (first
   | (simp only [go_sem,seval,h51,h61])
   | (refine qP (fun hc=>?_) (fun hc=>?_)<;>((try simp only [wDa,wDb,ne_eq,wDc,wDd] at hc)<;>(try simp only [hc])))
   | (refine aE (fun hc=>?_) (fun hc=>?_)<;>((try simp only [wDa,wDb,ne_eq,wDc,wDd] at hc)<;>(try simp only [hc])))
   | (refine zZ (fun hc=>?_) (fun hc=>?_)<;>((try simp only [wDa,wDb,ne_eq,wDc,wDd] at hc)<;>(try simp only [hc])))
   | (refine ⟨by first | omega | (simp; done),?_⟩)
   | fail)
  all_goals (refine fz ?_; simp [yQ,wJ,wK,wR,-wD9])
  all_goals (try (simp_all [wU]; done))
end Go.Sep
