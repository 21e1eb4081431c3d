/- Contracts of functions. -/
import Derived.Test.YtebbppogicgpkaaGreatJxx17
import Derived.Test.YtebbppogicgpkaaGreatJxx18
open Bool renaming and_eq_true → qWu
open List renaming all_eq_true → qYt, drop_one → qYj, getD_eq_getElem?_getD → qWw, length_append → qXa, length_set → qYb, range → qYr, replicate → qWo
namespace Go.Sep
set_option maxHeartbeats 16000000
open Go.Proofs
set_option linter.unusedSimpArgs false
set_option linter.unusedVariables false
set_option maxRecDepth 100000
def m233:MFn:=⟨99,[.t 2],kr [xb 1 0,xF 2] (kr [xa 7 0 1,xl 8 7,xe 9 8,xv 3 9] (.seq (kr [xv 10 3,xc3 11 64 (.t 10) (xi 1) (xi 4),xN 12 11,xv 13 12,za 14 1 1 13,zl 15 1 14 13,ze 16 15 13,zv 17 3 13,xg 18 (.bin .neq (.t 16) (.t 17)) 13 false,xQ 19 13 18,xv 20 19,za 21 2 1 20,xg 22 (.load 1 true (.t 21)) 20 false,xg 23 (.call 283 [false] [.t 22]) 20 false,zN 24 23 20,xQ 25 20 24,xv 26 25,za 27 3 1 26,zl 28 1 27 26,ze 29 28 26,zI 30 .gtr 29 4000 26,xQ 31 26 30] (kF 31 [xF 2])) (.seq (kr [xI 4 0] (.blk 0 (.loop (.seq (kr [xv 32 4,xv 33 3,bT 34 .lss 32 33] (kX 34 0)) (.seq (.blk 1 (kr [xa 37 1 1,xl 38 37,xv 39 4,xD 40 4 38 39,xm 41 4 40,xo 5 (.alloc [.int .i64 0,.nil,.nil,.int .i64 0]),xS 4 5 41] (.seq (.dreg (.take 0 (xa 42 0 1) (.take 1 (xl 43 42) (.only 2 [] (xv 44 4) (.only 3 [1,0] (xD 45 1 43 44) (.only 4 [3,1,0] (xl 46 45) (.only 5 [4,3,1,0] (xc1 47 205 (.t 46)) (.only 6 [5,4,3,1,0] (xN 48 47) (.only 7 [5,4,3,1,0] (xv 49 48) (.only 8 [7,5,4,3,1,0] (za 50 1 5 49) (.only 9 [7,5,4,3,1,0] (zl 51 1 50 49) (.only 10 [7,5,4,3,1,0] (ze 52 51 49) (.only 11 [7,5,4,3,1,0] (zI 53 .neq 52 8 49) (.only 12 [7,5,4,3,1,0] (xQ 54 49 53) (.only 13 [7,5,4,3,1,0] (xv 55 54) (.take 14 (za 56 0 5 55) (.take 15 (zl 57 1 56 55) (.take 16 (za 58 0 1 55) (.take 17 (zl 59 1 58 55) (.only 18 [13,7,5,4,3,1,0] (zv 60 4 55) (.only 19 [13,17,7,16,5,4,3,1,0] (xg 61 (.iad 1 (.t 59) (.t 60)) 55 false) (.only 20 [13,19,7,17,5,16,4,3,1,0] (zl 62 1 61 55) (.only 21 [13,20,7,19,5,17,4,16,3,1,0] (ze 63 62 55) (.only 22 [13,21,7,20,5,19,4,17,3,16,1,0] (zI 64 .sub 63 1 55) (.only 23 [13,15,22,7,14,21,5,20,4,19,3,17,1,16,0] (xg 65 (.call 64 [false,false,false] [.t 57,xi 0,.t 64]) 55 false) (.only 24 [13,23,7,15,22,5,14,21,4,20,3,19,1,17,0,16] (zN 66 65 55) (.only 25 [13,24,7,23,5,15,22,4,14,21,3,20,1,19,0,17,16] (xQ 67 55 66) (.only 26 [23,13,15,22,7,14,21,5,20,4,19,3,17,1,16,0] (xv 68 67) (.only 27 [26,23,13,15,22,7,14,21,5,20,4,19,3,17,1,16,0] (za 69 3 5 68) (.only 28 [26,23,13,15,22,7,14,21,5,20,4,19,3,17,1,16,0] (zl 70 1 69 68) (.only 29 [26,23,13,15,22,7,14,21,5,20,4,19,3,17,1,16,0] (xg 71 (.call 64 [false,false,false] [.t 70,xi 0,xi 2]) 68 false) (.only 30 [26,23,13,15,22,7,14,21,5,20,4,19,3,17,1,16,0] (zN 72 71 68) (.only 31 [26,23,13,15,22,7,14,21,5,20,4,19,3,17,1,16,0] (xQ 73 68 72) (.only 32 [29,26,23,13,15,22,7,14,21,5,20,4,19,3,17,1,16,0] (xv 74 73) (.take 33 (za 75 2 1 74) (.take 34 (xg 76 (.load 1 true (.t 75)) 74 false) (.only 35 [32,29,26,23,13,15,22,7,14,21,5,20,4,19,3,17,1,16,0] (za 77 2 5 74) (.only 36 [32,29,26,23,13,15,22,7,14,21,5,20,4,19,3,17,1,16,0] (zl 78 1 77 74) (.only 37 [32,34,29,33,26,23,13,15,22,7,14,21,5,20,4,19,3,17,1,16,0] (xg 79 (.call 284 [false,false] [.t 76,.t 78]) 74 false) (.only 38 [32,37,29,34,26,33,23,13,15,22,7,14,21,5,20,4,19,3,17,1,16,0] (zN 80 79 74) (.only 39 [32,38,29,37,26,34,23,33,13,15,22,7,14,21,5,20,4,19,3,17,1,16,0] (xQ 81 74 80) (.done)))))))))))))))))))))))))))))))))))))))))) (kF 81 [xF 2])))) (xr [xv 35 4,bI 36 .add 35 1,xv 4 36])))))) (.seq (kr [xI 6 0] (.blk 2 (.loop (.seq (kr [xv 82 6,xa 83 3 1,xl 84 83,xe 85 84,bT 86 .lss 82 85] (kX 86 2)) (.seq (.blk 3 (kr [xa 89 3 1,xl 90 89,xv 91 6,xD 92 2 90 91,xa 93 0 92,xl 94 93,xv 95 3,bI 96 .sub 95 1,xc3 97 64 (.t 94) (xi 0) (.t 96),xN 98 97] (kF 98 [xF 2]))) (xr [xv 87 6,bI 88 .add 87 1,xv 6 88])))))) (kR [xT 2])))))⟩
def m235:MFn:=⟨81,[.t 2],kr [xb 1 0,xF 2] (.seq (kr [xa 5 0 1,xl 6 5,xe 7 6,xc3 8 59 (.t 7) (xi 1) (xi 4),xN 9 8,xv 10 9,za 11 1 1 10,zl 12 1 11 10,ze 13 12 10,za 14 0 1 10,zl 15 1 14 10,ze 16 15 10,xg 17 (.bin .neq (.t 13) (.t 16)) 10 false,xQ 18 10 17,xv 19 18,za 20 2 1 19,xg 21 (.load 1 true (.t 20)) 19 false,xg 22 (.call 286 [false] [.t 21]) 19 false,zN 23 22 19,xQ 24 19 23,xv 25 24,za 26 3 1 25,zl 27 1 26 25,za 28 1 1 25,zl 29 1 28 25,ze 30 29 25,xg 31 (.call 71 [false,false] [.t 27,.t 30]) 25 false,zN 32 31 25,xQ 33 25 32] (kF 33 [xF 2])) (.seq (kr [xa 34 1 1,xl 35 34,xe 36 35,xI 37 0] (.blk 0 (.loop (kr [bT 38 .lss 37 36] (.seq (kX 38 0) (.seq (.blk 1 (kr [xv 39 37,xD 40 4 35 37,xm 41 4 40,xo 4 (.alloc [.int .i64 0,.nil,.nil,.int .i64 0]),xv 3 39,xS 4 4 41] (.seq (.seq (.dreg (.take 0 (xa 42 0 1) (.take 1 (xl 43 42) (.only 2 [] (xv 44 3) (.only 3 [1,0] (xD 45 1 43 44) (.only 4 [3,1,0] (xl 46 45) (.only 5 [4,3,1,0] (xc1 47 209 (.t 46)) (.only 6 [5,4,3,1,0] (xN 48 47) (.only 7 [5,4,3,1,0] (xv 49 48) (.only 8 [7,5,4,3,1,0] (za 50 1 4 49) (.only 9 [7,5,4,3,1,0] (zl 51 1 50 49) (.only 10 [7,5,4,3,1,0] (ze 52 51 49) (.only 11 [7,5,4,3,1,0] (zI 53 .neq 52 8 49) (.only 12 [7,5,4,3,1,0] (xQ 54 49 53) (.only 13 [7,5,4,3,1,0] (xv 55 54) (.take 14 (za 56 0 4 55) (.take 15 (zl 57 1 56 55) (.take 16 (za 58 0 1 55) (.take 17 (zl 59 1 58 55) (.only 18 [13,7,5,4,3,1,0] (zv 60 3 55) (.only 19 [13,17,7,16,5,4,3,1,0] (xg 61 (.iad 1 (.t 59) (.t 60)) 55 false) (.only 20 [13,19,7,17,5,16,4,3,1,0] (zl 62 1 61 55) (.only 21 [13,20,7,19,5,17,4,16,3,1,0] (ze 63 62 55) (.only 22 [13,21,7,20,5,19,4,17,3,16,1,0] (zI 64 .sub 63 1 55) (.only 23 [13,15,22,7,14,21,5,20,4,19,3,17,1,16,0] (xg 65 (.call 59 [false,false,false] [.t 57,xi 0,.t 64]) 55 false) (.only 24 [13,23,7,15,22,5,14,21,4,20,3,19,1,17,0,16] (zN 66 65 55) (.only 25 [13,24,7,23,5,15,22,4,14,21,3,20,1,19,0,17,16] (xQ 67 55 66) (.done)))))))))))))))))))))))))))) (kF 67 [xF 2])) (kr [xa 68 3 4,xl 69 68,xc3 70 59 (.t 69) (xi 0) (xi 2),xN 71 70,xv 72 71,za 73 2 1 72,xg 74 (.load 1 true (.t 73)) 72 false,za 75 2 4 72,zl 76 1 75 72,xg 77 (.call 287 [false,false] [.t 74,.t 76]) 72 false,zN 78 77 72,xQ 79 72 78] (kF 79 [xF 2]))))) (xr [bI 80 .add 37 1,xv 37 80]))))))) (kR [xT 2])))⟩
def m283:MFn:=⟨43,[.t 2],kr [xb 1 0,xF 2] (.seq (kr [xa 5 0 1,xl 6 5,xe 7 6,bI 8 .neq 7 24] (kF 8 [xF 2])) (.seq (kr [xI 3 0] (.blk 0 (.loop (.seq (kr [xv 9 3,bI 10 .lss 9 24] (kX 10 0)) (.seq (.blk 1 (.seq (kr [xa 13 0 1,xl 14 13,xv 15 3,xD 16 1 14 15,xl 17 16,xe 18 17,xc3 19 64 (.t 18) (xi 1) (xi 4000),xN 20 19] (kF 20 [xF 2])) (kr [xI 4 0] (.blk 2 (.loop (.seq (kr [xv 21 4,xa 22 0 1,xl 23 22,xv 24 3,xD 25 1 23 24,xl 26 25,xe 27 26,bT 28 .lss 21 27] (kX 28 2)) (.seq (.blk 3 (.seq (.dreg (.take 0 (xm 31 1 1) (.take 1 (xa 32 0 1) (.take 2 (xl 33 32) (.take 3 (xv 34 3) (.take 4 (xD 35 1 33 34) (.take 5 (xl 36 35) (.only 6 [] (xv 37 4) (.only 7 [5,4,2,3,1] (xD 38 2 36 37) (.only 8 [7,5,4,2,3,1] (xa 39 1 38) (.only 9 [8,7,5,4,2,3,1] (xl 40 39) (.only 10 [0,9,8,7,5,4,2,3,1] (xc2 41 284 (.t 31) (.t 40)) (.only 11 [10,0,9,8,7,5,4,2,3,1] (xN 42 41) (.done)))))))))))))) (kF 42 [xF 2]))) (xr [xv 29 4,bI 30 .add 29 1,xv 4 30])))))))) (xr [xv 11 3,bI 12 .add 11 1,xv 3 12])))))) (kR [xT 2])))⟩
def m284:MFn:=⟨31,[.t 4],kr [xb 2 0,xF 4] (.seq (kr [xv 6 1,xe 7 6,xa 8 0 2,xl 9 8,xe 10 9,bT 11 .neq 7 10] (kF 11 [xF 4])) (.seq (kr [xI 5 0] (.blk 0 (.loop (.seq (kr [xv 12 5,xv 13 1,xe 14 13,bT 15 .lss 12 14] (kX 15 0)) (.seq (.blk 1 (.seq (.dreg (.take 0 (xv 18 1) (.take 1 (xv 19 5) (.take 2 (xD 20 1 18 19) (.take 3 (xl 21 20) (.take 4 (xa 22 0 2) (.take 5 (xl 23 22) (.only 6 [] (xv 24 5) (.only 7 [5,4] (xD 25 1 23 24) (.only 8 [7,5,4] (xl 26 25) (.only 9 [8,7,5,4] (xe 27 26) (.only 10 [9,8,7,5,4] (bI 28 .sub 27 1) (.only 11 [3,10,2,9,0,1,8,7,5,4] (xc3 29 64 (.t 21) (xi 0) (.t 28)) (.only 12 [11,3,10,2,9,0,1,8,7,5,4] (xN 30 29) (.done))))))))))))))) (kF 30 [xF 4]))) (xr [xv 16 5,bI 17 .add 16 1,xv 5 17])))))) (kR [xT 4])))⟩
def m286:MFn:=⟨35,[.t 2],kr [xb 1 0,xF 2] (.seq (kr [xa 7 0 1,xl 8 7,xe 9 8,xI 10 0] (.blk 0 (.loop (kr [bT 11 .lss 10 9] (.seq (kX 11 0) (.seq (.blk 1 (kr [xD 12 1 8 10,xl 13 12,xv 4 13] (.seq (kr [xv 14 4,xe 15 14,xc3 16 59 (.t 15) (xi 1) (xi 4000),xN 17 16] (kF 17 [xF 2])) (kr [xv 18 4,xe 19 18,xI 20 0] (.blk 2 (.loop (kr [bT 21 .lss 20 19] (.seq (kX 21 2) (.seq (.blk 3 (kr [xD 22 2 18 20,xm 23 2 22,xo 6 (.alloc [.int .i64 0,.nil]),xS 2 6 23] (kr [xm 24 1 1,xa 25 1 6,xl 26 25,xc2 27 287 (.t 24) (.t 26),xN 28 27] (kF 28 [xF 2])))) (xr [bI 29 .add 20 1,xv 20 29])))))))))) (xr [bI 30 .add 10 1,xv 10 30]))))))) (kR [xa 31 0 1,xl 32 31,xe 33 32,bI 34 .eql 33 24,xv 2 34]))⟩
def m287:MFn:=⟨31,[.t 4],kr [xb 2 0,xF 4] (.seq (kr [xv 7 1,xe 8 7,xa 9 0 2,xl 10 9,xe 11 10,bT 12 .neq 8 11] (kF 12 [xF 4])) (.seq (kr [xv 13 1,xe 14 13,xI 15 0] (.blk 0 (.loop (kr [bT 16 .lss 15 14] (.seq (kX 16 0) (.seq (.blk 1 (kr [xv 17 15,xD 18 1 13 15,xl 19 18,xv 5 17,xv 6 19] (kr [xv 20 6,xa 21 0 2,xl 22 21,xv 23 5,xD 24 1 22 23,xl 25 24,xe 26 25,bI 27 .sub 26 1,xc3 28 59 (.t 20) (xi 0) (.t 27),xN 29 28] (kF 29 [xF 4])))) (xr [bI 30 .add 15 1,xv 15 30]))))))) (kR [xT 4])))⟩
def zG (cs:List (List wX)) (v:List Int):Bool:=decide (v.length=cs.length)&&(qYr v.length).all fun i=>qO (v.getD i 0) 0 ((cs.getD i []).length-1)
def aP (cs:List (List wX)) (c:List wX):Bool:=qO c.length 1 4000&&c.all fun w=>zG cs w.view
def uL (cs:List (List wX)):Bool:=cs.all (aP cs)&&decide (cs.length=24)
def mG (m:wA) (i:Nat):Bool:=bZ (m.codes.getD i [])&&decide ((m.cores.getD i default).regs.length=8)&&qO (m.cores.getD i default).at_ 0 ((m.codes.getD i []).length-1)&&qO (m.cores.getD i default).st 0 2&&zG m.mem.cells (m.cores.getD i default).view
def jG (m:wA):Bool:=qO m.codes.length 1 4&&decide (m.cores.length=m.codes.length)&&uL m.mem.cells&&bG m.tr m.cores.length&&(qYr m.cores.length).all (mG m)
theorem oF {p:Nat→Bool} {n:Nat}:(List.range n).all p=true↔∀i,i<n→p i=true:=by simp [List.all_eq_true]
def join:List Int→List Int→List Int
 | a::l,b::k=>max a b::join l k
 | _,_=>[]
def load (cs:List (List wX)) (view:List Int) (cell:Nat) (late:Int) (hold:Bool):Int×List Int :=
 let l:=cs.getD cell []
 let at_:=max ((l.length:Int)-1-max late 0) (view.getD cell 0)
 let w:=l.getD at_.toNat default
 (w.v,if hold then join (view.set cell at_) w.view else view.set cell at_)
def store (cs:List (List wX)) (view:List Int) (cell:Nat) (v:Int) (go:Bool):List (List wX)×List Int :=
 let n:Int:=(cs.getD cell []).length
 let out:=view.set cell n
 (cs.set cell (cs.getD cell []++[⟨v,if go then out else (qWo 24 0).set cell n⟩]),out)
def qSl (cs:List (List wX)) (v:List Int) (i:Nat):Bool:=qO (v.getD i 0) 0 ((cs.getD i []).length-1)
theorem oY (cs:List (List wX)) (v:List Int):zG cs v=(decide (v.length=cs.length)&&(qYr v.length).all (qSl cs v)):=rfl
theorem qA8 (cs:List (List wX)) (v:List Int) (h1:cs.length<2^40) (h2 :∀c∈cs,c.length<2^40) (h3:v.length<2^40):qU Tryz.prog num 287 [.agg (uM .bw ⟨cs⟩),.sl .bw 1 (wQ v)] [] (.bool (zG cs v)):=by
 refine EN m287 Tryz.func94 ?_
 unfold m287
 simp only [go_sem,seval]
 by_cases hl:(v.length:Int)=cs.length
 case neg =>
  try simp only [go_sem,seval,hl]
  refine fz ?_; simp [qX,qQ,qR,qL,-qYj]
  have :¬v.length=cs.length:=by omega
  simp [zG,this]
 try simp only [go_sem,seval,hl]
 refine wB (ι:=Nat) (fun i=>.mk [(2,.ptr 10 0 0),(13,.sl .bw 1 (wQ v)),(14,.int .i64 v.length),(15,.int .i64 i)] [(10,1,[uM .bw ⟨cs⟩])] 11) (fun i=>i≤v.length∧(qYr i).all (qSl cs v)=true) (fun i=>v.length-i) 0 (by simp) ?_ ?_
 ·refine Sub.shape [] id (by omega) ?_ ?_ ?_ ?_<;>simp [qN]
  all_goals (try omega)
 ·rintro i ⟨hi,hp⟩
  simp only [go_sem,seval]
  refine qM (fun hc=>?_) (fun hc=>?_)
  ·simp only [decide_eq_true_eq] at hc
   have hl':i<v.length:=by omega
   have hj:i<cs.length:=by omega
   have hb:=h2 _ (wZ cs i [] hj)
   have w1:IntKind.i64.wrap (((cs.getD i []).length:Int)-1)=(cs.getD i []).length-1:=wM (by omega) (by omega)
   simp only [go_sem,seval,qI v i hl',vD .bw cs i hj,w1]
   repeat refine K ?_
   refine CA [] (yD (v.getD i 0) 0 ((cs.getD i []).length-1)) ?_
   try simp only [go_sem,seval]
   cases hw:qO (v.getD i 0) 0 ((cs.getD i []).length-1)
   ·try simp only [go_sem,seval,hw]
    refine fz ?_; simp [qX,qQ,qR,qL,-qYj]
    rw [oY,vJ hl' hw]
    simp
   ·try simp only [go_sem,seval,hw,qW (i:=i) (by omega)]
    refine qV (i+1) (Sub.shape [] id (by omega) ?_ ?_ ?_ ?_) ?_ ?_
    any_goals (first | omega | (simp [qN]; done))
    exact ⟨hl',gB hp hw⟩
  ·simp only [decide_eq_false_iff_not] at hc
   have he:i=v.length:=by omega
   subst he
   simp only [go_sem,seval]
   refine fz ?_; simp [qX,qQ,qR,qL,-qYj]
   rw [oY,hp]
   simp
   omega
theorem tY (cs:List (List wX)) (v:List Int) (h1:cs.length<2^40) (h2 :∀c∈cs,c.length<2^40) (h3:v.length<2^40):qU Tryz.prog num 284 [.agg (uM .bw ⟨cs⟩),.sl .bw 1 (wQ v)] [] (.bool (zG cs v)):=by
 refine EN m284 Tryz.func107 ?_
 unfold m284
 simp only [go_sem,seval]
 by_cases hl:(v.length:Int)=cs.length
 case neg =>
  try simp only [go_sem,seval,hl]
  refine fz ?_; simp [qX,qQ,qR,qL,-qYj]
  have :¬v.length=cs.length:=by omega
  simp [zG,this]
 try simp only [go_sem,seval,hl]
 refine wB (ι:=Nat) (fun i=>.mk [(1,.sl .bw 1 (wQ v)),(2,.ptr 10 0 0),(5,.int .i64 i)] [(10,1,[uM .bw ⟨cs⟩])] 11) (fun i=>i≤v.length∧(qYr i).all (qSl cs v)=true) (fun i=>v.length-i) 0 (by simp) ?_ ?_
 ·refine Sub.shape [] id (by omega) ?_ ?_ ?_ ?_<;>simp [qN]
 ·rintro i ⟨hi,hp⟩
  simp only [go_sem,seval]
  refine qM (fun hc=>?_) (fun hc=>?_)
  ·simp only [decide_eq_true_eq] at hc
   have hl':i<v.length:=by omega
   have hj:i<cs.length:=by omega
   have hb:=h2 _ (wZ cs i [] hj)
   have w1:IntKind.i64.wrap (((cs.getD i []).length:Int)-1)=(cs.getD i []).length-1:=wM (by omega) (by omega)
   simp only [go_sem,seval,qI v i hl',vD .bw cs i hj,w1]
   repeat refine K ?_
   refine DA [] (yM (v.getD i 0) 0 ((cs.getD i []).length-1)) ?_
   try simp only [go_sem,seval]
   cases hw:qO (v.getD i 0) 0 ((cs.getD i []).length-1)
   ·try simp only [go_sem,seval,hw]
    refine fz ?_; simp [qX,qQ,qR,qL,-qYj]
    rw [oY,vJ hl' hw]
    simp
   ·try simp only [go_sem,seval,hw,qW (i:=i) (by omega)]
    refine qV (i+1) (Sub.shape [] id (by omega) ?_ ?_ ?_ ?_) ?_ ?_
    any_goals (first | omega | (simp [qN]; done))
    exact ⟨hl',gB hp hw⟩
  ·simp only [decide_eq_false_iff_not] at hc
   have he:i=v.length:=by omega
   subst he
   simp only [go_sem,seval]
   refine fz ?_; simp [qX,qQ,qR,qL,-qYj]
   rw [oY,hp]
   simp
   omega
theorem kQ (cs:List (List wX)) (h:qB5 cs):qU Tryz.prog num 286 [.agg (uM .bw ⟨cs⟩)] [] (.bool (uL cs)):=by
 obtain ⟨h1,h2,h3⟩:=h
 refine EN m286 Tryz.func77 ?_
 unfold m286
 simp only [go_sem,seval]
 refine wB (ι:=Nat) (fun i=>.mk [(1,.ptr 10 0 0),(8,.sl .bw 1 (jR .bw cs)),(9,.int .i64 cs.length),(10,.int .i64 i)] [(10,1,[uM .bw ⟨cs⟩])] 11) (fun i=>i≤cs.length∧(cs.take i).all (aP cs)=true) (fun i=>cs.length-i) 0 (by simp) ?_ ?_
 ·refine Sub.shape [] id (by omega) ?_ ?_ ?_ ?_<;>simp [qN]
 ·rintro i ⟨hi,hp⟩
  simp only [go_sem,seval]
  refine qM (fun hc=>?_) (fun hc=>?_)
  ·simp only [decide_eq_true_eq] at hc
   have hl':i<cs.length:=by omega
   have hb:=h2 _ (wZ cs i [] hl')
   have hv:=h3 _ (wZ cs i [] hl')
   simp only [go_sem,seval,vD .bw cs i hl']
   repeat refine K ?_
   generalize hcd:cs.getD i []=c at hb hv
   refine CA [] (yD c.length 1 4000) ?_
   try simp only [go_sem,seval]
   cases hw:qO c.length 1 4000
   ·try simp only [go_sem,seval,hw]
    refine fz ?_; simp [qX,qQ,qR,qL,-qYj]
    have:cs.all (aP cs)=false:=bQ (d:=[]) hl' (by rw [hcd]; simp [aP,hw])
    simp [uL,this]
   try simp only [go_sem,seval,hw]
   refine wB (ι:=Nat) (fun j=>.mk [(1,.ptr 10 0 0),(8,.sl .bw 1 (jR .bw cs)),(9,.int .i64 cs.length),(10,.int .i64 i),(18,.sl .bw 2 (vX .bw c)),(19,.int .i64 c.length),(20,.int .i64 j)] [(10,1,[uM .bw ⟨cs⟩])] 11) (fun j=>j≤c.length∧(c.take j).all (fun w=>zG cs w.view)=true) (fun j=>c.length-j) 0 (by simp) ?_ ?_
   ·refine Sub.shape [] id (by omega) ?_ ?_ ?_ ?_<;>simp [qN]
   ·rintro j ⟨hj,hq⟩
    simp only [go_sem,seval]
    refine qM (fun hc2=>?_) (fun hc2=>?_)
    ·simp only [decide_eq_true_eq] at hc2
     have hj':j<c.length:=by omega
     simp only [go_sem,seval,fD .bw c j hj']
     repeat refine K ?_
     refine CA [] (qA8 cs (c.getD j default).view h1 h2 (hv _ (wZ c j default hj'))) ?_
     try simp only [go_sem,seval]
     cases hw3:zG cs (c.getD j default).view
     ·try simp only [go_sem,seval,hw3]
      refine fz ?_; simp [qX,qQ,qR,qL,-qYj]
      have hca:c.all (fun w=>zG cs w.view)=false:=bQ (p:=fun w=>zG cs w.view) hj' hw3
      have:cs.all (aP cs)=false:=bQ (d:=[]) hl' (by rw [hcd]; simp only [aP,hca,Bool.and_false])
      simp [uL,this]
     ·try simp only [go_sem,seval,hw3,qW (i:=j) (by omega)]
      refine qV (j+1) (Sub.shape [] id (by omega) ?_ ?_ ?_ ?_) ?_ ?_
      any_goals (first | omega | (simp [qN]; done))
      exact ⟨hj',gI (p:=fun w=>zG cs w.view) hq hj' hw3⟩
    ·simp only [decide_eq_false_iff_not] at hc2
     have hca:=zV hq hc2
     simp only [go_sem,seval,qW (i:=i) (by omega)]
     refine qV (i+1) (Sub.shape [] id (by omega) ?_ ?_ ?_ ?_) ?_ ?_
     any_goals (first | omega | (simp [qN]; done))
     exact ⟨hl',gI (d:=[]) hp hl' (by rw [hcd]; simp only [aP,hca,hw,Bool.and_self])⟩
  ·simp only [decide_eq_false_iff_not] at hc
   have hall:=zV hp hc
   by_cases h24:(cs.length:Int)=24
   ·simp only [go_sem,seval,h24]
    refine fz ?_; simp [qX,qQ,qR,qL,-qYj]
    have:cs.length=24:=by omega
    simp only [uL,hall,this]
    simp
   ·simp only [go_sem,seval,h24]
    refine fz ?_; simp [qX,qQ,qR,qL,-qYj]
    have :¬cs.length=24:=by omega
    simp [uL,this]
theorem kM (cs:List (List wX)) (h:qB5 cs):qU Tryz.prog num 283 [.agg (uM .bw ⟨cs⟩)] [] (.bool (uL cs)):=by
 obtain ⟨h1,h2,h3⟩:=h
 refine EN m283 Tryz.func105 ?_
 unfold m283
 simp only [go_sem,seval]
 by_cases h24:(cs.length:Int)=24
 case neg =>
  try simp only [go_sem,seval,h24]
  refine fz ?_; simp [qX,qQ,qR,qL,-qYj]
  have :¬cs.length=24:=by omega
  simp [uL,this]
 try simp only [go_sem,seval,h24]
 refine wB (ι:=Nat) (fun i=>.mk [(1,.ptr 10 0 0),(3,.int .i64 i)] [(10,1,[uM .bw ⟨cs⟩])] 11) (fun i=>i≤cs.length∧(cs.take i).all (aP cs)=true) (fun i=>cs.length-i) 0 (by simp) ?_ ?_
 ·refine Sub.shape [] id (by omega) ?_ ?_ ?_ ?_<;>simp [qN]
 ·rintro i ⟨hi,hp⟩
  simp only [go_sem,seval]
  refine qM (fun hc=>?_) (fun hc=>?_)
  ·simp only [decide_eq_true_eq] at hc
   have hl':i<cs.length:=by omega
   have hb:=h2 _ (wZ cs i [] hl')
   have hv:=h3 _ (wZ cs i [] hl')
   have hcg:=vD .bw cs i hl'
   generalize hcd:cs.getD i []=c at hb hv hcg
   simp only [go_sem,seval,hcg]
   repeat refine K ?_
   refine CA [] (yM c.length 1 4000) ?_
   try simp only [go_sem,seval]
   cases hw:qO c.length 1 4000
   ·try simp only [go_sem,seval,hw]
    refine fz ?_; simp [qX,qQ,qR,qL,-qYj]
    have:cs.all (aP cs)=false:=bQ (d:=[]) hl' (by rw [hcd]; simp [aP,hw])
    simp [uL,this]
   try simp only [go_sem,seval,hw]
   refine wB (ι:=Nat) (fun j=>.mk [(1,.ptr 10 0 0),(3,.int .i64 i),(4,.int .i64 j)] [(10,1,[uM .bw ⟨cs⟩])] 11) (fun j=>j≤c.length∧(c.take j).all (fun w=>zG cs w.view)=true) (fun j=>c.length-j) 0 (by simp) ?_ ?_
   ·refine Sub.shape [] id (by omega) ?_ ?_ ?_ ?_<;>simp [qN]
   ·rintro j ⟨hj,hq⟩
    simp only [go_sem,seval,hcg]
    repeat refine K ?_
    refine qM (fun hc2=>?_) (fun hc2=>?_)
    ·simp only [decide_eq_true_eq] at hc2
     have hj':j<c.length:=by omega
     simp only [go_sem,seval,hcg,fD .bw c j hj']
     repeat refine K ?_
     refine DA [] (tY cs (c.getD j default).view h1 h2 (hv _ (wZ c j default hj'))) ?_
     try simp only [go_sem,seval]
     cases hw3:zG cs (c.getD j default).view
     ·try simp only [go_sem,seval,hw3]
      refine fz ?_; simp [qX,qQ,qR,qL,-qYj]
      have hca:c.all (fun w=>zG cs w.view)=false:=bQ (p:=fun w=>zG cs w.view) hj' hw3
      have:cs.all (aP cs)=false:=bQ (d:=[]) hl' (by rw [hcd]; simp only [aP,hca,Bool.and_false])
      simp [uL,this]
     ·try simp only [go_sem,seval,hw3,qW (i:=j) (by omega)]
      refine qV (j+1) (Sub.shape [] id (by omega) ?_ ?_ ?_ ?_) ?_ ?_
      any_goals (first | omega | (simp [qN]; done))
      exact ⟨hj',gI (p:=fun w=>zG cs w.view) hq hj' hw3⟩
    ·simp only [decide_eq_false_iff_not] at hc2
     have hca:=zV hq hc2
     simp only [go_sem,seval,qW (i:=i) (by omega)]
     refine qV (i+1) (Sub.shape [] id (by omega) ?_ ?_ ?_ ?_) ?_ ?_
     any_goals (first | omega | (simp [qN]; done))
     exact ⟨hl',gI (d:=[]) hp hl' (by rw [hcd]; simp only [aP,hca,hw,Bool.and_self])⟩
  ·simp only [decide_eq_false_iff_not] at hc
   have hall:cs.all (aP cs)=true:=zV hp (by omega)
   simp only [go_sem,seval]
   refine fz ?_; simp [qX,qQ,qR,qL,-qYj]
   have:cs.length=24:=by omega
   simp only [uL,hall,this]
   simp
theorem pT (m:wA):jG m=(qO m.codes.length 1 4&&decide (m.cores.length=m.codes.length)&&uL m.mem.cells&&bG m.tr m.cores.length&&(qYr m.cores.length).all (mG m)):=rfl
theorem oL (m:wA) (h:kT m):qU Tryz.prog num 235 [.agg (qY .bw m)] [] (.bool (jG m)):=by
 obtain ⟨h1,h2,h3,h4,h5,h6,h7⟩:=h
 refine EN m235 Tryz.func33 ?_
 unfold m235
 simp only [go_sem,seval]
 refine CA [] (yD m.codes.length 1 4) ?_
 try simp only [go_sem,seval]
 cases hw:qO m.codes.length 1 4
 ·try simp only [go_sem,seval,hw]
  refine fz ?_; simp [qX,qQ,qR,qL,-qYj]
  simp [jG,hw]
 try simp only [go_sem,seval,hw]
 by_cases hcl:(m.cores.length:Int)=m.codes.length
 case neg =>
  try simp only [go_sem,seval,hcl]
  refine fz ?_; simp [qX,qQ,qR,qL,-qYj]
  have :¬m.cores.length=m.codes.length:=by omega
  simp [jG,this]
 try simp only [go_sem,seval,hcl]
 refine CA [] (kQ m.mem.cells h6) ?_
 try simp only [go_sem,seval]
 cases hmo:uL m.mem.cells
 ·try simp only [go_sem,seval,hmo]
  refine fz ?_; simp [qX,qQ,qR,qL,-qYj]
  simp [jG,hmo]
 try simp only [go_sem,seval,hmo]
 refine CA [] (qGk m.tr m.cores.length (by omega) (by omega) (by omega)) ?_
 try simp only [go_sem,seval]
 cases hno:bG m.tr m.cores.length
 ·try simp only [go_sem,seval,hno]
  refine fz ?_; simp [qX,qQ,qR,qL,-qYj]
  simp [jG,hno]
 try simp only [go_sem,seval,hno]
 refine wB (ι:=Nat) (fun i=>.mk [(1,.ptr 10 0 0),(35,.sl .bw 4 (cores .bw m.cores)),(36,.int .i64 m.cores.length),(37,.int .i64 i)] [(10,4,[qY .bw m])] 11) (fun i=>i≤m.cores.length∧(qYr i).all (mG m)=true) (fun i=>m.cores.length-i) 0 (by simp) ?_ ?_
 ·refine Sub.shape [] id (by omega) ?_ ?_ ?_ ?_<;>simp [qN]
  all_goals (try omega)
 ·rintro i ⟨hi,hp⟩
  simp only [go_sem,seval]
  refine qM (fun hc=>?_) (fun hc=>?_)
  ·simp only [decide_eq_true_eq] at hc
   have hl':i<m.cores.length:=by omega
   have hj:i<m.codes.length:=by omega
   have hb:=h2 _ (wZ m.codes i [] hj)
   have hg:=aO .bw m.codes i hj
   have w1:IntKind.i64.wrap (((m.codes.getD i []).length:Int)-1)=(m.codes.getD i []).length-1:=wM (by omega) (by omega)
   have hvl:=h5 _ (wZ m.cores i default hl')
   have hco:mG m i=(bZ (m.codes.getD i [])&&decide ((m.cores.getD i default).regs.length=8)&&qO (m.cores.getD i default).at_ 0 ((m.codes.getD i []).length-1)&&qO (m.cores.getD i default).st 0 2&&zG m.mem.cells (m.cores.getD i default).view):=rfl
   simp only [go_sem,seval,jZ .bw m.cores i hl',hg]
   repeat refine K ?_
   generalize m.cores.getD i default=k at hco hvl
   generalize m.codes.getD i []=cd at hco w1 hb hg
   refine DA [] (qAa cd hb) ?_
   try simp only [go_sem,seval]
   have fin:mG m i=false→jG m=false:=fun h=>by rw [pT,vJ hl' h]; simp
   cases c1:bZ cd
   ·try simp only [go_sem,seval,c1]
    refine fz ?_; simp [qX,qQ,qR,qL,-qYj]
    exact fin (by rw [hco,c1]; simp)
   by_cases c2:(k.regs.length:Int)=8
   case neg =>
    try simp only [go_sem,seval,c1,c2]
    refine fz ?_; simp [qX,qQ,qR,qL,-qYj]
    have :¬k.regs.length=8:=by omega
    exact fin (by rw [hco]; simp [this])
   try simp only [go_sem,seval,c1,c2,hg,w1]
   repeat refine K ?_
   refine DA [] (yD k.at_ 0 (cd.length-1)) ?_
   try simp only [go_sem,seval]
   cases c3:qO k.at_ 0 (cd.length-1)
   ·try simp only [go_sem,seval,c3]
    refine fz ?_; simp [qX,qQ,qR,qL,-qYj]
    exact fin (by rw [hco,c3]; simp)
   try simp only [go_sem,seval,c3]
   refine CA [] (yD k.st 0 2) ?_
   try simp only [go_sem,seval]
   cases c4:qO k.st 0 2
   ·try simp only [go_sem,seval,c4]
    refine fz ?_; simp [qX,qQ,qR,qL,-qYj]
    exact fin (by rw [hco,c4]; simp)
   try simp only [go_sem,seval,c4]
   refine CA [] (qA8 m.mem.cells k.view h6.len h6.cell hvl) ?_
   try simp only [go_sem,seval]
   cases c5:zG m.mem.cells k.view
   ·try simp only [go_sem,seval,c5]
    refine fz ?_; simp [qX,qQ,qR,qL,-qYj]
    exact fin (by rw [hco,c5]; simp)
   try simp only [go_sem,seval,c5,qW (i:=i) (by omega)]
   refine qV (i+1) (Sub.shape [] id (by omega) ?_ ?_ ?_ ?_) ?_ ?_
   any_goals (first | omega | (simp [qN]; done))
   have c2':k.regs.length=8:=by omega
   exact ⟨hl',gB hp (by rw [hco,c1,c3,c4,c5,c2']; rfl)⟩
  ·simp only [decide_eq_false_iff_not] at hc
   have he:i=m.cores.length:=by omega
   subst he
   simp only [go_sem,seval]
   refine fz ?_; simp [qX,qQ,qR,qL,-qYj]
   rw [pT,hw,hmo,hno,hp]
   simp
   omega
theorem nY (m:wA) (h:kT m):qU Tryz.prog num 233 [.agg (qY .bw m)] [] (.bool (jG m)):=by
 obtain ⟨h1,h2,h3,h4,h5,h6,h7⟩:=h
 refine EN m233 Tryz.func40 ?_
 unfold m233
 simp only [go_sem,seval]
 refine CA [] (yM m.codes.length 1 4) ?_
 try simp only [go_sem,seval]
 cases hw:qO m.codes.length 1 4
 ·try simp only [go_sem,seval,hw]
  refine fz ?_; simp [qX,qQ,qR,qL,-qYj]
  simp [jG,hw]
 try simp only [go_sem,seval,hw]
 by_cases hcl:(m.cores.length:Int)=m.codes.length
 case neg =>
  try simp only [go_sem,seval,hcl]
  refine fz ?_; simp [qX,qQ,qR,qL,-qYj]
  have :¬m.cores.length=m.codes.length:=by omega
  simp [jG,this]
 try simp only [go_sem,seval,hcl]
 refine CA [] (kM m.mem.cells h6) ?_
 try simp only [go_sem,seval]
 cases hmo:uL m.mem.cells
 ·try simp only [go_sem,seval,hmo]
  refine fz ?_; simp [qX,qQ,qR,qL,-qYj]
  simp [jG,hmo]
 try simp only [go_sem,seval,hmo]
 by_cases htl:(4000:Int)<m.tr.length
 ·try simp only [go_sem,seval,htl]
  refine fz ?_; simp [qX,qQ,qR,qL,-qYj]
  have :¬(m.tr.length:Int)≤4000:=by omega
  simp [jG,bG,this]
 try simp only [go_sem,seval,htl]
 refine wB (ι:=Nat) (fun i=>.mk [(1,.ptr 10 0 0),(3,.int .i64 m.codes.length),(4,.int .i64 i)] [(10,4,[qY .bw m])] 11) (fun i=>i≤m.cores.length∧(qYr i).all (mG m)=true) (fun i=>m.cores.length-i) 0 (by simp) ?_ ?_
 ·refine Sub.shape [] id (by omega) ?_ ?_ ?_ ?_<;>simp [qN]
  all_goals (try omega)
 ·rintro i ⟨hi,hp⟩
  simp only [go_sem,seval]
  refine qM (fun hc=>?_) (fun hc=>?_)
  ·simp only [decide_eq_true_eq] at hc
   have hl':i<m.cores.length:=by omega
   have hj:i<m.codes.length:=by omega
   have hb:=h2 _ (wZ m.codes i [] hj)
   have hg:=aO .bw m.codes i hj
   have w1:IntKind.i64.wrap (((m.codes.getD i []).length:Int)-1)=(m.codes.getD i []).length-1:=wM (by omega) (by omega)
   have hvl:=h5 _ (wZ m.cores i default hl')
   have hco:mG m i=(bZ (m.codes.getD i [])&&decide ((m.cores.getD i default).regs.length=8)&&qO (m.cores.getD i default).at_ 0 ((m.codes.getD i []).length-1)&&qO (m.cores.getD i default).st 0 2&&zG m.mem.cells (m.cores.getD i default).view):=rfl
   simp only [go_sem,seval,jZ .bw m.cores i hl',hg]
   repeat refine K ?_
   generalize m.cores.getD i default=k at hco hvl
   generalize m.codes.getD i []=cd at hco w1 hb hg
   refine DA [] (qA0 cd hb) ?_
   try simp only [go_sem,seval]
   have fin:mG m i=false→jG m=false:=fun h=>by rw [pT,vJ hl' h]; simp
   cases c1:bZ cd
   ·try simp only [go_sem,seval,c1]
    refine fz ?_; simp [qX,qQ,qR,qL,-qYj]
    exact fin (by rw [hco,c1]; simp)
   by_cases c2:(k.regs.length:Int)=8
   case neg =>
    try simp only [go_sem,seval,c1,c2]
    refine fz ?_; simp [qX,qQ,qR,qL,-qYj]
    have :¬k.regs.length=8:=by omega
    exact fin (by rw [hco]; simp [this])
   try simp only [go_sem,seval,c1,c2,hg,w1]
   repeat refine K ?_
   refine DA [] (yM k.at_ 0 (cd.length-1)) ?_
   try simp only [go_sem,seval]
   cases c3:qO k.at_ 0 (cd.length-1)
   ·try simp only [go_sem,seval,c3]
    refine fz ?_; simp [qX,qQ,qR,qL,-qYj]
    exact fin (by rw [hco,c3]; simp)
   try simp only [go_sem,seval,c3]
   refine DA [] (yM k.st 0 2) ?_
   try simp only [go_sem,seval]
   cases c4:qO k.st 0 2
   ·try simp only [go_sem,seval,c4]
    refine fz ?_; simp [qX,qQ,qR,qL,-qYj]
    exact fin (by rw [hco,c4]; simp)
   try simp only [go_sem,seval,c4]
   repeat refine K ?_
   refine DA [] (tY m.mem.cells k.view h6.len h6.cell hvl) ?_
   try simp only [go_sem,seval]
   cases c5:zG m.mem.cells k.view
   ·try simp only [go_sem,seval,c5]
    refine fz ?_; simp [qX,qQ,qR,qL,-qYj]
    exact fin (by rw [hco,c5]; simp)
   try simp only [go_sem,seval,c5,qW (i:=i) (by omega)]
   refine qV (i+1) (Sub.shape [] id (by omega) ?_ ?_ ?_ ?_) ?_ ?_
   any_goals (first | omega | (simp [qN]; done))
   have c2':k.regs.length=8:=by omega
   exact ⟨hl',gB hp (by rw [hco,c1,c3,c4,c5,c2']; rfl)⟩
  ·simp only [decide_eq_false_iff_not] at hc
   have hall:(qYr m.cores.length).all (mG m)=true:=by
    have he:i=m.cores.length:=by omega
    rw [←he]
    exact hp
   have w1:IntKind.i64.wrap ((m.codes.length:Int)-1)=m.codes.length-1:=wM (by omega) (by omega)
   simp only [go_sem,seval]
   refine wB (ι:=Nat) (fun i=>.mk [(1,.ptr 10 0 0),(3,.int .i64 m.codes.length),(6,.int .i64 i)] [(10,4,[qY .bw m])] 11) (fun i=>i≤m.tr.length∧(m.tr.take i).all (fun x=>qO x.who 0 (m.codes.length-1))=true) (fun i=>m.tr.length-i) 0 (by simp) ?_ ?_
   ·refine Sub.shape [] id (by omega) ?_ ?_ ?_ ?_<;>simp [qN]
   ·clear hp hi hc
    clear i
    rintro i ⟨hi,hp⟩
    simp only [go_sem,seval]
    refine qM (fun hc=>?_) (fun hc=>?_)
    ·simp only [decide_eq_true_eq] at hc
     have hl':i<m.tr.length:=by omega
     simp only [go_sem,seval,cZ m.tr i hl',w1]
     repeat refine K ?_
     refine CA [] (yM (m.tr.getD i default).who 0 (m.codes.length-1)) ?_
     try simp only [go_sem,seval]
     cases c5:qO (m.tr.getD i default).who 0 (m.codes.length-1)
     ·try simp only [go_sem,seval,c5]
      refine fz ?_; simp [qX,qQ,qR,qL,-qYj]
      have:m.tr.all (fun x=>qO x.who 0 (m.codes.length-1))=false:=bQ (p:=fun x=>qO x.who 0 ((m.codes.length:Int)-1)) hl' c5
      have hn:bG m.tr m.cores.length=false:=by
       unfold bG
       rw [hcl,this]
       rfl
      simp [jG,hn]
     ·try simp only [go_sem,seval,c5,qW (i:=i) (by omega)]
      refine qV (i+1) (Sub.shape [] id (by omega) ?_ ?_ ?_ ?_) ?_ ?_
      any_goals (first | omega | (simp [qN]; done))
      exact ⟨hl',gI (p:=fun x=>qO x.who 0 ((m.codes.length:Int)-1)) hp hl' c5⟩
    ·simp only [decide_eq_false_iff_not] at hc
     have ha:=zV hp hc
     have hn:bG m.tr m.cores.length=true:=by
      unfold bG
      rw [hcl,ha]
      simp
      omega
     simp only [go_sem,seval]
     refine fz ?_; simp [qX,qQ,qR,qL,-qYj]
     rw [pT,hw,hmo,hn,hall]
     simp
     omega
def rg (k:bY) (r:Int):Int:=k.regs.getD r.toNat 0
def nN (k:bY) (r v:Int):bY:={k with regs:=k.regs.set r.toNat v}
def qJ (m:wA) (i:Nat):bY:=m.cores.getD i default
def wD (m:wA) (i:Nat):yH:=(m.codes.getD i []).getD (qJ m i).at_.toNat default
def wK (k:bY) (s:yH):Int:=if s.op≠8∧0≤s.a then IntKind.i64.wrap (s.n+rg k s.a) else s.n
def jI (m:wA) (i:Nat) (k:bY):wA:={m with cores:=m.cores.set i k}
def stop (m:wA) (i:Nat) (st:Int):wA:=jI m i {qJ m i with st:=st}
def fA (m:wA) (i:Nat) (k:bY) (uZ:Int):wA :=
 if ((m.codes.getD i []).length:Int)≤uZ then jI m i {k with st:=2} else jI m i {k with at_:=uZ}
def jH (op:Int):Bool:=decide (op=5)||decide (op=6)||decide (op=7)||decide (op=8)
def aG (m:wA) (who:Int):Int :=
 if qO who 0 (m.cores.length-1) then
  let k:=qJ m who.toNat
  let s:=wD m who.toNat
  if k.st≠0∨(s.op=9∧(m.tr.length:Int)=4000) then 3
  else if jH s.op&&!decide (s.op=5)&&qO (wK k s) 0 23&&decide ((4000:Int)≤(m.mem.cells.getD (wK k s).toNat []).length) then 3
  else 0
 else 2
def jK (cs:List (List wX)) (k:bY) (s:yH) (cell:Nat) (late:Int):List (List wX)×bY :=
 if s.op=5 then
  let r:=load cs k.view cell late false
  (cs,{k with regs:=k.regs.set s.r.toNat r.1,view:=r.2})
 else if s.op=8 then
  let r:=load cs k.view cell 0 true
  let w:=store cs r.2 cell (rg k s.b) true
  (w.1,{k with regs:=k.regs.set s.r.toNat r.1,view:=w.2})
 else
  let w:=store cs k.view cell (rg k s.b) (decide (s.op=7))
  (w.1,{k with view:=w.2})
def alu (k:bY) (s:yH):bY :=
 if s.op=1 then nN k s.r s.n
 else if s.op=2 then nN k s.r (IntKind.i64.wrap (rg k s.a+rg k s.b))
 else if s.op=3 then nN k s.r (IntKind.i64.wrap (rg k s.a-rg k s.b))
 else if s.op=4 then nN k s.r (uK (decide (rg k s.a<rg k s.b)))
 else k
def uO (k:bY) (s:yH):Int:=if s.op=10 then s.n else if s.op=11∧rg k s.a=0 then s.n else k.at_+1
def mdo (m:wA) (i:Nat) (late:Int):wA :=
 let k:=qJ m i
 let s:=wD m i
 if s.op=12 then stop m i 1
 else if s.op=13 then stop m i 2
 else if jH s.op then
  if qO (wK k s) 0 23 then
   let r:=jK m.mem.cells k s (wK k s).toNat late
   fA {m with mem:=⟨r.1⟩} i r.2 (k.at_+1)
  else stop m i 2
 else if s.op=9 then fA {m with tr:=m.tr++[⟨i,rg k s.a⟩]} i k (k.at_+1)
 else fA m i (alu k s) (uO k s)
def yF (m:wA) (x:uF):wA×Int:=if aG m x.who=0 then (mdo m x.who.toNat x.late,0) else (m,aG m x.who)
def VOk (cs:List (List wX)) (v:List Int):Prop:=v.length=24∧∀i,i<24→0≤v.getD i 0∧v.getD i 0<((cs.getD i []).length:Int)
structure lF (cs:List (List wX)):Prop where
 len:cs.length=24
 cell :∀i,i<24→1≤(cs.getD i []).length∧(cs.getD i []).length≤4000
 view :∀i,i<24→∀w∈cs.getD i [],VOk cs w.view
theorem qAh {cs:List (List wX)} (hc:cs.length=24) (v:List Int):zG cs v=true↔VOk cs v:=by
 unfold zG VOk
 simp only [qWu,decide_eq_true_eq,oF,qP,hc]
 constructor
 ·rintro ⟨h1,h2⟩
  exact ⟨h1,fun i hi=>by have:=h2 i (by omega); omega⟩
 ·rintro ⟨h1,h2⟩
  exact ⟨h1,fun i hi=>by have:=h2 i (by omega); omega⟩
theorem eZ (cs:List (List wX)):uL cs=true↔lF cs:=by
 unfold uL aP
 simp only [qWu,decide_eq_true_eq,qYt,qP]
 constructor
 ·rintro ⟨h1,h2⟩
  refine ⟨h2,fun i hi=>?_,fun i hi w hw=>?_⟩
  ·have:=(h1 _ (wZ cs i [] (by omega))).1
   omega
  ·exact (qAh h2 _).1 ((h1 _ (wZ cs i [] (by omega))).2 w hw)
 ·rintro ⟨h1,h2,h3⟩
  refine ⟨fun c hc=>?_,h1⟩
  obtain ⟨i,hi,rfl⟩:=List.getElem_of_mem hc
  have e:cs.getD i []=cs[i]:=by simp [qWw,hi]
  have a:=h2 i (by omega)
  have b:=h3 i (by omega)
  rw [e] at a b
  exact ⟨by omega,fun w hw=>(qAh h1 _).2 (b w hw)⟩
structure COk (m:wA) (i:Nat):Prop where
 code:bZ (m.codes.getD i [])=true
 regs:(qJ m i).regs.length=8
 at0:0≤(qJ m i).at_
 at1:(qJ m i).at_<((m.codes.getD i []).length:Int)
 st0:0≤(qJ m i).st
 st1:(qJ m i).st≤2
 view:VOk m.mem.cells (qJ m i).view
structure MOk (m:wA):Prop where
 n1:1≤m.codes.length
 n4:m.codes.length≤4
 cores:m.cores.length=m.codes.length
 mem:lF m.mem.cells
 tr:bG m.tr m.cores.length=true
 core :∀i,i<m.cores.length→COk m i
theorem qHj {m:wA} (hc:m.mem.cells.length=24) (i:Nat):mG m i=true↔COk m i:=by
 unfold mG
 simp only [qWu,decide_eq_true_eq,qP,qAh hc]
 constructor
 ·rintro ⟨⟨⟨⟨h1,h2⟩,h3⟩,h4⟩,h5⟩
  exact ⟨h1,h2,h3.1,by unfold qJ; omega,h4.1,h4.2,h5⟩
 ·rintro ⟨h1,h2,h3,h4,h5,h6,h7⟩
  unfold qJ at *
  exact ⟨⟨⟨⟨h1,h2⟩,by omega⟩,by omega⟩,h7⟩
theorem jJ (m:wA):jG m=true↔MOk m:=by
 unfold jG
 simp only [qWu,decide_eq_true_eq,qP,eZ,oF]
 constructor
 ·rintro ⟨⟨⟨⟨h1,h2⟩,h3⟩,h4⟩,h5⟩
  exact ⟨by omega,by omega,h2,h3,h4,fun i hi=>(qHj h3.len i).1 (h5 i hi)⟩
 ·rintro ⟨h1,h2,h3,h4,h5,h6⟩
  exact ⟨⟨⟨⟨by omega,h3⟩,h4⟩,h5⟩,fun i hi=>(qHj h4.len i).2 (h6 i hi)⟩
theorem gP {α:Type} (l:List α) (i j:Nat) (a d:α) (hi:i<l.length):(l.set i a).getD j d=if j=i then a else l.getD j d:=by
 by_cases h:j=i
 ·subst h
  simp [qWw,hi]
 ·rw [if_neg h]
  simp [qWw,List.getElem?_set,show¬i=j from fun e=>h e.symm]
theorem VOk.grow {cs cs':List (List wX)} {v:List Int} (h:VOk cs v) (hg :∀i,i<24→(cs.getD i []).length≤(cs'.getD i []).length):VOk cs' v :=
 ⟨h.1,fun i hi=>by have:=h.2 i hi; have:=hg i hi; omega⟩
theorem VOk.set {cs:List (List wX)} {v:List Int} (h:VOk cs v) (c:Nat) (n:Int) (h0:0≤n) (h1:n<((cs.getD c []).length:Int)):VOk cs (v.set c n):=by
 refine ⟨by rw [qYb]; exact h.1,fun i hi=>?_⟩
 by_cases hc:c<v.length
 ·rw [gP _ _ _ _ _ hc]
  split
  ·rename_i e
   subst e
   exact ⟨h0,h1⟩
  ·exact h.2 i hi
 ·rw [List.set_eq_of_length_le (by omega)]
  exact h.2 i hi
theorem sF :∀(a b:List Int),a.length=b.length→(join a b).length=a.length
 | [],_,_=>by simp [join]
 | _::_,[],h=>by simp at h
 | a::l,b::k,h=>by simp [join,sF l k (by simpa using h)]
theorem qL6 :∀(a b:List Int) (i:Nat),i<a.length→i<b.length→(join a b).getD i 0=max (a.getD i 0) (b.getD i 0)
 | [],_,i,h,_=>by simp at h
 | _::_,[],i,_,h=>by simp at h
 | a::l,b::k,0,_,_=>by simp [join]
 | a::l,b::k,i+1,h,g=>by
  simp only [join,List.getD_cons_succ]
  exact qL6 l k i (by simpa using h) (by simpa using g)
theorem VOk.join {cs:List (List wX)} {v w:List Int} (h:VOk cs v) (k:VOk cs w):VOk cs (join v w):=by
 refine ⟨by rw [sF _ _ (by rw [h.1,k.1])]; exact h.1,fun i hi=>?_⟩
 have a:=h.2 i hi
 have b:=k.2 i hi
 rw [qL6 _ _ i (by rw [h.1]; exact hi) (by rw [k.1]; exact hi)]
 omega
theorem qG7 (n i:Nat) (a:Int):(qWo n a).getD i a=a:=by
 rw [qWw,List.getElem?_replicate]
 split<;>rfl
theorem VOk.zero {cs:List (List wX)} (h:lF cs):VOk cs (qWo 24 0):=by
 refine ⟨rfl,fun i hi=>?_⟩
 have:=(h.cell i hi).1
 rw [qG7]
 omega
def qC1 (cs:List (List wX)) (view:List Int) (cell:Nat) (late:Int):Int:=max (((cs.getD cell []).length:Int)-1-max late 0) (view.getD cell 0)
theorem qL5 {cs:List (List wX)} {view:List Int} {cell:Nat} {late:Int} (h:VOk cs view) (hc:cell<24):0≤qC1 cs view cell late∧qC1 cs view cell late<((cs.getD cell []).length:Int):=by
 have:=h.2 cell hc
 unfold qC1
 omega
theorem qL4 (cs:List (List wX)) (view:List Int) (cell:Nat) (late:Int) (hold:Bool):load cs view cell late hold=(((cs.getD cell []).getD (qC1 cs view cell late).toNat default).v,if hold then join (view.set cell (qC1 cs view cell late)) ((cs.getD cell []).getD (qC1 cs view cell late).toNat default).view else view.set cell (qC1 cs view cell late)):=rfl
theorem qFf {cs:List (List wX)} {view:List Int} {cell:Nat} {late:Int} {hold:Bool} (hm:lF cs) (h:VOk cs view) (hc:cell<24):VOk cs (load cs view cell late hold).2:=by
 have hl:=qL5 (late:=late) h hc
 have hs:=h.set cell (qC1 cs view cell late) hl.1 hl.2
 rw [qL4]
 simp only
 split
 ·refine hs.join (hm.view cell hc _ (wZ _ _ _ (by omega)))
 ·exact hs
theorem qJ8 {cs:List (List wX)} {view:List Int} {cell:Nat} {v:Int} {go:Bool} (hm:lF cs) (h:VOk cs view) (hc:cell<24) (hr:(cs.getD cell []).length<4000):lF (store cs view cell v go).1∧VOk (store cs view cell v go).1 (store cs view cell v go).2∧(∀i,i<24→(cs.getD i []).length≤((store cs view cell v go).1.getD i []).length):=by
 have hcl:cell<cs.length:=by rw [hm.len]; exact hc
 unfold store
 simp only
 generalize hw:(⟨v,if go then view.set cell ((cs.getD cell []).length:Int) else (qWo 24 0).set cell ((cs.getD cell []).length:Int)⟩:wX)=w
 have hg :∀i,i<24→(cs.getD i []).length≤((cs.set cell (cs.getD cell []++[w])).getD i []).length:=fun i hi=>by
  rw [gP _ _ _ _ _ hcl]
  split
  ·rename_i e
   subst e
   simp
  ·exact Nat.le_refl _
 have hn:(((cs.set cell (cs.getD cell []++[w])).getD cell []).length:Int)=(cs.getD cell []).length+1:=by
  rw [gP _ _ _ _ _ hcl,if_pos rfl]
  simp
 have ho:VOk (cs.set cell (cs.getD cell []++[w])) (view.set cell ((cs.getD cell []).length:Int)):=(h.grow hg).set cell _ (by omega) (by omega)
 have hwe:w.view=if go then view.set cell ((cs.getD cell []).length:Int) else (qWo 24 0).set cell ((cs.getD cell []).length:Int):=by rw [←hw]
 have hwv:VOk (cs.set cell (cs.getD cell []++[w])) w.view:=by
  rw [hwe]
  split
  ·exact ho
  ·exact ((VOk.zero hm).grow hg).set cell _ (by omega) (by omega)
 refine ⟨⟨by rw [qYb]; exact hm.len,fun i hi=>?_,fun i hi x hx=>?_⟩,ho,hg⟩
 ·rw [gP _ _ _ _ _ hcl]
  split
  ·rw [qXa]
   simp only [List.length_singleton]
   omega
  ·exact hm.cell i hi
 ·rw [gP _ _ _ _ _ hcl] at hx
  split at hx
  ·rcases List.mem_append.1 hx with hx | hx
   ·exact (hm.view cell hc x hx).grow hg
   ·rw [List.mem_singleton.1 hx]
    exact hwv
  ·exact (hm.view i hi x hx).grow hg
theorem qSe {cs:List (List wX)} {k:bY} {s:yH} {cell:Nat} {late:Int} (hm:lF cs) (h:VOk cs k.view) (hc:cell<24) (hr:s.op≠5→(cs.getD cell []).length<4000) :
  lF (jK cs k s cell late).1∧VOk (jK cs k s cell late).1 (jK cs k s cell late).2.view∧(∀i,i<24→(cs.getD i []).length≤((jK cs k s cell late).1.getD i []).length)∧(jK cs k s cell late).2.regs.length=k.regs.length∧(jK cs k s cell late).2.at_=k.at_∧(jK cs k s cell late).2.st=k.st:=by
 unfold jK
 split
 ·dsimp only
  exact ⟨hm,qFf hm h hc,fun _ _=>Nat.le_refl _,by simp,rfl,rfl⟩
 ·rename_i h5
  split
  ·dsimp only
   have hs:=qJ8 (go:=true) (v:=rg k s.b) hm (qFf (late:=0) (hold:=true) hm h hc) hc (hr h5)
   exact ⟨hs.1,hs.2.1,hs.2.2,by simp,rfl,rfl⟩
  ·dsimp only
   have hs:=qJ8 (go:=decide (s.op=7)) (v:=rg k s.b) hm h hc (hr h5)
   exact ⟨hs.1,hs.2.1,hs.2.2,rfl,rfl,rfl⟩
theorem qPx (m:wA) (i j:Nat) (k:bY) (h:i<m.cores.length):qJ (jI m i k) j=if j=i then k else qJ m j:=gP _ _ _ _ _ h
theorem qBm {m:wA} (h:MOk m) {i:Nat} (hi:i<m.cores.length) {k:bY} (h1:k.regs.length=8) (h2:0≤k.at_) (h3:k.at_<((m.codes.getD i []).length:Int)) (h4:0≤k.st) (h5:k.st≤2) (h6:VOk m.mem.cells k.view):MOk (jI m i k):=by
 refine ⟨h.n1,h.n4,by simp [jI,h.cores],h.mem,by simpa [jI] using h.tr,fun j hj=>?_⟩
 have hj':j<m.cores.length:=by simpa [jI] using hj
 have hc:=h.core j hj'
 have e:=qPx m i j k hi
 by_cases hji:j=i
 ·rw [if_pos hji] at e
  subst hji
  exact ⟨hc.code,by rw [e]; exact h1,by rw [e]; exact h2,by rw [e]; exact h3,by rw [e]; exact h4,by rw [e]; exact h5,by rw [e]; exact h6⟩
 ·rw [if_neg hji] at e
  exact ⟨hc.code,by rw [e]; exact hc.regs,by rw [e]; exact hc.at0,by rw [e]; exact hc.at1,by rw [e]; exact hc.st0,by rw [e]; exact hc.st1,by rw [e]; exact hc.view⟩
theorem qLa {m:wA} (h:MOk m) {i:Nat} (hi:i<m.cores.length) {k:bY} {uZ:Int} (h1:k.regs.length=8) (h2:0≤k.at_) (h3:k.at_<((m.codes.getD i []).length:Int)) (h4:0≤k.st) (h5:k.st≤2) (h6:VOk m.mem.cells k.view) (hn:0≤uZ):MOk (fA m i k uZ):=by
 unfold fA
 split
 ·exact qBm h hi h1 h2 h3 (by simp) (by simp) h6
 ·rename_i hl
  exact qBm h hi h1 hn (by simp only; omega) h4 h5 h6
theorem qTd {m:wA} {who:Int} (h:aG m who=0):0≤who∧who.toNat<m.cores.length∧(qJ m who.toNat).st=0∧((wD m who.toNat).op=9→(m.tr.length:Int)≠4000)∧(jH (wD m who.toNat).op=true→(wD m who.toNat).op≠5→qO (wK (qJ m who.toNat) (wD m who.toNat)) 0 23=true→(m.mem.cells.getD (wK (qJ m who.toNat) (wD m who.toNat)).toNat []).length<4000):=by
 unfold aG at h
 split at h
 ·rename_i hw
  rw [qP] at hw
  simp only at h
  split at h
  ·simp at h
  ·rename_i h1
   split at h
   ·simp at h
   ·rename_i h2
    refine ⟨hw.1,by omega,?_,fun h9 h4=>h1 (.inr ⟨h9,h4⟩),fun hm h5 hc=>?_⟩
    ·apply Decidable.byContradiction
     exact fun e=>h1 (.inl e)
    ·simp only [hm,hc,h5,decide_false,Bool.not_false,Bool.and_true,Bool.true_and,decide_eq_true_eq] at h2
     omega
 ·simp at h
theorem aY {m:wA} (h:MOk m) {i:Nat} (hi:i<m.cores.length):yW (wD m i) ((m.codes.getD i []).length:Int)=true:=by
 have hc:=h.core i hi
 have:=hc.code
 unfold bZ at this
 simp only [qWu,qYt] at this
 have h0:=hc.at0
 have h1:=hc.at1
 exact this.1.2 _ (wZ _ _ _ (by omega))
theorem qJa {s:yH} {n:Int} (h:yW s n=true) (ho:s.op=10∨s.op=11):0≤s.n∧s.n<n:=by
 unfold yW at h
 rcases ho with ho | ho
 ·simp [ho] at h
  omega
 ·simp [ho] at h
  omega
theorem qSd (k:bY) (s:yH):(alu k s).regs.length=k.regs.length∧(alu k s).at_=k.at_∧(alu k s).st=k.st∧(alu k s).view=k.view:=by
 unfold alu nN
 repeat' split
 all_goals simp
theorem qVq {m:wA} {who late:Int} (h:MOk m) (hc:aG m who=0):MOk (mdo m who.toNat late):=by
 obtain ⟨w0,hi,hst,htr,hroom⟩:=qTd hc
 have hk:=h.core _ hi
 have hs:=aY h hi
 have k1:=hk.regs
 have k2:=hk.at0
 have k3:=hk.at1
 have k4:=hk.st0
 have k5:=hk.st1
 have k6:=hk.view
 unfold mdo
 simp only
 split
 ·exact qBm h hi k1 k2 k3 (by simp) (by simp) k6
 ·split
  ·exact qBm h hi k1 k2 k3 (by simp) (by simp) k6
  ·split
   ·rename_i hm
    split
    ·rename_i hw
     have hroom':=fun h5=>hroom hm h5 hw
     rw [qP] at hw
     have ha:=qSe (late:=late) (s:=wD m who.toNat) h.mem k6 (show (wK (qJ m who.toNat) (wD m who.toNat)).toNat<24 by omega) hroom'
     generalize jK m.mem.cells (qJ m who.toNat) (wD m who.toNat) (wK (qJ m who.toNat) (wD m who.toNat)).toNat late=r at ha
     obtain ⟨a1,a2,a3,a4,a5,a6⟩:=ha
     have hM:MOk {m with mem:=⟨r.1⟩}:=⟨h.n1,h.n4,h.cores,a1,h.tr,fun j hj=>by
      have hj:=h.core j hj
      exact ⟨hj.code,hj.regs,hj.at0,hj.at1,hj.st0,hj.st1,hj.view.grow a3⟩⟩
     exact qLa hM hi (by omega) (by omega) (by simp only; omega) (by omega) (by omega) a2 (by omega)
    ·exact qBm h hi k1 k2 k3 (by simp) (by simp) k6
   ·split
    ·rename_i h9
     have ht:=h.tr
     have hM:MOk {m with tr:=m.tr++[⟨(who.toNat:Int),rg (qJ m who.toNat) (wD m who.toNat).a⟩]}:=⟨h.n1,h.n4,h.cores,h.mem,by
      have h4:=htr h9
      unfold bG at ht⊢
      simp only [qWu,decide_eq_true_eq,List.all_append,List.all_cons,List.all_nil,qP,qXa,List.length_cons,List.length_nil] at ht⊢
      refine ⟨⟨ht.1,by omega,trivial⟩,by omega⟩,fun j hj=>by
      have hj:=h.core j hj
      exact ⟨hj.code,hj.regs,hj.at0,hj.at1,hj.st0,hj.st1,hj.view⟩⟩
     exact qLa hM hi k1 k2 k3 k4 k5 k6 (by omega)
    ·obtain ⟨a1,a2,a3,a4⟩:=qSd (qJ m who.toNat) (wD m who.toNat)
     refine qLa h hi (by omega) (by omega) (by omega) (by omega) (by omega) (by rw [a4]; exact k6) ?_
     unfold uO
     split
     ·exact (qJa hs (.inl (by assumption))).1
     ·split
      ·rename_i hz
       exact (qJa hs (.inr hz.1)).1
      ·omega
theorem lY {m:wA} (x:uF) (h:jG m=true):jG (yF m x).1=true:=by
 unfold yF
 split
 ·exact (jJ _).2 (qVq ((jJ m).1 h) (by assumption))
 ·exact h
end Go.Sep
