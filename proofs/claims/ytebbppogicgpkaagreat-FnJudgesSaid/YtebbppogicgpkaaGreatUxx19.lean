/- Contracts of functions. -/
import Derived.Test.YtebbppogicgpkaaGreatUxx16
import Derived.Test.YtebbppogicgpkaaGreatUxx17
open Bool renaming and_eq_true → qXo
open List renaming all_eq_true → qZi, drop_one → qZ8, getD_eq_getElem?_getD → qXq, length_append → qY4, length_set → qZ5, range → qZg, replicate → qXi
namespace Go.Sep
set_option maxHeartbeats 16000000
open Go.Proofs
set_option linter.unusedSimpArgs false
set_option linter.unusedVariables false
set_option maxRecDepth 100000
def m233:MFn:=⟨99,[.t 2],kr [xb 1 0,xF 2] (kr [xa 7 0 1,xl 8 7,xe 9 8,xv 3 9] (.seq (kr [xv 10 3,xc3 11 64 (.t 10) (xi 1) (xi 4),xN 12 11,xv 13 12,za 14 1 1 13,zl 15 1 14 13,ze 16 15 13,zv 17 3 13,xg 18 (.bin .neq (.t 16) (.t 17)) 13 false,xQ 19 13 18,xv 20 19,za 21 2 1 20,xg 22 (.load 1 true (.t 21)) 20 false,xg 23 (.call 283 [false] [.t 22]) 20 false,zN 24 23 20,xQ 25 20 24,xv 26 25,za 27 3 1 26,zl 28 1 27 26,ze 29 28 26,zI 30 .gtr 29 4000 26,xQ 31 26 30] (kF 31 [xF 2])) (.seq (kr [xI 4 0] (.blk 0 (.loop (.seq (kr [xv 32 4,xv 33 3,bT 34 .lss 32 33] (kX 34 0)) (.seq (.blk 1 (kr [xa 37 1 1,xl 38 37,xv 39 4,xD 40 4 38 39,xm 41 4 40,xo 5 (.alloc [.int .i64 0,.nil,.nil,.int .i64 0]),xS 4 5 41] (.seq (.dreg (.take 0 (xa 42 0 1) (.take 1 (xl 43 42) (.only 2 [] (xv 44 4) (.only 3 [1,0] (xD 45 1 43 44) (.only 4 [3,1,0] (xl 46 45) (.only 5 [4,3,1,0] (xc1 47 205 (.t 46)) (.only 6 [5,4,3,1,0] (xN 48 47) (.only 7 [5,4,3,1,0] (xv 49 48) (.only 8 [7,5,4,3,1,0] (za 50 1 5 49) (.only 9 [7,5,4,3,1,0] (zl 51 1 50 49) (.only 10 [7,5,4,3,1,0] (ze 52 51 49) (.only 11 [7,5,4,3,1,0] (zI 53 .neq 52 8 49) (.only 12 [7,5,4,3,1,0] (xQ 54 49 53) (.only 13 [7,5,4,3,1,0] (xv 55 54) (.take 14 (za 56 0 5 55) (.take 15 (zl 57 1 56 55) (.take 16 (za 58 0 1 55) (.take 17 (zl 59 1 58 55) (.only 18 [13,7,5,4,3,1,0] (zv 60 4 55) (.only 19 [13,17,7,16,5,4,3,1,0] (xg 61 (.iad 1 (.t 59) (.t 60)) 55 false) (.only 20 [13,19,7,17,5,16,4,3,1,0] (zl 62 1 61 55) (.only 21 [13,20,7,19,5,17,4,16,3,1,0] (ze 63 62 55) (.only 22 [13,21,7,20,5,19,4,17,3,16,1,0] (zI 64 .sub 63 1 55) (.only 23 [13,15,22,7,14,21,5,20,4,19,3,17,1,16,0] (xg 65 (.call 64 [false,false,false] [.t 57,xi 0,.t 64]) 55 false) (.only 24 [13,23,7,15,22,5,14,21,4,20,3,19,1,17,0,16] (zN 66 65 55) (.only 25 [13,24,7,23,5,15,22,4,14,21,3,20,1,19,0,17,16] (xQ 67 55 66) (.only 26 [23,13,15,22,7,14,21,5,20,4,19,3,17,1,16,0] (xv 68 67) (.only 27 [26,23,13,15,22,7,14,21,5,20,4,19,3,17,1,16,0] (za 69 3 5 68) (.only 28 [26,23,13,15,22,7,14,21,5,20,4,19,3,17,1,16,0] (zl 70 1 69 68) (.only 29 [26,23,13,15,22,7,14,21,5,20,4,19,3,17,1,16,0] (xg 71 (.call 64 [false,false,false] [.t 70,xi 0,xi 2]) 68 false) (.only 30 [26,23,13,15,22,7,14,21,5,20,4,19,3,17,1,16,0] (zN 72 71 68) (.only 31 [26,23,13,15,22,7,14,21,5,20,4,19,3,17,1,16,0] (xQ 73 68 72) (.only 32 [29,26,23,13,15,22,7,14,21,5,20,4,19,3,17,1,16,0] (xv 74 73) (.take 33 (za 75 2 1 74) (.take 34 (xg 76 (.load 1 true (.t 75)) 74 false) (.only 35 [32,29,26,23,13,15,22,7,14,21,5,20,4,19,3,17,1,16,0] (za 77 2 5 74) (.only 36 [32,29,26,23,13,15,22,7,14,21,5,20,4,19,3,17,1,16,0] (zl 78 1 77 74) (.only 37 [32,34,29,33,26,23,13,15,22,7,14,21,5,20,4,19,3,17,1,16,0] (xg 79 (.call 284 [false,false] [.t 76,.t 78]) 74 false) (.only 38 [32,37,29,34,26,33,23,13,15,22,7,14,21,5,20,4,19,3,17,1,16,0] (zN 80 79 74) (.only 39 [32,38,29,37,26,34,23,33,13,15,22,7,14,21,5,20,4,19,3,17,1,16,0] (xQ 81 74 80) (.done)))))))))))))))))))))))))))))))))))))))))) (kF 81 [xF 2])))) (xr [xv 35 4,bI 36 .add 35 1,xv 4 36])))))) (.seq (kr [xI 6 0] (.blk 2 (.loop (.seq (kr [xv 82 6,xa 83 3 1,xl 84 83,xe 85 84,bT 86 .lss 82 85] (kX 86 2)) (.seq (.blk 3 (kr [xa 89 3 1,xl 90 89,xv 91 6,xD 92 2 90 91,xa 93 0 92,xl 94 93,xv 95 3,bI 96 .sub 95 1,xc3 97 64 (.t 94) (xi 0) (.t 96),xN 98 97] (kF 98 [xF 2]))) (xr [xv 87 6,bI 88 .add 87 1,xv 6 88])))))) (kR [xT 2])))))⟩
def m235:MFn:=⟨81,[.t 2],kr [xb 1 0,xF 2] (.seq (kr [xa 5 0 1,xl 6 5,xe 7 6,xc3 8 59 (.t 7) (xi 1) (xi 4),xN 9 8,xv 10 9,za 11 1 1 10,zl 12 1 11 10,ze 13 12 10,za 14 0 1 10,zl 15 1 14 10,ze 16 15 10,xg 17 (.bin .neq (.t 13) (.t 16)) 10 false,xQ 18 10 17,xv 19 18,za 20 2 1 19,xg 21 (.load 1 true (.t 20)) 19 false,xg 22 (.call 286 [false] [.t 21]) 19 false,zN 23 22 19,xQ 24 19 23,xv 25 24,za 26 3 1 25,zl 27 1 26 25,za 28 1 1 25,zl 29 1 28 25,ze 30 29 25,xg 31 (.call 71 [false,false] [.t 27,.t 30]) 25 false,zN 32 31 25,xQ 33 25 32] (kF 33 [xF 2])) (.seq (kr [xa 34 1 1,xl 35 34,xe 36 35,xI 37 0] (.blk 0 (.loop (kr [bT 38 .lss 37 36] (.seq (kX 38 0) (.seq (.blk 1 (kr [xv 39 37,xD 40 4 35 37,xm 41 4 40,xo 4 (.alloc [.int .i64 0,.nil,.nil,.int .i64 0]),xv 3 39,xS 4 4 41] (.seq (.seq (.dreg (.take 0 (xa 42 0 1) (.take 1 (xl 43 42) (.only 2 [] (xv 44 3) (.only 3 [1,0] (xD 45 1 43 44) (.only 4 [3,1,0] (xl 46 45) (.only 5 [4,3,1,0] (xc1 47 209 (.t 46)) (.only 6 [5,4,3,1,0] (xN 48 47) (.only 7 [5,4,3,1,0] (xv 49 48) (.only 8 [7,5,4,3,1,0] (za 50 1 4 49) (.only 9 [7,5,4,3,1,0] (zl 51 1 50 49) (.only 10 [7,5,4,3,1,0] (ze 52 51 49) (.only 11 [7,5,4,3,1,0] (zI 53 .neq 52 8 49) (.only 12 [7,5,4,3,1,0] (xQ 54 49 53) (.only 13 [7,5,4,3,1,0] (xv 55 54) (.take 14 (za 56 0 4 55) (.take 15 (zl 57 1 56 55) (.take 16 (za 58 0 1 55) (.take 17 (zl 59 1 58 55) (.only 18 [13,7,5,4,3,1,0] (zv 60 3 55) (.only 19 [13,17,7,16,5,4,3,1,0] (xg 61 (.iad 1 (.t 59) (.t 60)) 55 false) (.only 20 [13,19,7,17,5,16,4,3,1,0] (zl 62 1 61 55) (.only 21 [13,20,7,19,5,17,4,16,3,1,0] (ze 63 62 55) (.only 22 [13,21,7,20,5,19,4,17,3,16,1,0] (zI 64 .sub 63 1 55) (.only 23 [13,15,22,7,14,21,5,20,4,19,3,17,1,16,0] (xg 65 (.call 59 [false,false,false] [.t 57,xi 0,.t 64]) 55 false) (.only 24 [13,23,7,15,22,5,14,21,4,20,3,19,1,17,0,16] (zN 66 65 55) (.only 25 [13,24,7,23,5,15,22,4,14,21,3,20,1,19,0,17,16] (xQ 67 55 66) (.done)))))))))))))))))))))))))))) (kF 67 [xF 2])) (kr [xa 68 3 4,xl 69 68,xc3 70 59 (.t 69) (xi 0) (xi 2),xN 71 70,xv 72 71,za 73 2 1 72,xg 74 (.load 1 true (.t 73)) 72 false,za 75 2 4 72,zl 76 1 75 72,xg 77 (.call 287 [false,false] [.t 74,.t 76]) 72 false,zN 78 77 72,xQ 79 72 78] (kF 79 [xF 2]))))) (xr [bI 80 .add 37 1,xv 37 80]))))))) (kR [xT 2])))⟩
def m283:MFn:=⟨43,[.t 2],kr [xb 1 0,xF 2] (.seq (kr [xa 5 0 1,xl 6 5,xe 7 6,bI 8 .neq 7 24] (kF 8 [xF 2])) (.seq (kr [xI 3 0] (.blk 0 (.loop (.seq (kr [xv 9 3,bI 10 .lss 9 24] (kX 10 0)) (.seq (.blk 1 (.seq (kr [xa 13 0 1,xl 14 13,xv 15 3,xD 16 1 14 15,xl 17 16,xe 18 17,xc3 19 64 (.t 18) (xi 1) (xi 4000),xN 20 19] (kF 20 [xF 2])) (kr [xI 4 0] (.blk 2 (.loop (.seq (kr [xv 21 4,xa 22 0 1,xl 23 22,xv 24 3,xD 25 1 23 24,xl 26 25,xe 27 26,bT 28 .lss 21 27] (kX 28 2)) (.seq (.blk 3 (.seq (.dreg (.take 0 (xm 31 1 1) (.take 1 (xa 32 0 1) (.take 2 (xl 33 32) (.take 3 (xv 34 3) (.take 4 (xD 35 1 33 34) (.take 5 (xl 36 35) (.only 6 [] (xv 37 4) (.only 7 [5,4,2,3,1] (xD 38 2 36 37) (.only 8 [7,5,4,2,3,1] (xa 39 1 38) (.only 9 [8,7,5,4,2,3,1] (xl 40 39) (.only 10 [0,9,8,7,5,4,2,3,1] (xc2 41 284 (.t 31) (.t 40)) (.only 11 [10,0,9,8,7,5,4,2,3,1] (xN 42 41) (.done)))))))))))))) (kF 42 [xF 2]))) (xr [xv 29 4,bI 30 .add 29 1,xv 4 30])))))))) (xr [xv 11 3,bI 12 .add 11 1,xv 3 12])))))) (kR [xT 2])))⟩
def m284:MFn:=⟨31,[.t 4],kr [xb 2 0,xF 4] (.seq (kr [xv 6 1,xe 7 6,xa 8 0 2,xl 9 8,xe 10 9,bT 11 .neq 7 10] (kF 11 [xF 4])) (.seq (kr [xI 5 0] (.blk 0 (.loop (.seq (kr [xv 12 5,xv 13 1,xe 14 13,bT 15 .lss 12 14] (kX 15 0)) (.seq (.blk 1 (.seq (.dreg (.take 0 (xv 18 1) (.take 1 (xv 19 5) (.take 2 (xD 20 1 18 19) (.take 3 (xl 21 20) (.take 4 (xa 22 0 2) (.take 5 (xl 23 22) (.only 6 [] (xv 24 5) (.only 7 [5,4] (xD 25 1 23 24) (.only 8 [7,5,4] (xl 26 25) (.only 9 [8,7,5,4] (xe 27 26) (.only 10 [9,8,7,5,4] (bI 28 .sub 27 1) (.only 11 [3,10,2,9,0,1,8,7,5,4] (xc3 29 64 (.t 21) (xi 0) (.t 28)) (.only 12 [11,3,10,2,9,0,1,8,7,5,4] (xN 30 29) (.done))))))))))))))) (kF 30 [xF 4]))) (xr [xv 16 5,bI 17 .add 16 1,xv 5 17])))))) (kR [xT 4])))⟩
def m286:MFn:=⟨35,[.t 2],kr [xb 1 0,xF 2] (.seq (kr [xa 7 0 1,xl 8 7,xe 9 8,xI 10 0] (.blk 0 (.loop (kr [bT 11 .lss 10 9] (.seq (kX 11 0) (.seq (.blk 1 (kr [xD 12 1 8 10,xl 13 12,xv 4 13] (.seq (kr [xv 14 4,xe 15 14,xc3 16 59 (.t 15) (xi 1) (xi 4000),xN 17 16] (kF 17 [xF 2])) (kr [xv 18 4,xe 19 18,xI 20 0] (.blk 2 (.loop (kr [bT 21 .lss 20 19] (.seq (kX 21 2) (.seq (.blk 3 (kr [xD 22 2 18 20,xm 23 2 22,xo 6 (.alloc [.int .i64 0,.nil]),xS 2 6 23] (kr [xm 24 1 1,xa 25 1 6,xl 26 25,xc2 27 287 (.t 24) (.t 26),xN 28 27] (kF 28 [xF 2])))) (xr [bI 29 .add 20 1,xv 20 29])))))))))) (xr [bI 30 .add 10 1,xv 10 30]))))))) (kR [xa 31 0 1,xl 32 31,xe 33 32,bI 34 .eql 33 24,xv 2 34]))⟩
def m287:MFn:=⟨31,[.t 4],kr [xb 2 0,xF 4] (.seq (kr [xv 7 1,xe 8 7,xa 9 0 2,xl 10 9,xe 11 10,bT 12 .neq 8 11] (kF 12 [xF 4])) (.seq (kr [xv 13 1,xe 14 13,xI 15 0] (.blk 0 (.loop (kr [bT 16 .lss 15 14] (.seq (kX 16 0) (.seq (.blk 1 (kr [xv 17 15,xD 18 1 13 15,xl 19 18,xv 5 17,xv 6 19] (kr [xv 20 6,xa 21 0 2,xl 22 21,xv 23 5,xD 24 1 22 23,xl 25 24,xe 26 25,bI 27 .sub 26 1,xc3 28 59 (.t 20) (xi 0) (.t 27),xN 29 28] (kF 29 [xF 4])))) (xr [bI 30 .add 15 1,xv 15 30]))))))) (kR [xT 4])))⟩
def zL (cs:List (List wY)) (v:List Int):Bool:=decide (v.length=cs.length)&&(qZg v.length).all fun i=>qL (v.getD i 0) 0 ((cs.getD i []).length-1)
def aX (cs:List (List wY)) (c:List wY):Bool:=qL c.length 1 4000&&c.all fun w=>zL cs w.view
def uN (cs:List (List wY)):Bool:=cs.all (aX cs)&&decide (cs.length=24)
def mT (m:qY) (i:Nat):Bool:=gA (m.codes.getD i [])&&decide ((m.cores.getD i default).regs.length=8)&&qL (m.cores.getD i default).at_ 0 ((m.codes.getD i []).length-1)&&qL (m.cores.getD i default).st 0 2&&zL m.mem.cells (m.cores.getD i default).view
def jJ (m:qY):Bool:=qL m.codes.length 1 4&&decide (m.cores.length=m.codes.length)&&uN m.mem.cells&&bJ m.tr m.cores.length&&(qZg m.cores.length).all (mT m)
theorem oS {p:Nat→Bool} {n:Nat}:(List.range n).all p=true↔∀i,i<n→p i=true:=by simp [List.all_eq_true]
def join:List Int→List Int→List Int
 | a::l,b::k=>max a b::join l k
 | _,_=>[]
def load (cs:List (List wY)) (view:List Int) (cell:Nat) (late:Int) (hold:Bool):Int×List Int :=
 let l:=cs.getD cell []
 let at_:=max ((l.length:Int)-1-max late 0) (view.getD cell 0)
 let w:=l.getD at_.toNat default
 (w.v,if hold then join (view.set cell at_) w.view else view.set cell at_)
def store (cs:List (List wY)) (view:List Int) (cell:Nat) (v:Int) (go:Bool):List (List wY)×List Int :=
 let n:Int:=(cs.getD cell []).length
 let out:=view.set cell n
 (cs.set cell (cs.getD cell []++[⟨v,if go then out else (qXi 24 0).set cell n⟩]),out)
def qTj (cs:List (List wY)) (v:List Int) (i:Nat):Bool:=qL (v.getD i 0) 0 ((cs.getD i []).length-1)
theorem pQ (cs:List (List wY)) (v:List Int):zL cs v=(decide (v.length=cs.length)&&(qZg v.length).all (qTj cs v)):=rfl
theorem qAx (cs:List (List wY)) (v:List Int) (h1:cs.length<2^40) (h2 :∀c∈cs,c.length<2^40) (h3:v.length<2^40):qU Tryz.prog num 287 [.agg (uO .bw ⟨cs⟩),.sl .bw 1 (wS v)] [] (.bool (zL cs v)):=by
 refine EN m287 Tryz.func94 ?_
 unfold m287
 simp only [go_sem,seval]
 by_cases hl:(v.length:Int)=cs.length
 case neg =>
  try simp only [go_sem,seval,hl]
  refine fz ?_; simp [wA,qR,qS,qN,-qZ8]
  have :¬v.length=cs.length:=by omega
  simp [zL,this]
 try simp only [go_sem,seval,hl]
 refine wC (ι:=Nat) (fun i=>.mk [(2,.ptr 10 0 0),(13,.sl .bw 1 (wS v)),(14,.int .i64 v.length),(15,.int .i64 i)] [(10,1,[uO .bw ⟨cs⟩])] 11) (fun i=>i≤v.length∧(qZg i).all (qTj cs v)=true) (fun i=>v.length-i) 0 (by simp) ?_ ?_
 ·refine Sub.shape [] id (by omega) ?_ ?_ ?_ ?_<;>simp [qM]
  all_goals (try omega)
 ·rintro i ⟨hi,hp⟩
  simp only [go_sem,seval]
  refine qP (fun hc=>?_) (fun hc=>?_)
  ·simp only [decide_eq_true_eq] at hc
   have hl':i<v.length:=by omega
   have hj:i<cs.length:=by omega
   have hb:=h2 _ (yB cs i [] hj)
   have w1:IntKind.i64.wrap (((cs.getD i []).length:Int)-1)=(cs.getD i []).length-1:=wK (by omega) (by omega)
   simp only [go_sem,seval,qI v i hl',vG .bw cs i hj,w1]
   repeat refine K ?_
   refine CA [] (yE (v.getD i 0) 0 ((cs.getD i []).length-1)) ?_
   try simp only [go_sem,seval]
   cases hw:qL (v.getD i 0) 0 ((cs.getD i []).length-1)
   ·try simp only [go_sem,seval,hw]
    refine fz ?_; simp [wA,qR,qS,qN,-qZ8]
    rw [pQ,vM hl' hw]
    simp
   ·try simp only [go_sem,seval,hw,qV (i:=i) (by omega)]
    refine qW (i+1) (Sub.shape [] id (by omega) ?_ ?_ ?_ ?_) ?_ ?_
    any_goals (first | omega | (simp [qM]; done))
    exact ⟨hl',gC hp hw⟩
  ·simp only [decide_eq_false_iff_not] at hc
   have he:i=v.length:=by omega
   subst he
   simp only [go_sem,seval]
   refine fz ?_; simp [wA,qR,qS,qN,-qZ8]
   rw [pQ,hp]
   simp
   omega
theorem qAm (cs:List (List wY)) (v:List Int) (h1:cs.length<2^40) (h2 :∀c∈cs,c.length<2^40) (h3:v.length<2^40):qU Tryz.prog num 284 [.agg (uO .bw ⟨cs⟩),.sl .bw 1 (wS v)] [] (.bool (zL cs v)):=by
 refine EN m284 Tryz.func107 ?_
 unfold m284
 simp only [go_sem,seval]
 by_cases hl:(v.length:Int)=cs.length
 case neg =>
  try simp only [go_sem,seval,hl]
  refine fz ?_; simp [wA,qR,qS,qN,-qZ8]
  have :¬v.length=cs.length:=by omega
  simp [zL,this]
 try simp only [go_sem,seval,hl]
 refine wC (ι:=Nat) (fun i=>.mk [(1,.sl .bw 1 (wS v)),(2,.ptr 10 0 0),(5,.int .i64 i)] [(10,1,[uO .bw ⟨cs⟩])] 11) (fun i=>i≤v.length∧(qZg i).all (qTj cs v)=true) (fun i=>v.length-i) 0 (by simp) ?_ ?_
 ·refine Sub.shape [] id (by omega) ?_ ?_ ?_ ?_<;>simp [qM]
 ·rintro i ⟨hi,hp⟩
  simp only [go_sem,seval]
  refine qP (fun hc=>?_) (fun hc=>?_)
  ·simp only [decide_eq_true_eq] at hc
   have hl':i<v.length:=by omega
   have hj:i<cs.length:=by omega
   have hb:=h2 _ (yB cs i [] hj)
   have w1:IntKind.i64.wrap (((cs.getD i []).length:Int)-1)=(cs.getD i []).length-1:=wK (by omega) (by omega)
   simp only [go_sem,seval,qI v i hl',vG .bw cs i hj,w1]
   repeat refine K ?_
   refine DA [] (yO (v.getD i 0) 0 ((cs.getD i []).length-1)) ?_
   try simp only [go_sem,seval]
   cases hw:qL (v.getD i 0) 0 ((cs.getD i []).length-1)
   ·try simp only [go_sem,seval,hw]
    refine fz ?_; simp [wA,qR,qS,qN,-qZ8]
    rw [pQ,vM hl' hw]
    simp
   ·try simp only [go_sem,seval,hw,qV (i:=i) (by omega)]
    refine qW (i+1) (Sub.shape [] id (by omega) ?_ ?_ ?_ ?_) ?_ ?_
    any_goals (first | omega | (simp [qM]; done))
    exact ⟨hl',gC hp hw⟩
  ·simp only [decide_eq_false_iff_not] at hc
   have he:i=v.length:=by omega
   subst he
   simp only [go_sem,seval]
   refine fz ?_; simp [wA,qR,qS,qN,-qZ8]
   rw [pQ,hp]
   simp
   omega
theorem lD (cs:List (List wY)) (h:qBu cs):qU Tryz.prog num 286 [.agg (uO .bw ⟨cs⟩)] [] (.bool (uN cs)):=by
 obtain ⟨h1,h2,h3⟩:=h
 refine EN m286 Tryz.func77 ?_
 unfold m286
 simp only [go_sem,seval]
 refine wC (ι:=Nat) (fun i=>.mk [(1,.ptr 10 0 0),(8,.sl .bw 1 (jT .bw cs)),(9,.int .i64 cs.length),(10,.int .i64 i)] [(10,1,[uO .bw ⟨cs⟩])] 11) (fun i=>i≤cs.length∧(cs.take i).all (aX cs)=true) (fun i=>cs.length-i) 0 (by simp) ?_ ?_
 ·refine Sub.shape [] id (by omega) ?_ ?_ ?_ ?_<;>simp [qM]
 ·rintro i ⟨hi,hp⟩
  simp only [go_sem,seval]
  refine qP (fun hc=>?_) (fun hc=>?_)
  ·simp only [decide_eq_true_eq] at hc
   have hl':i<cs.length:=by omega
   have hb:=h2 _ (yB cs i [] hl')
   have hv:=h3 _ (yB cs i [] hl')
   simp only [go_sem,seval,vG .bw cs i hl']
   repeat refine K ?_
   generalize hcd:cs.getD i []=c at hb hv
   refine CA [] (yE c.length 1 4000) ?_
   try simp only [go_sem,seval]
   cases hw:qL c.length 1 4000
   ·try simp only [go_sem,seval,hw]
    refine fz ?_; simp [wA,qR,qS,qN,-qZ8]
    have:cs.all (aX cs)=false:=bR (d:=[]) hl' (by rw [hcd]; simp [aX,hw])
    simp [uN,this]
   try simp only [go_sem,seval,hw]
   refine wC (ι:=Nat) (fun j=>.mk [(1,.ptr 10 0 0),(8,.sl .bw 1 (jT .bw cs)),(9,.int .i64 cs.length),(10,.int .i64 i),(18,.sl .bw 2 (vZ .bw c)),(19,.int .i64 c.length),(20,.int .i64 j)] [(10,1,[uO .bw ⟨cs⟩])] 11) (fun j=>j≤c.length∧(c.take j).all (fun w=>zL cs w.view)=true) (fun j=>c.length-j) 0 (by simp) ?_ ?_
   ·refine Sub.shape [] id (by omega) ?_ ?_ ?_ ?_<;>simp [qM]
   ·rintro j ⟨hj,hq⟩
    simp only [go_sem,seval]
    refine qP (fun hc2=>?_) (fun hc2=>?_)
    ·simp only [decide_eq_true_eq] at hc2
     have hj':j<c.length:=by omega
     simp only [go_sem,seval,fK .bw c j hj']
     repeat refine K ?_
     refine CA [] (qAx cs (c.getD j default).view h1 h2 (hv _ (yB c j default hj'))) ?_
     try simp only [go_sem,seval]
     cases hw3:zL cs (c.getD j default).view
     ·try simp only [go_sem,seval,hw3]
      refine fz ?_; simp [wA,qR,qS,qN,-qZ8]
      have hca:c.all (fun w=>zL cs w.view)=false:=bR (p:=fun w=>zL cs w.view) hj' hw3
      have:cs.all (aX cs)=false:=bR (d:=[]) hl' (by rw [hcd]; simp only [aX,hca,Bool.and_false])
      simp [uN,this]
     ·try simp only [go_sem,seval,hw3,qV (i:=j) (by omega)]
      refine qW (j+1) (Sub.shape [] id (by omega) ?_ ?_ ?_ ?_) ?_ ?_
      any_goals (first | omega | (simp [qM]; done))
      exact ⟨hj',gJ (p:=fun w=>zL cs w.view) hq hj' hw3⟩
    ·simp only [decide_eq_false_iff_not] at hc2
     have hca:=zZ hq hc2
     simp only [go_sem,seval,qV (i:=i) (by omega)]
     refine qW (i+1) (Sub.shape [] id (by omega) ?_ ?_ ?_ ?_) ?_ ?_
     any_goals (first | omega | (simp [qM]; done))
     exact ⟨hl',gJ (d:=[]) hp hl' (by rw [hcd]; simp only [aX,hca,hw,Bool.and_self])⟩
  ·simp only [decide_eq_false_iff_not] at hc
   have hall:=zZ hp hc
   by_cases h24:(cs.length:Int)=24
   ·simp only [go_sem,seval,h24]
    refine fz ?_; simp [wA,qR,qS,qN,-qZ8]
    have:cs.length=24:=by omega
    simp only [uN,hall,this]
    simp
   ·simp only [go_sem,seval,h24]
    refine fz ?_; simp [wA,qR,qS,qN,-qZ8]
    have :¬cs.length=24:=by omega
    simp [uN,this]
theorem kZ (cs:List (List wY)) (h:qBu cs):qU Tryz.prog num 283 [.agg (uO .bw ⟨cs⟩)] [] (.bool (uN cs)):=by
 obtain ⟨h1,h2,h3⟩:=h
 refine EN m283 Tryz.func105 ?_
 unfold m283
 simp only [go_sem,seval]
 by_cases h24:(cs.length:Int)=24
 case neg =>
  try simp only [go_sem,seval,h24]
  refine fz ?_; simp [wA,qR,qS,qN,-qZ8]
  have :¬cs.length=24:=by omega
  simp [uN,this]
 try simp only [go_sem,seval,h24]
 refine wC (ι:=Nat) (fun i=>.mk [(1,.ptr 10 0 0),(3,.int .i64 i)] [(10,1,[uO .bw ⟨cs⟩])] 11) (fun i=>i≤cs.length∧(cs.take i).all (aX cs)=true) (fun i=>cs.length-i) 0 (by simp) ?_ ?_
 ·refine Sub.shape [] id (by omega) ?_ ?_ ?_ ?_<;>simp [qM]
 ·rintro i ⟨hi,hp⟩
  simp only [go_sem,seval]
  refine qP (fun hc=>?_) (fun hc=>?_)
  ·simp only [decide_eq_true_eq] at hc
   have hl':i<cs.length:=by omega
   have hb:=h2 _ (yB cs i [] hl')
   have hv:=h3 _ (yB cs i [] hl')
   have hcg:=vG .bw cs i hl'
   generalize hcd:cs.getD i []=c at hb hv hcg
   simp only [go_sem,seval,hcg]
   repeat refine K ?_
   refine CA [] (yO c.length 1 4000) ?_
   try simp only [go_sem,seval]
   cases hw:qL c.length 1 4000
   ·try simp only [go_sem,seval,hw]
    refine fz ?_; simp [wA,qR,qS,qN,-qZ8]
    have:cs.all (aX cs)=false:=bR (d:=[]) hl' (by rw [hcd]; simp [aX,hw])
    simp [uN,this]
   try simp only [go_sem,seval,hw]
   refine wC (ι:=Nat) (fun j=>.mk [(1,.ptr 10 0 0),(3,.int .i64 i),(4,.int .i64 j)] [(10,1,[uO .bw ⟨cs⟩])] 11) (fun j=>j≤c.length∧(c.take j).all (fun w=>zL cs w.view)=true) (fun j=>c.length-j) 0 (by simp) ?_ ?_
   ·refine Sub.shape [] id (by omega) ?_ ?_ ?_ ?_<;>simp [qM]
   ·rintro j ⟨hj,hq⟩
    simp only [go_sem,seval,hcg]
    repeat refine K ?_
    refine qP (fun hc2=>?_) (fun hc2=>?_)
    ·simp only [decide_eq_true_eq] at hc2
     have hj':j<c.length:=by omega
     simp only [go_sem,seval,hcg,fK .bw c j hj']
     repeat refine K ?_
     refine DA [] (qAm cs (c.getD j default).view h1 h2 (hv _ (yB c j default hj'))) ?_
     try simp only [go_sem,seval]
     cases hw3:zL cs (c.getD j default).view
     ·try simp only [go_sem,seval,hw3]
      refine fz ?_; simp [wA,qR,qS,qN,-qZ8]
      have hca:c.all (fun w=>zL cs w.view)=false:=bR (p:=fun w=>zL cs w.view) hj' hw3
      have:cs.all (aX cs)=false:=bR (d:=[]) hl' (by rw [hcd]; simp only [aX,hca,Bool.and_false])
      simp [uN,this]
     ·try simp only [go_sem,seval,hw3,qV (i:=j) (by omega)]
      refine qW (j+1) (Sub.shape [] id (by omega) ?_ ?_ ?_ ?_) ?_ ?_
      any_goals (first | omega | (simp [qM]; done))
      exact ⟨hj',gJ (p:=fun w=>zL cs w.view) hq hj' hw3⟩
    ·simp only [decide_eq_false_iff_not] at hc2
     have hca:=zZ hq hc2
     simp only [go_sem,seval,qV (i:=i) (by omega)]
     refine qW (i+1) (Sub.shape [] id (by omega) ?_ ?_ ?_ ?_) ?_ ?_
     any_goals (first | omega | (simp [qM]; done))
     exact ⟨hl',gJ (d:=[]) hp hl' (by rw [hcd]; simp only [aX,hca,hw,Bool.and_self])⟩
  ·simp only [decide_eq_false_iff_not] at hc
   have hall:cs.all (aX cs)=true:=zZ hp (by omega)
   simp only [go_sem,seval]
   refine fz ?_; simp [wA,qR,qS,qN,-qZ8]
   have:cs.length=24:=by omega
   simp only [uN,hall,this]
   simp
theorem rO (m:qY):jJ m=(qL m.codes.length 1 4&&decide (m.cores.length=m.codes.length)&&uN m.mem.cells&&bJ m.tr m.cores.length&&(qZg m.cores.length).all (mT m)):=rfl
theorem oZ (m:qY) (h:lF m):qU Tryz.prog num 235 [.agg (qX .bw m)] [] (.bool (jJ m)):=by
 obtain ⟨h1,h2,h3,h4,h5,h6,h7⟩:=h
 refine EN m235 Tryz.func33 ?_
 unfold m235
 simp only [go_sem,seval]
 refine CA [] (yE m.codes.length 1 4) ?_
 try simp only [go_sem,seval]
 cases hw:qL m.codes.length 1 4
 ·try simp only [go_sem,seval,hw]
  refine fz ?_; simp [wA,qR,qS,qN,-qZ8]
  simp [jJ,hw]
 try simp only [go_sem,seval,hw]
 by_cases hcl:(m.cores.length:Int)=m.codes.length
 case neg =>
  try simp only [go_sem,seval,hcl]
  refine fz ?_; simp [wA,qR,qS,qN,-qZ8]
  have :¬m.cores.length=m.codes.length:=by omega
  simp [jJ,this]
 try simp only [go_sem,seval,hcl]
 refine CA [] (lD m.mem.cells h6) ?_
 try simp only [go_sem,seval]
 cases hmo:uN m.mem.cells
 ·try simp only [go_sem,seval,hmo]
  refine fz ?_; simp [wA,qR,qS,qN,-qZ8]
  simp [jJ,hmo]
 try simp only [go_sem,seval,hmo]
 refine CA [] (qHe m.tr m.cores.length (by omega) (by omega) (by omega)) ?_
 try simp only [go_sem,seval]
 cases hno:bJ m.tr m.cores.length
 ·try simp only [go_sem,seval,hno]
  refine fz ?_; simp [wA,qR,qS,qN,-qZ8]
  simp [jJ,hno]
 try simp only [go_sem,seval,hno]
 refine wC (ι:=Nat) (fun i=>.mk [(1,.ptr 10 0 0),(35,.sl .bw 4 (cores .bw m.cores)),(36,.int .i64 m.cores.length),(37,.int .i64 i)] [(10,4,[qX .bw m])] 11) (fun i=>i≤m.cores.length∧(qZg i).all (mT m)=true) (fun i=>m.cores.length-i) 0 (by simp) ?_ ?_
 ·refine Sub.shape [] id (by omega) ?_ ?_ ?_ ?_<;>simp [qM]
  all_goals (try omega)
 ·rintro i ⟨hi,hp⟩
  simp only [go_sem,seval]
  refine qP (fun hc=>?_) (fun hc=>?_)
  ·simp only [decide_eq_true_eq] at hc
   have hl':i<m.cores.length:=by omega
   have hj:i<m.codes.length:=by omega
   have hb:=h2 _ (yB m.codes i [] hj)
   have hg:=aW .bw m.codes i hj
   have w1:IntKind.i64.wrap (((m.codes.getD i []).length:Int)-1)=(m.codes.getD i []).length-1:=wK (by omega) (by omega)
   have hvl:=h5 _ (yB m.cores i default hl')
   have hco:mT m i=(gA (m.codes.getD i [])&&decide ((m.cores.getD i default).regs.length=8)&&qL (m.cores.getD i default).at_ 0 ((m.codes.getD i []).length-1)&&qL (m.cores.getD i default).st 0 2&&zL m.mem.cells (m.cores.getD i default).view):=rfl
   simp only [go_sem,seval,vC .bw m.cores i hl',hg]
   repeat refine K ?_
   generalize m.cores.getD i default=k at hco hvl
   generalize m.codes.getD i []=cd at hco w1 hb hg
   refine DA [] (qAz cd hb) ?_
   try simp only [go_sem,seval]
   have fin:mT m i=false→jJ m=false:=fun h=>by rw [rO,vM hl' h]; simp
   cases c1:gA cd
   ·try simp only [go_sem,seval,c1]
    refine fz ?_; simp [wA,qR,qS,qN,-qZ8]
    exact fin (by rw [hco,c1]; simp)
   by_cases c2:(k.regs.length:Int)=8
   case neg =>
    try simp only [go_sem,seval,c1,c2]
    refine fz ?_; simp [wA,qR,qS,qN,-qZ8]
    have :¬k.regs.length=8:=by omega
    exact fin (by rw [hco]; simp [this])
   try simp only [go_sem,seval,c1,c2,hg,w1]
   repeat refine K ?_
   refine DA [] (yE k.at_ 0 (cd.length-1)) ?_
   try simp only [go_sem,seval]
   cases c3:qL k.at_ 0 (cd.length-1)
   ·try simp only [go_sem,seval,c3]
    refine fz ?_; simp [wA,qR,qS,qN,-qZ8]
    exact fin (by rw [hco,c3]; simp)
   try simp only [go_sem,seval,c3]
   refine CA [] (yE k.st 0 2) ?_
   try simp only [go_sem,seval]
   cases c4:qL k.st 0 2
   ·try simp only [go_sem,seval,c4]
    refine fz ?_; simp [wA,qR,qS,qN,-qZ8]
    exact fin (by rw [hco,c4]; simp)
   try simp only [go_sem,seval,c4]
   refine CA [] (qAx m.mem.cells k.view h6.len h6.cell hvl) ?_
   try simp only [go_sem,seval]
   cases c5:zL m.mem.cells k.view
   ·try simp only [go_sem,seval,c5]
    refine fz ?_; simp [wA,qR,qS,qN,-qZ8]
    exact fin (by rw [hco,c5]; simp)
   try simp only [go_sem,seval,c5,qV (i:=i) (by omega)]
   refine qW (i+1) (Sub.shape [] id (by omega) ?_ ?_ ?_ ?_) ?_ ?_
   any_goals (first | omega | (simp [qM]; done))
   have c2':k.regs.length=8:=by omega
   exact ⟨hl',gC hp (by rw [hco,c1,c3,c4,c5,c2']; rfl)⟩
  ·simp only [decide_eq_false_iff_not] at hc
   have he:i=m.cores.length:=by omega
   subst he
   simp only [go_sem,seval]
   refine fz ?_; simp [wA,qR,qS,qN,-qZ8]
   rw [rO,hw,hmo,hno,hp]
   simp
   omega
theorem oL (m:qY) (h:lF m):qU Tryz.prog num 233 [.agg (qX .bw m)] [] (.bool (jJ m)):=by
 obtain ⟨h1,h2,h3,h4,h5,h6,h7⟩:=h
 refine EN m233 Tryz.func40 ?_
 unfold m233
 simp only [go_sem,seval]
 refine CA [] (yO m.codes.length 1 4) ?_
 try simp only [go_sem,seval]
 cases hw:qL m.codes.length 1 4
 ·try simp only [go_sem,seval,hw]
  refine fz ?_; simp [wA,qR,qS,qN,-qZ8]
  simp [jJ,hw]
 try simp only [go_sem,seval,hw]
 by_cases hcl:(m.cores.length:Int)=m.codes.length
 case neg =>
  try simp only [go_sem,seval,hcl]
  refine fz ?_; simp [wA,qR,qS,qN,-qZ8]
  have :¬m.cores.length=m.codes.length:=by omega
  simp [jJ,this]
 try simp only [go_sem,seval,hcl]
 refine CA [] (kZ m.mem.cells h6) ?_
 try simp only [go_sem,seval]
 cases hmo:uN m.mem.cells
 ·try simp only [go_sem,seval,hmo]
  refine fz ?_; simp [wA,qR,qS,qN,-qZ8]
  simp [jJ,hmo]
 try simp only [go_sem,seval,hmo]
 by_cases htl:(4000:Int)<m.tr.length
 ·try simp only [go_sem,seval,htl]
  refine fz ?_; simp [wA,qR,qS,qN,-qZ8]
  have :¬(m.tr.length:Int)≤4000:=by omega
  simp [jJ,bJ,this]
 try simp only [go_sem,seval,htl]
 refine wC (ι:=Nat) (fun i=>.mk [(1,.ptr 10 0 0),(3,.int .i64 m.codes.length),(4,.int .i64 i)] [(10,4,[qX .bw m])] 11) (fun i=>i≤m.cores.length∧(qZg i).all (mT m)=true) (fun i=>m.cores.length-i) 0 (by simp) ?_ ?_
 ·refine Sub.shape [] id (by omega) ?_ ?_ ?_ ?_<;>simp [qM]
  all_goals (try omega)
 ·rintro i ⟨hi,hp⟩
  simp only [go_sem,seval]
  refine qP (fun hc=>?_) (fun hc=>?_)
  ·simp only [decide_eq_true_eq] at hc
   have hl':i<m.cores.length:=by omega
   have hj:i<m.codes.length:=by omega
   have hb:=h2 _ (yB m.codes i [] hj)
   have hg:=aW .bw m.codes i hj
   have w1:IntKind.i64.wrap (((m.codes.getD i []).length:Int)-1)=(m.codes.getD i []).length-1:=wK (by omega) (by omega)
   have hvl:=h5 _ (yB m.cores i default hl')
   have hco:mT m i=(gA (m.codes.getD i [])&&decide ((m.cores.getD i default).regs.length=8)&&qL (m.cores.getD i default).at_ 0 ((m.codes.getD i []).length-1)&&qL (m.cores.getD i default).st 0 2&&zL m.mem.cells (m.cores.getD i default).view):=rfl
   simp only [go_sem,seval,vC .bw m.cores i hl',hg]
   repeat refine K ?_
   generalize m.cores.getD i default=k at hco hvl
   generalize m.codes.getD i []=cd at hco w1 hb hg
   refine DA [] (qAo cd hb) ?_
   try simp only [go_sem,seval]
   have fin:mT m i=false→jJ m=false:=fun h=>by rw [rO,vM hl' h]; simp
   cases c1:gA cd
   ·try simp only [go_sem,seval,c1]
    refine fz ?_; simp [wA,qR,qS,qN,-qZ8]
    exact fin (by rw [hco,c1]; simp)
   by_cases c2:(k.regs.length:Int)=8
   case neg =>
    try simp only [go_sem,seval,c1,c2]
    refine fz ?_; simp [wA,qR,qS,qN,-qZ8]
    have :¬k.regs.length=8:=by omega
    exact fin (by rw [hco]; simp [this])
   try simp only [go_sem,seval,c1,c2,hg,w1]
   repeat refine K ?_
   refine DA [] (yO k.at_ 0 (cd.length-1)) ?_
   try simp only [go_sem,seval]
   cases c3:qL k.at_ 0 (cd.length-1)
   ·try simp only [go_sem,seval,c3]
    refine fz ?_; simp [wA,qR,qS,qN,-qZ8]
    exact fin (by rw [hco,c3]; simp)
   try simp only [go_sem,seval,c3]
   refine DA [] (yO k.st 0 2) ?_
   try simp only [go_sem,seval]
   cases c4:qL k.st 0 2
   ·try simp only [go_sem,seval,c4]
    refine fz ?_; simp [wA,qR,qS,qN,-qZ8]
    exact fin (by rw [hco,c4]; simp)
   try simp only [go_sem,seval,c4]
   repeat refine K ?_
   refine DA [] (qAm m.mem.cells k.view h6.len h6.cell hvl) ?_
   try simp only [go_sem,seval]
   cases c5:zL m.mem.cells k.view
   ·try simp only [go_sem,seval,c5]
    refine fz ?_; simp [wA,qR,qS,qN,-qZ8]
    exact fin (by rw [hco,c5]; simp)
   try simp only [go_sem,seval,c5,qV (i:=i) (by omega)]
   refine qW (i+1) (Sub.shape [] id (by omega) ?_ ?_ ?_ ?_) ?_ ?_
   any_goals (first | omega | (simp [qM]; done))
   have c2':k.regs.length=8:=by omega
   exact ⟨hl',gC hp (by rw [hco,c1,c3,c4,c5,c2']; rfl)⟩
  ·simp only [decide_eq_false_iff_not] at hc
   have hall:(qZg m.cores.length).all (mT m)=true:=by
    have he:i=m.cores.length:=by omega
    rw [←he]
    exact hp
   have w1:IntKind.i64.wrap ((m.codes.length:Int)-1)=m.codes.length-1:=wK (by omega) (by omega)
   simp only [go_sem,seval]
   refine wC (ι:=Nat) (fun i=>.mk [(1,.ptr 10 0 0),(3,.int .i64 m.codes.length),(6,.int .i64 i)] [(10,4,[qX .bw m])] 11) (fun i=>i≤m.tr.length∧(m.tr.take i).all (fun x=>qL x.who 0 (m.codes.length-1))=true) (fun i=>m.tr.length-i) 0 (by simp) ?_ ?_
   ·refine Sub.shape [] id (by omega) ?_ ?_ ?_ ?_<;>simp [qM]
   ·clear hp hi hc
    clear i
    rintro i ⟨hi,hp⟩
    simp only [go_sem,seval]
    refine qP (fun hc=>?_) (fun hc=>?_)
    ·simp only [decide_eq_true_eq] at hc
     have hl':i<m.tr.length:=by omega
     simp only [go_sem,seval,fG m.tr i hl',w1]
     repeat refine K ?_
     refine CA [] (yO (m.tr.getD i default).who 0 (m.codes.length-1)) ?_
     try simp only [go_sem,seval]
     cases c5:qL (m.tr.getD i default).who 0 (m.codes.length-1)
     ·try simp only [go_sem,seval,c5]
      refine fz ?_; simp [wA,qR,qS,qN,-qZ8]
      have:m.tr.all (fun x=>qL x.who 0 (m.codes.length-1))=false:=bR (p:=fun x=>qL x.who 0 ((m.codes.length:Int)-1)) hl' c5
      have hn:bJ m.tr m.cores.length=false:=by
       unfold bJ
       rw [hcl,this]
       rfl
      simp [jJ,hn]
     ·try simp only [go_sem,seval,c5,qV (i:=i) (by omega)]
      refine qW (i+1) (Sub.shape [] id (by omega) ?_ ?_ ?_ ?_) ?_ ?_
      any_goals (first | omega | (simp [qM]; done))
      exact ⟨hl',gJ (p:=fun x=>qL x.who 0 ((m.codes.length:Int)-1)) hp hl' c5⟩
    ·simp only [decide_eq_false_iff_not] at hc
     have ha:=zZ hp hc
     have hn:bJ m.tr m.cores.length=true:=by
      unfold bJ
      rw [hcl,ha]
      simp
      omega
     simp only [go_sem,seval]
     refine fz ?_; simp [wA,qR,qS,qN,-qZ8]
     rw [rO,hw,hmo,hn,hall]
     simp
     omega
def rg (k:bZ) (r:Int):Int:=k.regs.getD r.toNat 0
def oB (k:bZ) (r v:Int):bZ:={k with regs:=k.regs.set r.toNat v}
def qJ (m:qY) (i:Nat):bZ:=m.cores.getD i default
def wD (m:qY) (i:Nat):yK:=(m.codes.getD i []).getD (qJ m i).at_.toNat default
def wN (k:bZ) (s:yK):Int:=if s.op≠8∧0≤s.a then IntKind.i64.wrap (s.n+rg k s.a) else s.n
def jL (m:qY) (i:Nat) (k:bZ):qY:={m with cores:=m.cores.set i k}
def stop (m:qY) (i:Nat) (st:Int):qY:=jL m i {qJ m i with st:=st}
def fH (m:qY) (i:Nat) (k:bZ) (bB:Int):qY :=
 if ((m.codes.getD i []).length:Int)≤bB then jL m i {k with st:=2} else jL m i {k with at_:=bB}
def jK (op:Int):Bool:=decide (op=5)||decide (op=6)||decide (op=7)||decide (op=8)
def aM (m:qY) (who:Int):Int :=
 if qL who 0 (m.cores.length-1) then
  let k:=qJ m who.toNat
  let s:=wD m who.toNat
  if k.st≠0∨(s.op=9∧(m.tr.length:Int)=4000) then 3
  else if jK s.op&&!decide (s.op=5)&&qL (wN k s) 0 23&&decide ((4000:Int)≤(m.mem.cells.getD (wN k s).toNat []).length) then 3
  else 0
 else 2
def jN (cs:List (List wY)) (k:bZ) (s:yK) (cell:Nat) (late:Int):List (List wY)×bZ :=
 if s.op=5 then
  let r:=load cs k.view cell late false
  (cs,{k with regs:=k.regs.set s.r.toNat r.1,view:=r.2})
 else if s.op=8 then
  let r:=load cs k.view cell 0 true
  let w:=store cs r.2 cell (rg k s.b) true
  (w.1,{k with regs:=k.regs.set s.r.toNat r.1,view:=w.2})
 else
  let w:=store cs k.view cell (rg k s.b) (decide (s.op=7))
  (w.1,{k with view:=w.2})
def alu (k:bZ) (s:yK):bZ :=
 if s.op=1 then oB k s.r s.n
 else if s.op=2 then oB k s.r (IntKind.i64.wrap (rg k s.a+rg k s.b))
 else if s.op=3 then oB k s.r (IntKind.i64.wrap (rg k s.a-rg k s.b))
 else if s.op=4 then oB k s.r (uM (decide (rg k s.a<rg k s.b)))
 else k
def uR (k:bZ) (s:yK):Int:=if s.op=10 then s.n else if s.op=11∧rg k s.a=0 then s.n else k.at_+1
def mdo (m:qY) (i:Nat) (late:Int):qY :=
 let k:=qJ m i
 let s:=wD m i
 if s.op=12 then stop m i 1
 else if s.op=13 then stop m i 2
 else if jK s.op then
  if qL (wN k s) 0 23 then
   let r:=jN m.mem.cells k s (wN k s).toNat late
   fH {m with mem:=⟨r.1⟩} i r.2 (k.at_+1)
  else stop m i 2
 else if s.op=9 then fH {m with tr:=m.tr++[⟨i,rg k s.a⟩]} i k (k.at_+1)
 else fH m i (alu k s) (uR k s)
def yG (m:qY) (x:uF):qY×Int:=if aM m x.who=0 then (mdo m x.who.toNat x.late,0) else (m,aM m x.who)
def VOk (cs:List (List wY)) (v:List Int):Prop:=v.length=24∧∀i,i<24→0≤v.getD i 0∧v.getD i 0<((cs.getD i []).length:Int)
structure lR (cs:List (List wY)):Prop where
 len:cs.length=24
 cell :∀i,i<24→1≤(cs.getD i []).length∧(cs.getD i []).length≤4000
 view :∀i,i<24→∀w∈cs.getD i [],VOk cs w.view
theorem qB6 {cs:List (List wY)} (hc:cs.length=24) (v:List Int):zL cs v=true↔VOk cs v:=by
 unfold zL VOk
 simp only [qXo,decide_eq_true_eq,oS,qO,hc]
 constructor
 ·rintro ⟨h1,h2⟩
  exact ⟨h1,fun i hi=>by have:=h2 i (by omega); omega⟩
 ·rintro ⟨h1,h2⟩
  exact ⟨h1,fun i hi=>by have:=h2 i (by omega); omega⟩
theorem cG (cs:List (List wY)):uN cs=true↔lR cs:=by
 unfold uN aX
 simp only [qXo,decide_eq_true_eq,qZi,qO]
 constructor
 ·rintro ⟨h1,h2⟩
  refine ⟨h2,fun i hi=>?_,fun i hi w hw=>?_⟩
  ·have:=(h1 _ (yB cs i [] (by omega))).1
   omega
  ·exact (qB6 h2 _).1 ((h1 _ (yB cs i [] (by omega))).2 w hw)
 ·rintro ⟨h1,h2,h3⟩
  refine ⟨fun c hc=>?_,h1⟩
  obtain ⟨i,hi,rfl⟩:=List.getElem_of_mem hc
  have e:cs.getD i []=cs[i]:=by simp [qXq,hi]
  have a:=h2 i (by omega)
  have b:=h3 i (by omega)
  rw [e] at a b
  exact ⟨by omega,fun w hw=>(qB6 h1 _).2 (b w hw)⟩
structure COk (m:qY) (i:Nat):Prop where
 code:gA (m.codes.getD i [])=true
 regs:(qJ m i).regs.length=8
 at0:0≤(qJ m i).at_
 at1:(qJ m i).at_<((m.codes.getD i []).length:Int)
 st0:0≤(qJ m i).st
 st1:(qJ m i).st≤2
 view:VOk m.mem.cells (qJ m i).view
structure MOk (m:qY):Prop where
 n1:1≤m.codes.length
 n4:m.codes.length≤4
 cores:m.cores.length=m.codes.length
 mem:lR m.mem.cells
 tr:bJ m.tr m.cores.length=true
 core :∀i,i<m.cores.length→COk m i
theorem qIc {m:qY} (hc:m.mem.cells.length=24) (i:Nat):mT m i=true↔COk m i:=by
 unfold mT
 simp only [qXo,decide_eq_true_eq,qO,qB6 hc]
 constructor
 ·rintro ⟨⟨⟨⟨h1,h2⟩,h3⟩,h4⟩,h5⟩
  exact ⟨h1,h2,h3.1,by unfold qJ; omega,h4.1,h4.2,h5⟩
 ·rintro ⟨h1,h2,h3,h4,h5,h6,h7⟩
  unfold qJ at *
  exact ⟨⟨⟨⟨h1,h2⟩,by omega⟩,by omega⟩,h7⟩
theorem jM (m:qY):jJ m=true↔MOk m:=by
 unfold jJ
 simp only [qXo,decide_eq_true_eq,qO,cG,oS]
 constructor
 ·rintro ⟨⟨⟨⟨h1,h2⟩,h3⟩,h4⟩,h5⟩
  exact ⟨by omega,by omega,h2,h3,h4,fun i hi=>(qIc h3.len i).1 (h5 i hi)⟩
 ·rintro ⟨h1,h2,h3,h4,h5,h6⟩
  exact ⟨⟨⟨⟨by omega,h3⟩,h4⟩,h5⟩,fun i hi=>(qIc h4.len i).2 (h6 i hi)⟩
theorem gR {α:Type} (l:List α) (i j:Nat) (a d:α) (hi:i<l.length):(l.set i a).getD j d=if j=i then a else l.getD j d:=by
 by_cases h:j=i
 ·subst h
  simp [qXq,hi]
 ·rw [if_neg h]
  simp [qXq,List.getElem?_set,show¬i=j from fun e=>h e.symm]
theorem VOk.grow {cs cs':List (List wY)} {v:List Int} (h:VOk cs v) (hg :∀i,i<24→(cs.getD i []).length≤(cs'.getD i []).length):VOk cs' v :=
 ⟨h.1,fun i hi=>by have:=h.2 i hi; have:=hg i hi; omega⟩
theorem VOk.set {cs:List (List wY)} {v:List Int} (h:VOk cs v) (c:Nat) (n:Int) (h0:0≤n) (h1:n<((cs.getD c []).length:Int)):VOk cs (v.set c n):=by
 refine ⟨by rw [qZ5]; exact h.1,fun i hi=>?_⟩
 by_cases hc:c<v.length
 ·rw [gR _ _ _ _ _ hc]
  split
  ·rename_i e
   subst e
   exact ⟨h0,h1⟩
  ·exact h.2 i hi
 ·rw [List.set_eq_of_length_le (by omega)]
  exact h.2 i hi
theorem tC :∀(a b:List Int),a.length=b.length→(join a b).length=a.length
 | [],_,_=>by simp [join]
 | _::_,[],h=>by simp at h
 | a::l,b::k,h=>by simp [join,tC l k (by simpa using h)]
theorem qMb :∀(a b:List Int) (i:Nat),i<a.length→i<b.length→(join a b).getD i 0=max (a.getD i 0) (b.getD i 0)
 | [],_,i,h,_=>by simp at h
 | _::_,[],i,_,h=>by simp at h
 | a::l,b::k,0,_,_=>by simp [join]
 | a::l,b::k,i+1,h,g=>by
  simp only [join,List.getD_cons_succ]
  exact qMb l k i (by simpa using h) (by simpa using g)
theorem VOk.join {cs:List (List wY)} {v w:List Int} (h:VOk cs v) (k:VOk cs w):VOk cs (join v w):=by
 refine ⟨by rw [tC _ _ (by rw [h.1,k.1])]; exact h.1,fun i hi=>?_⟩
 have a:=h.2 i hi
 have b:=k.2 i hi
 rw [qMb _ _ i (by rw [h.1]; exact hi) (by rw [k.1]; exact hi)]
 omega
theorem qH0 (n i:Nat) (a:Int):(qXi n a).getD i a=a:=by
 rw [qXq,List.getElem?_replicate]
 split<;>rfl
theorem VOk.zero {cs:List (List wY)} (h:lR cs):VOk cs (qXi 24 0):=by
 refine ⟨rfl,fun i hi=>?_⟩
 have:=(h.cell i hi).1
 rw [qH0]
 omega
def qCr (cs:List (List wY)) (view:List Int) (cell:Nat) (late:Int):Int:=max (((cs.getD cell []).length:Int)-1-max late 0) (view.getD cell 0)
theorem qM7 {cs:List (List wY)} {view:List Int} {cell:Nat} {late:Int} (h:VOk cs view) (hc:cell<24):0≤qCr cs view cell late∧qCr cs view cell late<((cs.getD cell []).length:Int):=by
 have:=h.2 cell hc
 unfold qCr
 omega
theorem qM6 (cs:List (List wY)) (view:List Int) (cell:Nat) (late:Int) (hold:Bool):load cs view cell late hold=(((cs.getD cell []).getD (qCr cs view cell late).toNat default).v,if hold then join (view.set cell (qCr cs view cell late)) ((cs.getD cell []).getD (qCr cs view cell late).toNat default).view else view.set cell (qCr cs view cell late)):=rfl
theorem qG6 {cs:List (List wY)} {view:List Int} {cell:Nat} {late:Int} {hold:Bool} (hm:lR cs) (h:VOk cs view) (hc:cell<24):VOk cs (load cs view cell late hold).2:=by
 have hl:=qM7 (late:=late) h hc
 have hs:=h.set cell (qCr cs view cell late) hl.1 hl.2
 rw [qM6]
 simp only
 split
 ·refine hs.join (hm.view cell hc _ (yB _ _ _ (by omega)))
 ·exact hs
theorem qK6 {cs:List (List wY)} {view:List Int} {cell:Nat} {v:Int} {go:Bool} (hm:lR cs) (h:VOk cs view) (hc:cell<24) (hr:(cs.getD cell []).length<4000):lR (store cs view cell v go).1∧VOk (store cs view cell v go).1 (store cs view cell v go).2∧(∀i,i<24→(cs.getD i []).length≤((store cs view cell v go).1.getD i []).length):=by
 have hcl:cell<cs.length:=by rw [hm.len]; exact hc
 unfold store
 simp only
 generalize hw:(⟨v,if go then view.set cell ((cs.getD cell []).length:Int) else (qXi 24 0).set cell ((cs.getD cell []).length:Int)⟩:wY)=w
 have hg :∀i,i<24→(cs.getD i []).length≤((cs.set cell (cs.getD cell []++[w])).getD i []).length:=fun i hi=>by
  rw [gR _ _ _ _ _ hcl]
  split
  ·rename_i e
   subst e
   simp
  ·exact Nat.le_refl _
 have hn:(((cs.set cell (cs.getD cell []++[w])).getD cell []).length:Int)=(cs.getD cell []).length+1:=by
  rw [gR _ _ _ _ _ hcl,if_pos rfl]
  simp
 have ho:VOk (cs.set cell (cs.getD cell []++[w])) (view.set cell ((cs.getD cell []).length:Int)):=(h.grow hg).set cell _ (by omega) (by omega)
 have hwe:w.view=if go then view.set cell ((cs.getD cell []).length:Int) else (qXi 24 0).set cell ((cs.getD cell []).length:Int):=by rw [←hw]
 have hwv:VOk (cs.set cell (cs.getD cell []++[w])) w.view:=by
  rw [hwe]
  split
  ·exact ho
  ·exact ((VOk.zero hm).grow hg).set cell _ (by omega) (by omega)
 refine ⟨⟨by rw [qZ5]; exact hm.len,fun i hi=>?_,fun i hi x hx=>?_⟩,ho,hg⟩
 ·rw [gR _ _ _ _ _ hcl]
  split
  ·rw [qY4]
   simp only [List.length_singleton]
   omega
  ·exact hm.cell i hi
 ·rw [gR _ _ _ _ _ hcl] at hx
  split at hx
  ·rcases List.mem_append.1 hx with hx | hx
   ·exact (hm.view cell hc x hx).grow hg
   ·rw [List.mem_singleton.1 hx]
    exact hwv
  ·exact (hm.view i hi x hx).grow hg
theorem qTc {cs:List (List wY)} {k:bZ} {s:yK} {cell:Nat} {late:Int} (hm:lR cs) (h:VOk cs k.view) (hc:cell<24) (hr:s.op≠5→(cs.getD cell []).length<4000) :
  lR (jN cs k s cell late).1∧VOk (jN cs k s cell late).1 (jN cs k s cell late).2.view∧(∀i,i<24→(cs.getD i []).length≤((jN cs k s cell late).1.getD i []).length)∧(jN cs k s cell late).2.regs.length=k.regs.length∧(jN cs k s cell late).2.at_=k.at_∧(jN cs k s cell late).2.st=k.st:=by
 unfold jN
 split
 ·dsimp only
  exact ⟨hm,qG6 hm h hc,fun _ _=>Nat.le_refl _,by simp,rfl,rfl⟩
 ·rename_i h5
  split
  ·dsimp only
   have hs:=qK6 (go:=true) (v:=rg k s.b) hm (qG6 (late:=0) (hold:=true) hm h hc) hc (hr h5)
   exact ⟨hs.1,hs.2.1,hs.2.2,by simp,rfl,rfl⟩
  ·dsimp only
   have hs:=qK6 (go:=decide (s.op=7)) (v:=rg k s.b) hm h hc (hr h5)
   exact ⟨hs.1,hs.2.1,hs.2.2,rfl,rfl,rfl⟩
theorem qR6 (m:qY) (i j:Nat) (k:bZ) (h:i<m.cores.length):qJ (jL m i k) j=if j=i then k else qJ m j:=gR _ _ _ _ _ h
theorem qCb {m:qY} (h:MOk m) {i:Nat} (hi:i<m.cores.length) {k:bZ} (h1:k.regs.length=8) (h2:0≤k.at_) (h3:k.at_<((m.codes.getD i []).length:Int)) (h4:0≤k.st) (h5:k.st≤2) (h6:VOk m.mem.cells k.view):MOk (jL m i k):=by
 refine ⟨h.n1,h.n4,by simp [jL,h.cores],h.mem,by simpa [jL] using h.tr,fun j hj=>?_⟩
 have hj':j<m.cores.length:=by simpa [jL] using hj
 have hc:=h.core j hj'
 have e:=qR6 m i j k hi
 by_cases hji:j=i
 ·rw [if_pos hji] at e
  subst hji
  exact ⟨hc.code,by rw [e]; exact h1,by rw [e]; exact h2,by rw [e]; exact h3,by rw [e]; exact h4,by rw [e]; exact h5,by rw [e]; exact h6⟩
 ·rw [if_neg hji] at e
  exact ⟨hc.code,by rw [e]; exact hc.regs,by rw [e]; exact hc.at0,by rw [e]; exact hc.at1,by rw [e]; exact hc.st0,by rw [e]; exact hc.st1,by rw [e]; exact hc.view⟩
theorem qMf {m:qY} (h:MOk m) {i:Nat} (hi:i<m.cores.length) {k:bZ} {bB:Int} (h1:k.regs.length=8) (h2:0≤k.at_) (h3:k.at_<((m.codes.getD i []).length:Int)) (h4:0≤k.st) (h5:k.st≤2) (h6:VOk m.mem.cells k.view) (hn:0≤bB):MOk (fH m i k bB):=by
 unfold fH
 split
 ·exact qCb h hi h1 h2 h3 (by simp) (by simp) h6
 ·rename_i hl
  exact qCb h hi h1 hn (by simp only; omega) h4 h5 h6
theorem qU7 {m:qY} {who:Int} (h:aM m who=0):0≤who∧who.toNat<m.cores.length∧(qJ m who.toNat).st=0∧((wD m who.toNat).op=9→(m.tr.length:Int)≠4000)∧(jK (wD m who.toNat).op=true→(wD m who.toNat).op≠5→qL (wN (qJ m who.toNat) (wD m who.toNat)) 0 23=true→(m.mem.cells.getD (wN (qJ m who.toNat) (wD m who.toNat)).toNat []).length<4000):=by
 unfold aM at h
 split at h
 ·rename_i hw
  rw [qO] at hw
  simp only at h
  split at h
  ·simp at h
  ·rename_i h1
   split at h
   ·simp at h
   ·rename_i h2
    refine ⟨hw.1,by omega,?_,fun h9 h4=>h1 (.inr ⟨h9,h4⟩),fun hm h5 hc=>?_⟩
    ·apply Decidable.byContradiction
     exact fun e=>h1 (.inl e)
    ·simp only [hm,hc,h5,decide_false,Bool.not_false,Bool.and_true,Bool.true_and,decide_eq_true_eq] at h2
     omega
 ·simp at h
theorem eF {m:qY} (h:MOk m) {i:Nat} (hi:i<m.cores.length):yX (wD m i) ((m.codes.getD i []).length:Int)=true:=by
 have hc:=h.core i hi
 have:=hc.code
 unfold gA at this
 simp only [qXo,qZi] at this
 have h0:=hc.at0
 have h1:=hc.at1
 exact this.1.2 _ (yB _ _ _ (by omega))
theorem qK8 {s:yK} {n:Int} (h:yX s n=true) (ho:s.op=10∨s.op=11):0≤s.n∧s.n<n:=by
 unfold yX at h
 rcases ho with ho | ho
 ·simp [ho] at h
  omega
 ·simp [ho] at h
  omega
theorem qTb (k:bZ) (s:yK):(alu k s).regs.length=k.regs.length∧(alu k s).at_=k.at_∧(alu k s).st=k.st∧(alu k s).view=k.view:=by
 unfold alu oB
 repeat' split
 all_goals simp
theorem qWo {m:qY} {who late:Int} (h:MOk m) (hc:aM m who=0):MOk (mdo m who.toNat late):=by
 obtain ⟨w0,hi,hst,htr,hroom⟩:=qU7 hc
 have hk:=h.core _ hi
 have hs:=eF h hi
 have k1:=hk.regs
 have k2:=hk.at0
 have k3:=hk.at1
 have k4:=hk.st0
 have k5:=hk.st1
 have k6:=hk.view
 unfold mdo
 simp only
 split
 ·exact qCb h hi k1 k2 k3 (by simp) (by simp) k6
 ·split
  ·exact qCb h hi k1 k2 k3 (by simp) (by simp) k6
  ·split
   ·rename_i hm
    split
    ·rename_i hw
     have hroom':=fun h5=>hroom hm h5 hw
     rw [qO] at hw
     have ha:=qTc (late:=late) (s:=wD m who.toNat) h.mem k6 (show (wN (qJ m who.toNat) (wD m who.toNat)).toNat<24 by omega) hroom'
     generalize jN m.mem.cells (qJ m who.toNat) (wD m who.toNat) (wN (qJ m who.toNat) (wD m who.toNat)).toNat late=r at ha
     obtain ⟨a1,a2,a3,a4,a5,a6⟩:=ha
     have hM:MOk {m with mem:=⟨r.1⟩}:=⟨h.n1,h.n4,h.cores,a1,h.tr,fun j hj=>by
      have hj:=h.core j hj
      exact ⟨hj.code,hj.regs,hj.at0,hj.at1,hj.st0,hj.st1,hj.view.grow a3⟩⟩
     exact qMf hM hi (by omega) (by omega) (by simp only; omega) (by omega) (by omega) a2 (by omega)
    ·exact qCb h hi k1 k2 k3 (by simp) (by simp) k6
   ·split
    ·rename_i h9
     have ht:=h.tr
     have hM:MOk {m with tr:=m.tr++[⟨(who.toNat:Int),rg (qJ m who.toNat) (wD m who.toNat).a⟩]}:=⟨h.n1,h.n4,h.cores,h.mem,by
      have h4:=htr h9
      unfold bJ at ht⊢
      simp only [qXo,decide_eq_true_eq,List.all_append,List.all_cons,List.all_nil,qO,qY4,List.length_cons,List.length_nil] at ht⊢
      refine ⟨⟨ht.1,by omega,trivial⟩,by omega⟩,fun j hj=>by
      have hj:=h.core j hj
      exact ⟨hj.code,hj.regs,hj.at0,hj.at1,hj.st0,hj.st1,hj.view⟩⟩
     exact qMf hM hi k1 k2 k3 k4 k5 k6 (by omega)
    ·obtain ⟨a1,a2,a3,a4⟩:=qTb (qJ m who.toNat) (wD m who.toNat)
     refine qMf h hi (by omega) (by omega) (by omega) (by omega) (by omega) (by rw [a4]; exact k6) ?_
     unfold uR
     split
     ·exact (qK8 hs (.inl (by assumption))).1
     ·split
      ·rename_i hz
       exact (qK8 hs (.inr hz.1)).1
      ·omega
theorem mL {m:qY} (x:uF) (h:jJ m=true):jJ (yG m x).1=true:=by
 unfold yG
 split
 ·exact (jM _).2 (qWo ((jM m).1 h) (by assumption))
 ·exact h
end Go.Sep
