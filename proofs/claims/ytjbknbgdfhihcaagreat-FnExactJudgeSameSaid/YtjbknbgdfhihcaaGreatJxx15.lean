/- Contracts of functions. -/
import Derived.Test.YtjbknbgdfhihcaaGreatJxx12
namespace Go.Sep
set_option maxHeartbeats 16000000
open Go.Proofs
set_option linter.unusedSimpArgs false
set_option linter.unusedVariables false
set_option maxRecDepth 100000
def m233:MFn:=⟨99,[.t 2],kr [xb 1 0,xF 2] (kr [xa 7 0 1,xl 8 7,xe 9 8,xv 3 9] (.seq (kr [xv 10 3,xc3 11 64 (.t 10) (xi 1) (xi 4),xN 12 11,xv 13 12,za 14 1 1 13,zl 15 1 14 13,ze 16 15 13,zv 17 3 13,xg 18 (.bin .neq (.t 16) (.t 17)) 13 false,xQ 19 13 18,xv 20 19,za 21 2 1 20,xg 22 (.load 1 true (.t 21)) 20 false,xg 23 (.call 283 [false] [.t 22]) 20 false,zN 24 23 20,xQ 25 20 24,xv 26 25,za 27 3 1 26,zl 28 1 27 26,ze 29 28 26,zI 30 .gtr 29 4000 26,xQ 31 26 30] (kF 31 [xF 2])) (.seq (kr [xI 4 0] (.blk 0 (.loop (.seq (kr [xv 32 4,xv 33 3,bT 34 .lss 32 33] (kX 34 0)) (.seq (.blk 1 (kr [xa 37 1 1,xl 38 37,xv 39 4,xD 40 4 38 39,xm 41 4 40,xo 5 (.alloc [.int .i64 0,.nil,.nil,.int .i64 0]),xS 4 5 41] (.seq (.dreg (.take 0 (xa 42 0 1) (.take 1 (xl 43 42) (.only 2 [] (xv 44 4) (.only 3 [1,0] (xD 45 1 43 44) (.only 4 [3,1,0] (xl 46 45) (.only 5 [4,3,1,0] (xc1 47 205 (.t 46)) (.only 6 [5,4,3,1,0] (xN 48 47) (.only 7 [5,4,3,1,0] (xv 49 48) (.only 8 [7,5,4,3,1,0] (za 50 1 5 49) (.only 9 [7,5,4,3,1,0] (zl 51 1 50 49) (.only 10 [7,5,4,3,1,0] (ze 52 51 49) (.only 11 [7,5,4,3,1,0] (zI 53 .neq 52 8 49) (.only 12 [7,5,4,3,1,0] (xQ 54 49 53) (.only 13 [7,5,4,3,1,0] (xv 55 54) (.take 14 (za 56 0 5 55) (.take 15 (zl 57 1 56 55) (.take 16 (za 58 0 1 55) (.take 17 (zl 59 1 58 55) (.only 18 [13,7,5,4,3,1,0] (zv 60 4 55) (.only 19 [13,17,7,16,5,4,3,1,0] (xg 61 (.iad 1 (.t 59) (.t 60)) 55 false) (.only 20 [13,19,7,17,5,16,4,3,1,0] (zl 62 1 61 55) (.only 21 [13,20,7,19,5,17,4,16,3,1,0] (ze 63 62 55) (.only 22 [13,21,7,20,5,19,4,17,3,16,1,0] (zI 64 .sub 63 1 55) (.only 23 [13,15,22,7,14,21,5,20,4,19,3,17,1,16,0] (xg 65 (.call 64 [false,false,false] [.t 57,xi 0,.t 64]) 55 false) (.only 24 [13,23,7,15,22,5,14,21,4,20,3,19,1,17,0,16] (zN 66 65 55) (.only 25 [13,24,7,23,5,15,22,4,14,21,3,20,1,19,0,17,16] (xQ 67 55 66) (.only 26 [23,13,15,22,7,14,21,5,20,4,19,3,17,1,16,0] (xv 68 67) (.only 27 [26,23,13,15,22,7,14,21,5,20,4,19,3,17,1,16,0] (za 69 3 5 68) (.only 28 [26,23,13,15,22,7,14,21,5,20,4,19,3,17,1,16,0] (zl 70 1 69 68) (.only 29 [26,23,13,15,22,7,14,21,5,20,4,19,3,17,1,16,0] (xg 71 (.call 64 [false,false,false] [.t 70,xi 0,xi 2]) 68 false) (.only 30 [26,23,13,15,22,7,14,21,5,20,4,19,3,17,1,16,0] (zN 72 71 68) (.only 31 [26,23,13,15,22,7,14,21,5,20,4,19,3,17,1,16,0] (xQ 73 68 72) (.only 32 [29,26,23,13,15,22,7,14,21,5,20,4,19,3,17,1,16,0] (xv 74 73) (.take 33 (za 75 2 1 74) (.take 34 (xg 76 (.load 1 true (.t 75)) 74 false) (.only 35 [32,29,26,23,13,15,22,7,14,21,5,20,4,19,3,17,1,16,0] (za 77 2 5 74) (.only 36 [32,29,26,23,13,15,22,7,14,21,5,20,4,19,3,17,1,16,0] (zl 78 1 77 74) (.only 37 [32,34,29,33,26,23,13,15,22,7,14,21,5,20,4,19,3,17,1,16,0] (xg 79 (.call 284 [false,false] [.t 76,.t 78]) 74 false) (.only 38 [32,37,29,34,26,33,23,13,15,22,7,14,21,5,20,4,19,3,17,1,16,0] (zN 80 79 74) (.only 39 [32,38,29,37,26,34,23,33,13,15,22,7,14,21,5,20,4,19,3,17,1,16,0] (xQ 81 74 80) (.done)))))))))))))))))))))))))))))))))))))))))) (kF 81 [xF 2])))) (xr [xv 35 4,bI 36 .add 35 1,xv 4 36])))))) (.seq (kr [xI 6 0] (.blk 2 (.loop (.seq (kr [xv 82 6,xa 83 3 1,xl 84 83,xe 85 84,bT 86 .lss 82 85] (kX 86 2)) (.seq (.blk 3 (kr [xa 89 3 1,xl 90 89,xv 91 6,xD 92 2 90 91,xa 93 0 92,xl 94 93,xv 95 3,bI 96 .sub 95 1,xc3 97 64 (.t 94) (xi 0) (.t 96),xN 98 97] (kF 98 [xF 2]))) (xr [xv 87 6,bI 88 .add 87 1,xv 6 88])))))) (kR [xT 2])))))⟩
def m235:MFn:=⟨81,[.t 2],kr [xb 1 0,xF 2] (.seq (kr [xa 5 0 1,xl 6 5,xe 7 6,xc3 8 59 (.t 7) (xi 1) (xi 4),xN 9 8,xv 10 9,za 11 1 1 10,zl 12 1 11 10,ze 13 12 10,za 14 0 1 10,zl 15 1 14 10,ze 16 15 10,xg 17 (.bin .neq (.t 13) (.t 16)) 10 false,xQ 18 10 17,xv 19 18,za 20 2 1 19,xg 21 (.load 1 true (.t 20)) 19 false,xg 22 (.call 286 [false] [.t 21]) 19 false,zN 23 22 19,xQ 24 19 23,xv 25 24,za 26 3 1 25,zl 27 1 26 25,za 28 1 1 25,zl 29 1 28 25,ze 30 29 25,xg 31 (.call 71 [false,false] [.t 27,.t 30]) 25 false,zN 32 31 25,xQ 33 25 32] (kF 33 [xF 2])) (.seq (kr [xa 34 1 1,xl 35 34,xe 36 35,xI 37 0] (.blk 0 (.loop (kr [bT 38 .lss 37 36] (.seq (kX 38 0) (.seq (.blk 1 (kr [xv 39 37,xD 40 4 35 37,xm 41 4 40,xo 4 (.alloc [.int .i64 0,.nil,.nil,.int .i64 0]),xv 3 39,xS 4 4 41] (.seq (.seq (.dreg (.take 0 (xa 42 0 1) (.take 1 (xl 43 42) (.only 2 [] (xv 44 3) (.only 3 [1,0] (xD 45 1 43 44) (.only 4 [3,1,0] (xl 46 45) (.only 5 [4,3,1,0] (xc1 47 209 (.t 46)) (.only 6 [5,4,3,1,0] (xN 48 47) (.only 7 [5,4,3,1,0] (xv 49 48) (.only 8 [7,5,4,3,1,0] (za 50 1 4 49) (.only 9 [7,5,4,3,1,0] (zl 51 1 50 49) (.only 10 [7,5,4,3,1,0] (ze 52 51 49) (.only 11 [7,5,4,3,1,0] (zI 53 .neq 52 8 49) (.only 12 [7,5,4,3,1,0] (xQ 54 49 53) (.only 13 [7,5,4,3,1,0] (xv 55 54) (.take 14 (za 56 0 4 55) (.take 15 (zl 57 1 56 55) (.take 16 (za 58 0 1 55) (.take 17 (zl 59 1 58 55) (.only 18 [13,7,5,4,3,1,0] (zv 60 3 55) (.only 19 [13,17,7,16,5,4,3,1,0] (xg 61 (.iad 1 (.t 59) (.t 60)) 55 false) (.only 20 [13,19,7,17,5,16,4,3,1,0] (zl 62 1 61 55) (.only 21 [13,20,7,19,5,17,4,16,3,1,0] (ze 63 62 55) (.only 22 [13,21,7,20,5,19,4,17,3,16,1,0] (zI 64 .sub 63 1 55) (.only 23 [13,15,22,7,14,21,5,20,4,19,3,17,1,16,0] (xg 65 (.call 59 [false,false,false] [.t 57,xi 0,.t 64]) 55 false) (.only 24 [13,23,7,15,22,5,14,21,4,20,3,19,1,17,0,16] (zN 66 65 55) (.only 25 [13,24,7,23,5,15,22,4,14,21,3,20,1,19,0,17,16] (xQ 67 55 66) (.done)))))))))))))))))))))))))))) (kF 67 [xF 2])) (kr [xa 68 3 4,xl 69 68,xc3 70 59 (.t 69) (xi 0) (xi 2),xN 71 70,xv 72 71,za 73 2 1 72,xg 74 (.load 1 true (.t 73)) 72 false,za 75 2 4 72,zl 76 1 75 72,xg 77 (.call 287 [false,false] [.t 74,.t 76]) 72 false,zN 78 77 72,xQ 79 72 78] (kF 79 [xF 2]))))) (xr [bI 80 .add 37 1,xv 37 80]))))))) (kR [xT 2])))⟩
def m283:MFn:=⟨43,[.t 2],kr [xb 1 0,xF 2] (.seq (kr [xa 5 0 1,xl 6 5,xe 7 6,bI 8 .neq 7 24] (kF 8 [xF 2])) (.seq (kr [xI 3 0] (.blk 0 (.loop (.seq (kr [xv 9 3,bI 10 .lss 9 24] (kX 10 0)) (.seq (.blk 1 (.seq (kr [xa 13 0 1,xl 14 13,xv 15 3,xD 16 1 14 15,xl 17 16,xe 18 17,xc3 19 64 (.t 18) (xi 1) (xi 4000),xN 20 19] (kF 20 [xF 2])) (kr [xI 4 0] (.blk 2 (.loop (.seq (kr [xv 21 4,xa 22 0 1,xl 23 22,xv 24 3,xD 25 1 23 24,xl 26 25,xe 27 26,bT 28 .lss 21 27] (kX 28 2)) (.seq (.blk 3 (.seq (.dreg (.take 0 (xm 31 1 1) (.take 1 (xa 32 0 1) (.take 2 (xl 33 32) (.take 3 (xv 34 3) (.take 4 (xD 35 1 33 34) (.take 5 (xl 36 35) (.only 6 [] (xv 37 4) (.only 7 [5,4,2,3,1] (xD 38 2 36 37) (.only 8 [7,5,4,2,3,1] (xa 39 1 38) (.only 9 [8,7,5,4,2,3,1] (xl 40 39) (.only 10 [0,9,8,7,5,4,2,3,1] (xc2 41 284 (.t 31) (.t 40)) (.only 11 [10,0,9,8,7,5,4,2,3,1] (xN 42 41) (.done)))))))))))))) (kF 42 [xF 2]))) (xr [xv 29 4,bI 30 .add 29 1,xv 4 30])))))))) (xr [xv 11 3,bI 12 .add 11 1,xv 3 12])))))) (kR [xT 2])))⟩
def m284:MFn:=⟨31,[.t 4],kr [xb 2 0,xF 4] (.seq (kr [xv 6 1,xe 7 6,xa 8 0 2,xl 9 8,xe 10 9,bT 11 .neq 7 10] (kF 11 [xF 4])) (.seq (kr [xI 5 0] (.blk 0 (.loop (.seq (kr [xv 12 5,xv 13 1,xe 14 13,bT 15 .lss 12 14] (kX 15 0)) (.seq (.blk 1 (.seq (.dreg (.take 0 (xv 18 1) (.take 1 (xv 19 5) (.take 2 (xD 20 1 18 19) (.take 3 (xl 21 20) (.take 4 (xa 22 0 2) (.take 5 (xl 23 22) (.only 6 [] (xv 24 5) (.only 7 [5,4] (xD 25 1 23 24) (.only 8 [7,5,4] (xl 26 25) (.only 9 [8,7,5,4] (xe 27 26) (.only 10 [9,8,7,5,4] (bI 28 .sub 27 1) (.only 11 [3,10,2,9,0,1,8,7,5,4] (xc3 29 64 (.t 21) (xi 0) (.t 28)) (.only 12 [11,3,10,2,9,0,1,8,7,5,4] (xN 30 29) (.done))))))))))))))) (kF 30 [xF 4]))) (xr [xv 16 5,bI 17 .add 16 1,xv 5 17])))))) (kR [xT 4])))⟩
def m286:MFn:=⟨35,[.t 2],kr [xb 1 0,xF 2] (.seq (kr [xa 7 0 1,xl 8 7,xe 9 8,xI 10 0] (.blk 0 (.loop (kr [bT 11 .lss 10 9] (.seq (kX 11 0) (.seq (.blk 1 (kr [xD 12 1 8 10,xl 13 12,xv 4 13] (.seq (kr [xv 14 4,xe 15 14,xc3 16 59 (.t 15) (xi 1) (xi 4000),xN 17 16] (kF 17 [xF 2])) (kr [xv 18 4,xe 19 18,xI 20 0] (.blk 2 (.loop (kr [bT 21 .lss 20 19] (.seq (kX 21 2) (.seq (.blk 3 (kr [xD 22 2 18 20,xm 23 2 22,xo 6 (.alloc [.int .i64 0,.nil]),xS 2 6 23] (kr [xm 24 1 1,xa 25 1 6,xl 26 25,xc2 27 287 (.t 24) (.t 26),xN 28 27] (kF 28 [xF 2])))) (xr [bI 29 .add 20 1,xv 20 29])))))))))) (xr [bI 30 .add 10 1,xv 10 30]))))))) (kR [xa 31 0 1,xl 32 31,xe 33 32,bI 34 .eql 33 24,xv 2 34]))⟩
def m287:MFn:=⟨31,[.t 4],kr [xb 2 0,xF 4] (.seq (kr [xv 7 1,xe 8 7,xa 9 0 2,xl 10 9,xe 11 10,bT 12 .neq 8 11] (kF 12 [xF 4])) (.seq (kr [xv 13 1,xe 14 13,xI 15 0] (.blk 0 (.loop (kr [bT 16 .lss 15 14] (.seq (kX 16 0) (.seq (.blk 1 (kr [xv 17 15,xD 18 1 13 15,xl 19 18,xv 5 17,xv 6 19] (kr [xv 20 6,xa 21 0 2,xl 22 21,xv 23 5,xD 24 1 22 23,xl 25 24,xe 26 25,bI 27 .sub 26 1,xc3 28 59 (.t 20) (xi 0) (.t 27),xN 29 28] (kF 29 [xF 4])))) (xr [bI 30 .add 15 1,xv 15 30]))))))) (kR [xT 4])))⟩
def viewOk (cs:List (List Write)) (v:List Int):Bool:=decide (v.length=cs.length)&&(List.range v.length).all fun i=>within (v.getD i 0) 0 ((cs.getD i []).length-1)
def cellWOk (cs:List (List Write)) (c:List Write):Bool:=within c.length 1 4000&&c.all fun w=>viewOk cs w.view
def memoryOk (cs:List (List Write)):Bool:=cs.all (cellWOk cs)&&decide (cs.length=24)
def coreOk (m:Machine) (i:Nat):Bool:=codeOk (m.codes.getD i [])&&decide ((m.cores.getD i default).regs.length=8)&&within (m.cores.getD i default).at_ 0 ((m.codes.getD i []).length-1)&&within (m.cores.getD i default).st 0 2&&viewOk m.mem.cells (m.cores.getD i default).view
def machineOk (m:Machine):Bool:=within m.codes.length 1 4&&decide (m.cores.length=m.codes.length)&&memoryOk m.mem.cells&&notesOk m.tr m.cores.length&&(List.range m.cores.length).all (coreOk m)
theorem range_all {p:Nat→Bool} {n:Nat}:(List.range n).all p=true↔∀i,i<n→p i=true:=by simp [List.all_eq_true]
def join:List Int→List Int→List Int
 | a::l,b::k=>max a b::join l k
 | _,_=>[]
def load (cs:List (List Write)) (view:List Int) (cell:Nat) (late:Int) (hold:Bool):Int×List Int :=
 let l:=cs.getD cell []
 let at_:=max ((l.length:Int)-1-max late 0) (view.getD cell 0)
 let w:=l.getD at_.toNat default
 (w.v,if hold then join (view.set cell at_) w.view else view.set cell at_)
def store (cs:List (List Write)) (view:List Int) (cell:Nat) (v:Int) (go:Bool):List (List Write)×List Int :=
 let n:Int:=(cs.getD cell []).length
 let out:=view.set cell n
 (cs.set cell (cs.getD cell []++[⟨v,if go then out else (List.replicate 24 0).set cell n⟩]),out)
def viewP (cs:List (List Write)) (v:List Int) (i:Nat):Bool:=within (v.getD i 0) 0 ((cs.getD i []).length-1)
theorem viewOk_def (cs:List (List Write)) (v:List Int):viewOk cs v=(decide (v.length=cs.length)&&(List.range v.length).all (viewP cs v)):=rfl
theorem implViewOk_ok (cs:List (List Write)) (v:List Int) (h1:cs.length<2^40) (h2 :∀c∈cs,c.length<2^40) (h3:v.length<2^40):CallOk Tryz.prog num 287 [.agg (memoryC .bw ⟨cs⟩),.sl .bw 1 (ints v)] [] (.bool (viewOk cs v)):=by
 refine EN m287 Tryz.func140 ?_
 unfold m287
 simp only [go_sem,seval]
 repeat refine K ?_
 by_cases hl:(v.length:Int)=cs.length
 case neg =>
  try simp only [go_sem,seval,hl]
  repeat refine K ?_
  refine fz ?_; simp [FinS,nilL,nilV,oneOr,-List.drop_one]
  have :¬v.length=cs.length:=by omega
  simp [viewOk,this]
 try simp only [go_sem,seval,hl]
 repeat refine K ?_
 refine qA8 (ι:=Nat) (fun i=>.mk [(2,.ptr 10 0 0),(13,.sl .bw 1 (ints v)),(14,.int .i64 v.length),(15,.int .i64 i)] [(10,1,[memoryC .bw ⟨cs⟩])] 11) (fun i=>i≤v.length∧(List.range i).all (viewP cs v)=true) (fun i=>v.length-i) 0 (by simp) ?_ ?_
 ·refine Sub.shape [] id (by omega) ?_ ?_ ?_ ?_<;>simp [qA2]
  all_goals (try omega)
 ·rintro i ⟨hi,hp⟩
  simp only [go_sem,seval]
  refine qA1 (fun hc=>?_) (fun hc=>?_)
  ·simp only [decide_eq_true_eq] at hc
   have hl':i<v.length:=by omega
   have hj:i<cs.length:=by omega
   have hb:=h2 _ (qAd cs i [] hj)
   have w1:IntKind.i64.wrap (((cs.getD i []).length:Int)-1)=(cs.getD i []).length-1:=qAg (by omega) (by omega)
   simp only [go_sem,seval,qA0 v i hl',qAu .bw cs i hj,w1]
   repeat refine K ?_
   refine CA [] (qAk (v.getD i 0) 0 ((cs.getD i []).length-1)) ?_
   try simp only [go_sem,seval]
   repeat refine K ?_
   cases hw:within (v.getD i 0) 0 ((cs.getD i []).length-1)
   ·try simp only [go_sem,seval,hw]
    repeat refine K ?_
    refine fz ?_; simp [FinS,nilL,nilV,oneOr,-List.drop_one]
    rw [viewOk_def,qB3 hl' hw]
    simp
   ·try simp only [go_sem,seval,hw,qA7 (i:=i) (by omega)]
    repeat refine K ?_
    refine qA6 (i+1) (Sub.shape [] id (by omega) ?_ ?_ ?_ ?_) ?_ ?_
    any_goals (first | omega | (simp [qA2]; done))
    exact ⟨hl',qBt hp hw⟩
  ·simp only [decide_eq_false_iff_not] at hc
   have he:i=v.length:=by omega
   subst he
   simp only [go_sem,seval]
   repeat refine K ?_
   refine fz ?_; simp [FinS,nilL,nilV,oneOr,-List.drop_one]
   rw [viewOk_def,hp]
   simp
   omega
theorem specViewOk_ok (cs:List (List Write)) (v:List Int) (h1:cs.length<2^40) (h2 :∀c∈cs,c.length<2^40) (h3:v.length<2^40):CallOk Tryz.prog num 284 [.agg (memoryC .bw ⟨cs⟩),.sl .bw 1 (ints v)] [] (.bool (viewOk cs v)):=by
 refine EN m284 Tryz.func127 ?_
 unfold m284
 simp only [go_sem,seval]
 repeat refine K ?_
 by_cases hl:(v.length:Int)=cs.length
 case neg =>
  try simp only [go_sem,seval,hl]
  repeat refine K ?_
  refine fz ?_; simp [FinS,nilL,nilV,oneOr,-List.drop_one]
  have :¬v.length=cs.length:=by omega
  simp [viewOk,this]
 try simp only [go_sem,seval,hl]
 repeat refine K ?_
 refine qA8 (ι:=Nat) (fun i=>.mk [(1,.sl .bw 1 (ints v)),(2,.ptr 10 0 0),(5,.int .i64 i)] [(10,1,[memoryC .bw ⟨cs⟩])] 11) (fun i=>i≤v.length∧(List.range i).all (viewP cs v)=true) (fun i=>v.length-i) 0 (by simp) ?_ ?_
 ·refine Sub.shape [] id (by omega) ?_ ?_ ?_ ?_<;>simp [qA2]
 ·rintro i ⟨hi,hp⟩
  simp only [go_sem,seval]
  refine qA1 (fun hc=>?_) (fun hc=>?_)
  ·simp only [decide_eq_true_eq] at hc
   have hl':i<v.length:=by omega
   have hj:i<cs.length:=by omega
   have hb:=h2 _ (qAd cs i [] hj)
   have w1:IntKind.i64.wrap (((cs.getD i []).length:Int)-1)=(cs.getD i []).length-1:=qAg (by omega) (by omega)
   simp only [go_sem,seval,qA0 v i hl',qAu .bw cs i hj,w1]
   repeat refine K ?_
   refine DA [] (qAq (v.getD i 0) 0 ((cs.getD i []).length-1)) ?_
   try simp only [go_sem,seval]
   repeat refine K ?_
   cases hw:within (v.getD i 0) 0 ((cs.getD i []).length-1)
   ·try simp only [go_sem,seval,hw]
    repeat refine K ?_
    refine fz ?_; simp [FinS,nilL,nilV,oneOr,-List.drop_one]
    rw [viewOk_def,qB3 hl' hw]
    simp
   ·try simp only [go_sem,seval,hw,qA7 (i:=i) (by omega)]
    repeat refine K ?_
    refine qA6 (i+1) (Sub.shape [] id (by omega) ?_ ?_ ?_ ?_) ?_ ?_
    any_goals (first | omega | (simp [qA2]; done))
    exact ⟨hl',qBt hp hw⟩
  ·simp only [decide_eq_false_iff_not] at hc
   have he:i=v.length:=by omega
   subst he
   simp only [go_sem,seval]
   repeat refine K ?_
   refine fz ?_; simp [FinS,nilL,nilV,oneOr,-List.drop_one]
   rw [viewOk_def,hp]
   simp
   omega
theorem implMemoryOk_ok (cs:List (List Write)) (h:SmallC cs):CallOk Tryz.prog num 286 [.agg (memoryC .bw ⟨cs⟩)] [] (.bool (memoryOk cs)):=by
 obtain ⟨h1,h2,h3⟩:=h
 refine EN m286 Tryz.func137 ?_
 unfold m286
 simp only [go_sem,seval]
 repeat refine K ?_
 refine qA8 (ι:=Nat) (fun i=>.mk [(1,.ptr 10 0 0),(8,.sl .bw 1 (cels .bw cs)),(9,.int .i64 cs.length),(10,.int .i64 i)] [(10,1,[memoryC .bw ⟨cs⟩])] 11) (fun i=>i≤cs.length∧(cs.take i).all (cellWOk cs)=true) (fun i=>cs.length-i) 0 (by simp) ?_ ?_
 ·refine Sub.shape [] id (by omega) ?_ ?_ ?_ ?_<;>simp [qA2]
 ·rintro i ⟨hi,hp⟩
  simp only [go_sem,seval]
  refine qA1 (fun hc=>?_) (fun hc=>?_)
  ·simp only [decide_eq_true_eq] at hc
   have hl':i<cs.length:=by omega
   have hb:=h2 _ (qAd cs i [] hl')
   have hv:=h3 _ (qAd cs i [] hl')
   simp only [go_sem,seval,qAu .bw cs i hl']
   repeat refine K ?_
   generalize hcd:cs.getD i []=c at hb hv
   refine CA [] (qAk c.length 1 4000) ?_
   try simp only [go_sem,seval]
   repeat refine K ?_
   cases hw:within c.length 1 4000
   ·try simp only [go_sem,seval,hw]
    repeat refine K ?_
    refine fz ?_; simp [FinS,nilL,nilV,oneOr,-List.drop_one]
    have:cs.all (cellWOk cs)=false:=qBq (d:=[]) hl' (by rw [hcd]; simp [cellWOk,hw])
    simp [memoryOk,this]
   try simp only [go_sem,seval,hw]
   repeat refine K ?_
   refine qA8 (ι:=Nat) (fun j=>.mk [(1,.ptr 10 0 0),(8,.sl .bw 1 (cels .bw cs)),(9,.int .i64 cs.length),(10,.int .i64 i),(18,.sl .bw 2 (writes .bw c)),(19,.int .i64 c.length),(20,.int .i64 j)] [(10,1,[memoryC .bw ⟨cs⟩])] 11) (fun j=>j≤c.length∧(c.take j).all (fun w=>viewOk cs w.view)=true) (fun j=>c.length-j) 0 (by simp) ?_ ?_
   ·refine Sub.shape [] id (by omega) ?_ ?_ ?_ ?_<;>simp [qA2]
   ·rintro j ⟨hj,hq⟩
    simp only [go_sem,seval]
    refine qA1 (fun hc2=>?_) (fun hc2=>?_)
    ·simp only [decide_eq_true_eq] at hc2
     have hj':j<c.length:=by omega
     simp only [go_sem,seval,qCa .bw c j hj']
     repeat refine K ?_
     refine CA [] (implViewOk_ok cs (c.getD j default).view h1 h2 (hv _ (qAd c j default hj'))) ?_
     try simp only [go_sem,seval]
     repeat refine K ?_
     cases hw3:viewOk cs (c.getD j default).view
     ·try simp only [go_sem,seval,hw3]
      repeat refine K ?_
      refine fz ?_; simp [FinS,nilL,nilV,oneOr,-List.drop_one]
      have hca:c.all (fun w=>viewOk cs w.view)=false:=qBq (p:=fun w=>viewOk cs w.view) hj' hw3
      have:cs.all (cellWOk cs)=false:=qBq (d:=[]) hl' (by rw [hcd]; simp only [cellWOk,hca,Bool.and_false])
      simp [memoryOk,this]
     ·try simp only [go_sem,seval,hw3,qA7 (i:=j) (by omega)]
      repeat refine K ?_
      refine qA6 (j+1) (Sub.shape [] id (by omega) ?_ ?_ ?_ ?_) ?_ ?_
      any_goals (first | omega | (simp [qA2]; done))
      exact ⟨hj',qC2 (p:=fun w=>viewOk cs w.view) hq hj' hw3⟩
    ·simp only [decide_eq_false_iff_not] at hc2
     have hca:=qDa hq hc2
     simp only [go_sem,seval,qA7 (i:=i) (by omega)]
     repeat refine K ?_
     refine qA6 (i+1) (Sub.shape [] id (by omega) ?_ ?_ ?_ ?_) ?_ ?_
     any_goals (first | omega | (simp [qA2]; done))
     exact ⟨hl',qC2 (d:=[]) hp hl' (by rw [hcd]; simp only [cellWOk,hca,hw,Bool.and_self])⟩
  ·simp only [decide_eq_false_iff_not] at hc
   have hall:=qDa hp hc
   by_cases h24:(cs.length:Int)=24
   ·simp only [go_sem,seval,h24]
    repeat refine K ?_
    refine fz ?_; simp [FinS,nilL,nilV,oneOr,-List.drop_one]
    have:cs.length=24:=by omega
    simp only [memoryOk,hall,this]
    simp
   ·simp only [go_sem,seval,h24]
    repeat refine K ?_
    refine fz ?_; simp [FinS,nilL,nilV,oneOr,-List.drop_one]
    have :¬cs.length=24:=by omega
    simp [memoryOk,this]
theorem specMemoryOk_ok (cs:List (List Write)) (h:SmallC cs):CallOk Tryz.prog num 283 [.agg (memoryC .bw ⟨cs⟩)] [] (.bool (memoryOk cs)):=by
 obtain ⟨h1,h2,h3⟩:=h
 refine EN m283 Tryz.func125 ?_
 unfold m283
 simp only [go_sem,seval]
 repeat refine K ?_
 by_cases h24:(cs.length:Int)=24
 case neg =>
  try simp only [go_sem,seval,h24]
  repeat refine K ?_
  refine fz ?_; simp [FinS,nilL,nilV,oneOr,-List.drop_one]
  have :¬cs.length=24:=by omega
  simp [memoryOk,this]
 try simp only [go_sem,seval,h24]
 repeat refine K ?_
 refine qA8 (ι:=Nat) (fun i=>.mk [(1,.ptr 10 0 0),(3,.int .i64 i)] [(10,1,[memoryC .bw ⟨cs⟩])] 11) (fun i=>i≤cs.length∧(cs.take i).all (cellWOk cs)=true) (fun i=>cs.length-i) 0 (by simp) ?_ ?_
 ·refine Sub.shape [] id (by omega) ?_ ?_ ?_ ?_<;>simp [qA2]
 ·rintro i ⟨hi,hp⟩
  simp only [go_sem,seval]
  refine qA1 (fun hc=>?_) (fun hc=>?_)
  ·simp only [decide_eq_true_eq] at hc
   have hl':i<cs.length:=by omega
   have hb:=h2 _ (qAd cs i [] hl')
   have hv:=h3 _ (qAd cs i [] hl')
   have hcg:=qAu .bw cs i hl'
   generalize hcd:cs.getD i []=c at hb hv hcg
   simp only [go_sem,seval,hcg]
   repeat refine K ?_
   refine CA [] (qAq c.length 1 4000) ?_
   try simp only [go_sem,seval]
   repeat refine K ?_
   cases hw:within c.length 1 4000
   ·try simp only [go_sem,seval,hw]
    repeat refine K ?_
    refine fz ?_; simp [FinS,nilL,nilV,oneOr,-List.drop_one]
    have:cs.all (cellWOk cs)=false:=qBq (d:=[]) hl' (by rw [hcd]; simp [cellWOk,hw])
    simp [memoryOk,this]
   try simp only [go_sem,seval,hw]
   repeat refine K ?_
   refine qA8 (ι:=Nat) (fun j=>.mk [(1,.ptr 10 0 0),(3,.int .i64 i),(4,.int .i64 j)] [(10,1,[memoryC .bw ⟨cs⟩])] 11) (fun j=>j≤c.length∧(c.take j).all (fun w=>viewOk cs w.view)=true) (fun j=>c.length-j) 0 (by simp) ?_ ?_
   ·refine Sub.shape [] id (by omega) ?_ ?_ ?_ ?_<;>simp [qA2]
   ·rintro j ⟨hj,hq⟩
    simp only [go_sem,seval,hcg]
    repeat refine K ?_
    refine qA1 (fun hc2=>?_) (fun hc2=>?_)
    ·simp only [decide_eq_true_eq] at hc2
     have hj':j<c.length:=by omega
     simp only [go_sem,seval,hcg,qCa .bw c j hj']
     repeat refine K ?_
     refine DA [] (specViewOk_ok cs (c.getD j default).view h1 h2 (hv _ (qAd c j default hj'))) ?_
     try simp only [go_sem,seval]
     repeat refine K ?_
     cases hw3:viewOk cs (c.getD j default).view
     ·try simp only [go_sem,seval,hw3]
      repeat refine K ?_
      refine fz ?_; simp [FinS,nilL,nilV,oneOr,-List.drop_one]
      have hca:c.all (fun w=>viewOk cs w.view)=false:=qBq (p:=fun w=>viewOk cs w.view) hj' hw3
      have:cs.all (cellWOk cs)=false:=qBq (d:=[]) hl' (by rw [hcd]; simp only [cellWOk,hca,Bool.and_false])
      simp [memoryOk,this]
     ·try simp only [go_sem,seval,hw3,qA7 (i:=j) (by omega)]
      repeat refine K ?_
      refine qA6 (j+1) (Sub.shape [] id (by omega) ?_ ?_ ?_ ?_) ?_ ?_
      any_goals (first | omega | (simp [qA2]; done))
      exact ⟨hj',qC2 (p:=fun w=>viewOk cs w.view) hq hj' hw3⟩
    ·simp only [decide_eq_false_iff_not] at hc2
     have hca:=qDa hq hc2
     simp only [go_sem,seval,qA7 (i:=i) (by omega)]
     repeat refine K ?_
     refine qA6 (i+1) (Sub.shape [] id (by omega) ?_ ?_ ?_ ?_) ?_ ?_
     any_goals (first | omega | (simp [qA2]; done))
     exact ⟨hl',qC2 (d:=[]) hp hl' (by rw [hcd]; simp only [cellWOk,hca,hw,Bool.and_self])⟩
  ·simp only [decide_eq_false_iff_not] at hc
   have hall:cs.all (cellWOk cs)=true:=qDa hp (by omega)
   simp only [go_sem,seval]
   repeat refine K ?_
   refine fz ?_; simp [FinS,nilL,nilV,oneOr,-List.drop_one]
   have:cs.length=24:=by omega
   simp only [memoryOk,hall,this]
   simp
theorem coreOk_def (m:Machine):machineOk m=(within m.codes.length 1 4&&decide (m.cores.length=m.codes.length)&&memoryOk m.mem.cells&&notesOk m.tr m.cores.length&&(List.range m.cores.length).all (coreOk m)):=rfl
theorem implMachineOk_ok (m:Machine) (h:SmallM m):CallOk Tryz.prog num 235 [.agg (machineC .bw m)] [] (.bool (machineOk m)):=by
 obtain ⟨h1,h2,h3,h4,h5,h6,h7⟩:=h
 refine EN m235 Tryz.func63 ?_
 unfold m235
 simp only [go_sem,seval]
 repeat refine K ?_
 refine CA [] (qAk m.codes.length 1 4) ?_
 try simp only [go_sem,seval]
 repeat refine K ?_
 cases hw:within m.codes.length 1 4
 ·try simp only [go_sem,seval,hw]
  repeat refine K ?_
  refine fz ?_; simp [FinS,nilL,nilV,oneOr,-List.drop_one]
  simp [machineOk,hw]
 try simp only [go_sem,seval,hw]
 repeat refine K ?_
 by_cases hcl:(m.cores.length:Int)=m.codes.length
 case neg =>
  try simp only [go_sem,seval,hcl]
  repeat refine K ?_
  refine fz ?_; simp [FinS,nilL,nilV,oneOr,-List.drop_one]
  have :¬m.cores.length=m.codes.length:=by omega
  simp [machineOk,this]
 try simp only [go_sem,seval,hcl]
 repeat refine K ?_
 refine CA [] (implMemoryOk_ok m.mem.cells h6) ?_
 try simp only [go_sem,seval]
 repeat refine K ?_
 cases hmo:memoryOk m.mem.cells
 ·try simp only [go_sem,seval,hmo]
  repeat refine K ?_
  refine fz ?_; simp [FinS,nilL,nilV,oneOr,-List.drop_one]
  simp [machineOk,hmo]
 try simp only [go_sem,seval,hmo]
 repeat refine K ?_
 refine CA [] (notesOk_ok m.tr m.cores.length (by omega) (by omega) (by omega)) ?_
 try simp only [go_sem,seval]
 repeat refine K ?_
 cases hno:notesOk m.tr m.cores.length
 ·try simp only [go_sem,seval,hno]
  repeat refine K ?_
  refine fz ?_; simp [FinS,nilL,nilV,oneOr,-List.drop_one]
  simp [machineOk,hno]
 try simp only [go_sem,seval,hno]
 repeat refine K ?_
 refine qA8 (ι:=Nat) (fun i=>.mk [(1,.ptr 10 0 0),(35,.sl .bw 4 (cores .bw m.cores)),(36,.int .i64 m.cores.length),(37,.int .i64 i)] [(10,4,[machineC .bw m])] 11) (fun i=>i≤m.cores.length∧(List.range i).all (coreOk m)=true) (fun i=>m.cores.length-i) 0 (by simp) ?_ ?_
 ·refine Sub.shape [] id (by omega) ?_ ?_ ?_ ?_<;>simp [qA2]
  all_goals (try omega)
 ·rintro i ⟨hi,hp⟩
  simp only [go_sem,seval]
  refine qA1 (fun hc=>?_) (fun hc=>?_)
  ·simp only [decide_eq_true_eq] at hc
   have hl':i<m.cores.length:=by omega
   have hj:i<m.codes.length:=by omega
   have hb:=h2 _ (qAd m.codes i [] hj)
   have hg:=qBu .bw m.codes i hj
   have w1:IntKind.i64.wrap (((m.codes.getD i []).length:Int)-1)=(m.codes.getD i []).length-1:=qAg (by omega) (by omega)
   have hvl:=h5 _ (qAd m.cores i default hl')
   have hco:coreOk m i=(codeOk (m.codes.getD i [])&&decide ((m.cores.getD i default).regs.length=8)&&within (m.cores.getD i default).at_ 0 ((m.codes.getD i []).length-1)&&within (m.cores.getD i default).st 0 2&&viewOk m.mem.cells (m.cores.getD i default).view):=rfl
   simp only [go_sem,seval,qAv .bw m.cores i hl',hg]
   repeat refine K ?_
   generalize m.cores.getD i default=k at hco hvl
   generalize m.codes.getD i []=cd at hco w1 hb hg
   refine DA [] (implCodeOk_ok cd hb) ?_
   try simp only [go_sem,seval]
   repeat refine K ?_
   have fin:coreOk m i=false→machineOk m=false:=fun h=>by rw [coreOk_def,qB3 hl' h]; simp
   cases c1:codeOk cd
   ·try simp only [go_sem,seval,c1]
    repeat refine K ?_
    refine fz ?_; simp [FinS,nilL,nilV,oneOr,-List.drop_one]
    exact fin (by rw [hco,c1]; simp)
   by_cases c2:(k.regs.length:Int)=8
   case neg =>
    try simp only [go_sem,seval,c1,c2]
    repeat refine K ?_
    refine fz ?_; simp [FinS,nilL,nilV,oneOr,-List.drop_one]
    have :¬k.regs.length=8:=by omega
    exact fin (by rw [hco]; simp [this])
   try simp only [go_sem,seval,c1,c2,hg,w1]
   repeat refine K ?_
   refine DA [] (qAk k.at_ 0 (cd.length-1)) ?_
   try simp only [go_sem,seval]
   repeat refine K ?_
   cases c3:within k.at_ 0 (cd.length-1)
   ·try simp only [go_sem,seval,c3]
    repeat refine K ?_
    refine fz ?_; simp [FinS,nilL,nilV,oneOr,-List.drop_one]
    exact fin (by rw [hco,c3]; simp)
   try simp only [go_sem,seval,c3]
   repeat refine K ?_
   refine CA [] (qAk k.st 0 2) ?_
   try simp only [go_sem,seval]
   repeat refine K ?_
   cases c4:within k.st 0 2
   ·try simp only [go_sem,seval,c4]
    repeat refine K ?_
    refine fz ?_; simp [FinS,nilL,nilV,oneOr,-List.drop_one]
    exact fin (by rw [hco,c4]; simp)
   try simp only [go_sem,seval,c4]
   repeat refine K ?_
   refine CA [] (implViewOk_ok m.mem.cells k.view h6.len h6.cell hvl) ?_
   try simp only [go_sem,seval]
   repeat refine K ?_
   cases c5:viewOk m.mem.cells k.view
   ·try simp only [go_sem,seval,c5]
    repeat refine K ?_
    refine fz ?_; simp [FinS,nilL,nilV,oneOr,-List.drop_one]
    exact fin (by rw [hco,c5]; simp)
   try simp only [go_sem,seval,c5,qA7 (i:=i) (by omega)]
   repeat refine K ?_
   refine qA6 (i+1) (Sub.shape [] id (by omega) ?_ ?_ ?_ ?_) ?_ ?_
   any_goals (first | omega | (simp [qA2]; done))
   have c2':k.regs.length=8:=by omega
   exact ⟨hl',qBt hp (by rw [hco,c1,c3,c4,c5,c2']; rfl)⟩
  ·simp only [decide_eq_false_iff_not] at hc
   have he:i=m.cores.length:=by omega
   subst he
   simp only [go_sem,seval]
   repeat refine K ?_
   refine fz ?_; simp [FinS,nilL,nilV,oneOr,-List.drop_one]
   rw [coreOk_def,hw,hmo,hno,hp]
   simp
   omega
theorem specMachineOk_ok (m:Machine) (h:SmallM m):CallOk Tryz.prog num 233 [.agg (machineC .bw m)] [] (.bool (machineOk m)):=by
 obtain ⟨h1,h2,h3,h4,h5,h6,h7⟩:=h
 refine EN m233 Tryz.func54 ?_
 unfold m233
 simp only [go_sem,seval]
 repeat refine K ?_
 refine CA [] (qAq m.codes.length 1 4) ?_
 try simp only [go_sem,seval]
 repeat refine K ?_
 cases hw:within m.codes.length 1 4
 ·try simp only [go_sem,seval,hw]
  repeat refine K ?_
  refine fz ?_; simp [FinS,nilL,nilV,oneOr,-List.drop_one]
  simp [machineOk,hw]
 try simp only [go_sem,seval,hw]
 repeat refine K ?_
 by_cases hcl:(m.cores.length:Int)=m.codes.length
 case neg =>
  try simp only [go_sem,seval,hcl]
  repeat refine K ?_
  refine fz ?_; simp [FinS,nilL,nilV,oneOr,-List.drop_one]
  have :¬m.cores.length=m.codes.length:=by omega
  simp [machineOk,this]
 try simp only [go_sem,seval,hcl]
 repeat refine K ?_
 refine CA [] (specMemoryOk_ok m.mem.cells h6) ?_
 try simp only [go_sem,seval]
 repeat refine K ?_
 cases hmo:memoryOk m.mem.cells
 ·try simp only [go_sem,seval,hmo]
  repeat refine K ?_
  refine fz ?_; simp [FinS,nilL,nilV,oneOr,-List.drop_one]
  simp [machineOk,hmo]
 try simp only [go_sem,seval,hmo]
 repeat refine K ?_
 by_cases htl:(4000:Int)<m.tr.length
 ·try simp only [go_sem,seval,htl]
  repeat refine K ?_
  refine fz ?_; simp [FinS,nilL,nilV,oneOr,-List.drop_one]
  have :¬(m.tr.length:Int)≤4000:=by omega
  simp [machineOk,notesOk,this]
 try simp only [go_sem,seval,htl]
 repeat refine K ?_
 refine qA8 (ι:=Nat) (fun i=>.mk [(1,.ptr 10 0 0),(3,.int .i64 m.codes.length),(4,.int .i64 i)] [(10,4,[machineC .bw m])] 11) (fun i=>i≤m.cores.length∧(List.range i).all (coreOk m)=true) (fun i=>m.cores.length-i) 0 (by simp) ?_ ?_
 ·refine Sub.shape [] id (by omega) ?_ ?_ ?_ ?_<;>simp [qA2]
  all_goals (try omega)
 ·rintro i ⟨hi,hp⟩
  simp only [go_sem,seval]
  refine qA1 (fun hc=>?_) (fun hc=>?_)
  ·simp only [decide_eq_true_eq] at hc
   have hl':i<m.cores.length:=by omega
   have hj:i<m.codes.length:=by omega
   have hb:=h2 _ (qAd m.codes i [] hj)
   have hg:=qBu .bw m.codes i hj
   have w1:IntKind.i64.wrap (((m.codes.getD i []).length:Int)-1)=(m.codes.getD i []).length-1:=qAg (by omega) (by omega)
   have hvl:=h5 _ (qAd m.cores i default hl')
   have hco:coreOk m i=(codeOk (m.codes.getD i [])&&decide ((m.cores.getD i default).regs.length=8)&&within (m.cores.getD i default).at_ 0 ((m.codes.getD i []).length-1)&&within (m.cores.getD i default).st 0 2&&viewOk m.mem.cells (m.cores.getD i default).view):=rfl
   simp only [go_sem,seval,qAv .bw m.cores i hl',hg]
   repeat refine K ?_
   generalize m.cores.getD i default=k at hco hvl
   generalize m.codes.getD i []=cd at hco w1 hb hg
   refine DA [] (specCodeOk_ok cd hb) ?_
   try simp only [go_sem,seval]
   repeat refine K ?_
   have fin:coreOk m i=false→machineOk m=false:=fun h=>by rw [coreOk_def,qB3 hl' h]; simp
   cases c1:codeOk cd
   ·try simp only [go_sem,seval,c1]
    repeat refine K ?_
    refine fz ?_; simp [FinS,nilL,nilV,oneOr,-List.drop_one]
    exact fin (by rw [hco,c1]; simp)
   by_cases c2:(k.regs.length:Int)=8
   case neg =>
    try simp only [go_sem,seval,c1,c2]
    repeat refine K ?_
    refine fz ?_; simp [FinS,nilL,nilV,oneOr,-List.drop_one]
    have :¬k.regs.length=8:=by omega
    exact fin (by rw [hco]; simp [this])
   try simp only [go_sem,seval,c1,c2,hg,w1]
   repeat refine K ?_
   refine DA [] (qAq k.at_ 0 (cd.length-1)) ?_
   try simp only [go_sem,seval]
   repeat refine K ?_
   cases c3:within k.at_ 0 (cd.length-1)
   ·try simp only [go_sem,seval,c3]
    repeat refine K ?_
    refine fz ?_; simp [FinS,nilL,nilV,oneOr,-List.drop_one]
    exact fin (by rw [hco,c3]; simp)
   try simp only [go_sem,seval,c3]
   repeat refine K ?_
   refine DA [] (qAq k.st 0 2) ?_
   try simp only [go_sem,seval]
   repeat refine K ?_
   cases c4:within k.st 0 2
   ·try simp only [go_sem,seval,c4]
    repeat refine K ?_
    refine fz ?_; simp [FinS,nilL,nilV,oneOr,-List.drop_one]
    exact fin (by rw [hco,c4]; simp)
   try simp only [go_sem,seval,c4]
   repeat refine K ?_
   refine DA [] (specViewOk_ok m.mem.cells k.view h6.len h6.cell hvl) ?_
   try simp only [go_sem,seval]
   repeat refine K ?_
   cases c5:viewOk m.mem.cells k.view
   ·try simp only [go_sem,seval,c5]
    repeat refine K ?_
    refine fz ?_; simp [FinS,nilL,nilV,oneOr,-List.drop_one]
    exact fin (by rw [hco,c5]; simp)
   try simp only [go_sem,seval,c5,qA7 (i:=i) (by omega)]
   repeat refine K ?_
   refine qA6 (i+1) (Sub.shape [] id (by omega) ?_ ?_ ?_ ?_) ?_ ?_
   any_goals (first | omega | (simp [qA2]; done))
   have c2':k.regs.length=8:=by omega
   exact ⟨hl',qBt hp (by rw [hco,c1,c3,c4,c5,c2']; rfl)⟩
  ·simp only [decide_eq_false_iff_not] at hc
   have hall:(List.range m.cores.length).all (coreOk m)=true:=by
    have he:i=m.cores.length:=by omega
    rw [←he]
    exact hp
   have w1:IntKind.i64.wrap ((m.codes.length:Int)-1)=m.codes.length-1:=qAg (by omega) (by omega)
   simp only [go_sem,seval]
   repeat refine K ?_
   refine qA8 (ι:=Nat) (fun i=>.mk [(1,.ptr 10 0 0),(3,.int .i64 m.codes.length),(6,.int .i64 i)] [(10,4,[machineC .bw m])] 11) (fun i=>i≤m.tr.length∧(m.tr.take i).all (fun x=>within x.who 0 (m.codes.length-1))=true) (fun i=>m.tr.length-i) 0 (by simp) ?_ ?_
   ·refine Sub.shape [] id (by omega) ?_ ?_ ?_ ?_<;>simp [qA2]
   ·clear hp hi hc
    clear i
    rintro i ⟨hi,hp⟩
    simp only [go_sem,seval]
    repeat refine K ?_
    refine qA1 (fun hc=>?_) (fun hc=>?_)
    ·simp only [decide_eq_true_eq] at hc
     have hl':i<m.tr.length:=by omega
     simp only [go_sem,seval,qCq m.tr i hl',w1]
     repeat refine K ?_
     refine CA [] (qAq (m.tr.getD i default).who 0 (m.codes.length-1)) ?_
     try simp only [go_sem,seval]
     repeat refine K ?_
     cases c5:within (m.tr.getD i default).who 0 (m.codes.length-1)
     ·try simp only [go_sem,seval,c5]
      repeat refine K ?_
      refine fz ?_; simp [FinS,nilL,nilV,oneOr,-List.drop_one]
      have:m.tr.all (fun x=>within x.who 0 (m.codes.length-1))=false:=qBq (p:=fun x=>within x.who 0 ((m.codes.length:Int)-1)) hl' c5
      have hn:notesOk m.tr m.cores.length=false:=by
       unfold notesOk
       rw [hcl,this]
       rfl
      simp [machineOk,hn]
     ·try simp only [go_sem,seval,c5,qA7 (i:=i) (by omega)]
      repeat refine K ?_
      refine qA6 (i+1) (Sub.shape [] id (by omega) ?_ ?_ ?_ ?_) ?_ ?_
      any_goals (first | omega | (simp [qA2]; done))
      exact ⟨hl',qC2 (p:=fun x=>within x.who 0 ((m.codes.length:Int)-1)) hp hl' c5⟩
    ·simp only [decide_eq_false_iff_not] at hc
     have ha:=qDa hp hc
     have hn:notesOk m.tr m.cores.length=true:=by
      unfold notesOk
      rw [hcl,ha]
      simp
      omega
     simp only [go_sem,seval]
     repeat refine K ?_
     refine fz ?_; simp [FinS,nilL,nilV,oneOr,-List.drop_one]
     rw [coreOk_def,hw,hmo,hn,hall]
     simp
     omega
def VOk (cs:List (List Write)) (v:List Int):Prop:=v.length=24∧∀i,i<24→0≤v.getD i 0∧v.getD i 0<((cs.getD i []).length:Int)
structure MmOk (cs:List (List Write)):Prop where
 len:cs.length=24
 cell :∀i,i<24→1≤(cs.getD i []).length∧(cs.getD i []).length≤4000
 view :∀i,i<24→∀w∈cs.getD i [],VOk cs w.view
theorem viewOk_iff {cs:List (List Write)} (hc:cs.length=24) (v:List Int):viewOk cs v=true↔VOk cs v:=by
 unfold viewOk VOk
 simp only [Bool.and_eq_true,decide_eq_true_eq,range_all,within_iff,hc]
 constructor
 ·rintro ⟨h1,h2⟩
  exact ⟨h1,fun i hi=>by have:=h2 i (by omega); omega⟩
 ·rintro ⟨h1,h2⟩
  exact ⟨h1,fun i hi=>by have:=h2 i (by omega); omega⟩
theorem memoryOk_iff (cs:List (List Write)):memoryOk cs=true↔MmOk cs:=by
 unfold memoryOk cellWOk
 simp only [Bool.and_eq_true,decide_eq_true_eq,List.all_eq_true,within_iff]
 constructor
 ·rintro ⟨h1,h2⟩
  refine ⟨h2,fun i hi=>?_,fun i hi w hw=>?_⟩
  ·have:=(h1 _ (qAd cs i [] (by omega))).1
   omega
  ·exact (viewOk_iff h2 _).1 ((h1 _ (qAd cs i [] (by omega))).2 w hw)
 ·rintro ⟨h1,h2,h3⟩
  refine ⟨fun c hc=>?_,h1⟩
  obtain ⟨i,hi,rfl⟩:=List.getElem_of_mem hc
  have e:cs.getD i []=cs[i]:=by simp [List.getD_eq_getElem?_getD,hi]
  have a:=h2 i (by omega)
  have b:=h3 i (by omega)
  rw [e] at a b
  exact ⟨by omega,fun w hw=>(viewOk_iff h1 _).2 (b w hw)⟩
theorem getD_set_eq {α:Type} (l:List α) (i j:Nat) (a d:α) (hi:i<l.length):(l.set i a).getD j d=if j=i then a else l.getD j d:=by
 by_cases h:j=i
 ·subst h
  simp [List.getD_eq_getElem?_getD,hi]
 ·rw [if_neg h]
  simp [List.getD_eq_getElem?_getD,List.getElem?_set,show¬i=j from fun e=>h e.symm]
theorem VOk.set {cs:List (List Write)} {v:List Int} (h:VOk cs v) (c:Nat) (n:Int) (h0:0≤n) (h1:n<((cs.getD c []).length:Int)):VOk cs (v.set c n):=by
 refine ⟨by rw [List.length_set]; exact h.1,fun i hi=>?_⟩
 by_cases hc:c<v.length
 ·rw [getD_set_eq _ _ _ _ _ hc]
  split
  ·rename_i e
   subst e
   exact ⟨h0,h1⟩
  ·exact h.2 i hi
 ·rw [List.set_eq_of_length_le (by omega)]
  exact h.2 i hi
theorem cores_ren (f:Nat→Nat) (l:List Core):renR f (cores .own l)=cores .own l:=renR_nb f _ ((cores_nb l).2 trivial)
theorem cores_okR {A:Nat→Prop} (l:List Core):okR A (cores .own l)↔True:=by simp [okR_nb _ ((cores_nb l).2 trivial)]
theorem cores_okS {A:Nat→Prop} (l:List Core) (i:Nat) (r:List AV) (h:okL A r):okR A ((cores .own l).set i r):=okR_set _ _ _ (okR_nb _ ((cores_nb l).2 trivial)) h
theorem cels_ren (f:Nat→Nat) (l:List (List Write)):renR f (cels .own l)=cels .own l:=renR_nb f _ ((cels_nb l).2 trivial)
theorem cels_okR {A:Nat→Prop} (l:List (List Write)):okR A (cels .own l)↔True:=by simp [okR_nb _ ((cels_nb l).2 trivial)]
theorem cels_okS {A:Nat→Prop} (l:List (List Write)) (i:Nat) (r:List AV) (h:okL A r):okR A ((cels .own l).set i r):=okR_set _ _ _ (okR_nb _ ((cels_nb l).2 trivial)) h
theorem codes_ren (f:Nat→Nat) (l:List (List Step)):renR f (codes .own l)=codes .own l:=renR_nb f _ ((codes_nb l).2 trivial)
theorem codes_okR {A:Nat→Prop} (l:List (List Step)):okR A (codes .own l)↔True:=by simp [okR_nb _ ((codes_nb l).2 trivial)]
theorem codes_okS {A:Nat→Prop} (l:List (List Step)) (i:Nat) (r:List AV) (h:okL A r):okR A ((codes .own l).set i r):=okR_set _ _ _ (okR_nb _ ((codes_nb l).2 trivial)) h
theorem writes_ren (f:Nat→Nat) (l:List Write):renR f (writes .own l)=writes .own l:=renR_nb f _ ((writes_nb l).2 trivial)
theorem writes_okR {A:Nat→Prop} (l:List Write):okR A (writes .own l)↔True:=by simp [okR_nb _ ((writes_nb l).2 trivial)]
theorem writes_okS {A:Nat→Prop} (l:List Write) (i:Nat) (r:List AV) (h:okL A r):okR A ((writes .own l).set i r):=okR_set _ _ _ (okR_nb _ ((writes_nb l).2 trivial)) h
theorem ints_ren (f:Nat→Nat) (l:List Int):renR f (ints l)=ints l:=renR_nb f _ ((qBy l).2 trivial)
theorem ints_okR {A:Nat→Prop} (l:List Int):okR A (ints l)↔True:=by simp [okR_nb _ ((qBy l).2 trivial)]
attribute [go_sem] renO renR renR_set cores_ren cels_ren codes_ren writes_ren ints_ren
attribute [simp] renO renR renR_set cores_ren cels_ren codes_ren writes_ren ints_ren okR cores_okR cels_okR codes_okR writes_okR ints_okR cores_okS cels_okS codes_okS writes_okS
def memF (cds:List (List Step)) (n1:Nat) (cs cs':List (List Write)) (tr:List Note) (R:List (List AV)) (v:List Int):FP :=
 [(0,some (4,[[.sl .own 1 (codes .own cds),.ns 1 0 n1,.sl .own 1 (cels .own cs),.sl .own 2 (notes tr)]]),some (4,[[.sl .own 1 (codes .own cds),.ns 1 0 n1,.sl .own 1 (cels .own cs'),.sl .own 2 (notes tr)]])),
  (1,some (4,R),some (4,R)),(2,some (1,ints v),some (1,ints v))]
def z24:List Int:=List.replicate 24 0
@[simp] theorem qCe:z24.length=24:=rfl
def memF4 (cds:List (List Step)) (n1:Nat) (cs cs':List (List Write)) (tr:List Note) (R:List (List AV)) (v x0:List Int):FP:=memF cds n1 cs cs' tr R v++[(3,some (1,ints x0),some (1,ints x0))]
def memF5 (cds:List (List Step)) (n1:Nat) (cs cs':List (List Write)) (tr:List Note) (R:List (List AV)) (v x0 x1:List Int):FP:=memF cds n1 cs cs' tr R v++[(3,some (1,ints x0),some (1,ints x0)),(4,some (1,ints x1),some (1,ints x1))]
def machF (k:Int) (m:Machine):FP:=[(0,some (1,codes .own m.codes),some (1,codes .own (mks wStepS markStepSF k m.codes))),(1,some (4,cores .own m.cores),some (4,cores .own (mks wCore markCoreF (k+tots wStepS m.codes) m.cores))),(2,some (1,cels .own m.mem.cells),some (1,cels .own (mks wWriteS markWriteSF (k+tots wStepS m.codes+tots wCore m.cores) m.mem.cells))),(3,some (2,notes m.tr),some (2,notes (mks wNote markNoteF (k+tots wStepS m.codes+tots wCore m.cores+tots wWriteS m.mem.cells) m.tr)))]
attribute [go_sem] machF
attribute [simp] machF
attribute [go_sem] memF memF4 memF5
attribute [simp] memF memF4 memF5
@[simp] def mchV (m:Machine):AV:=.agg [.ns 0 0 m.codes.length,.ns 1 0 m.cores.length,.ns 2 0 m.mem.cells.length,.ns 3 0 m.tr.length]
@[simp] def mchF (m:Machine):FP:=[(0,some (1,codes .own m.codes),none),(1,some (4,cores .own m.cores),none),(2,some (1,cels .own m.mem.cells),none),(3,some (2,notes m.tr),none)]
@[simp] def mchK (m:Machine):FP:=[(0,some (1,codes .own m.codes),some (1,codes .own m.codes)),(1,some (4,cores .own m.cores),some (4,cores .own m.cores)),(2,some (1,cels .own m.mem.cells),some (1,cels .own m.mem.cells)),(3,some (2,notes m.tr),some (2,notes m.tr))]
attribute [go_sem] mchF mchV mchK
def w00:Write:=⟨0,z24⟩
def mem0:List (List Write):=List.replicate 24 [w00]
def z8:List Int:=List.replicate 8 0
@[simp] theorem z8_len:z8.length=8:=rfl
def k00:Core:=⟨0,z8,z24,0⟩
def machNew (l:List (List Step)):Machine:=⟨l,List.replicate l.length k00,⟨mem0⟩,[]⟩
attribute [simp] machNew
attribute [go_sem] machNew
theorem notes_ren (f:Nat→Nat) (l:List Note):renR f (notes l)=notes l:=renR_nb f _ ((qCy l).2 trivial)
theorem notes_okR {A:Nat→Prop} (l:List Note):okR A (notes l)↔True:=by simp [okR_nb _ ((qCy l).2 trivial)]
theorem steps_ren (f:Nat→Nat) (l:List Step):renR f (steps l)=steps l:=renR_nb f _ ((steps_nb l).2 trivial)
theorem steps_okR {A:Nat→Prop} (l:List Step):okR A (steps l)↔True:=by simp [okR_nb _ ((steps_nb l).2 trivial)]
attribute [go_sem] notes_ren steps_ren
attribute [simp] notes_ren steps_ren notes_okR steps_okR
@[simp] def mchG (m:Machine) (j:Nat):FP:=[(0,some (1,(codes .own m.codes).set j [.ns 4 0 (m.codes.getD j []).length]),some (1,(codes .own m.codes).set j [.ns 4 0 (m.codes.getD j []).length])),(1,some (4,cores .own m.cores),some (4,cores .own m.cores)),(2,some (1,cels .own m.mem.cells),some (1,cels .own m.mem.cells)),(3,some (2,notes m.tr),some (2,notes m.tr)),(4,some (5,steps (m.codes.getD j [])),some (5,steps (m.codes.getD j [])))]
attribute [go_sem] mchG
end Go.Sep
