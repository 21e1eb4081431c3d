/- Contracts of functions. -/
import Derived.Test.YtebbppogicgpkaaGreatRxx13
namespace Go.Sep
set_option maxHeartbeats 16000000
open Go.Proofs
set_option linter.unusedSimpArgs false
set_option linter.unusedVariables false
set_option maxRecDepth 100000
open Nat renaming reduceAdd → qA, reduceMul → qB, reduceEqDiff → qC, reduceBEq → qD
open Int renaming reduceToNat → qE, reduceEq → qF, reduceLT → qG, reduceLE → qH
open List renaming getD_eq_getElem?_getD → gD
def m356:MFn:=⟨35,[.cell 2 4 true],kr [xb 1 0,xo 2 (.alloc [.nil,.nil,.nil,.nil])] (.seq (.dreg (.take 0 (xa 5 0 1) (.take 1 (xl 6 5) (.take 3 (xa 8 2 1) (.take 4 (xm 9 1 8) (.take 7 (xa 12 3 1) (.take 8 (xl 13 12) (.tri 2 [1,0] (xc1 7 372 (.t 6)) (.tri 5 [2,4,1,3,0] (xc1 10 373 (.t 9)) (.both 6 [] (xo 11 (.mkSl [xz,xz] 0 [])) (.both 9 [5,8,2,4,7,1,3,0] (xA 14 2 16 11 13) (.take 10 (xo 15 (.build [.nil,.nil,.nil,.nil] [(0,1,.t 7),(2,1,.t 10),(3,1,.t 14)])) (.only 11 [] (xo 3 (.alloc [.nil,.nil,.nil,.nil])) (.only 12 [0,1,3,4,7,8,10] (xS 4 3 15) (.done)))) 11 [] (xo 3 (.alloc [.nil,.nil,.nil,.nil])) (.only 9 [5,8,2,4,7,1,3,0] (xA 14 2 16 11 13) (.only 10 [2,5,9,1,4,8,0,3,7] (xo 15 (.build [.nil,.nil,.nil,.nil] [(0,1,.t 7),(2,1,.t 10),(3,1,.t 14)])) (.only 12 [0,1,3,4,7,8] (xS 4 3 15) (.done))))) 11 [] (xo 3 (.alloc [.nil,.nil,.nil,.nil])) (.only 6 [] (xo 11 (.mkSl [xz,xz] 0 [])) (.only 9 [5,8,2,4,7,1,3,0] (xA 14 2 16 11 13) (.only 10 [2,5,9,1,4,8,0,3,7] (xo 15 (.build [.nil,.nil,.nil,.nil] [(0,1,.t 7),(2,1,.t 10),(3,1,.t 14)])) (.only 12 [0,1,3,4,7,8] (xS 4 3 15) (.done)))))) 6 [] (xo 11 (.mkSl [xz,xz] 0 [])) (.both 5 [2,4,1,3,0] (xc1 10 373 (.t 9)) (.both 9 [5,8,2,4,7,1,3,0] (xA 14 2 16 11 13) (.take 10 (xo 15 (.build [.nil,.nil,.nil,.nil] [(0,1,.t 7),(2,1,.t 10),(3,1,.t 14)])) (.only 11 [] (xo 3 (.alloc [.nil,.nil,.nil,.nil])) (.only 12 [0,1,3,4,7,8,10] (xS 4 3 15) (.done)))) 11 [] (xo 3 (.alloc [.nil,.nil,.nil,.nil])) (.only 9 [5,8,2,4,7,1,3,0] (xA 14 2 16 11 13) (.only 10 [2,5,9,1,4,8,0,3,7] (xo 15 (.build [.nil,.nil,.nil,.nil] [(0,1,.t 7),(2,1,.t 10),(3,1,.t 14)])) (.only 12 [0,1,3,4,7,8] (xS 4 3 15) (.done))))) 11 [] (xo 3 (.alloc [.nil,.nil,.nil,.nil])) (.only 5 [2,4,1,3,0] (xc1 10 373 (.t 9)) (.only 9 [5,8,2,4,7,1,3,0] (xA 14 2 16 11 13) (.only 10 [2,5,9,1,4,8,0,3,7] (xo 15 (.build [.nil,.nil,.nil,.nil] [(0,1,.t 7),(2,1,.t 10),(3,1,.t 14)])) (.only 12 [0,1,3,4,7,8] (xS 4 3 15) (.done)))))) 11 [] (xo 3 (.alloc [.nil,.nil,.nil,.nil])) (.both 5 [2,4,1,3,0] (xc1 10 373 (.t 9)) (.only 6 [] (xo 11 (.mkSl [xz,xz] 0 [])) (.only 9 [5,8,2,4,7,1,3,0] (xA 14 2 16 11 13) (.only 10 [2,5,9,1,4,8,0,3,7] (xo 15 (.build [.nil,.nil,.nil,.nil] [(0,1,.t 7),(2,1,.t 10),(3,1,.t 14)])) (.only 12 [0,1,3,4,7,8] (xS 4 3 15) (.done))))) 6 [] (xo 11 (.mkSl [xz,xz] 0 [])) (.only 5 [2,4,1,3,0] (xc1 10 373 (.t 9)) (.only 9 [5,8,2,4,7,1,3,0] (xA 14 2 16 11 13) (.only 10 [2,5,9,1,4,8,0,3,7] (xo 15 (.build [.nil,.nil,.nil,.nil] [(0,1,.t 7),(2,1,.t 10),(3,1,.t 14)])) (.only 12 [0,1,3,4,7,8] (xS 4 3 15) (.done))))))) 6 [] (xo 11 (.mkSl [xz,xz] 0 [])) (.both 2 [1,0] (xc1 7 372 (.t 6)) (.both 5 [2,4,1,3,0] (xc1 10 373 (.t 9)) (.both 9 [5,8,2,4,7,1,3,0] (xA 14 2 16 11 13) (.take 10 (xo 15 (.build [.nil,.nil,.nil,.nil] [(0,1,.t 7),(2,1,.t 10),(3,1,.t 14)])) (.only 11 [] (xo 3 (.alloc [.nil,.nil,.nil,.nil])) (.only 12 [0,1,3,4,7,8,10] (xS 4 3 15) (.done)))) 11 [] (xo 3 (.alloc [.nil,.nil,.nil,.nil])) (.only 9 [5,8,2,4,7,1,3,0] (xA 14 2 16 11 13) (.only 10 [2,5,9,1,4,8,0,3,7] (xo 15 (.build [.nil,.nil,.nil,.nil] [(0,1,.t 7),(2,1,.t 10),(3,1,.t 14)])) (.only 12 [0,1,3,4,7,8] (xS 4 3 15) (.done))))) 11 [] (xo 3 (.alloc [.nil,.nil,.nil,.nil])) (.only 5 [2,4,1,3,0] (xc1 10 373 (.t 9)) (.only 9 [5,8,2,4,7,1,3,0] (xA 14 2 16 11 13) (.only 10 [2,5,9,1,4,8,0,3,7] (xo 15 (.build [.nil,.nil,.nil,.nil] [(0,1,.t 7),(2,1,.t 10),(3,1,.t 14)])) (.only 12 [0,1,3,4,7,8] (xS 4 3 15) (.done)))))) 11 [] (xo 3 (.alloc [.nil,.nil,.nil,.nil])) (.only 2 [1,0] (xc1 7 372 (.t 6)) (.only 5 [2,4,1,3,0] (xc1 10 373 (.t 9)) (.only 9 [5,8,2,4,7,1,3,0] (xA 14 2 16 11 13) (.only 10 [2,5,9,1,4,8,0,3,7] (xo 15 (.build [.nil,.nil,.nil,.nil] [(0,1,.t 7),(2,1,.t 10),(3,1,.t 14)])) (.only 12 [0,1,3,4,7,8] (xS 4 3 15) (.done))))))) 11 [] (xo 3 (.alloc [.nil,.nil,.nil,.nil])) (.both 2 [1,0] (xc1 7 372 (.t 6)) (.both 5 [2,4,1,3,0] (xc1 10 373 (.t 9)) (.only 6 [] (xo 11 (.mkSl [xz,xz] 0 [])) (.only 9 [5,8,2,4,7,1,3,0] (xA 14 2 16 11 13) (.only 10 [2,5,9,1,4,8,0,3,7] (xo 15 (.build [.nil,.nil,.nil,.nil] [(0,1,.t 7),(2,1,.t 10),(3,1,.t 14)])) (.only 12 [0,1,3,4,7,8] (xS 4 3 15) (.done))))) 6 [] (xo 11 (.mkSl [xz,xz] 0 [])) (.only 5 [2,4,1,3,0] (xc1 10 373 (.t 9)) (.only 9 [5,8,2,4,7,1,3,0] (xA 14 2 16 11 13) (.only 10 [2,5,9,1,4,8,0,3,7] (xo 15 (.build [.nil,.nil,.nil,.nil] [(0,1,.t 7),(2,1,.t 10),(3,1,.t 14)])) (.only 12 [0,1,3,4,7,8] (xS 4 3 15) (.done)))))) 6 [] (xo 11 (.mkSl [xz,xz] 0 [])) (.only 2 [1,0] (xc1 7 372 (.t 6)) (.only 5 [2,4,1,3,0] (xc1 10 373 (.t 9)) (.only 9 [5,8,2,4,7,1,3,0] (xA 14 2 16 11 13) (.only 10 [2,5,9,1,4,8,0,3,7] (xo 15 (.build [.nil,.nil,.nil,.nil] [(0,1,.t 7),(2,1,.t 10),(3,1,.t 14)])) (.only 12 [0,1,3,4,7,8] (xS 4 3 15) (.done))))))))))))))) (.seq (kr [xI 4 0] (.blk 0 (.loop (.seq (kr [xv 16 4,xa 17 1 1,xl 18 17,xe 19 18,bT 20 .lss 16 19] (kX 20 0)) (.seq (.blk 1 (.dreg (.take 0 (xa 23 1 3) (.take 1 (xl 24 23) (.take 2 (xa 25 1 1) (.take 3 (xl 26 25) (.only 4 [] (xv 27 4) (.only 5 [3,2] (xD 28 4 26 27) (.only 6 [5,3,2] (xm 29 4 28) (.only 7 [6,5,3,2] (xc1 30 374 (.t 29)) (.only 8 [7,6,5,3,2] (xo 31 (.mkSl [.int .i64 0,.nil,.nil,.int .i64 0] 1 [(0,.t 30)])) (.only 9 [1,7,0,6,5,3,2] (xA 32 4 64 24 31) (.only 10 [0,1,2,3] (xa 33 1 3) (.only 11 [0,1,2,3] (xS 1 33 32) (.done))))))))))))))) (xr [xv 21 4,bI 22 .add 21 1,xv 4 22])))))) (kR [xm 34 4 3,xS 4 2 34])))⟩
def m358:MFn:=⟨56,[.cell 2 4 true],kr [xb 1 0,xo 2 (.alloc [.nil,.nil,.nil,.nil])] (.seq (.dreg (.take 0 (xa 8 2 1) (.take 1 (xm 9 1 8) (.take 3 (xa 11 3 1) (.take 4 (xl 12 11) (.both 2 [1,0] (xc1 10 366 (.t 9)) (.both 5 [2,4,1,3,0] (xc1 13 69 (.t 12)) (.take 6 (xo 14 (.build [.nil,.nil,.nil,.nil] [(2,1,.t 10),(3,1,.t 13)])) (.only 7 [] (xo 3 (.alloc [.nil,.nil,.nil,.nil])) (.only 8 [0,1,3,4,6] (xS 4 3 14) (.done)))) 7 [] (xo 3 (.alloc [.nil,.nil,.nil,.nil])) (.only 5 [2,4,1,3,0] (xc1 13 69 (.t 12)) (.only 6 [2,5,1,4,0,3] (xo 14 (.build [.nil,.nil,.nil,.nil] [(2,1,.t 10),(3,1,.t 13)])) (.only 8 [0,1,3,4] (xS 4 3 14) (.done))))) 7 [] (xo 3 (.alloc [.nil,.nil,.nil,.nil])) (.only 2 [1,0] (xc1 10 366 (.t 9)) (.only 5 [2,4,1,3,0] (xc1 13 69 (.t 12)) (.only 6 [2,5,1,4,0,3] (xo 14 (.build [.nil,.nil,.nil,.nil] [(2,1,.t 10),(3,1,.t 13)])) (.only 8 [0,1,3,4] (xS 4 3 14) (.done))))))))))) (.seq (kr [xa 15 0 1,xl 16 15,xe 17 16,xI 18 0] (.blk 0 (.loop (kr [bT 19 .lss 18 17] (.seq (kX 19 0) (.seq (.blk 1 (kr [xD 20 1 16 18,xl 21 20,xv 5 21] (.dreg (.take 0 (xa 22 0 3) (.take 1 (xl 23 22) (.take 3 (xv 25 5) (.only 2 [] (xo 24 (.mkSl [xz,xz,xz,xz,xz] 0 [])) (.only 4 [3] (xA 26 5 40 24 25) (.only 5 [4,3] (xo 27 (.mkSl [.nil] 1 [(0,.t 26)])) (.only 6 [1,4,0,3] (xA 28 1 24 23 27) (.only 7 [0,1,3] (xa 29 0 3) (.only 8 [0,1,3] (xS 1 29 28) (.done))))))))))))) (xr [bI 30 .add 18 1,xv 18 30]))))))) (.seq (kr [xa 31 1 1,xl 32 31,xe 33 32,xI 34 0] (.blk 2 (.loop (kr [bT 35 .lss 34 33] (.seq (kX 35 2) (.seq (.blk 3 (kr [xD 36 4 32 34,xm 37 4 36,xo 7 (.alloc [.int .i64 0,.nil,.nil,.int .i64 0]),xS 4 7 37] (.dreg (.take 0 (xa 38 1 3) (.take 1 (xl 39 38) (.take 2 (xa 40 0 7) (.take 3 (xl 41 40) (.take 4 (xa 42 1 7) (.take 5 (xl 43 42) (.take 7 (xa 45 2 7) (.take 8 (xl 46 45) (.take 10 (xa 48 3 7) (.take 11 (xl 49 48) (.only 6 [5,4] (xc1 44 36 (.t 43)) (.only 9 [6,8,5,7,4] (xc1 47 36 (.t 46)) (.only 12 [3,6,9,11,2,5,8,10,4,7] (xo 50 (.build [.int .i64 0,.nil,.nil,.int .i64 0] [(0,1,.t 41),(1,1,.t 44),(2,1,.t 47),(3,1,.t 49)])) (.only 13 [12,3,6,9,11,2,5,8,10,4,7] (xo 51 (.mkSl [.int .i64 0,.nil,.nil,.int .i64 0] 1 [(0,.t 50)])) (.only 14 [1,9,13,0,6,8,12,5,7,3,11,4,2,10] (xA 52 4 64 39 51) (.only 15 [0,1,2,3,4,5,7,8,10,11] (xa 53 1 3) (.only 16 [0,1,2,3,4,5,7,8,10,11] (xS 1 53 52) (.done))))))))))))))))))))) (xr [bI 54 .add 34 1,xv 34 54]))))))) (kR [xm 55 4 3,xS 4 2 55]))))⟩
def m366:MFn:=⟨42,[.cell 2 1 true],kr [xb 1 0,xo 2 (.alloc [.nil])] (kr [xo 9 (.build [.nil] []),xo 3 (.alloc [.nil]),xS 1 3 9] (.seq (kr [xa 10 0 1,xl 11 10,xe 12 11,xI 13 0] (.blk 0 (.loop (kr [bT 14 .lss 13 12] (.seq (kX 14 0) (.seq (.blk 1 (kr [xD 15 1 11 13,xl 16 15,xv 5 16] (kr [xo 17 (.mkSl [.int .i64 0,.nil] 0 []),xv 6 17] (.seq (kr [xv 18 5,xe 19 18,xI 20 0] (.blk 2 (.loop (kr [bT 21 .lss 20 19] (.seq (kX 21 2) (.seq (.blk 3 (kr [xD 22 2 18 20,xm 23 2 22,xo 8 (.alloc [.int .i64 0,.nil]),xS 2 8 23] (.dreg (.take 0 (xv 24 6) (.take 1 (xa 25 0 8) (.take 2 (xl 26 25) (.only 3 [] (xa 27 1 8) (.only 4 [] (xl 28 27) (.only 5 [] (xc1 29 36 (.t 28)) (.only 6 [2,1] (xo 30 (.build [.int .i64 0,.nil] [(0,1,.t 26),(1,1,.t 29)])) (.only 7 [6,2,1] (xo 31 (.mkSl [.int .i64 0,.nil] 1 [(0,.t 30)])) (.only 8 [0,7,6,2,1] (xA 32 2 32 24 31) (.only 9 [0,1,2] (xv 6 32) (.done)))))))))))))) (xr [bI 33 .add 20 1,xv 20 33]))))))) (xr [xa 34 0 3,xl 35 34,xv 36 6,xo 37 (.mkSl [.nil] 1 [(0,.t 36)]),xA 38 1 24 35 37,xa 39 0 3,xS 1 39 38]))))) (xr [bI 40 .add 13 1,xv 13 40]))))))) (kR [xm 41 1 3,xS 1 2 41])))⟩
def m372:MFn:=⟨22,[.t 2],kr [xo 2 (.mv (.c (.nil)))] (kr [xo 5 (.mkSl [.nil] 0 []),xv 3 5] (.seq (kr [xI 4 0] (.blk 0 (.loop (.seq (kr [xv 6 4,xv 7 0,xe 8 7,bT 9 .lss 6 8] (kX 9 0)) (.seq (.blk 1 (xr [xv 12 3,xo 13 (.mkSl [xz,xz,xz,xz,xz] 0 []),xv 14 0,xv 15 4,xD 16 1 14 15,xl 17 16,xA 18 5 40 13 17,xo 19 (.mkSl [.nil] 1 [(0,.t 18)]),xA 20 1 24 12 19,xv 3 20])) (xr [xv 10 4,bI 11 .add 10 1,xv 4 11])))))) (kR [xv 21 3,xv 2 21])))⟩
def m373:MFn:=⟨57,[.cell 2 1 true],kr [xb 1 0,xo 2 (.alloc [.nil])] (kr [xo 7 (.build [.nil] []),xo 3 (.alloc [.nil]),xS 1 3 7] (.seq (kr [xI 4 0] (.blk 0 (.loop (.seq (kr [xv 8 4,xa 9 0 1,xl 10 9,xe 11 10,bT 12 .lss 8 11] (kX 12 0)) (.seq (.blk 1 (kr [xo 15 (.mkSl [.int .i64 0,.nil] 0 []),xv 5 15] (.seq (kr [xI 6 0] (.blk 2 (.loop (.seq (kr [xv 16 6,xa 17 0 1,xl 18 17,xv 19 4,xD 20 1 18 19,xl 21 20,xe 22 21,bT 23 .lss 16 22] (kX 23 2)) (.seq (.blk 3 (.dreg (.take 0 (xv 26 5) (.take 1 (xa 27 0 1) (.take 2 (xl 28 27) (.take 3 (xv 29 4) (.take 4 (xD 30 1 28 29) (.take 5 (xl 31 30) (.take 6 (xv 32 6) (.take 7 (xD 33 2 31 32) (.take 8 (xa 34 0 33) (.take 9 (xl 35 34) (.take 11 (xa 37 0 1) (.take 12 (xl 38 37) (.take 13 (xv 39 4) (.take 14 (xD 40 1 38 39) (.take 15 (xl 41 40) (.take 16 (xv 42 6) (.take 17 (xD 43 2 41 42) (.take 18 (xa 44 1 43) (.take 19 (xl 45 44) (.only 10 [] (xo 36 (.mkSl [xz] 0 [])) (.only 20 [19,18,17,15,16,14,12,13,11] (xA 46 1 8 36 45) (.only 21 [9,20,8,19,7,18,5,6,17,4,15,16,2,3,14,1,12,13,11] (xo 47 (.build [.int .i64 0,.nil] [(0,1,.t 35),(1,1,.t 46)])) (.only 22 [21,9,20,8,19,7,18,5,6,17,4,15,16,2,3,14,1,12,13,11] (xo 48 (.mkSl [.int .i64 0,.nil] 1 [(0,.t 47)])) (.only 23 [0,20,22,19,21,18,9,17,8,15,16,7,14,5,6,12,13,4,11,2,3,1] (xA 49 2 32 26 48) (.only 24 [0,1,2,3,4,5,6,7,8,9,11,12,13,14,15,16,17,18,19] (xv 5 49) (.done)))))))))))))))))))))))))))) (xr [xv 24 6,bI 25 .add 24 1,xv 6 25])))))) (xr [xa 50 0 3,xl 51 50,xv 52 5,xo 53 (.mkSl [.nil] 1 [(0,.t 52)]),xA 54 1 24 51 53,xa 55 0 3,xS 1 55 54])))) (xr [xv 13 4,bI 14 .add 13 1,xv 4 14])))))) (kR [xm 56 1 3,xS 1 2 56])))⟩
def m374:MFn:=⟨14,[.cell 2 4 true],kr [xb 1 0,xo 2 (.alloc [.int .i64 0,.nil,.nil,.int .i64 0])] (kr [xo 3 (.mkSl [xz] 0 []),xa 4 1 1,xl 5 4,xA 6 1 8 3 5,xa 7 1 1,xS 1 7 6] (kr [xo 8 (.mkSl [xz] 0 []),xa 9 2 1,xl 10 9,xA 11 1 8 8 10,xa 12 2 1,xS 1 12 11] (kR [xm 13 4 1,xS 4 2 13])))⟩
theorem qDs (l:List wR) (i:Nat) (h:i<l.length):yK .own (l.take i)++[[AV.int .i64 (l.getD i default).v,.sl .own 1 (wK (l.getD i default).view)]]=yK .own (l.take (i+1)):=by
 rw [List.take_succ_eq_append_getElem h,←tH]
 simp [yK,kM,List.getD_eq_getElem?_getD,h]
theorem qKn (l:List (List wR)) (i:Nat) (h:i<l.length):yP .own (l.take i)++[[AV.sl .own 2 (yK .own (l.getD i []))]]=yP .own (l.take (i+1)):=by
 rw [List.take_succ_eq_append_getElem h,←qEr]
 simp [yP,List.getD_eq_getElem?_getD,h]
theorem qHk (l:List (List yC)) (i:Nat) (h:i<l.length):codes .own (l.take i)++[[AV.sl .own 5 (wQ (l.getD i []))]]=codes .own (l.take (i+1)):=by
 rw [List.take_succ_eq_append_getElem h,←qC5]
 simp [codes,List.getD_eq_getElem?_getD,h]
theorem qHf (l:List uE) (i:Nat) (h:i<l.length):cores .own (l.take i)++[[AV.int .i64 (l.getD i default).at_,.sl .own 1 (wK (l.getD i default).regs),.sl .own 1 (wK (l.getD i default).view),.int .i64 (l.getD i default).st]]=cores .own (l.take (i+1)):=by
 rw [List.take_succ_eq_append_getElem h,←qC4]
 simp [cores,mC,List.getD_eq_getElem?_getD,h]
theorem qJa (cs:List (List wR)) (h:qI5 cs):qZ Tryz.prog num 366 [.agg (vV .bw ⟨cs⟩)] [] (.agg (vV .own ⟨cs⟩)):=by
 obtain ⟨h1,h2,h3⟩:=h
 refine EN m366 Tryz.func148 ?_
 unfold m366
 simp only [go_sem,seval]
 refine wC (ι:=Nat) (fun i=>.mk [(2,.ptr 11 0 0),(3,.ptr 12 0 0),(11,.sl .bw 1 (yP .bw cs)),(12,.int .i64 cs.length),(13,.int .i64 i)] [(11,1,[[.nil]]),(12,1,[[.sl .own 1 (yP .own (cs.take i))]])] 13) (fun i=>i≤cs.length) (fun i=>cs.length-i) 0 (by simp) ?_ ?_
 ·refine Sub.shape [] id (by omega) ?_ ?_ ?_ ?_<;>simp [qP]
 ·rintro i hi
  simp only [go_sem,seval]
  refine qS (fun hc=>?_) (fun hc=>?_)
  ·simp only [decide_eq_true_eq] at hc
   have hl':i<cs.length:=by omega
   have hlt:(cs.take i).length=i:=by simp; omega
   have hr:=h2 _ (wX cs i [] hl')
   have hv:=h3 _ (wX cs i [] hl')
   have hnx:=qKn cs i hl'
   simp only [go_sem,seval,qR (i:=i) (by omega),jM .bw cs i hl',hlt]
   repeat refine K ?_
   generalize cs.getD i []=c at hr hv hnx
   refine wC (ι:=Nat) (fun j=>.mk [(2,.ptr 11 0 0),(3,.ptr 12 0 0),(6,.ns 13 0 j),(11,.sl .bw 1 (yP .bw cs)),(12,.int .i64 cs.length),(13,.int .i64 i),(18,.sl .bw 2 (yK .bw c)),(19,.int .i64 c.length),(20,.int .i64 j)] [(11,1,[[.nil]]),(12,1,[[.sl .own 1 (yP .own (cs.take i))]]),(13,2,yK .own (c.take j))] 14) (fun j=>j≤c.length) (fun j=>c.length-j) 0 (by simp) ?_ ?_
   ·refine Sub.shape [] id (by omega) ?_ ?_ ?_ ?_<;>simp [qP]
   ·rintro j hj
    simp only [go_sem,seval]
    refine qS (fun hc2=>?_) (fun hc2=>?_)
    ·simp only [decide_eq_true_eq] at hc2
     have hj':j<c.length:=by omega
     have hlt2:(c.take j).length=j:=by simp; omega
     have hw:=hv _ (wX c j default hj')
     simp only [go_sem,seval,qR (i:=j) (by omega),eB .bw c j hj',hlt2]
     repeat refine K ?_
     refine DA [] (xY (c.getD j default).view (by omega)) ?_
     try simp only [go_sem,seval]
     repeat refine K ?_
     simp only [go_sem,seval,qR (i:=j) (by omega),hlt2]
     refine qT (j+1) ?_ hj' (by omega)
     refine Sub.trans (Sub.foldLast 17 1 15 rfl (by simp [-gD]<;>omega) rfl (by decide) (by decide) rfl) ?_
     simp only [fS,fS2,qA,qC,qDs c j hj']
     refine Sub.shape [] (fun n=>if n=13 then 17 else n) (by omega) ?_ ?_ ?_ ?_<;>simp [qP]
    ·simp only [decide_eq_false_iff_not] at hc2
     obtain rfl:j=c.length:=by omega
     have hie:c.take c.length=c:=List.take_length
     simp only [go_sem,seval,hie,qR (i:=i) (by omega),hlt]
     repeat refine K ?_
     refine qT (i+1) ?_ hl' (by omega)
     refine Sub.trans (Sub.foldLast 16 0 13 rfl (by simp [-gD]<;>omega) rfl (by decide) (by decide) rfl) ?_
     simp only [fS,fS2,qA,qC,hnx]
     refine Sub.trans (Sub.fold1 12 0 16 rfl (by simp [-gD]<;>omega) rfl (by decide) (by decide) rfl) ?_
     simp only [fS,fS2,qA,qC,List.length_take,Nat.min_eq_left (show i+1≤cs.length from hl')]
     refine Sub.shape [] id (by omega) ?_ ?_ ?_ ?_<;>simp [qP]
  ·simp only [decide_eq_false_iff_not] at hc
   have hie:cs.take i=cs:=List.take_of_length_le (by omega)
   simp only [go_sem,seval,hie]
   refine ⟨_,Sub.refl _,yJ ?_⟩; simp [-List.drop_one]
theorem qXn {A C:Prop} (ha:qYw C→A) (hc:C):A:=ha ⟨hc⟩
theorem qOb {P:Program} {num:Nat→Nat} {fin:AS→Prop} {a:gG} {k:List It} {s:AS} {t:List (Nat×AV)} {h:wZ} {nx:Nat} (hs:Sub s (.mk t h nx)) (hl:qEa P num fin a k (.mk t h nx)):qEa P num fin a k s:=by
 unfold qEa at hl⊢
 rw [vc] at hl⊢
 obtain ⟨J,n,⟨s1,h1,h2⟩,h3⟩:=hl
 exact ⟨J,n,⟨s1,Sub.trans hs h1,h2⟩,h3⟩
theorem qTq (cs:List (List wR)) (h:qI5 cs):qZ Tryz.prog num 373 [.agg (vV .bw ⟨cs⟩)] [] (.agg (vV .own ⟨cs⟩)):=by
 obtain ⟨h1,h2,h3⟩:=h
 refine EN m373 Tryz.func156 ?_
 unfold m373
 simp only [go_sem,seval]
 refine wC (ι:=Nat) (fun i=>.mk [(1,.ptr 10 0 0),(2,.ptr 11 0 0),(3,.ptr 12 0 0),(4,.int .i64 i)] [(10,1,[vV .bw ⟨cs⟩]),(11,1,[[.nil]]),(12,1,[[.sl .own 1 (yP .own (cs.take i))]])] 13) (fun i=>i≤cs.length) (fun i=>cs.length-i) 0 (by simp) ?_ ?_
 ·refine Sub.shape [] id (by omega) ?_ ?_ ?_ ?_<;>simp [qP]
 ·rintro i hi
  simp only [go_sem,seval]
  refine qS (fun hc=>?_) (fun hc=>?_)
  ·simp only [decide_eq_true_eq] at hc
   have hl':i<cs.length:=by omega
   have hlt:(cs.take i).length=i:=by simp; omega
   have hr:=h2 _ (wX cs i [] hl')
   have hv:=h3 _ (wX cs i [] hl')
   have hnx:=qKn cs i hl'
   have hcg:=jM .bw cs i hl'
   generalize cs.getD i []=c at hr hv hnx hcg
   simp only [go_sem,seval,qR (i:=i) (by omega),hlt]
   refine wC (ι:=Nat) (fun j=>.mk [(1,.ptr 10 0 0),(2,.ptr 11 0 0),(3,.ptr 12 0 0),(4,.int .i64 i),(5,.ns 13 0 j),(6,.int .i64 j)] [(10,1,[vV .bw ⟨cs⟩]),(11,1,[[.nil]]),(12,1,[[.sl .own 1 (yP .own (cs.take i))]]),(13,2,yK .own (c.take j))] 14) (fun j=>j≤c.length) (fun j=>c.length-j) 0 (by simp) ?_ ?_
   ·refine Sub.shape [] id (by omega) ?_ ?_ ?_ ?_<;>simp [qP]
   ·rintro j hj
    simp only [go_sem,seval,hcg]
    repeat refine K ?_
    refine qS (fun hc2=>?_) (fun hc2=>?_)
    ·simp only [decide_eq_true_eq] at hc2
     have hj':j<c.length:=by omega
     have hlt2:(c.take j).length=j:=by simp; omega
     have hw:=hv _ (wX c j default hj')
     simp only [go_sem,seval,hcg,qR (i:=j) (by omega),eB .bw c j hj',hlt2]
     repeat refine K ?_
     refine qT (j+1) ?_ hj' (by omega)
     refine Sub.trans (Sub.foldLast 17 1 15 rfl (by simp [-gD]<;>omega) rfl (by decide) (by decide) rfl) ?_
     simp only [fS,fS2,qA,qC,qDs c j hj']
     refine Sub.shape [] (fun n=>if n=13 then 17 else n) (by omega) ?_ ?_ ?_ ?_<;>simp [qP]
    ·simp only [decide_eq_false_iff_not] at hc2
     obtain rfl:j=c.length:=by omega
     have hie:c.take c.length=c:=List.take_length
     simp only [go_sem,seval,hie,qR (i:=i) (by omega),hlt]
     repeat refine K ?_
     refine qT (i+1) ?_ hl' (by omega)
     refine Sub.trans (Sub.foldLast 16 0 13 rfl (by simp [-gD]<;>omega) rfl (by decide) (by decide) rfl) ?_
     simp only [fS,fS2,qA,qC,hnx]
     refine Sub.trans (Sub.fold1 12 0 16 rfl (by simp [-gD]<;>omega) rfl (by decide) (by decide) rfl) ?_
     simp only [fS,fS2,qA,qC,List.length_take,Nat.min_eq_left (show i+1≤cs.length from hl')]
     refine Sub.shape [] id (by omega) ?_ ?_ ?_ ?_<;>simp [qP]
  ·simp only [decide_eq_false_iff_not] at hc
   have hie:cs.take i=cs:=List.take_of_length_le (by omega)
   simp only [go_sem,seval,hie]
   refine ⟨_,Sub.refl _,yJ ?_⟩; simp [-List.drop_one]
theorem qGz (l:List (List yC)) (h1:l.length<2^40) (h2 :∀c∈l,c.length<2^40):qZ Tryz.prog num 372 [.sl .bw 1 (codes .bw l)] [] (.sl .own 1 (codes .own l)):=by
 refine EN m372 Tryz.func155 ?_
 unfold m372
 simp only [go_sem,seval]
 refine wC (ι:=Nat) (fun i=>.mk [(0,.sl .bw 1 (codes .bw l)),(3,.ns 10 0 i),(4,.int .i64 i)] [(10,1,codes .own (l.take i))] 11) (fun i=>i≤l.length) (fun i=>l.length-i) 0 (by simp) ?_ ?_
 ·refine Sub.shape [] id (by omega) ?_ ?_ ?_ ?_<;>simp [qP]
 ·rintro i hi
  simp only [go_sem,seval]
  refine qS (fun hc=>?_) (fun hc=>?_)
  ·simp only [decide_eq_true_eq] at hc
   have hl':i<l.length:=by omega
   have hlt:(l.take i).length=i:=by simp; omega
   have hr:=h2 _ (wX l i [] hl')
   simp only [go_sem,seval,qR (i:=i) (by omega),zV .bw l i hl',hlt]
   repeat refine K ?_
   refine qT (i+1) ?_ hl' (by omega)
   refine Sub.trans (Sub.foldLast 14 0 12 rfl (by simp [-gD]<;>omega) rfl (by decide) (by decide) rfl) ?_
   simp only [fS,fS2,qA,qC,qHk l i hl']
   refine Sub.shape [] (fun n=>if n=10 then 14 else n) (by omega) ?_ ?_ ?_ ?_<;>simp [qP]
  ·simp only [decide_eq_false_iff_not] at hc
   obtain rfl:i=l.length:=by omega
   have hie:l.take l.length=l:=List.take_length
   simp only [go_sem,seval,hie]
   refine fz ?_; simp [wJ,wA,wB,qY,-List.drop_one]
theorem qTp (k:uE) (h1:k.regs.length<2^40) (h2:k.view.length<2^40):qZ Tryz.prog num 374 [.agg (mC .bw k)] [] (.agg (mC .own k)):=by
 refine EN m374 Tryz.func157 ?_
 unfold m374
 simp only [go_sem,seval]
 repeat refine K ?_
 refine ⟨_,Sub.refl _,yJ ?_⟩; simp [-List.drop_one]
theorem qD6 (m:qK) (h:aG m):qZ Tryz.prog num 356 [.agg (qN .bw m)] [] (.agg (qN .own m)):=by
 obtain ⟨h1,h2,h3,h4,h5,h6,h7⟩:=h
 refine EN m356 Tryz.func101 ?_
 unfold m356
 apply qXn
 ·intro key
  repeat' (first
   | simp only [go_sem,seval]
   | (refine DA [] (qGz m.codes h1 h2) ?_)
   | (refine DA [] (qTq m.mem.cells h6) ?_)
   | (refine K ?_)
   | (refine And.intro ?_ ?_)
   | fail)
  all_goals refine qOb (t:=[(1,.ptr 10 0 0),(2,.ptr 11 0 0),(3,.ptr 12 0 0),(4,.int .i64 0)]) (h:=[(10,4,[qN .bw m]),(11,4,[[.nil,.nil,.nil,.nil]]),(12,4,[[.sl .own 1 (codes .own m.codes),.nil,.sl .own 1 (yP .own m.mem.cells),.sl .own 2 (jG m.tr)]])]) (nx:=13) ?_ key.h
  all_goals (
   repeat' ((first | refine F2 12 0 ?_ | refine F2 12 2 ?_ | refine F2 12 3 ?_ | refine F2 13 0 ?_ | refine F2 13 2 ?_ | refine F2 13 3 ?_ | refine F2 14 0 ?_ | refine F2 14 2 ?_ | refine F2 14 3 ?_ | refine F2 15 0 ?_ | refine F2 15 2 ?_ | refine F2 15 3 ?_ | refine F2 16 0 ?_ | refine F2 16 2 ?_ | refine F2 16 3 ?_ | fail); simp only [fS,fS2,fS2,qA,qC])
   first
    | (refine Sub.shape [] (fun n=>if n=12 then 12 else n) (by omega) ?_ ?_ ?_ ?_<;>(simp [qP]; done))
    | (refine Sub.shape [] (fun n=>if n=12 then 13 else n) (by omega) ?_ ?_ ?_ ?_<;>(simp [qP]; done))
    | (refine Sub.shape [] (fun n=>if n=12 then 14 else n) (by omega) ?_ ?_ ?_ ?_<;>(simp [qP]; done))
    | (refine Sub.shape [] (fun n=>if n=12 then 15 else n) (by omega) ?_ ?_ ?_ ?_<;>(simp [qP]; done))
    | (refine Sub.shape [] (fun n=>if n=12 then 16 else n) (by omega) ?_ ?_ ?_ ?_<;>(simp [qP]; done)))
 refine wC (ι:=Nat) (fun i=>.mk [(1,.ptr 10 0 0),(2,.ptr 11 0 0),(3,.ptr 12 0 0),(4,.int .i64 i)] [(10,4,[qN .bw m]),(11,4,[[.nil,.nil,.nil,.nil]]),(12,4,[[.sl .own 1 (codes .own m.codes),.sl .own 4 (cores .own (m.cores.take i)),.sl .own 1 (yP .own m.mem.cells),.sl .own 2 (jG m.tr)]])] 13) (fun i=>i≤m.cores.length) (fun i=>m.cores.length-i) 0 (by simp) ?_ ?_
 ·refine Sub.shape [] id (by omega) ?_ ?_ ?_ ?_<;>simp [qP]
 ·rintro i hi
  simp only [go_sem,seval]
  refine qS (fun hc=>?_) (fun hc=>?_)
  ·simp only [decide_eq_true_eq] at hc
   have hl':i<m.cores.length:=by omega
   have hlt:(m.cores.take i).length=i:=by simp; omega
   have hr:=h4 _ (wX m.cores i default hl')
   have hv:=h5 _ (wX m.cores i default hl')
   simp only [go_sem,seval,qR (i:=i) (by omega),yL .bw m.cores i hl',hlt]
   repeat refine K ?_
   refine DA [] (qTp (m.cores.getD i default) hr hv) ?_
   try simp only [go_sem,seval]
   repeat refine K ?_
   simp only [go_sem,seval,qR (i:=i) (by omega),hlt]
   refine qT (i+1) ?_ hl' (by omega)
   refine Sub.trans (Sub.foldLast 17 1 14 rfl (by simp [-gD]<;>omega) rfl (by decide) (by decide) rfl) ?_
   simp only [fS,fS2,qA,qC]
   refine Sub.trans (Sub.foldLast 17 2 15 rfl (by simp [-gD]<;>omega) rfl (by decide) (by decide) rfl) ?_
   simp only [fS,fS2,qA,qC,qHf m.cores i hl']
   refine Sub.trans (Sub.fold1 12 1 17 rfl (by simp [-gD]<;>omega) rfl (by decide) (by decide) rfl) ?_
   simp only [fS,fS2,qA,qC,List.length_take,Nat.min_eq_left (show i+1≤m.cores.length from hl')]
   refine Sub.shape [] id (by omega) ?_ ?_ ?_ ?_<;>simp [qP]
  ·simp only [decide_eq_false_iff_not] at hc
   have hie:m.cores.take i=m.cores:=List.take_of_length_le (by omega)
   simp only [go_sem,seval,hie]
   refine ⟨_,Sub.refl _,yJ ?_⟩; simp [-List.drop_one]
theorem rQ (m:qK) (h:aG m):qZ Tryz.prog num 358 [.agg (qN .bw m)] [] (.agg (qN .own m)):=by
 obtain ⟨h1,h2,h3,h4,h5,h6,h7⟩:=h
 refine EN m358 Tryz.func84 ?_
 unfold m358
 apply qXn
 ·intro key
  repeat' (first
   | simp only [go_sem,seval]
   | (refine DA [] (qJa m.mem.cells h6) ?_)
   | (refine DA [] (qMe m.tr (by omega)) ?_)
   | (refine K ?_)
   | (refine And.intro ?_ ?_)
   | fail)
  all_goals refine qOb (t:=[(1,.ptr 10 0 0),(2,.ptr 11 0 0),(3,.ptr 12 0 0),(16,.sl .bw 1 (codes .bw m.codes)),(17,.int .i64 m.codes.length),(18,.int .i64 0)]) (h:=[(10,4,[qN .bw m]),(11,4,[[.nil,.nil,.nil,.nil]]),(12,4,[[.nil,.nil,.sl .own 1 (yP .own m.mem.cells),.sl .own 2 (jG m.tr)]])]) (nx:=13) ?_ key.h
  all_goals (
   repeat' ((first | refine F2 12 2 ?_ | refine F2 12 3 ?_ | refine F2 13 2 ?_ | refine F2 13 3 ?_ | refine F2 14 2 ?_ | refine F2 14 3 ?_ | refine F2 15 2 ?_ | refine F2 15 3 ?_ | fail); simp only [fS,fS2,fS2,qA,qC])
   first
    | (refine Sub.shape [] (fun n=>if n=12 then 12 else n) (by omega) ?_ ?_ ?_ ?_<;>(simp [qP]; done))
    | (refine Sub.shape [] (fun n=>if n=12 then 13 else n) (by omega) ?_ ?_ ?_ ?_<;>(simp [qP]; done))
    | (refine Sub.shape [] (fun n=>if n=12 then 14 else n) (by omega) ?_ ?_ ?_ ?_<;>(simp [qP]; done))
    | (refine Sub.shape [] (fun n=>if n=12 then 15 else n) (by omega) ?_ ?_ ?_ ?_<;>(simp [qP]; done)))
 refine wC (ι:=Nat) (fun i=>.mk [(1,.ptr 10 0 0),(2,.ptr 11 0 0),(3,.ptr 12 0 0),(16,.sl .bw 1 (codes .bw m.codes)),(17,.int .i64 m.codes.length),(18,.int .i64 i)] [(10,4,[qN .bw m]),(11,4,[[.nil,.nil,.nil,.nil]]),(12,4,[[.sl .own 1 (codes .own (m.codes.take i)),.nil,.sl .own 1 (yP .own m.mem.cells),.sl .own 2 (jG m.tr)]])] 13) (fun i=>i≤m.codes.length) (fun i=>m.codes.length-i) 0 (by simp) ?_ ?_
 ·refine Sub.shape [] id (by omega) ?_ ?_ ?_ ?_<;>simp [qP]
 ·rintro i hi
  simp only [go_sem,seval]
  refine qS (fun hc=>?_) (fun hc=>?_)
  ·simp only [decide_eq_true_eq] at hc
   have hl':i<m.codes.length:=by omega
   have hlt:(m.codes.take i).length=i:=by simp; omega
   have hr:=h2 _ (wX m.codes i [] hl')
   simp only [go_sem,seval,qR (i:=i) (by omega),zV .bw m.codes i hl',hlt]
   repeat refine K ?_
   refine qT (i+1) ?_ hl' (by omega)
   refine Sub.trans (Sub.foldLast 17 0 15 rfl (by simp [-gD]<;>omega) rfl (by decide) (by decide) rfl) ?_
   simp only [fS,fS2,qA,qC,qHk m.codes i hl']
   refine Sub.trans (Sub.fold1 12 0 17 rfl (by simp [-gD]<;>omega) rfl (by decide) (by decide) rfl) ?_
   simp only [fS,fS2,qA,qC,List.length_take,Nat.min_eq_left (show i+1≤m.codes.length from hl')]
   refine Sub.shape [] id (by omega) ?_ ?_ ?_ ?_<;>simp [qP]
  ·simp only [decide_eq_false_iff_not] at hc
   have hie:m.codes.take i=m.codes:=List.take_of_length_le (by omega)
   simp only [go_sem,seval,hie]
   refine wC (ι:=Nat) (fun i=>.mk [(2,.ptr 11 0 0),(3,.ptr 12 0 0),(32,.sl .bw 4 (cores .bw m.cores)),(33,.int .i64 m.cores.length),(34,.int .i64 i)] [(11,4,[[.nil,.nil,.nil,.nil]]),(12,4,[[.sl .own 1 (codes .own m.codes),.sl .own 4 (cores .own (m.cores.take i)),.sl .own 1 (yP .own m.mem.cells),.sl .own 2 (jG m.tr)]])] 13) (fun i=>i≤m.cores.length) (fun i=>m.cores.length-i) 0 (by simp) ?_ ?_
   ·refine Sub.shape [] id (by omega) ?_ ?_ ?_ ?_<;>simp [qP]
   ·rintro i hi
    simp only [go_sem,seval]
    refine qS (fun hc=>?_) (fun hc=>?_)
    ·simp only [decide_eq_true_eq] at hc
     have hl':i<m.cores.length:=by omega
     have hlt:(m.cores.take i).length=i:=by simp; omega
     have hr:=h4 _ (wX m.cores i default hl')
     have hv:=h5 _ (wX m.cores i default hl')
     simp only [go_sem,seval,qR (i:=i) (by omega),yL .bw m.cores i hl',hlt]
     repeat refine K ?_
     refine DA [] (xY (m.cores.getD i default).regs (by omega)) ?_
     try simp only [go_sem,seval]
     refine DA [] (xY (m.cores.getD i default).view (by omega)) ?_
     try simp only [go_sem,seval]
     repeat refine K ?_
     simp only [go_sem,seval,qR (i:=i) (by omega),hlt]
     refine qT (i+1) ?_ hl' (by omega)
     refine Sub.trans (Sub.foldLast 18 1 15 rfl (by simp [-gD]<;>omega) rfl (by decide) (by decide) rfl) ?_
     simp only [fS,fS2,qA,qC]
     refine Sub.trans (Sub.foldLast 18 2 16 rfl (by simp [-gD]<;>omega) rfl (by decide) (by decide) rfl) ?_
     simp only [fS,fS2,qA,qC,qHf m.cores i hl']
     refine Sub.trans (Sub.fold1 12 1 18 rfl (by simp [-gD]<;>omega) rfl (by decide) (by decide) rfl) ?_
     simp only [fS,fS2,qA,qC,List.length_take,Nat.min_eq_left (show i+1≤m.cores.length from hl')]
     refine Sub.shape [] id (by omega) ?_ ?_ ?_ ?_<;>simp [qP]
    ·simp only [decide_eq_false_iff_not] at hc
     have hie:m.cores.take i=m.cores:=List.take_of_length_le (by omega)
     simp only [go_sem,seval,hie]
     refine ⟨_,Sub.refl _,yJ ?_⟩; simp [-List.drop_one]
end Go.Sep
