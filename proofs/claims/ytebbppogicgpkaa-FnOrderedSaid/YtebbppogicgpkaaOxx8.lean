/- Contracts of functions. -/
import Derived.Test.YtebbppogicgpkaaOxx7
namespace Go.Sep
set_option maxHeartbeats 16000000
open Go.Proofs
set_option linter.unusedSimpArgs false
set_option linter.unusedVariables false
set_option maxRecDepth 100000
open Nat renaming reduceAdd → qA, reduceMul → qB, reduceEqDiff → qC, reduceBEq → qD
open Int renaming reduceToNat → qE, reduceEq → qF, reduceLT → qG, reduceLE → qH
open List renaming getD_eq_getElem?_getD → gD
def m262:MFn:=⟨19,[.t 2],kr [xb 1 0,xI 2 0] (.seq (kr [xa 3 0 1,xl 4 3] (.blk 0 (kr [bI 6 .eql 4 5,xv 5 6] (.cond 5 (kR [xI 2 29]) (kr [bI 8 .eql 4 7,xv 7 8] (.cond 7 (kR [xI 2 31]) (kr [bI 10 .eql 4 6,xv 9 10] (.cond 9 (kR [xI 2 30]) (kr [bI 12 .eql 4 8,xv 11 12] (.cond 11 (kR [xI 2 32]) (kr [bI 14 .eql 4 9,xv 13 14] (kF 13 [xI 2 13])))))))))))) (kR [xa 15 0 1,xl 16 15,xc3 17 59 (.t 16) (xi 1) (xi 13),xc1 18 78 (.t 17),xv 2 18]))⟩
def m264:MFn:=⟨22,[],kr [xv 2 0,xo 3 (.call 302 [true,false,false] [.t 2,xi 7,xi 1])] (.seq (.dreg (.take 0 (xv 4 0) (.take 1 (xv 5 0) (.take 2 (xk 6 5) (.take 3 (xa 7 0 6) (.take 4 (xl 8 7) (.only 5 [] (xv 9 0) (.only 6 [] (xk 10 9) (.only 7 [] (xa 11 2 10) (.only 8 [] (xl 12 11) (.only 9 [] (xo 13 (.build [xz,xz,xz,xz,xz] [(0,1,xi 8),(1,1,xi 6),(3,1,xi 7),(4,1,.t 12)])) (.only 10 [] (xo 14 (.mkSl [xz,xz,xz,xz,xz] 1 [(0,.t 13)])) (.only 11 [4,3,2,1] (xA 15 5 40 8 14) (.only 12 [0,1,2,3,4] (xk 16 4) (.only 13 [0,1,2,3,4] (xa 17 0 16) (.only 14 [0,1,2,3,4] (xS 1 17 15) (.done))))))))))))))))) (kr [xv 18 0,xo 19 (.call 303 [true,false,false] [.t 18,xi 6,xi 4])] (xr [xv 20 0,xo 21 (.call 304 [true,false] [.t 20,xi 0])])))⟩
def m265:MFn:=⟨84,[],kr [xb 3 1] (kr [xa 5 0 3,xl 6 5,bI 7 .eql 6 7,xv 4 7] (kr [xv 8 0,xo 9 (.call 305 [true] [.t 8])] (kr [xv 10 0,xo 11 (.call 306 [true,false,false] [.t 10,xi 5,xi 2])] (kr [xv 12 0,xv 13 0,xk 14 13,xa 15 3 14,xl 16 15,xo 17 (.call 302 [true,false,false] [.t 12,xi 7,.t 16])] (kr [xv 18 0,xo 19 (.call 307 [true,false,false,false,false] [.t 18,xi 4,xi 6,xi 5,xi 7])] (kr [xv 20 0,xv 21 4,xc1 22 78 (.t 21),xo 23 (.bin .add (xi 26) (.t 22)),xo 24 (.call 303 [true,false,false] [.t 20,xi 6,.t 23])] (kr [xv 25 0,xo 26 (.call 306 [true,false,false] [.t 25,xi 4,xi 1])] (kr [xv 27 0,xo 28 (.call 307 [true,false,false,false,false] [.t 27,xi 2,xi 4,xi 4,xi 5])] (kr [xv 29 0,xo 30 (.call 307 [true,false,false,false,false] [.t 29,xi 4,xi 6,xi 4,xi 7])] (kr [xv 31 0,xo 32 (.call 303 [true,false,false] [.t 31,xi 6,xi 18])] (kr [xv 33 0,xo 34 (.call 304 [true,false] [.t 33,xi 19])] (kr [xv 35 0,xo 36 (.call 307 [true,false,false,false,false] [.t 35,xi 3,xi 4,xi 4,xi 7])] (.seq (.dreg (.take 0 (xv 37 0) (.take 1 (xv 38 0) (.take 2 (xk 39 38) (.take 3 (xa 40 0 39) (.take 4 (xl 41 40) (.take 5 (xa 42 2 3) (.take 6 (xl 43 42) (.only 7 [] (xv 44 0) (.only 8 [] (xk 45 44) (.only 9 [] (xa 46 2 45) (.only 10 [] (xl 47 46) (.only 11 [] (bI 48 .add 47 4) (.only 12 [6,5] (xo 49 (.build [xz,xz,xz,xz,xz] [(0,1,xi 6),(2,1,xi 4),(3,1,.t 43),(4,1,.t 48)])) (.only 13 [12,6,5] (xo 50 (.mkSl [xz,xz,xz,xz,xz] 1 [(0,.t 49)])) (.only 14 [4,13,3,12,2,6,1,5] (xA 51 5 40 41 50) (.only 15 [0,1,2,3,4,5,6] (xk 52 37) (.only 16 [0,1,2,3,4,5,6] (xa 53 0 52) (.only 17 [0,1,2,3,4,5,6] (xS 1 53 51) (.done)))))))))))))))))))) (kr [xv 54 0,xo 55 (.call 302 [true,false,false] [.t 54,xi 7,xi 1])] (kr [xv 56 0,xo 57 (.call 307 [true,false,false,false,false] [.t 56,xi 2,xi 5,xi 5,xi 7])] (kr [xv 58 0,xo 59 (.call 308 [true,false,false] [.t 58,xi 2,xi 5])] (kr [xv 60 0,xo 61 (.call 309 [true] [.t 60])] (.seq (kr [xv 62 4] (.cond 62 (xr [xv 63 0,xa 64 1 3,xl 65 64,xo 66 (.call 302 [true,false,false] [.t 63,.t 65,xi 1])]) (.skip))) (kr [xv 67 0,xm 68 5 3,xc1 69 262 (.t 68),xo 70 (.call 304 [true,false] [.t 67,.t 69])] (kr [xv 71 0,xo 72 (.call 309 [true] [.t 71])] (kr [xv 73 4] (.cond 73 (kr [xv 74 0,xa 75 1 3,xl 76 75,xo 77 (.call 302 [true,false,false] [.t 74,.t 76,xi 0])] (xr [xv 78 0,xm 79 5 3,xc1 80 262 (.t 79),xo 81 (.call 304 [true,false] [.t 78,.t 80])])) (xr [xv 82 0,xo 83 (.call 304 [true,false] [.t 82,xi 0])])))))))))))))))))))))))⟩
def m266:MFn:=⟨101,[],kr [xb 3 1] (kr [xa 5 0 3,xl 6 5,bI 7 .eql 6 8,xv 4 7] (kr [xv 8 0,xo 9 (.call 306 [true,false,false] [.t 8,xi 5,xi 2])] (kr [xv 10 0,xo 11 (.call 303 [true,false,false] [.t 10,xi 5,xi 22])] (kr [xv 12 0,xo 13 (.call 306 [true,false,false] [.t 12,xi 4,xi 1])] (.seq (.dreg (.take 0 (xv 14 0) (.take 1 (xv 15 0) (.take 2 (xk 16 15) (.take 3 (xa 17 0 16) (.take 4 (xl 18 17) (.take 5 (xa 19 1 3) (.take 6 (xl 20 19) (.only 7 [] (xv 21 0) (.only 8 [] (xk 22 21) (.only 9 [] (xa 23 2 22) (.only 10 [] (xl 24 23) (.only 11 [] (bI 25 .add 24 4) (.only 12 [6,5] (xo 26 (.build [xz,xz,xz,xz,xz] [(0,1,xi 5),(1,1,.t 20),(2,1,xi 4),(4,1,.t 25)])) (.only 13 [12,6,5] (xo 27 (.mkSl [xz,xz,xz,xz,xz] 1 [(0,.t 26)])) (.only 14 [4,13,3,12,2,6,1,5] (xA 28 5 40 18 27) (.only 15 [0,1,2,3,4,5,6] (xk 29 14) (.only 16 [0,1,2,3,4,5,6] (xa 30 0 29) (.only 17 [0,1,2,3,4,5,6] (xS 1 30 28) (.done)))))))))))))))))))) (kr [xv 31 0,xo 32 (.call 302 [true,false,false] [.t 31,xi 7,xi 1])] (kr [xv 33 0,xo 34 (.call 307 [true,false,false,false,false] [.t 33,xi 2,xi 4,xi 4,xi 7])] (kr [xv 35 0,xo 36 (.call 307 [true,false,false,false,false] [.t 35,xi 3,xi 5,xi 5,xi 7])] (kr [xv 37 0,xv 38 0,xk 39 38,xa 40 3 39,xl 41 40,xo 42 (.call 302 [true,false,false] [.t 37,xi 7,.t 41])] (kr [xv 43 0,xo 44 (.call 307 [true,false,false,false,false] [.t 43,xi 4,xi 6,xi 4,xi 7])] (kr [xv 45 0,xo 46 (.call 303 [true,false,false] [.t 45,xi 6,xi 15])] (kr [xv 47 0,xo 48 (.call 304 [true,false] [.t 47,xi 16])] (kr [xv 49 0,xo 50 (.call 302 [true,false,false] [.t 49,xi 4,xi 0])] (kr [xv 51 0,xo 52 (.call 308 [true,false,false] [.t 51,xi 1,xi 4])] (kr [xv 53 0,xo 54 (.call 308 [true,false,false] [.t 53,xi 2,xi 5])] (kr [xv 55 0,xo 56 (.call 309 [true] [.t 55])] (kr [xv 57 0,xa 58 3 3,xl 59 58,xo 60 (.call 302 [true,false,false] [.t 57,.t 59,xi 1])] (kr [xv 61 0,xm 62 5 3,xc1 63 262 (.t 62),xo 64 (.call 304 [true,false] [.t 61,.t 63])] (kr [xv 65 0,xo 66 (.call 306 [true,false,false] [.t 65,xi 4,xi 3])] (kr [xv 67 0,xo 68 (.call 309 [true] [.t 67])] (kr [xv 69 0,xo 70 (.call 303 [true,false,false] [.t 69,xi 4,xi 29])] (kr [xv 71 0,xa 72 1 3,xl 73 72,xo 74 (.call 302 [true,false,false] [.t 71,.t 73,xi 0])] (.seq (.dreg (.take 0 (xv 75 0) (.take 1 (xa 76 3 3) (.take 2 (xl 77 76) (.only 3 [] (xv 78 4) (.only 4 [] (xc1 79 78 (.t 78)) (.only 5 [] (xo 80 (.bin .mul (xi 2) (.t 79))) (.only 6 [0,2,1] (xo 81 (.call 302 [true,false,false] [.t 75,.t 77,.t 80])) (.done))))))))) (kr [xv 82 0,xm 83 5 3,xc1 84 262 (.t 83),xo 85 (.call 304 [true,false] [.t 82,.t 84])] (kr [xv 86 4] (.cond 86 (kr [xv 87 0,xa 88 1 3,xl 89 88,xo 90 (.call 302 [true,false,false] [.t 87,.t 89,xi 0])] (kr [xv 91 0,xa 92 3 3,xl 93 92,xo 94 (.call 302 [true,false,false] [.t 91,.t 93,xi 0])] (xr [xv 95 0,xm 96 5 3,xc1 97 262 (.t 96),xo 98 (.call 304 [true,false] [.t 95,.t 97])]))) (xr [xv 99 0,xo 100 (.call 304 [true,false] [.t 99,xi 0])])))))))))))))))))))))))))))⟩
def m267:MFn:=⟨10,[],kr [xv 2 0,xo 3 (.call 305 [true] [.t 2])] (kr [xv 4 0,xo 5 (.call 302 [true,false,false] [.t 4,xi 7,xi 1])] (kr [xv 6 0,xo 7 (.call 308 [true,false,false] [.t 6,xi 3,xi 7])] (xr [xv 8 0,xo 9 (.call 309 [true] [.t 8])])))⟩
def m302:MFn:=⟨18,[],xr [xv 6 0,xv 7 0,xk 8 7,xa 9 0 8,xl 10 9,xv 11 1,xv 12 2,xo 13 (.build [xz,xz,xz,xz,xz] [(0,1,xi 1),(1,1,.t 11),(4,1,.t 12)]),xo 14 (.mkSl [xz,xz,xz,xz,xz] 1 [(0,.t 13)]),xA 15 5 40 10 14,xk 16 6,xa 17 0 16,xS 1 17 15]⟩
def m303:MFn:=⟨23,[],.dreg (.take 0 (xv 6 0) (.take 1 (xv 7 0) (.take 2 (xk 8 7) (.take 3 (xa 9 0 8) (.take 4 (xl 10 9) (.take 5 (xv 11 1) (.take 6 (xv 12 0) (.take 7 (xk 13 12) (.take 8 (xa 14 1 13) (.take 9 (xl 15 14) (.only 10 [] (xv 16 2) (.only 11 [9,8,7,6] (bT 17 .add 15 16) (.only 12 [5,11,9,8,7,6] (xo 18 (.build [xz,xz,xz,xz,xz] [(0,1,xi 11),(2,1,.t 11),(4,1,.t 17)])) (.only 13 [12,5,11,9,8,7,6] (xo 19 (.mkSl [xz,xz,xz,xz,xz] 1 [(0,.t 18)])) (.only 14 [4,13,3,12,2,5,11,1,9,8,7,6] (xA 20 5 40 10 19) (.only 15 [0,1,2,3,4,5,6,7,8,9] (xk 21 6) (.only 16 [0,1,2,3,4,5,6,7,8,9] (xa 22 0 21) (.only 17 [0,1,2,3,4,5,6,7,8,9] (xS 1 22 20) (.done)))))))))))))))))))⟩
def m304:MFn:=⟨20,[],.dreg (.take 0 (xv 4 0) (.take 1 (xv 5 0) (.take 2 (xk 6 5) (.take 3 (xa 7 0 6) (.take 4 (xl 8 7) (.take 5 (xv 9 0) (.take 6 (xk 10 9) (.take 7 (xa 11 1 10) (.take 8 (xl 12 11) (.only 9 [] (xv 13 1) (.only 10 [8,7,6,5] (bT 14 .add 12 13) (.only 11 [10,8,7,6,5] (xo 15 (.build [xz,xz,xz,xz,xz] [(0,1,xi 10),(4,1,.t 14)])) (.only 12 [11,10,8,7,6,5] (xo 16 (.mkSl [xz,xz,xz,xz,xz] 1 [(0,.t 15)])) (.only 13 [4,12,3,11,2,10,1,8,7,6,5] (xA 17 5 40 8 16) (.only 14 [0,1,2,3,4,5,6,7,8] (xk 18 4) (.only 15 [0,1,2,3,4,5,6,7,8] (xa 19 0 18) (.only 16 [0,1,2,3,4,5,6,7,8] (xS 1 19 17) (.done))))))))))))))))))⟩
def m305:MFn:=⟨10,[],kr [xv 2 0,xo 3 (.call 306 [true,false,false] [.t 2,xi 4,xi 3])] (kr [xv 4 0,xo 5 (.call 303 [true,false,false] [.t 4,xi 4,xi 9])] (kr [xv 6 0,xo 7 (.call 309 [true] [.t 6])] (xr [xv 8 0,xo 9 (.call 332 [true] [.t 8])])))⟩
def m306:MFn:=⟨23,[],.dreg (.take 0 (xv 6 0) (.take 1 (xv 7 0) (.take 2 (xk 8 7) (.take 3 (xa 9 0 8) (.take 4 (xl 10 9) (.take 5 (xv 11 1) (.take 6 (xv 12 0) (.take 7 (xk 13 12) (.take 8 (xa 14 2 13) (.take 9 (xl 15 14) (.only 10 [] (xv 16 2) (.only 11 [9,8,7,6] (bT 17 .add 15 16) (.only 12 [5,11,9,8,7,6] (xo 18 (.build [xz,xz,xz,xz,xz] [(0,1,xi 5),(1,1,.t 11),(2,1,.c (.int .i64 (-1))),(4,1,.t 17)])) (.only 13 [12,5,11,9,8,7,6] (xo 19 (.mkSl [xz,xz,xz,xz,xz] 1 [(0,.t 18)])) (.only 14 [4,13,3,12,2,5,11,1,9,8,7,6] (xA 20 5 40 10 19) (.only 15 [0,1,2,3,4,5,6,7,8,9] (xk 21 6) (.only 16 [0,1,2,3,4,5,6,7,8,9] (xa 22 0 21) (.only 17 [0,1,2,3,4,5,6,7,8,9] (xS 1 22 20) (.done)))))))))))))))))))⟩
def m307:MFn:=⟨24,[],xr [xv 10 0,xv 11 0,xk 12 11,xa 13 0 12,xl 14 13,xv 15 1,xv 16 2,xv 17 3,xv 18 4,xo 19 (.build [xz,xz,xz,xz,xz] [(0,1,.t 15),(1,1,.t 16),(2,1,.t 17),(3,1,.t 18)]),xo 20 (.mkSl [xz,xz,xz,xz,xz] 1 [(0,.t 19)]),xA 21 5 40 14 20,xk 22 10,xa 23 0 22,xS 1 23 21]⟩
def m308:MFn:=⟨23,[],.dreg (.take 0 (xv 6 0) (.take 1 (xv 7 0) (.take 2 (xk 8 7) (.take 3 (xa 9 0 8) (.take 4 (xl 10 9) (.take 5 (xv 11 2) (.take 6 (xv 12 0) (.take 7 (xk 13 12) (.take 8 (xa 14 2 13) (.take 9 (xl 15 14) (.only 10 [] (xv 16 1) (.only 11 [9,8,7,6] (bT 17 .add 15 16) (.only 12 [5,11,9,8,7,6] (xo 18 (.build [xz,xz,xz,xz,xz] [(0,1,xi 6),(2,1,.c (.int .i64 (-1))),(3,1,.t 11),(4,1,.t 17)])) (.only 13 [12,5,11,9,8,7,6] (xo 19 (.mkSl [xz,xz,xz,xz,xz] 1 [(0,.t 18)])) (.only 14 [4,13,3,12,2,5,11,1,9,8,7,6] (xA 20 5 40 10 19) (.only 15 [0,1,2,3,4,5,6,7,8,9] (xk 21 6) (.only 16 [0,1,2,3,4,5,6,7,8,9] (xa 22 0 21) (.only 17 [0,1,2,3,4,5,6,7,8,9] (xS 1 22 20) (.done)))))))))))))))))))⟩
def m309:MFn:=⟨18,[],kr [xv 2 0,xo 3 (.call 302 [true,false,false] [.t 2,xi 7,xi 0])] (.dreg (.take 0 (xv 4 0) (.take 1 (xv 5 0) (.take 2 (xk 6 5) (.take 3 (xa 7 0 6) (.take 4 (xl 8 7) (.only 5 [] (xv 9 0) (.only 6 [] (xk 10 9) (.only 7 [] (xa 11 2 10) (.only 8 [] (xl 12 11) (.only 9 [] (xo 13 (.build [xz,xz,xz,xz,xz] [(0,1,xi 7),(2,1,.c (.int .i64 (-1))),(3,1,xi 7),(4,1,.t 12)])) (.only 10 [] (xo 14 (.mkSl [xz,xz,xz,xz,xz] 1 [(0,.t 13)])) (.only 11 [4,3,2,1] (xA 15 5 40 8 14) (.only 12 [0,1,2,3,4] (xk 16 4) (.only 13 [0,1,2,3,4] (xa 17 0 16) (.only 14 [0,1,2,3,4] (xS 1 17 15) (.done)))))))))))))))))⟩
def m332:MFn:=⟨12,[],xr [xv 2 0,xv 3 0,xk 4 3,xa 5 0 4,xl 6 5,xo 7 (.build [xz,xz,xz,xz,xz] [(0,1,xi 13)]),xo 8 (.mkSl [xz,xz,xz,xz,xz] 1 [(0,.t 7)]),xA 9 5 40 6 8,xk 10 2,xa 11 0 10,xS 1 11 9]⟩
attribute [local go_sem] qV3
theorem jI (l:List wX) (f b c:Int) (r n:Int) (h:l.length<2^33):wD Try.prog num 302 [.ptr 0 0 0,.int .i64 r,.int .i64 n] [(0,some (4,[emC .own ⟨l,f,b,c⟩]),some (4,[emC .own ⟨l++[⟨1,r,0,0,n⟩],f,b,c⟩]))] (.tup []):=by
 refine EH m302 Try.func69 ?_
 unfold m302
 simp only [go_sem,seval]
 repeat refine K ?_
 apply jV
 ·decide
 ·refine Sub.trans (Sub.fold1 0 0 12 rfl (by simp [-gD]<;>omega) rfl (by decide) (by decide) rfl) ?_
  simp only [fS,fS2,qA,qC,gG,yO]
  exact Sub.refl _
 ·simp [-List.drop_one,-gD,yO]<;>(first | rfl | exact ⟨rfl,rfl⟩ | exact ⟨rfl,rfl,rfl⟩ | skip)
theorem jR (l:List wX) (f b c:Int) (op r a k:Int) (h:l.length<2^33):wD Try.prog num 307 [.ptr 0 0 0,.int .i64 op,.int .i64 r,.int .i64 a,.int .i64 k] [(0,some (4,[emC .own ⟨l,f,b,c⟩]),some (4,[emC .own ⟨l++[⟨op,r,a,k,0⟩],f,b,c⟩]))] (.tup []):=by
 refine EH m307 Try.func74 ?_
 unfold m307
 simp only [go_sem,seval]
 repeat refine K ?_
 apply jV
 ·decide
 ·refine Sub.trans (Sub.fold1 0 0 12 rfl (by simp [-gD]<;>omega) rfl (by decide) (by decide) rfl) ?_
  simp only [fS,fS2,qA,qC,gG,yO]
  exact Sub.refl _
 ·simp [-List.drop_one,-gD,yO]<;>(first | rfl | exact ⟨rfl,rfl⟩ | exact ⟨rfl,rfl,rfl⟩ | skip)
theorem gN (l:List wX) (f b c:Int) (r v:Int) (h:l.length<2^33) (hb:0≤b∧b<2^40) (hv:0≤v∧v<2^40):wD Try.prog num 306 [.ptr 0 0 0,.int .i64 r,.int .i64 v] [(0,some (4,[emC .own ⟨l,f,b,c⟩]),some (4,[emC .own ⟨l++[⟨5,r,-1,0,b+v⟩],f,b,c⟩]))] (.tup []):=by
 refine EH m306 Try.func73 ?_
 unfold m306
 have w1:IntKind.i64.wrap (b+v)=b+v:=yP (by omega) (by omega)
 simp only [go_sem,seval,w1]
 repeat refine K ?_
 apply jV
 ·decide
 ·refine Sub.trans (Sub.fold1 0 0 12 rfl (by simp [-gD]<;>omega) rfl (by decide) (by decide) rfl) ?_
  simp only [fS,fS2,qA,qC,gG,yO]
  exact Sub.refl _
 ·simp [-List.drop_one,-gD,yO]<;>(first | rfl | exact ⟨rfl,rfl⟩ | exact ⟨rfl,rfl,rfl⟩ | skip)
theorem xZ (l:List wX) (f b c:Int) (v k:Int) (h:l.length<2^33) (hb:0≤b∧b<2^40) (hv:0≤v∧v<2^40):wD Try.prog num 308 [.ptr 0 0 0,.int .i64 v,.int .i64 k] [(0,some (4,[emC .own ⟨l,f,b,c⟩]),some (4,[emC .own ⟨l++[⟨6,0,-1,k,b+v⟩],f,b,c⟩]))] (.tup []):=by
 refine EH m308 Try.func75 ?_
 unfold m308
 have w1:IntKind.i64.wrap (b+v)=b+v:=yP (by omega) (by omega)
 simp only [go_sem,seval,w1]
 repeat refine K ?_
 apply jV
 ·decide
 ·refine Sub.trans (Sub.fold1 0 0 12 rfl (by simp [-gD]<;>omega) rfl (by decide) (by decide) rfl) ?_
  simp only [fS,fS2,qA,qC,gG,yO]
  exact Sub.refl _
 ·simp [-List.drop_one,-gD,yO]<;>(first | rfl | exact ⟨rfl,rfl⟩ | exact ⟨rfl,rfl,rfl⟩ | skip)
theorem bP (l:List wX) (f b c:Int) (a v:Int) (h:l.length<2^33) (hf:0≤f∧f<2^40) (hv:0≤v∧v<2^40):wD Try.prog num 303 [.ptr 0 0 0,.int .i64 a,.int .i64 v] [(0,some (4,[emC .own ⟨l,f,b,c⟩]),some (4,[emC .own ⟨l++[⟨11,0,a,0,f+v⟩],f,b,c⟩]))] (.tup []):=by
 refine EH m303 Try.func70 ?_
 unfold m303
 have w1:IntKind.i64.wrap (f+v)=f+v:=yP (by omega) (by omega)
 simp only [go_sem,seval,w1]
 repeat refine K ?_
 apply jV
 ·decide
 ·refine Sub.trans (Sub.fold1 0 0 12 rfl (by simp [-gD]<;>omega) rfl (by decide) (by decide) rfl) ?_
  simp only [fS,fS2,qA,qC,gG,yO]
  exact Sub.refl _
 ·simp [-List.drop_one,-gD,yO]<;>(first | rfl | exact ⟨rfl,rfl⟩ | exact ⟨rfl,rfl,rfl⟩ | skip)
theorem vY (l:List wX) (f b c:Int) (v:Int) (h:l.length<2^33) (hf:0≤f∧f<2^40) (hv:0≤v∧v<2^40):wD Try.prog num 304 [.ptr 0 0 0,.int .i64 v] [(0,some (4,[emC .own ⟨l,f,b,c⟩]),some (4,[emC .own ⟨l++[⟨10,0,0,0,f+v⟩],f,b,c⟩]))] (.tup []):=by
 refine EH m304 Try.func71 ?_
 unfold m304
 have w1:IntKind.i64.wrap (f+v)=f+v:=yP (by omega) (by omega)
 simp only [go_sem,seval,w1]
 repeat refine K ?_
 apply jV
 ·decide
 ·refine Sub.trans (Sub.fold1 0 0 12 rfl (by simp [-gD]<;>omega) rfl (by decide) (by decide) rfl) ?_
  simp only [fS,fS2,qA,qC,gG,yO]
  exact Sub.refl _
 ·simp [-List.drop_one,-gD,yO]<;>(first | rfl | exact ⟨rfl,rfl⟩ | exact ⟨rfl,rfl,rfl⟩ | skip)
theorem qLi (l:List wX) (f b c:Int) (h:l.length<2^33):wD Try.prog num 332 [.ptr 0 0 0] [(0,some (4,[emC .own ⟨l,f,b,c⟩]),some (4,[emC .own ⟨l++[⟨13,0,0,0,0⟩],f,b,c⟩]))] (.tup []):=by
 refine EH m332 Try.func82 ?_
 unfold m332
 simp only [go_sem,seval]
 repeat refine K ?_
 apply jV
 ·decide
 ·refine Sub.trans (Sub.fold1 0 0 12 rfl (by simp [-gD]<;>omega) rfl (by decide) (by decide) rfl) ?_
  simp only [fS,fS2,qA,qC,gG,yO]
  exact Sub.refl _
 ·simp [-List.drop_one,-gD,yO]<;>(first | rfl | exact ⟨rfl,rfl⟩ | exact ⟨rfl,rfl,rfl⟩ | skip)
def eR (b:Int):List wX:=[⟨1,7,0,0,0⟩,⟨7,0,-1,7,b⟩]
def zG (f b:Int):List wX:=[⟨1,7,0,0,1⟩,⟨8,6,0,7,b⟩,⟨11,0,6,0,f+4⟩,⟨10,0,0,0,f+0⟩]
def eZ (f b:Int):List wX:=[⟨5,4,-1,0,b+3⟩,⟨11,0,4,0,f+9⟩]++eR b++[⟨13,0,0,0,0⟩]
@[simp] theorem qL4 (b:Int):(eR b).length=2:=rfl
@[simp] theorem tN (f b:Int):(zG f b).length=4:=rfl
@[simp] theorem qIq (f b:Int):(eZ f b).length=5:=rfl
theorem gB (l:List wX) (f b c:Int) (h:l.length<2^32) (hf:0≤f∧f<2^40) (hb:0≤b∧b<2^40):wD Try.prog num 309 [.ptr 0 0 0] [(0,some (4,[emC .own ⟨l,f,b,c⟩]),some (4,[emC .own ⟨l++eR b,f,b,c⟩]))] (.tup []):=by
 refine EH m309 Try.func76 ?_
 unfold m309
 simp only [go_sem,seval]
 refine CA [] (jI l f b c (7) (0) (by omega)) ?_
 try simp only [go_sem,seval]
 repeat refine K ?_
 generalize g1:l++[⟨1,7,0,0,0⟩]=l1
 have n1:l1.length=l.length+1:=by rw [←g1]; simp
 apply jV
 ·decide
 ·refine Sub.trans (Sub.fold1 0 0 12 rfl (by simp [-gD]<;>omega) rfl (by decide) (by decide) rfl) ?_
  simp only [fS,fS2,qA,qC,gG,yO]
  exact Sub.refl _
 ·simp [-List.drop_one,-gD,yO,←g1,eR]<;>(first | rfl | exact ⟨rfl,rfl⟩ | exact ⟨rfl,rfl,rfl⟩ | skip)
theorem qN9 (l:List wX) (f b c:Int) (h:l.length<2^31) (hf:0≤f∧f<2^40) (hb:0≤b∧b<2^40):wD Try.prog num 264 [.ptr 0 0 0] [(0,some (4,[emC .own ⟨l,f,b,c⟩]),some (4,[emC .own ⟨l++zG f b,f,b,c⟩]))] (.tup []):=by
 refine EH m264 Try.func54 ?_
 unfold m264
 simp only [go_sem,seval]
 refine CA [] (jI l f b c (7) (1) (by omega)) ?_
 try simp only [go_sem,seval]
 repeat refine K ?_
 generalize g1:l++[⟨1,7,0,0,1⟩]=l1
 have n1:l1.length=l.length+1:=by rw [←g1]; simp
 apply zV
 ·refine Sub.trans (Sub.fold1 0 0 12 rfl (by simp [-gD]<;>omega) rfl (by decide) (by decide) rfl) ?_
  simp only [fS,fS2,qA,qC,gG (8) (6) (0) (7) (b),yO]
  exact Sub.refl _
 generalize g2:l1++[⟨8,6,0,7,b⟩]=l2
 have n2:l2.length=l1.length+1:=by rw [←g2]; simp
 refine CA [] (bP l2 f b c (6) (4) (by omega) hf (by omega)) ?_
 try simp only [go_sem,seval]
 generalize g3:l2++[⟨11,0,6,0,f+4⟩]=l3
 have n3:l3.length=l2.length+1:=by rw [←g3]; simp
 refine CA [] (vY l3 f b c (0) (by omega) hf (by omega)) ?_
 try simp only [go_sem,seval]
 generalize g4:l3++[⟨10,0,0,0,f+0⟩]=l4
 have n4:l4.length=l3.length+1:=by rw [←g4]; simp
 have hL:l4=l++zG f b:=by
  rw [←g4,←g3,←g2,←g1]
  simp [zG]
 rw [hL]
 refine ⟨_,Sub.refl _,jM (by decide) ?_⟩; simp [-List.drop_one]
theorem rZ (l:List wX) (f b c:Int) (h:l.length<2^31) (hf:0≤f∧f<2^40) (hb:0≤b∧b<2^40):wD Try.prog num 305 [.ptr 0 0 0] [(0,some (4,[emC .own ⟨l,f,b,c⟩]),some (4,[emC .own ⟨l++eZ f b,f,b,c⟩]))] (.tup []):=by
 refine EH m305 Try.func72 ?_
 unfold m305
 simp only [go_sem,seval]
 refine CA [] (gN l f b c (4) (3) (by omega) hb (by omega)) ?_
 try simp only [go_sem,seval]
 generalize g1:l++[⟨5,4,-1,0,b+3⟩]=l1
 have n1:l1.length=l.length+1:=by rw [←g1]; simp
 refine CA [] (bP l1 f b c (4) (9) (by omega) hf (by omega)) ?_
 try simp only [go_sem,seval]
 generalize g2:l1++[⟨11,0,4,0,f+9⟩]=l2
 have n2:l2.length=l1.length+1:=by rw [←g2]; simp
 refine CA [] (gB l2 f b c (by omega) hf hb) ?_
 try simp only [go_sem,seval]
 generalize g3:l2++eR b=l3
 have n3:l3.length=l2.length+2:=by rw [←g3]; simp
 refine CA [] (qLi l3 f b c (by omega)) ?_
 try simp only [go_sem,seval]
 generalize g4:l3++[⟨13,0,0,0,0⟩]=l4
 have n4:l4.length=l3.length+1:=by rw [←g4]; simp
 have hL:l4=l++eZ f b:=by
  rw [←g4,←g3,←g2,←g1]
  simp [eZ]
 rw [hL]
 refine ⟨_,Sub.refl _,jM (by decide) ?_⟩; simp [-List.drop_one]
def fC (f b c:Int) (x:Ins):List wX :=
 eZ f b++[⟨5,5,-1,0,b+2⟩,⟨1,7,0,0,c⟩,⟨4,6,5,7,0⟩,⟨11,0,6,0,f+(26+vQ (decide (x.op=7)))⟩,⟨5,4,-1,0,b+1⟩,⟨2,4,4,5,0⟩,⟨4,6,4,7,0⟩,⟨11,0,6,0,f+18⟩,⟨10,0,0,0,f+19⟩,⟨3,4,4,7,0⟩,⟨6,0,4,x.a,b+4⟩,⟨1,7,0,0,1⟩,⟨2,5,5,7,0⟩,⟨6,0,-1,5,b+2⟩]++eR b ++
 (if x.op=7 then [⟨1,x.r,0,0,1⟩,⟨10,0,0,0,f+31⟩]++eR b++[⟨1,x.r,0,0,0⟩,⟨10,0,0,0,f+31⟩] else [⟨10,0,0,0,f+29⟩]++eR b++[⟨10,0,0,0,f+0⟩])
def cY (f b c:Int) (x:Ins):List wX :=
 [⟨5,5,-1,0,b+2⟩,⟨11,0,5,0,f+22⟩,⟨5,4,-1,0,b+1⟩,⟨5,x.r,4,0,b+4⟩,⟨1,7,0,0,1⟩,⟨2,4,4,7,0⟩,⟨3,5,5,7,0⟩,⟨1,7,0,0,c⟩,⟨4,6,4,7,0⟩,⟨11,0,6,0,f+15⟩,⟨10,0,0,0,f+16⟩,⟨1,4,0,0,0⟩,⟨6,0,-1,4,b+1⟩,⟨6,0,-1,5,b+2⟩]++eR b++[⟨1,x.b,0,0,1⟩,⟨10,0,0,0,f+(if x.op=8 then 32 else 30)⟩,⟨5,4,-1,0,b+3⟩]++eR b++[⟨11,0,4,0,f+29⟩,⟨1,x.r,0,0,0⟩] ++
 (if x.op=8 then [⟨1,x.b,0,0,2⟩,⟨10,0,0,0,f+32⟩,⟨1,x.r,0,0,0⟩,⟨1,x.b,0,0,0⟩,⟨10,0,0,0,f+32⟩] else [⟨1,x.b,0,0,0⟩,⟨10,0,0,0,f+30⟩,⟨10,0,0,0,f+0⟩])
def eU (f b:Int):List wX:=eZ f b++[⟨1,7,0,0,1⟩,⟨6,0,-1,7,b+3⟩]++eR b
def qX (x:Ins):Int:=if x.op=5 then 29 else if x.op=7 then 31 else if x.op=6 then 30 else if x.op=8 then 32 else if x.op=9 then 13 else vQ (qL x.op 1 13)
theorem jE (x:Ins):wD Try.prog num 262 [.agg (lM x)] [] (.int .i64 (qX x)):=by
 refine EN m262 Try.func41 ?_
 unfold m262
 repeat' (first
  | (simp only [go_sem,seval])
  | (refine qT (fun hc=>?_) (fun hc=>?_)<;>((try simp only [Bool.not_eq_true',Bool.not_eq_false',ne_eq,Bool.not_eq_true,Bool.not_eq_false] at hc)<;>(try simp only [hc])))
  | (refine bY (fun hc=>?_) (fun hc=>?_)<;>((try simp only [Bool.not_eq_true',Bool.not_eq_false',ne_eq,Bool.not_eq_true,Bool.not_eq_false] at hc)<;>(try simp only [hc])))
  | (refine bD (fun hc=>?_) (fun hc=>?_)<;>((try simp only [Bool.not_eq_true',Bool.not_eq_false',ne_eq,Bool.not_eq_true,Bool.not_eq_false] at hc)<;>(try simp only [hc])))
  | (refine dQ (wU x.op 1 13) rfl rfl rfl rfl ?_)
  | (refine gE (wU x.op 1 13) rfl rfl rfl rfl ?_)
  | (refine dQ (dB (qL x.op 1 13)) rfl rfl rfl rfl ?_)
  | (refine gE (dB (qL x.op 1 13)) rfl rfl rfl rfl ?_)
  | (refine ⟨by first | omega | (simp; done),?_⟩)
  | fail)
 all_goals (refine fz ?_; simp [yB,qW,qZ,wG,-List.drop_one])
 all_goals (simp_all [qX]; done)
theorem qLj (l:List wX) (f b c:Int) (h:l.length<2^30) (hf:0≤f∧f<2^40) (hb:0≤b∧b<2^40):wD Try.prog num 267 [.ptr 0 0 0] [(0,some (4,[emC .own ⟨l,f,b,c⟩]),some (4,[emC .own ⟨l++eU f b,f,b,c⟩]))] (.tup []):=by
 refine EH m267 Try.func57 ?_
 unfold m267
 simp only [go_sem,seval]
 refine CA [] (rZ l f b c (by omega) hf hb) ?_
 try simp only [go_sem,seval]
 generalize g1:l++eZ f b=l1
 have n1:l1.length=l.length+5:=by rw [←g1]; simp
 refine CA [] (jI l1 f b c (7) (1) (by omega)) ?_
 try simp only [go_sem,seval]
 generalize g2:l1++[⟨1,7,0,0,1⟩]=l2
 have n2:l2.length=l1.length+1:=by rw [←g2]; simp
 refine CA [] (xZ l2 f b c (3) (7) (by omega) hb (by omega)) ?_
 try simp only [go_sem,seval]
 generalize g3:l2++[⟨6,0,-1,7,b+3⟩]=l3
 have n3:l3.length=l2.length+1:=by rw [←g3]; simp
 refine CA [] (gB l3 f b c (by omega) hf hb) ?_
 try simp only [go_sem,seval]
 generalize g4:l3++eR b=l4
 have n4:l4.length=l3.length+2:=by rw [←g4]; simp
 have hL:l4=l++eU f b:=by
  rw [←g4,←g3,←g2,←g1]
  simp [eU]
 rw [hL]
 refine ⟨_,Sub.refl _,jM (by decide) ?_⟩; simp [-List.drop_one]
theorem qN8 (l:List wX) (f b c:Int) (x:Ins) (h:l.length<2^30) (hx:x.op=5) (hf:0≤f∧f<2^40) (hb:0≤b∧b<2^40):wD Try.prog num 265 [.ptr 0 0 0,.agg (lM x)] [(0,some (4,[emC .own ⟨l,f,b,c⟩]),some (4,[emC .own ⟨l++fC f b c x,f,b,c⟩]))] (.tup []):=by
 refine EH m265 Try.func55 ?_
 unfold m265
 have hz:qX x=29:=by simp [qX,hx]
 have w4:IntKind.i64.wrap (b+4)=b+4:=yP (by omega) (by omega)
 simp only [go_sem,seval,hx]
 refine CA [] (rZ l f b c (by omega) hf hb) ?_
 try simp only [go_sem,seval]
 generalize g1:l++eZ f b=l1
 have n1:l1.length=l.length+5:=by rw [←g1]; simp
 refine CA [] (gN l1 f b c (5) (2) (by omega) hb (by omega)) ?_
 try simp only [go_sem,seval]
 generalize g2:l1++[⟨5,5,-1,0,b+2⟩]=l2
 have n2:l2.length=l1.length+1:=by rw [←g2]; simp
 refine CA [] (jI l2 f b c (7) (c) (by omega)) ?_
 try simp only [go_sem,seval]
 generalize g3:l2++[⟨1,7,0,0,c⟩]=l3
 have n3:l3.length=l2.length+1:=by rw [←g3]; simp
 refine CA [] (jR l3 f b c (4) (6) (5) (7) (by omega)) ?_
 try simp only [go_sem,seval]
 generalize g4:l3++[⟨4,6,5,7,0⟩]=l4
 have n4:l4.length=l3.length+1:=by rw [←g4]; simp
 refine CA [] (dB false) ?_
 try simp only [go_sem,seval]
 have w1:IntKind.i64.wrap (26+vQ false)=26:=rfl
 try simp only [w1]
 refine CA [] (bP l4 f b c (6) (26) (by omega) hf (by omega)) ?_
 try simp only [go_sem,seval]
 generalize g5:l4++[⟨11,0,6,0,f+26⟩]=l5
 have n5:l5.length=l4.length+1:=by rw [←g5]; simp
 refine CA [] (gN l5 f b c (4) (1) (by omega) hb (by omega)) ?_
 try simp only [go_sem,seval]
 generalize g6:l5++[⟨5,4,-1,0,b+1⟩]=l6
 have n6:l6.length=l5.length+1:=by rw [←g6]; simp
 refine CA [] (jR l6 f b c (2) (4) (4) (5) (by omega)) ?_
 try simp only [go_sem,seval]
 generalize g7:l6++[⟨2,4,4,5,0⟩]=l7
 have n7:l7.length=l6.length+1:=by rw [←g7]; simp
 refine CA [] (jR l7 f b c (4) (6) (4) (7) (by omega)) ?_
 try simp only [go_sem,seval]
 generalize g8:l7++[⟨4,6,4,7,0⟩]=l8
 have n8:l8.length=l7.length+1:=by rw [←g8]; simp
 refine CA [] (bP l8 f b c (6) (18) (by omega) hf (by omega)) ?_
 try simp only [go_sem,seval]
 generalize g9:l8++[⟨11,0,6,0,f+18⟩]=l9
 have n9:l9.length=l8.length+1:=by rw [←g9]; simp
 refine CA [] (vY l9 f b c (19) (by omega) hf (by omega)) ?_
 try simp only [go_sem,seval]
 generalize g10:l9++[⟨10,0,0,0,f+19⟩]=l10
 have n10:l10.length=l9.length+1:=by rw [←g10]; simp
 refine CA [] (jR l10 f b c (3) (4) (4) (7) (by omega)) ?_
 try simp only [go_sem,seval]
 repeat refine K ?_
 generalize g11:l10++[⟨3,4,4,7,0⟩]=l11
 have n11:l11.length=l10.length+1:=by rw [←g11]; simp
 simp only [w4]
 apply zV
 ·refine Sub.trans (Sub.fold1 0 0 13 rfl (by simp [-gD]<;>omega) rfl (by decide) (by decide) rfl) ?_
  simp only [fS,fS2,qA,qC,gG (6) (0) (4) (x.a) (b+4),yO]
  exact Sub.refl _
 generalize g12:l11++[⟨6,0,4,x.a,b+4⟩]=l12
 have n12:l12.length=l11.length+1:=by rw [←g12]; simp
 refine CA [] (jI l12 f b c (7) (1) (by omega)) ?_
 try simp only [go_sem,seval]
 generalize g13:l12++[⟨1,7,0,0,1⟩]=l13
 have n13:l13.length=l12.length+1:=by rw [←g13]; simp
 refine CA [] (jR l13 f b c (2) (5) (5) (7) (by omega)) ?_
 try simp only [go_sem,seval]
 generalize g14:l13++[⟨2,5,5,7,0⟩]=l14
 have n14:l14.length=l13.length+1:=by rw [←g14]; simp
 refine CA [] (xZ l14 f b c (2) (5) (by omega) hb (by omega)) ?_
 try simp only [go_sem,seval]
 generalize g15:l14++[⟨6,0,-1,5,b+2⟩]=l15
 have n15:l15.length=l14.length+1:=by rw [←g15]; simp
 refine CA [] (gB l15 f b c (by omega) hf hb) ?_
 try simp only [go_sem,seval]
 generalize g16:l15++eR b=l16
 have n16:l16.length=l15.length+2:=by rw [←g16]; simp
 refine CA [] (jE x) ?_
 try simp only [go_sem,seval]
 simp only [hz]
 refine CA [] (vY l16 f b c (29) (by omega) hf (by omega)) ?_
 try simp only [go_sem,seval]
 generalize g17:l16++[⟨10,0,0,0,f+29⟩]=l17
 have n17:l17.length=l16.length+1:=by rw [←g17]; simp
 refine CA [] (gB l17 f b c (by omega) hf hb) ?_
 try simp only [go_sem,seval]
 generalize g18:l17++eR b=l18
 have n18:l18.length=l17.length+2:=by rw [←g18]; simp
 refine CA [] (vY l18 f b c (0) (by omega) hf (by omega)) ?_
 try simp only [go_sem,seval]
 generalize g19:l18++[⟨10,0,0,0,f+0⟩]=l19
 have n19:l19.length=l18.length+1:=by rw [←g19]; simp
 have hL:l19=l++fC f b c x:=by
  rw [←g19,←g18,←g17,←g16,←g15,←g14,←g13,←g12,←g11,←g10,←g9,←g8,←g7,←g6,←g5,←g4,←g3,←g2,←g1]
  simp [fC,hx,vQ]
 rw [hL]
 refine ⟨_,Sub.refl _,jM (by decide) ?_⟩; simp [-List.drop_one]
theorem qGm (l:List wX) (f b c:Int) (x:Ins) (h:l.length<2^30) (hx:x.op=7) (hf:0≤f∧f<2^40) (hb:0≤b∧b<2^40):wD Try.prog num 265 [.ptr 0 0 0,.agg (lM x)] [(0,some (4,[emC .own ⟨l,f,b,c⟩]),some (4,[emC .own ⟨l++fC f b c x,f,b,c⟩]))] (.tup []):=by
 refine EH m265 Try.func55 ?_
 unfold m265
 have hz:qX x=31:=by simp [qX,hx]
 have w4:IntKind.i64.wrap (b+4)=b+4:=yP (by omega) (by omega)
 simp only [go_sem,seval,hx]
 refine CA [] (rZ l f b c (by omega) hf hb) ?_
 try simp only [go_sem,seval]
 generalize g1:l++eZ f b=l1
 have n1:l1.length=l.length+5:=by rw [←g1]; simp
 refine CA [] (gN l1 f b c (5) (2) (by omega) hb (by omega)) ?_
 try simp only [go_sem,seval]
 generalize g2:l1++[⟨5,5,-1,0,b+2⟩]=l2
 have n2:l2.length=l1.length+1:=by rw [←g2]; simp
 refine CA [] (jI l2 f b c (7) (c) (by omega)) ?_
 try simp only [go_sem,seval]
 generalize g3:l2++[⟨1,7,0,0,c⟩]=l3
 have n3:l3.length=l2.length+1:=by rw [←g3]; simp
 refine CA [] (jR l3 f b c (4) (6) (5) (7) (by omega)) ?_
 try simp only [go_sem,seval]
 generalize g4:l3++[⟨4,6,5,7,0⟩]=l4
 have n4:l4.length=l3.length+1:=by rw [←g4]; simp
 refine CA [] (dB true) ?_
 try simp only [go_sem,seval]
 have w1:IntKind.i64.wrap (26+vQ true)=27:=rfl
 try simp only [w1]
 refine CA [] (bP l4 f b c (6) (27) (by omega) hf (by omega)) ?_
 try simp only [go_sem,seval]
 generalize g5:l4++[⟨11,0,6,0,f+27⟩]=l5
 have n5:l5.length=l4.length+1:=by rw [←g5]; simp
 refine CA [] (gN l5 f b c (4) (1) (by omega) hb (by omega)) ?_
 try simp only [go_sem,seval]
 generalize g6:l5++[⟨5,4,-1,0,b+1⟩]=l6
 have n6:l6.length=l5.length+1:=by rw [←g6]; simp
 refine CA [] (jR l6 f b c (2) (4) (4) (5) (by omega)) ?_
 try simp only [go_sem,seval]
 generalize g7:l6++[⟨2,4,4,5,0⟩]=l7
 have n7:l7.length=l6.length+1:=by rw [←g7]; simp
 refine CA [] (jR l7 f b c (4) (6) (4) (7) (by omega)) ?_
 try simp only [go_sem,seval]
 generalize g8:l7++[⟨4,6,4,7,0⟩]=l8
 have n8:l8.length=l7.length+1:=by rw [←g8]; simp
 refine CA [] (bP l8 f b c (6) (18) (by omega) hf (by omega)) ?_
 try simp only [go_sem,seval]
 generalize g9:l8++[⟨11,0,6,0,f+18⟩]=l9
 have n9:l9.length=l8.length+1:=by rw [←g9]; simp
 refine CA [] (vY l9 f b c (19) (by omega) hf (by omega)) ?_
 try simp only [go_sem,seval]
 generalize g10:l9++[⟨10,0,0,0,f+19⟩]=l10
 have n10:l10.length=l9.length+1:=by rw [←g10]; simp
 refine CA [] (jR l10 f b c (3) (4) (4) (7) (by omega)) ?_
 try simp only [go_sem,seval]
 repeat refine K ?_
 generalize g11:l10++[⟨3,4,4,7,0⟩]=l11
 have n11:l11.length=l10.length+1:=by rw [←g11]; simp
 simp only [w4]
 apply zV
 ·refine Sub.trans (Sub.fold1 0 0 13 rfl (by simp [-gD]<;>omega) rfl (by decide) (by decide) rfl) ?_
  simp only [fS,fS2,qA,qC,gG (6) (0) (4) (x.a) (b+4),yO]
  exact Sub.refl _
 generalize g12:l11++[⟨6,0,4,x.a,b+4⟩]=l12
 have n12:l12.length=l11.length+1:=by rw [←g12]; simp
 refine CA [] (jI l12 f b c (7) (1) (by omega)) ?_
 try simp only [go_sem,seval]
 generalize g13:l12++[⟨1,7,0,0,1⟩]=l13
 have n13:l13.length=l12.length+1:=by rw [←g13]; simp
 refine CA [] (jR l13 f b c (2) (5) (5) (7) (by omega)) ?_
 try simp only [go_sem,seval]
 generalize g14:l13++[⟨2,5,5,7,0⟩]=l14
 have n14:l14.length=l13.length+1:=by rw [←g14]; simp
 refine CA [] (xZ l14 f b c (2) (5) (by omega) hb (by omega)) ?_
 try simp only [go_sem,seval]
 generalize g15:l14++[⟨6,0,-1,5,b+2⟩]=l15
 have n15:l15.length=l14.length+1:=by rw [←g15]; simp
 refine CA [] (gB l15 f b c (by omega) hf hb) ?_
 try simp only [go_sem,seval]
 generalize g16:l15++eR b=l16
 have n16:l16.length=l15.length+2:=by rw [←g16]; simp
 refine CA [] (jI l16 f b c (x.r) (1) (by omega)) ?_
 try simp only [go_sem,seval]
 generalize g17:l16++[⟨1,x.r,0,0,1⟩]=l17
 have n17:l17.length=l16.length+1:=by rw [←g17]; simp
 refine CA [] (jE x) ?_
 try simp only [go_sem,seval]
 simp only [hz]
 refine CA [] (vY l17 f b c (31) (by omega) hf (by omega)) ?_
 try simp only [go_sem,seval]
 generalize g18:l17++[⟨10,0,0,0,f+31⟩]=l18
 have n18:l18.length=l17.length+1:=by rw [←g18]; simp
 refine CA [] (gB l18 f b c (by omega) hf hb) ?_
 try simp only [go_sem,seval]
 generalize g19:l18++eR b=l19
 have n19:l19.length=l18.length+2:=by rw [←g19]; simp
 refine CA [] (jI l19 f b c (x.r) (0) (by omega)) ?_
 try simp only [go_sem,seval]
 generalize g20:l19++[⟨1,x.r,0,0,0⟩]=l20
 have n20:l20.length=l19.length+1:=by rw [←g20]; simp
 refine CA [] (jE x) ?_
 try simp only [go_sem,seval]
 simp only [hz]
 refine CA [] (vY l20 f b c (31) (by omega) hf (by omega)) ?_
 try simp only [go_sem,seval]
 generalize g21:l20++[⟨10,0,0,0,f+31⟩]=l21
 have n21:l21.length=l20.length+1:=by rw [←g21]; simp
 have hL:l21=l++fC f b c x:=by
  rw [←g21,←g20,←g19,←g18,←g17,←g16,←g15,←g14,←g13,←g12,←g11,←g10,←g9,←g8,←g7,←g6,←g5,←g4,←g3,←g2,←g1]
  simp [fC,hx,vQ]
 rw [hL]
 refine ⟨_,Sub.refl _,jM (by decide) ?_⟩; simp [-List.drop_one]
theorem qN7 (l:List wX) (f b c:Int) (x:Ins) (h:l.length<2^30) (hx:x.op=6) (hf:0≤f∧f<2^40) (hb:0≤b∧b<2^40):wD Try.prog num 266 [.ptr 0 0 0,.agg (lM x)] [(0,some (4,[emC .own ⟨l,f,b,c⟩]),some (4,[emC .own ⟨l++cY f b c x,f,b,c⟩]))] (.tup []):=by
 refine EH m266 Try.func56 ?_
 unfold m266
 have hz:qX x=30:=by simp [qX,hx]
 have w4:IntKind.i64.wrap (b+4)=b+4:=yP (by omega) (by omega)
 simp only [go_sem,seval,hx]
 refine CA [] (gN l f b c (5) (2) (by omega) hb (by omega)) ?_
 try simp only [go_sem,seval]
 generalize g1:l++[⟨5,5,-1,0,b+2⟩]=l1
 have n1:l1.length=l.length+1:=by rw [←g1]; simp
 refine CA [] (bP l1 f b c (5) (22) (by omega) hf (by omega)) ?_
 try simp only [go_sem,seval]
 generalize g2:l1++[⟨11,0,5,0,f+22⟩]=l2
 have n2:l2.length=l1.length+1:=by rw [←g2]; simp
 refine CA [] (gN l2 f b c (4) (1) (by omega) hb (by omega)) ?_
 try simp only [go_sem,seval]
 repeat refine K ?_
 generalize g3:l2++[⟨5,4,-1,0,b+1⟩]=l3
 have n3:l3.length=l2.length+1:=by rw [←g3]; simp
 simp only [w4]
 apply zV
 ·refine Sub.trans (Sub.fold1 0 0 13 rfl (by simp [-gD]<;>omega) rfl (by decide) (by decide) rfl) ?_
  simp only [fS,fS2,qA,qC,gG (5) (x.r) (4) (0) (b+4),yO]
  exact Sub.refl _
 generalize g4:l3++[⟨5,x.r,4,0,b+4⟩]=l4
 have n4:l4.length=l3.length+1:=by rw [←g4]; simp
 refine CA [] (jI l4 f b c (7) (1) (by omega)) ?_
 try simp only [go_sem,seval]
 generalize g5:l4++[⟨1,7,0,0,1⟩]=l5
 have n5:l5.length=l4.length+1:=by rw [←g5]; simp
 refine CA [] (jR l5 f b c (2) (4) (4) (7) (by omega)) ?_
 try simp only [go_sem,seval]
 generalize g6:l5++[⟨2,4,4,7,0⟩]=l6
 have n6:l6.length=l5.length+1:=by rw [←g6]; simp
 refine CA [] (jR l6 f b c (3) (5) (5) (7) (by omega)) ?_
 try simp only [go_sem,seval]
 generalize g7:l6++[⟨3,5,5,7,0⟩]=l7
 have n7:l7.length=l6.length+1:=by rw [←g7]; simp
 refine CA [] (jI l7 f b c (7) (c) (by omega)) ?_
 try simp only [go_sem,seval]
 generalize g8:l7++[⟨1,7,0,0,c⟩]=l8
 have n8:l8.length=l7.length+1:=by rw [←g8]; simp
 refine CA [] (jR l8 f b c (4) (6) (4) (7) (by omega)) ?_
 try simp only [go_sem,seval]
 generalize g9:l8++[⟨4,6,4,7,0⟩]=l9
 have n9:l9.length=l8.length+1:=by rw [←g9]; simp
 refine CA [] (bP l9 f b c (6) (15) (by omega) hf (by omega)) ?_
 try simp only [go_sem,seval]
 generalize g10:l9++[⟨11,0,6,0,f+15⟩]=l10
 have n10:l10.length=l9.length+1:=by rw [←g10]; simp
 refine CA [] (vY l10 f b c (16) (by omega) hf (by omega)) ?_
 try simp only [go_sem,seval]
 generalize g11:l10++[⟨10,0,0,0,f+16⟩]=l11
 have n11:l11.length=l10.length+1:=by rw [←g11]; simp
 refine CA [] (jI l11 f b c (4) (0) (by omega)) ?_
 try simp only [go_sem,seval]
 generalize g12:l11++[⟨1,4,0,0,0⟩]=l12
 have n12:l12.length=l11.length+1:=by rw [←g12]; simp
 refine CA [] (xZ l12 f b c (1) (4) (by omega) hb (by omega)) ?_
 try simp only [go_sem,seval]
 generalize g13:l12++[⟨6,0,-1,4,b+1⟩]=l13
 have n13:l13.length=l12.length+1:=by rw [←g13]; simp
 refine CA [] (xZ l13 f b c (2) (5) (by omega) hb (by omega)) ?_
 try simp only [go_sem,seval]
 generalize g14:l13++[⟨6,0,-1,5,b+2⟩]=l14
 have n14:l14.length=l13.length+1:=by rw [←g14]; simp
 refine CA [] (gB l14 f b c (by omega) hf hb) ?_
 try simp only [go_sem,seval]
 generalize g15:l14++eR b=l15
 have n15:l15.length=l14.length+2:=by rw [←g15]; simp
 refine CA [] (jI l15 f b c (x.b) (1) (by omega)) ?_
 try simp only [go_sem,seval]
 generalize g16:l15++[⟨1,x.b,0,0,1⟩]=l16
 have n16:l16.length=l15.length+1:=by rw [←g16]; simp
 refine CA [] (jE x) ?_
 try simp only [go_sem,seval]
 simp only [hz]
 refine CA [] (vY l16 f b c (30) (by omega) hf (by omega)) ?_
 try simp only [go_sem,seval]
 generalize g17:l16++[⟨10,0,0,0,f+30⟩]=l17
 have n17:l17.length=l16.length+1:=by rw [←g17]; simp
 refine CA [] (gN l17 f b c (4) (3) (by omega) hb (by omega)) ?_
 try simp only [go_sem,seval]
 generalize g18:l17++[⟨5,4,-1,0,b+3⟩]=l18
 have n18:l18.length=l17.length+1:=by rw [←g18]; simp
 refine CA [] (gB l18 f b c (by omega) hf hb) ?_
 try simp only [go_sem,seval]
 generalize g19:l18++eR b=l19
 have n19:l19.length=l18.length+2:=by rw [←g19]; simp
 refine CA [] (bP l19 f b c (4) (29) (by omega) hf (by omega)) ?_
 try simp only [go_sem,seval]
 generalize g20:l19++[⟨11,0,4,0,f+29⟩]=l20
 have n20:l20.length=l19.length+1:=by rw [←g20]; simp
 refine CA [] (jI l20 f b c (x.r) (0) (by omega)) ?_
 try simp only [go_sem,seval]
 repeat refine K ?_
 generalize g21:l20++[⟨1,x.r,0,0,0⟩]=l21
 have n21:l21.length=l20.length+1:=by rw [←g21]; simp
 refine DA [] (dB false) ?_
 try simp only [go_sem,seval]
 repeat refine K ?_
 have w1:IntKind.i64.wrap (2*vQ false)=0:=rfl
 try simp only [w1]
 refine DA [] (jI l21 f b c (x.b) (0) (by omega)) ?_
 try simp only [go_sem,seval]
 generalize g22:l21++[⟨1,x.b,0,0,0⟩]=l22
 have n22:l22.length=l21.length+1:=by rw [←g22]; simp
 refine CA [] (jE x) ?_
 try simp only [go_sem,seval]
 simp only [hz]
 refine CA [] (vY l22 f b c (30) (by omega) hf (by omega)) ?_
 try simp only [go_sem,seval]
 generalize g23:l22++[⟨10,0,0,0,f+30⟩]=l23
 have n23:l23.length=l22.length+1:=by rw [←g23]; simp
 refine CA [] (vY l23 f b c (0) (by omega) hf (by omega)) ?_
 try simp only [go_sem,seval]
 generalize g24:l23++[⟨10,0,0,0,f+0⟩]=l24
 have n24:l24.length=l23.length+1:=by rw [←g24]; simp
 have hL:l24=l++cY f b c x:=by
  rw [←g24,←g23,←g22,←g21,←g20,←g19,←g18,←g17,←g16,←g15,←g14,←g13,←g12,←g11,←g10,←g9,←g8,←g7,←g6,←g5,←g4,←g3,←g2,←g1]
  simp [cY,hx,vQ]
 rw [hL]
 refine ⟨_,Sub.refl _,jM (by decide) ?_⟩; simp [-List.drop_one]
theorem qGl (l:List wX) (f b c:Int) (x:Ins) (h:l.length<2^30) (hx:x.op=8) (hf:0≤f∧f<2^40) (hb:0≤b∧b<2^40):wD Try.prog num 266 [.ptr 0 0 0,.agg (lM x)] [(0,some (4,[emC .own ⟨l,f,b,c⟩]),some (4,[emC .own ⟨l++cY f b c x,f,b,c⟩]))] (.tup []):=by
 refine EH m266 Try.func56 ?_
 unfold m266
 have hz:qX x=32:=by simp [qX,hx]
 have w4:IntKind.i64.wrap (b+4)=b+4:=yP (by omega) (by omega)
 simp only [go_sem,seval,hx]
 refine CA [] (gN l f b c (5) (2) (by omega) hb (by omega)) ?_
 try simp only [go_sem,seval]
 generalize g1:l++[⟨5,5,-1,0,b+2⟩]=l1
 have n1:l1.length=l.length+1:=by rw [←g1]; simp
 refine CA [] (bP l1 f b c (5) (22) (by omega) hf (by omega)) ?_
 try simp only [go_sem,seval]
 generalize g2:l1++[⟨11,0,5,0,f+22⟩]=l2
 have n2:l2.length=l1.length+1:=by rw [←g2]; simp
 refine CA [] (gN l2 f b c (4) (1) (by omega) hb (by omega)) ?_
 try simp only [go_sem,seval]
 repeat refine K ?_
 generalize g3:l2++[⟨5,4,-1,0,b+1⟩]=l3
 have n3:l3.length=l2.length+1:=by rw [←g3]; simp
 simp only [w4]
 apply zV
 ·refine Sub.trans (Sub.fold1 0 0 13 rfl (by simp [-gD]<;>omega) rfl (by decide) (by decide) rfl) ?_
  simp only [fS,fS2,qA,qC,gG (5) (x.r) (4) (0) (b+4),yO]
  exact Sub.refl _
 generalize g4:l3++[⟨5,x.r,4,0,b+4⟩]=l4
 have n4:l4.length=l3.length+1:=by rw [←g4]; simp
 refine CA [] (jI l4 f b c (7) (1) (by omega)) ?_
 try simp only [go_sem,seval]
 generalize g5:l4++[⟨1,7,0,0,1⟩]=l5
 have n5:l5.length=l4.length+1:=by rw [←g5]; simp
 refine CA [] (jR l5 f b c (2) (4) (4) (7) (by omega)) ?_
 try simp only [go_sem,seval]
 generalize g6:l5++[⟨2,4,4,7,0⟩]=l6
 have n6:l6.length=l5.length+1:=by rw [←g6]; simp
 refine CA [] (jR l6 f b c (3) (5) (5) (7) (by omega)) ?_
 try simp only [go_sem,seval]
 generalize g7:l6++[⟨3,5,5,7,0⟩]=l7
 have n7:l7.length=l6.length+1:=by rw [←g7]; simp
 refine CA [] (jI l7 f b c (7) (c) (by omega)) ?_
 try simp only [go_sem,seval]
 generalize g8:l7++[⟨1,7,0,0,c⟩]=l8
 have n8:l8.length=l7.length+1:=by rw [←g8]; simp
 refine CA [] (jR l8 f b c (4) (6) (4) (7) (by omega)) ?_
 try simp only [go_sem,seval]
 generalize g9:l8++[⟨4,6,4,7,0⟩]=l9
 have n9:l9.length=l8.length+1:=by rw [←g9]; simp
 refine CA [] (bP l9 f b c (6) (15) (by omega) hf (by omega)) ?_
 try simp only [go_sem,seval]
 generalize g10:l9++[⟨11,0,6,0,f+15⟩]=l10
 have n10:l10.length=l9.length+1:=by rw [←g10]; simp
 refine CA [] (vY l10 f b c (16) (by omega) hf (by omega)) ?_
 try simp only [go_sem,seval]
 generalize g11:l10++[⟨10,0,0,0,f+16⟩]=l11
 have n11:l11.length=l10.length+1:=by rw [←g11]; simp
 refine CA [] (jI l11 f b c (4) (0) (by omega)) ?_
 try simp only [go_sem,seval]
 generalize g12:l11++[⟨1,4,0,0,0⟩]=l12
 have n12:l12.length=l11.length+1:=by rw [←g12]; simp
 refine CA [] (xZ l12 f b c (1) (4) (by omega) hb (by omega)) ?_
 try simp only [go_sem,seval]
 generalize g13:l12++[⟨6,0,-1,4,b+1⟩]=l13
 have n13:l13.length=l12.length+1:=by rw [←g13]; simp
 refine CA [] (xZ l13 f b c (2) (5) (by omega) hb (by omega)) ?_
 try simp only [go_sem,seval]
 generalize g14:l13++[⟨6,0,-1,5,b+2⟩]=l14
 have n14:l14.length=l13.length+1:=by rw [←g14]; simp
 refine CA [] (gB l14 f b c (by omega) hf hb) ?_
 try simp only [go_sem,seval]
 generalize g15:l14++eR b=l15
 have n15:l15.length=l14.length+2:=by rw [←g15]; simp
 refine CA [] (jI l15 f b c (x.b) (1) (by omega)) ?_
 try simp only [go_sem,seval]
 generalize g16:l15++[⟨1,x.b,0,0,1⟩]=l16
 have n16:l16.length=l15.length+1:=by rw [←g16]; simp
 refine CA [] (jE x) ?_
 try simp only [go_sem,seval]
 simp only [hz]
 refine CA [] (vY l16 f b c (32) (by omega) hf (by omega)) ?_
 try simp only [go_sem,seval]
 generalize g17:l16++[⟨10,0,0,0,f+32⟩]=l17
 have n17:l17.length=l16.length+1:=by rw [←g17]; simp
 refine CA [] (gN l17 f b c (4) (3) (by omega) hb (by omega)) ?_
 try simp only [go_sem,seval]
 generalize g18:l17++[⟨5,4,-1,0,b+3⟩]=l18
 have n18:l18.length=l17.length+1:=by rw [←g18]; simp
 refine CA [] (gB l18 f b c (by omega) hf hb) ?_
 try simp only [go_sem,seval]
 generalize g19:l18++eR b=l19
 have n19:l19.length=l18.length+2:=by rw [←g19]; simp
 refine CA [] (bP l19 f b c (4) (29) (by omega) hf (by omega)) ?_
 try simp only [go_sem,seval]
 generalize g20:l19++[⟨11,0,4,0,f+29⟩]=l20
 have n20:l20.length=l19.length+1:=by rw [←g20]; simp
 refine CA [] (jI l20 f b c (x.r) (0) (by omega)) ?_
 try simp only [go_sem,seval]
 repeat refine K ?_
 generalize g21:l20++[⟨1,x.r,0,0,0⟩]=l21
 have n21:l21.length=l20.length+1:=by rw [←g21]; simp
 refine DA [] (dB true) ?_
 try simp only [go_sem,seval]
 repeat refine K ?_
 have w1:IntKind.i64.wrap (2*vQ true)=2:=rfl
 try simp only [w1]
 refine DA [] (jI l21 f b c (x.b) (2) (by omega)) ?_
 try simp only [go_sem,seval]
 generalize g22:l21++[⟨1,x.b,0,0,2⟩]=l22
 have n22:l22.length=l21.length+1:=by rw [←g22]; simp
 refine CA [] (jE x) ?_
 try simp only [go_sem,seval]
 simp only [hz]
 refine CA [] (vY l22 f b c (32) (by omega) hf (by omega)) ?_
 try simp only [go_sem,seval]
 generalize g23:l22++[⟨10,0,0,0,f+32⟩]=l23
 have n23:l23.length=l22.length+1:=by rw [←g23]; simp
 refine CA [] (jI l23 f b c (x.r) (0) (by omega)) ?_
 try simp only [go_sem,seval]
 generalize g24:l23++[⟨1,x.r,0,0,0⟩]=l24
 have n24:l24.length=l23.length+1:=by rw [←g24]; simp
 refine CA [] (jI l24 f b c (x.b) (0) (by omega)) ?_
 try simp only [go_sem,seval]
 generalize g25:l24++[⟨1,x.b,0,0,0⟩]=l25
 have n25:l25.length=l24.length+1:=by rw [←g25]; simp
 refine CA [] (jE x) ?_
 try simp only [go_sem,seval]
 simp only [hz]
 refine CA [] (vY l25 f b c (32) (by omega) hf (by omega)) ?_
 try simp only [go_sem,seval]
 generalize g26:l25++[⟨10,0,0,0,f+32⟩]=l26
 have n26:l26.length=l25.length+1:=by rw [←g26]; simp
 have hL:l26=l++cY f b c x:=by
  rw [←g26,←g25,←g24,←g23,←g22,←g21,←g20,←g19,←g18,←g17,←g16,←g15,←g14,←g13,←g12,←g11,←g10,←g9,←g8,←g7,←g6,←g5,←g4,←g3,←g2,←g1]
  simp [cY,hx,vQ]
 rw [hL]
 refine ⟨_,Sub.refl _,jM (by decide) ?_⟩; simp [-List.drop_one]
theorem qQa (b:Int):(eR b).take 2=eR b:=rfl
theorem qMw (f b:Int):(zG f b).take 4=zG f b:=rfl
theorem qMd (f b:Int):(eZ f b).take 5=eZ f b:=rfl
attribute [local go_sem] qQa qMw qMd qL4 tN qIq
end Go.Sep
