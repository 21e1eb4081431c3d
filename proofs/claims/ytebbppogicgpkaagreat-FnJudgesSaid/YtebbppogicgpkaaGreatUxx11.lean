/- Contracts of functions. -/
import Derived.Test.YtebbppogicgpkaaGreatUxx10
open Bool renaming not_eq_false → qZc, not_eq_false' → qZa, not_eq_true → qZb, not_eq_true' → qZ9
open List renaming drop_one → qZ8
namespace Go.Sep
set_option maxHeartbeats 16000000
open Go.Proofs
set_option linter.unusedSimpArgs false
set_option linter.unusedVariables false
set_option maxRecDepth 100000
open Nat renaming reduceAdd → qA, reduceMul → qB, reduceEqDiff → qC, reduceBEq → qD
open Int renaming reduceToNat → qE, reduceEq → qF, reduceLT → qG, reduceLE → qH
open List renaming getD_eq_getElem?_getD → gD
def m253:MFn:=⟨8,[.cell 4 5 true],kr [xo 4 (.alloc [xz,xz,xz,xz,xz])] (kR [xv 5 0,xv 6 1,xo 7 (.build [xz,xz,xz,xz,xz] [(0,1,xi 1),(1,1,.t 5),(4,1,.t 6)]),xS 5 4 7])⟩
def m254:MFn:=⟨14,[.cell 8 5 true],kr [xo 8 (.alloc [xz,xz,xz,xz,xz])] (kR [xv 9 0,xv 10 1,xv 11 2,xv 12 3,xo 13 (.build [xz,xz,xz,xz,xz] [(0,1,.t 9),(1,1,.t 10),(2,1,.t 11),(3,1,.t 12)]),xS 5 8 13])⟩
def m255:MFn:=⟨5,[.cell 2 5 true],kr [xo 2 (.alloc [xz,xz,xz,xz,xz])] (kR [xv 3 0,xo 4 (.build [xz,xz,xz,xz,xz] [(0,1,xi 10),(4,1,.t 3)]),xS 5 2 4])⟩
def m256:MFn:=⟨8,[.cell 4 5 true],kr [xo 4 (.alloc [xz,xz,xz,xz,xz])] (kR [xv 5 0,xv 6 1,xo 7 (.build [xz,xz,xz,xz,xz] [(0,1,xi 11),(2,1,.t 5),(4,1,.t 6)]),xS 5 4 7])⟩
def m258:MFn:=⟨110,[.t 8],kr [xb 4 0,xo 8 (.mv (.c (.nil)))] (kr [xa 13 0 4,xl 14 13,bI 15 .eql 14 7,xv 9 15] (kr [xv 16 3,bI 17 .add 16 26,xv 18 9,xc1 19 85 (.t 18),bT 20 .add 17 19,xv 10 20] (kr [xv 21 3,xm 22 5 4,xc1 23 285 (.t 22),bT 24 .add 21 23,xv 11 24] (kr [xv 25 1,xv 26 3,xc2 27 296 (.t 25) (.t 26),xv 28 1,xv 29 3,xc2 30 297 (.t 28) (.t 29),xA 31 5 40 27 30,xv 12 31] (kr [xv 32 12,xv 33 1,bI 34 .add 33 2,xc2 35 298 (xi 5) (.t 34),xv 36 2,xc2 37 253 (xi 7) (.t 36),xo 38 (.call 254 [false,false,false,false] [xi 4,xi 6,xi 5,xi 7]),xv 39 10,xc2 40 256 (xi 6) (.t 39),xo 41 (.mkSl [xz,xz,xz,xz,xz] 4 [(0,.t 35),(1,.t 37),(2,.t 38),(3,.t 40)]),xA 42 5 40 32 41,xv 12 42] (kr [xv 43 12,xv 44 1,bI 45 .add 44 1,xc2 46 298 (xi 4) (.t 45),xo 47 (.call 254 [false,false,false,false] [xi 2,xi 4,xi 4,xi 5]),xo 48 (.call 254 [false,false,false,false] [xi 4,xi 6,xi 4,xi 7]),xv 49 3,bI 50 .add 49 18,xc2 51 256 (xi 6) (.t 50),xv 52 3,bI 53 .add 52 19,xc1 54 255 (.t 53),xo 55 (.call 254 [false,false,false,false] [xi 3,xi 4,xi 4,xi 7]),xo 56 (.mkSl [xz,xz,xz,xz,xz] 6 [(0,.t 46),(1,.t 47),(2,.t 48),(3,.t 51),(4,.t 54),(5,.t 55)]),xA 57 5 40 43 56,xv 12 57] (.seq (.dreg (.take 0 (xv 58 12) (.take 1 (xa 59 2 4) (.take 2 (xl 60 59) (.take 3 (xv 61 1) (.take 4 (bI 62 .add 61 4) (.take 5 (xo 63 (.build [xz,xz,xz,xz,xz] [(0,1,xi 6),(2,1,xi 4),(3,1,.t 60),(4,1,.t 62)])) (.take 8 (xv 66 1) (.take 9 (bI 67 .add 66 2) (.only 6 [] (xc2 64 253 (xi 7) (xi 1)) (.only 7 [] (xo 65 (.call 254 [false,false,false,false] [xi 2,xi 5,xi 5,xi 7])) (.only 10 [9,8] (xc2 68 299 (.t 67) (xi 5)) (.only 11 [5,10,2,4,9,1,3,8] (xo 69 (.mkSl [xz,xz,xz,xz,xz] 4 [(0,.t 63),(1,.t 64),(2,.t 65),(3,.t 68)])) (.only 12 [0,10,11,9,5,8,2,4,1,3] (xA 70 5 40 58 69) (.only 13 [0,1,2,3,4,5,8,9] (xv 12 70) (.done)))))))))))))))) (kr [xv 71 12,xv 72 1,xc1 73 300 (.t 72),xA 74 5 40 71 73,xv 12 74] (.seq (kr [xv 75 9] (.cond 75 (kr [xv 76 12,xa 77 1 4,xl 78 77,xc2 79 253 (.t 78) (xi 1),xv 80 11,xc1 81 255 (.t 80),xo 82 (.mkSl [xz,xz,xz,xz,xz] 2 [(0,.t 79),(1,.t 81)]),xA 83 5 40 76 82,xv 12 83] (kr [xv 84 12,xv 85 1,xc1 86 300 (.t 85),xA 87 5 40 84 86,xv 12 87] (kR [xv 88 12,xa 89 1 4,xl 90 89,xc2 91 253 (.t 90) (xi 0),xv 92 11,xc1 93 255 (.t 92),xo 94 (.mkSl [xz,xz,xz,xz,xz] 2 [(0,.t 91),(1,.t 93)]),xA 95 5 40 88 94,xv 8 95]))) (.skip))) (kr [xv 96 12,xv 97 11,xc1 98 255 (.t 97),xo 99 (.mkSl [xz,xz,xz,xz,xz] 1 [(0,.t 98)]),xA 100 5 40 96 99,xv 12 100] (kr [xv 101 12,xv 102 1,xc1 103 300 (.t 102),xA 104 5 40 101 103,xv 12 104] (kR [xv 105 12,xv 106 3,xc1 107 255 (.t 106),xo 108 (.mkSl [xz,xz,xz,xz,xz] 1 [(0,.t 107)]),xA 109 5 40 105 108,xv 8 109]))))))))))))⟩
def m259:MFn:=⟨116,[.t 8],kr [xb 4 0,xo 8 (.mv (.c (.nil)))] (kr [xv 11 3,xm 12 5 4,xc1 13 285 (.t 12),bT 14 .add 11 13,xv 9 14] (.seq (.dreg (.take 0 (xv 15 1) (.take 1 (xv 16 3) (.take 3 (xv 18 1) (.take 4 (bI 19 .add 18 2) (.take 6 (xv 21 3) (.take 7 (bI 22 .add 21 22) (.take 9 (xv 24 1) (.take 10 (bI 25 .add 24 1) (.take 12 (xa 27 1 4) (.take 13 (xl 28 27) (.take 14 (xv 29 1) (.take 15 (bI 30 .add 29 4) (.take 16 (xo 31 (.build [xz,xz,xz,xz,xz] [(0,1,xi 5),(1,1,.t 28),(2,1,xi 4),(4,1,.t 30)])) (.only 2 [0,1] (xc2 17 296 (.t 15) (.t 16)) (.only 5 [2,4,0,1,3] (xc2 20 298 (xi 5) (.t 19)) (.only 8 [5,7,2,4,6,0,1,3] (xc2 23 256 (xi 5) (.t 22)) (.only 11 [8,10,5,7,9,2,4,6,0,1,3] (xc2 26 298 (xi 4) (.t 25)) (.only 17 [5,8,11,16,2,4,7,10,13,15,0,1,3,6,9,12,14] (xo 32 (.mkSl [xz,xz,xz,xz,xz] 4 [(0,.t 20),(1,.t 23),(2,.t 26),(3,.t 31)])) (.only 18 [2,11,17,0,1,8,10,5,16,7,9,4,13,15,6,3,12,14] (xA 33 5 40 17 32) (.only 19 [0,1,3,4,6,7,9,10,12,13,14,15,16] (xv 10 33) (.done)))))))))))))))))))))) (kr [xv 34 10,xc2 35 253 (xi 7) (xi 1),xo 36 (.call 254 [false,false,false,false] [xi 2,xi 4,xi 4,xi 7]),xo 37 (.call 254 [false,false,false,false] [xi 3,xi 5,xi 5,xi 7]),xv 38 2,xc2 39 253 (xi 7) (.t 38),xo 40 (.call 254 [false,false,false,false] [xi 4,xi 6,xi 4,xi 7]),xv 41 3,bI 42 .add 41 15,xc2 43 256 (xi 6) (.t 42),xv 44 3,bI 45 .add 44 16,xc1 46 255 (.t 45),xc2 47 253 (xi 4) (xi 0),xo 48 (.mkSl [xz,xz,xz,xz,xz] 8 [(0,.t 35),(1,.t 36),(2,.t 37),(3,.t 39),(4,.t 40),(5,.t 43),(6,.t 46),(7,.t 47)]),xA 49 5 40 34 48,xv 10 49] (kr [xv 50 10,xv 51 1,bI 52 .add 51 1,xc2 53 299 (.t 52) (xi 4),xv 54 1,bI 55 .add 54 2,xc2 56 299 (.t 55) (xi 5),xo 57 (.mkSl [xz,xz,xz,xz,xz] 2 [(0,.t 53),(1,.t 56)]),xA 58 5 40 50 57,xv 10 58] (kr [xv 59 10,xv 60 1,xc1 61 300 (.t 60),xA 62 5 40 59 61,xv 10 62] (kr [xv 63 10,xa 64 3 4,xl 65 64,xc2 66 253 (.t 65) (xi 1),xv 67 9,xc1 68 255 (.t 67),xv 69 1,bI 70 .add 69 3,xc2 71 298 (xi 4) (.t 70),xo 72 (.mkSl [xz,xz,xz,xz,xz] 3 [(0,.t 66),(1,.t 68),(2,.t 71)]),xA 73 5 40 63 72,xv 10 73] (kr [xv 74 10,xv 75 1,xc1 76 300 (.t 75),xA 77 5 40 74 76,xv 10 77] (.seq (.dreg (.take 0 (xv 78 10) (.take 1 (xv 79 3) (.take 2 (bI 80 .add 79 29) (.take 4 (xa 82 1 4) (.take 5 (xl 83 82) (.only 3 [2,1] (xc2 81 256 (xi 4) (.t 80)) (.only 6 [3,5,2,4,1] (xc2 84 253 (.t 83) (xi 0)) (.only 7 [3,6,2,5,1,4] (xo 85 (.mkSl [xz,xz,xz,xz,xz] 2 [(0,.t 81),(1,.t 84)])) (.only 8 [0,6,3,5,2,4,1] (xA 86 5 40 78 85) (.only 9 [0,1,2,4,5] (xv 10 86) (.done)))))))))))) (.seq (kr [xa 87 0 4,xl 88 87,bI 89 .eql 88 6] (kF 89 [xv 90 10,xa 91 3 4,xl 92 91,xc2 93 253 (.t 92) (xi 0),xv 94 9,xc1 95 255 (.t 94),xv 96 3,xc1 97 255 (.t 96),xo 98 (.mkSl [xz,xz,xz,xz,xz] 3 [(0,.t 93),(1,.t 95),(2,.t 97)]),xA 99 5 40 90 98,xv 8 99])) (.seq (.dreg (.take 0 (xv 100 10) (.take 1 (xa 101 3 4) (.take 2 (xl 102 101) (.take 4 (xv 104 9) (.take 6 (xa 106 1 4) (.take 7 (xl 107 106) (.take 9 (xa 109 3 4) (.take 10 (xl 110 109) (.take 12 (xv 112 9) (.only 3 [2,1] (xc2 103 253 (.t 102) (xi 2)) (.only 5 [3,4,2,1] (xc1 105 255 (.t 104)) (.only 8 [5,7,3,4,6,2,1] (xc2 108 253 (.t 107) (xi 0)) (.only 11 [8,10,5,7,9,3,4,6,2,1] (xc2 111 253 (.t 110) (xi 0)) (.only 13 [11,12,8,10,5,7,9,3,4,6,2,1] (xc1 113 255 (.t 112)) (.only 14 [3,5,8,11,13,2,4,7,10,12,1,6,9] (xo 114 (.mkSl [xz,xz,xz,xz,xz] 5 [(0,.t 103),(1,.t 105),(2,.t 108),(3,.t 111),(4,.t 113)])) (.only 15 [0,13,14,11,12,3,5,8,10,2,4,7,9,1,6] (xA 115 5 40 100 114) (.only 16 [0,1,2,4,6,7,9,10,12] (xv 8 115) (.done))))))))))))))))))) (.ret)))))))))))⟩
def m260:MFn:=⟨24,[.t 4],kr [xo 4 (.mv (.c (.nil)))] (kr [xv 6 0,xv 7 1,xc2 8 296 (.t 6) (.t 7),xv 9 0,xv 10 1,xc2 11 297 (.t 9) (.t 10),xA 12 5 40 8 11,xv 5 12] (kr [xv 13 5,xc2 14 253 (xi 7) (xi 1),xv 15 0,bI 16 .add 15 3,xc2 17 299 (.t 16) (xi 7),xo 18 (.mkSl [xz,xz,xz,xz,xz] 2 [(0,.t 14),(1,.t 17)]),xA 19 5 40 13 18,xv 5 19] (kR [xv 20 5,xv 21 0,xc1 22 300 (.t 21),xA 23 5 40 20 22,xv 4 23])))⟩
def m262:MFn:=⟨19,[.t 2],kr [xb 1 0,xI 2 0] (.seq (kr [xa 3 0 1,xl 4 3] (.blk 0 (kr [bI 6 .eql 4 5,xv 5 6] (.cond 5 (kR [xI 2 29]) (kr [bI 8 .eql 4 7,xv 7 8] (.cond 7 (kR [xI 2 31]) (kr [bI 10 .eql 4 6,xv 9 10] (.cond 9 (kR [xI 2 30]) (kr [bI 12 .eql 4 8,xv 11 12] (.cond 11 (kR [xI 2 32]) (kr [bI 14 .eql 4 9,xv 13 14] (kF 13 [xI 2 13])))))))))))) (kR [xa 15 0 1,xl 16 15,xc3 17 59 (.t 16) (xi 1) (xi 13),xc1 18 78 (.t 17),xv 2 18]))⟩
def m264:MFn:=⟨22,[],kr [xv 2 0,xo 3 (.call 302 [true,false,false] [.t 2,xi 7,xi 1])] (.seq (.dreg (.take 0 (xv 4 0) (.take 1 (xv 5 0) (.take 2 (xk 6 5) (.take 3 (xa 7 0 6) (.take 4 (xl 8 7) (.only 5 [] (xv 9 0) (.only 6 [] (xk 10 9) (.only 7 [] (xa 11 2 10) (.only 8 [] (xl 12 11) (.only 9 [] (xo 13 (.build [xz,xz,xz,xz,xz] [(0,1,xi 8),(1,1,xi 6),(3,1,xi 7),(4,1,.t 12)])) (.only 10 [] (xo 14 (.mkSl [xz,xz,xz,xz,xz] 1 [(0,.t 13)])) (.only 11 [4,3,2,1] (xA 15 5 40 8 14) (.only 12 [0,1,2,3,4] (xk 16 4) (.only 13 [0,1,2,3,4] (xa 17 0 16) (.only 14 [0,1,2,3,4] (xS 1 17 15) (.done))))))))))))))))) (kr [xv 18 0,xo 19 (.call 303 [true,false,false] [.t 18,xi 6,xi 4])] (xr [xv 20 0,xo 21 (.call 304 [true,false] [.t 20,xi 0])])))⟩
def m265:MFn:=⟨84,[],kr [xb 3 1] (kr [xa 5 0 3,xl 6 5,bI 7 .eql 6 7,xv 4 7] (kr [xv 8 0,xo 9 (.call 305 [true] [.t 8])] (kr [xv 10 0,xo 11 (.call 306 [true,false,false] [.t 10,xi 5,xi 2])] (kr [xv 12 0,xv 13 0,xk 14 13,xa 15 3 14,xl 16 15,xo 17 (.call 302 [true,false,false] [.t 12,xi 7,.t 16])] (kr [xv 18 0,xo 19 (.call 307 [true,false,false,false,false] [.t 18,xi 4,xi 6,xi 5,xi 7])] (kr [xv 20 0,xv 21 4,xc1 22 78 (.t 21),xo 23 (.bin .add (xi 26) (.t 22)),xo 24 (.call 303 [true,false,false] [.t 20,xi 6,.t 23])] (kr [xv 25 0,xo 26 (.call 306 [true,false,false] [.t 25,xi 4,xi 1])] (kr [xv 27 0,xo 28 (.call 307 [true,false,false,false,false] [.t 27,xi 2,xi 4,xi 4,xi 5])] (kr [xv 29 0,xo 30 (.call 307 [true,false,false,false,false] [.t 29,xi 4,xi 6,xi 4,xi 7])] (kr [xv 31 0,xo 32 (.call 303 [true,false,false] [.t 31,xi 6,xi 18])] (kr [xv 33 0,xo 34 (.call 304 [true,false] [.t 33,xi 19])] (kr [xv 35 0,xo 36 (.call 307 [true,false,false,false,false] [.t 35,xi 3,xi 4,xi 4,xi 7])] (.seq (.dreg (.take 0 (xv 37 0) (.take 1 (xv 38 0) (.take 2 (xk 39 38) (.take 3 (xa 40 0 39) (.take 4 (xl 41 40) (.take 5 (xa 42 2 3) (.take 6 (xl 43 42) (.only 7 [] (xv 44 0) (.only 8 [] (xk 45 44) (.only 9 [] (xa 46 2 45) (.only 10 [] (xl 47 46) (.only 11 [] (bI 48 .add 47 4) (.only 12 [6,5] (xo 49 (.build [xz,xz,xz,xz,xz] [(0,1,xi 6),(2,1,xi 4),(3,1,.t 43),(4,1,.t 48)])) (.only 13 [12,6,5] (xo 50 (.mkSl [xz,xz,xz,xz,xz] 1 [(0,.t 49)])) (.only 14 [4,13,3,12,2,6,1,5] (xA 51 5 40 41 50) (.only 15 [0,1,2,3,4,5,6] (xk 52 37) (.only 16 [0,1,2,3,4,5,6] (xa 53 0 52) (.only 17 [0,1,2,3,4,5,6] (xS 1 53 51) (.done)))))))))))))))))))) (kr [xv 54 0,xo 55 (.call 302 [true,false,false] [.t 54,xi 7,xi 1])] (kr [xv 56 0,xo 57 (.call 307 [true,false,false,false,false] [.t 56,xi 2,xi 5,xi 5,xi 7])] (kr [xv 58 0,xo 59 (.call 308 [true,false,false] [.t 58,xi 2,xi 5])] (kr [xv 60 0,xo 61 (.call 309 [true] [.t 60])] (.seq (kr [xv 62 4] (.cond 62 (xr [xv 63 0,xa 64 1 3,xl 65 64,xo 66 (.call 302 [true,false,false] [.t 63,.t 65,xi 1])]) (.skip))) (kr [xv 67 0,xm 68 5 3,xc1 69 262 (.t 68),xo 70 (.call 304 [true,false] [.t 67,.t 69])] (kr [xv 71 0,xo 72 (.call 309 [true] [.t 71])] (kr [xv 73 4] (.cond 73 (kr [xv 74 0,xa 75 1 3,xl 76 75,xo 77 (.call 302 [true,false,false] [.t 74,.t 76,xi 0])] (xr [xv 78 0,xm 79 5 3,xc1 80 262 (.t 79),xo 81 (.call 304 [true,false] [.t 78,.t 80])])) (xr [xv 82 0,xo 83 (.call 304 [true,false] [.t 82,xi 0])])))))))))))))))))))))))⟩
def m266:MFn:=⟨101,[],kr [xb 3 1] (kr [xa 5 0 3,xl 6 5,bI 7 .eql 6 8,xv 4 7] (kr [xv 8 0,xo 9 (.call 306 [true,false,false] [.t 8,xi 5,xi 2])] (kr [xv 10 0,xo 11 (.call 303 [true,false,false] [.t 10,xi 5,xi 22])] (kr [xv 12 0,xo 13 (.call 306 [true,false,false] [.t 12,xi 4,xi 1])] (.seq (.dreg (.take 0 (xv 14 0) (.take 1 (xv 15 0) (.take 2 (xk 16 15) (.take 3 (xa 17 0 16) (.take 4 (xl 18 17) (.take 5 (xa 19 1 3) (.take 6 (xl 20 19) (.only 7 [] (xv 21 0) (.only 8 [] (xk 22 21) (.only 9 [] (xa 23 2 22) (.only 10 [] (xl 24 23) (.only 11 [] (bI 25 .add 24 4) (.only 12 [6,5] (xo 26 (.build [xz,xz,xz,xz,xz] [(0,1,xi 5),(1,1,.t 20),(2,1,xi 4),(4,1,.t 25)])) (.only 13 [12,6,5] (xo 27 (.mkSl [xz,xz,xz,xz,xz] 1 [(0,.t 26)])) (.only 14 [4,13,3,12,2,6,1,5] (xA 28 5 40 18 27) (.only 15 [0,1,2,3,4,5,6] (xk 29 14) (.only 16 [0,1,2,3,4,5,6] (xa 30 0 29) (.only 17 [0,1,2,3,4,5,6] (xS 1 30 28) (.done)))))))))))))))))))) (kr [xv 31 0,xo 32 (.call 302 [true,false,false] [.t 31,xi 7,xi 1])] (kr [xv 33 0,xo 34 (.call 307 [true,false,false,false,false] [.t 33,xi 2,xi 4,xi 4,xi 7])] (kr [xv 35 0,xo 36 (.call 307 [true,false,false,false,false] [.t 35,xi 3,xi 5,xi 5,xi 7])] (kr [xv 37 0,xv 38 0,xk 39 38,xa 40 3 39,xl 41 40,xo 42 (.call 302 [true,false,false] [.t 37,xi 7,.t 41])] (kr [xv 43 0,xo 44 (.call 307 [true,false,false,false,false] [.t 43,xi 4,xi 6,xi 4,xi 7])] (kr [xv 45 0,xo 46 (.call 303 [true,false,false] [.t 45,xi 6,xi 15])] (kr [xv 47 0,xo 48 (.call 304 [true,false] [.t 47,xi 16])] (kr [xv 49 0,xo 50 (.call 302 [true,false,false] [.t 49,xi 4,xi 0])] (kr [xv 51 0,xo 52 (.call 308 [true,false,false] [.t 51,xi 1,xi 4])] (kr [xv 53 0,xo 54 (.call 308 [true,false,false] [.t 53,xi 2,xi 5])] (kr [xv 55 0,xo 56 (.call 309 [true] [.t 55])] (kr [xv 57 0,xa 58 3 3,xl 59 58,xo 60 (.call 302 [true,false,false] [.t 57,.t 59,xi 1])] (kr [xv 61 0,xm 62 5 3,xc1 63 262 (.t 62),xo 64 (.call 304 [true,false] [.t 61,.t 63])] (kr [xv 65 0,xo 66 (.call 306 [true,false,false] [.t 65,xi 4,xi 3])] (kr [xv 67 0,xo 68 (.call 309 [true] [.t 67])] (kr [xv 69 0,xo 70 (.call 303 [true,false,false] [.t 69,xi 4,xi 29])] (kr [xv 71 0,xa 72 1 3,xl 73 72,xo 74 (.call 302 [true,false,false] [.t 71,.t 73,xi 0])] (.seq (.dreg (.take 0 (xv 75 0) (.take 1 (xa 76 3 3) (.take 2 (xl 77 76) (.only 3 [] (xv 78 4) (.only 4 [] (xc1 79 78 (.t 78)) (.only 5 [] (xo 80 (.bin .mul (xi 2) (.t 79))) (.only 6 [0,2,1] (xo 81 (.call 302 [true,false,false] [.t 75,.t 77,.t 80])) (.done))))))))) (kr [xv 82 0,xm 83 5 3,xc1 84 262 (.t 83),xo 85 (.call 304 [true,false] [.t 82,.t 84])] (kr [xv 86 4] (.cond 86 (kr [xv 87 0,xa 88 1 3,xl 89 88,xo 90 (.call 302 [true,false,false] [.t 87,.t 89,xi 0])] (kr [xv 91 0,xa 92 3 3,xl 93 92,xo 94 (.call 302 [true,false,false] [.t 91,.t 93,xi 0])] (xr [xv 95 0,xm 96 5 3,xc1 97 262 (.t 96),xo 98 (.call 304 [true,false] [.t 95,.t 97])]))) (xr [xv 99 0,xo 100 (.call 304 [true,false] [.t 99,xi 0])])))))))))))))))))))))))))))⟩
def m267:MFn:=⟨10,[],kr [xv 2 0,xo 3 (.call 305 [true] [.t 2])] (kr [xv 4 0,xo 5 (.call 302 [true,false,false] [.t 4,xi 7,xi 1])] (kr [xv 6 0,xo 7 (.call 308 [true,false,false] [.t 6,xi 3,xi 7])] (xr [xv 8 0,xo 9 (.call 309 [true] [.t 8])])))⟩
def m285:MFn:=⟨19,[.t 2],kr [xb 1 0,xI 2 0] (.seq (kr [xa 3 0 1,xl 4 3] (.blk 0 (kr [bI 6 .eql 4 5,xv 5 6] (.cond 5 (kR [xI 2 29]) (kr [bI 8 .eql 4 7,xv 7 8] (.cond 7 (kR [xI 2 31]) (kr [bI 10 .eql 4 6,xv 9 10] (.cond 9 (kR [xI 2 30]) (kr [bI 12 .eql 4 8,xv 11 12] (.cond 11 (kR [xI 2 32]) (kr [bI 14 .eql 4 9,xv 13 14] (kF 13 [xI 2 13])))))))))))) (kR [xa 15 0 1,xl 16 15,xc3 17 64 (.t 16) (xi 1) (xi 13),xc1 18 85 (.t 17),xv 2 18]))⟩
def m296:MFn:=⟨14,[.t 4],kr [xo 4 (.mv (.c (.nil)))] (kR [xc2 5 253 (xi 7) (xi 1),xv 6 0,xo 7 (.build [xz,xz,xz,xz,xz] [(0,1,xi 8),(1,1,xi 6),(3,1,xi 7),(4,1,.t 6)]),xv 8 1,bI 9 .add 8 4,xc2 10 256 (xi 6) (.t 9),xv 11 1,xc1 12 255 (.t 11),xo 13 (.mkSl [xz,xz,xz,xz,xz] 4 [(0,.t 5),(1,.t 7),(2,.t 10),(3,.t 12)]),xv 4 13])⟩
def m297:MFn:=⟨20,[.t 4],kr [xo 4 (.mv (.c (.nil)))] (kr [xv 6 0,bI 7 .add 6 3,xc2 8 298 (xi 4) (.t 7),xv 9 1,bI 10 .add 9 9,xc2 11 256 (xi 4) (.t 10),xo 12 (.mkSl [xz,xz,xz,xz,xz] 2 [(0,.t 8),(1,.t 11)]),xv 5 12] (kR [xv 13 5,xv 14 0,xc1 15 300 (.t 14),xA 16 5 40 13 15,xo 17 (.build [xz,xz,xz,xz,xz] [(0,1,xi 13)]),xo 18 (.mkSl [xz,xz,xz,xz,xz] 1 [(0,.t 17)]),xA 19 5 40 16 18,xv 4 19]))⟩
def m298:MFn:=⟨8,[.cell 4 5 true],kr [xo 4 (.alloc [xz,xz,xz,xz,xz])] (kR [xv 5 0,xv 6 1,xo 7 (.build [xz,xz,xz,xz,xz] [(0,1,xi 5),(1,1,.t 5),(2,1,.c (.int .i64 (-1))),(4,1,.t 6)]),xS 5 4 7])⟩
def m299:MFn:=⟨8,[.cell 4 5 true],kr [xo 4 (.alloc [xz,xz,xz,xz,xz])] (kR [xv 5 1,xv 6 0,xo 7 (.build [xz,xz,xz,xz,xz] [(0,1,xi 6),(2,1,.c (.int .i64 (-1))),(3,1,.t 5),(4,1,.t 6)]),xS 5 4 7])⟩
def m300:MFn:=⟨7,[.t 2],kr [xo 2 (.mv (.c (.nil)))] (kR [xc2 3 253 (xi 7) (xi 0),xv 4 0,xo 5 (.build [xz,xz,xz,xz,xz] [(0,1,xi 7),(2,1,.c (.int .i64 (-1))),(3,1,xi 7),(4,1,.t 4)]),xo 6 (.mkSl [xz,xz,xz,xz,xz] 2 [(0,.t 3),(1,.t 5)]),xv 2 6])⟩
def m302:MFn:=⟨18,[],xr [xv 6 0,xv 7 0,xk 8 7,xa 9 0 8,xl 10 9,xv 11 1,xv 12 2,xo 13 (.build [xz,xz,xz,xz,xz] [(0,1,xi 1),(1,1,.t 11),(4,1,.t 12)]),xo 14 (.mkSl [xz,xz,xz,xz,xz] 1 [(0,.t 13)]),xA 15 5 40 10 14,xk 16 6,xa 17 0 16,xS 1 17 15]⟩
def m303:MFn:=⟨23,[],.dreg (.take 0 (xv 6 0) (.take 1 (xv 7 0) (.take 2 (xk 8 7) (.take 3 (xa 9 0 8) (.take 4 (xl 10 9) (.take 5 (xv 11 1) (.take 6 (xv 12 0) (.take 7 (xk 13 12) (.take 8 (xa 14 1 13) (.take 9 (xl 15 14) (.only 10 [] (xv 16 2) (.only 11 [9,8,7,6] (bT 17 .add 15 16) (.only 12 [5,11,9,8,7,6] (xo 18 (.build [xz,xz,xz,xz,xz] [(0,1,xi 11),(2,1,.t 11),(4,1,.t 17)])) (.only 13 [12,5,11,9,8,7,6] (xo 19 (.mkSl [xz,xz,xz,xz,xz] 1 [(0,.t 18)])) (.only 14 [4,13,3,12,2,5,11,1,9,8,7,6] (xA 20 5 40 10 19) (.only 15 [0,1,2,3,4,5,6,7,8,9] (xk 21 6) (.only 16 [0,1,2,3,4,5,6,7,8,9] (xa 22 0 21) (.only 17 [0,1,2,3,4,5,6,7,8,9] (xS 1 22 20) (.done)))))))))))))))))))⟩
def m304:MFn:=⟨20,[],.dreg (.take 0 (xv 4 0) (.take 1 (xv 5 0) (.take 2 (xk 6 5) (.take 3 (xa 7 0 6) (.take 4 (xl 8 7) (.take 5 (xv 9 0) (.take 6 (xk 10 9) (.take 7 (xa 11 1 10) (.take 8 (xl 12 11) (.only 9 [] (xv 13 1) (.only 10 [8,7,6,5] (bT 14 .add 12 13) (.only 11 [10,8,7,6,5] (xo 15 (.build [xz,xz,xz,xz,xz] [(0,1,xi 10),(4,1,.t 14)])) (.only 12 [11,10,8,7,6,5] (xo 16 (.mkSl [xz,xz,xz,xz,xz] 1 [(0,.t 15)])) (.only 13 [4,12,3,11,2,10,1,8,7,6,5] (xA 17 5 40 8 16) (.only 14 [0,1,2,3,4,5,6,7,8] (xk 18 4) (.only 15 [0,1,2,3,4,5,6,7,8] (xa 19 0 18) (.only 16 [0,1,2,3,4,5,6,7,8] (xS 1 19 17) (.done))))))))))))))))))⟩
def m305:MFn:=⟨10,[],kr [xv 2 0,xo 3 (.call 306 [true,false,false] [.t 2,xi 4,xi 3])] (kr [xv 4 0,xo 5 (.call 303 [true,false,false] [.t 4,xi 4,xi 9])] (kr [xv 6 0,xo 7 (.call 309 [true] [.t 6])] (xr [xv 8 0,xo 9 (.call 332 [true] [.t 8])])))⟩
def m306:MFn:=⟨23,[],.dreg (.take 0 (xv 6 0) (.take 1 (xv 7 0) (.take 2 (xk 8 7) (.take 3 (xa 9 0 8) (.take 4 (xl 10 9) (.take 5 (xv 11 1) (.take 6 (xv 12 0) (.take 7 (xk 13 12) (.take 8 (xa 14 2 13) (.take 9 (xl 15 14) (.only 10 [] (xv 16 2) (.only 11 [9,8,7,6] (bT 17 .add 15 16) (.only 12 [5,11,9,8,7,6] (xo 18 (.build [xz,xz,xz,xz,xz] [(0,1,xi 5),(1,1,.t 11),(2,1,.c (.int .i64 (-1))),(4,1,.t 17)])) (.only 13 [12,5,11,9,8,7,6] (xo 19 (.mkSl [xz,xz,xz,xz,xz] 1 [(0,.t 18)])) (.only 14 [4,13,3,12,2,5,11,1,9,8,7,6] (xA 20 5 40 10 19) (.only 15 [0,1,2,3,4,5,6,7,8,9] (xk 21 6) (.only 16 [0,1,2,3,4,5,6,7,8,9] (xa 22 0 21) (.only 17 [0,1,2,3,4,5,6,7,8,9] (xS 1 22 20) (.done)))))))))))))))))))⟩
def m307:MFn:=⟨24,[],xr [xv 10 0,xv 11 0,xk 12 11,xa 13 0 12,xl 14 13,xv 15 1,xv 16 2,xv 17 3,xv 18 4,xo 19 (.build [xz,xz,xz,xz,xz] [(0,1,.t 15),(1,1,.t 16),(2,1,.t 17),(3,1,.t 18)]),xo 20 (.mkSl [xz,xz,xz,xz,xz] 1 [(0,.t 19)]),xA 21 5 40 14 20,xk 22 10,xa 23 0 22,xS 1 23 21]⟩
def m308:MFn:=⟨23,[],.dreg (.take 0 (xv 6 0) (.take 1 (xv 7 0) (.take 2 (xk 8 7) (.take 3 (xa 9 0 8) (.take 4 (xl 10 9) (.take 5 (xv 11 2) (.take 6 (xv 12 0) (.take 7 (xk 13 12) (.take 8 (xa 14 2 13) (.take 9 (xl 15 14) (.only 10 [] (xv 16 1) (.only 11 [9,8,7,6] (bT 17 .add 15 16) (.only 12 [5,11,9,8,7,6] (xo 18 (.build [xz,xz,xz,xz,xz] [(0,1,xi 6),(2,1,.c (.int .i64 (-1))),(3,1,.t 11),(4,1,.t 17)])) (.only 13 [12,5,11,9,8,7,6] (xo 19 (.mkSl [xz,xz,xz,xz,xz] 1 [(0,.t 18)])) (.only 14 [4,13,3,12,2,5,11,1,9,8,7,6] (xA 20 5 40 10 19) (.only 15 [0,1,2,3,4,5,6,7,8,9] (xk 21 6) (.only 16 [0,1,2,3,4,5,6,7,8,9] (xa 22 0 21) (.only 17 [0,1,2,3,4,5,6,7,8,9] (xS 1 22 20) (.done)))))))))))))))))))⟩
def m309:MFn:=⟨18,[],kr [xv 2 0,xo 3 (.call 302 [true,false,false] [.t 2,xi 7,xi 0])] (.dreg (.take 0 (xv 4 0) (.take 1 (xv 5 0) (.take 2 (xk 6 5) (.take 3 (xa 7 0 6) (.take 4 (xl 8 7) (.only 5 [] (xv 9 0) (.only 6 [] (xk 10 9) (.only 7 [] (xa 11 2 10) (.only 8 [] (xl 12 11) (.only 9 [] (xo 13 (.build [xz,xz,xz,xz,xz] [(0,1,xi 7),(2,1,.c (.int .i64 (-1))),(3,1,xi 7),(4,1,.t 12)])) (.only 10 [] (xo 14 (.mkSl [xz,xz,xz,xz,xz] 1 [(0,.t 13)])) (.only 11 [4,3,2,1] (xA 15 5 40 8 14) (.only 12 [0,1,2,3,4] (xk 16 4) (.only 13 [0,1,2,3,4] (xa 17 0 16) (.only 14 [0,1,2,3,4] (xS 1 17 15) (.done)))))))))))))))))⟩
def m332:MFn:=⟨12,[],xr [xv 2 0,xv 3 0,xk 4 3,xa 5 0 4,xl 6 5,xo 7 (.build [xz,xz,xz,xz,xz] [(0,1,xi 13)]),xo 8 (.mkSl [xz,xz,xz,xz,xz] 1 [(0,.t 7)]),xA 9 5 40 6 8,xk 10 2,xa 11 0 10,xS 1 11 9]⟩
attribute [local go_sem] qX2
theorem vV (l:List yK) (f b c:Int) (r n:Int) (h:l.length<2^33):qU Tryz.prog num 302 [.ptr 0 0 0,.int .i64 r,.int .i64 n] [(0,some (4,[emC .own ⟨l,f,b,c⟩]),some (4,[emC .own ⟨l++[⟨1,r,0,0,n⟩],f,b,c⟩]))] (.tup []):=by
 refine EH m302 Tryz.func220 ?_
 unfold m302
 simp only [go_sem,seval]
 repeat refine K ?_
 apply wG
 ·decide
 ·refine Sub.trans (Sub.fold1 0 0 12 rfl (by simp [-gD]<;>omega) rfl (by decide) (by decide) rfl) ?_
  simp only [fS,fS2,qA,qC,zH,jH]
  exact Sub.refl _
 ·simp [-qZ8,-gD,jH]<;>(first | rfl | exact ⟨rfl,rfl⟩ | exact ⟨rfl,rfl,rfl⟩ | skip)
theorem uK (l:List yK) (f b c:Int) (op r a k:Int) (h:l.length<2^33):qU Tryz.prog num 307 [.ptr 0 0 0,.int .i64 op,.int .i64 r,.int .i64 a,.int .i64 k] [(0,some (4,[emC .own ⟨l,f,b,c⟩]),some (4,[emC .own ⟨l++[⟨op,r,a,k,0⟩],f,b,c⟩]))] (.tup []):=by
 refine EH m307 Tryz.func225 ?_
 unfold m307
 simp only [go_sem,seval]
 repeat refine K ?_
 apply wG
 ·decide
 ·refine Sub.trans (Sub.fold1 0 0 12 rfl (by simp [-gD]<;>omega) rfl (by decide) (by decide) rfl) ?_
  simp only [fS,fS2,qA,qC,zH,jH]
  exact Sub.refl _
 ·simp [-qZ8,-gD,jH]<;>(first | rfl | exact ⟨rfl,rfl⟩ | exact ⟨rfl,rfl,rfl⟩ | skip)
theorem zS (l:List yK) (f b c:Int) (r v:Int) (h:l.length<2^33) (hb:0≤b∧b<2^40) (hv:0≤v∧v<2^40):qU Tryz.prog num 306 [.ptr 0 0 0,.int .i64 r,.int .i64 v] [(0,some (4,[emC .own ⟨l,f,b,c⟩]),some (4,[emC .own ⟨l++[⟨5,r,-1,0,b+v⟩],f,b,c⟩]))] (.tup []):=by
 refine EH m306 Tryz.func224 ?_
 unfold m306
 have w1:IntKind.i64.wrap (b+v)=b+v:=wK (by omega) (by omega)
 simp only [go_sem,seval,w1]
 repeat refine K ?_
 apply wG
 ·decide
 ·refine Sub.trans (Sub.fold1 0 0 12 rfl (by simp [-gD]<;>omega) rfl (by decide) (by decide) rfl) ?_
  simp only [fS,fS2,qA,qC,zH,jH]
  exact Sub.refl _
 ·simp [-qZ8,-gD,jH]<;>(first | rfl | exact ⟨rfl,rfl⟩ | exact ⟨rfl,rfl,rfl⟩ | skip)
theorem eY (l:List yK) (f b c:Int) (v k:Int) (h:l.length<2^33) (hb:0≤b∧b<2^40) (hv:0≤v∧v<2^40):qU Tryz.prog num 308 [.ptr 0 0 0,.int .i64 v,.int .i64 k] [(0,some (4,[emC .own ⟨l,f,b,c⟩]),some (4,[emC .own ⟨l++[⟨6,0,-1,k,b+v⟩],f,b,c⟩]))] (.tup []):=by
 refine EH m308 Tryz.func226 ?_
 unfold m308
 have w1:IntKind.i64.wrap (b+v)=b+v:=wK (by omega) (by omega)
 simp only [go_sem,seval,w1]
 repeat refine K ?_
 apply wG
 ·decide
 ·refine Sub.trans (Sub.fold1 0 0 12 rfl (by simp [-gD]<;>omega) rfl (by decide) (by decide) rfl) ?_
  simp only [fS,fS2,qA,qC,zH,jH]
  exact Sub.refl _
 ·simp [-qZ8,-gD,jH]<;>(first | rfl | exact ⟨rfl,rfl⟩ | exact ⟨rfl,rfl,rfl⟩ | skip)
theorem dU (l:List yK) (f b c:Int) (a v:Int) (h:l.length<2^33) (hf:0≤f∧f<2^40) (hv:0≤v∧v<2^40):qU Tryz.prog num 303 [.ptr 0 0 0,.int .i64 a,.int .i64 v] [(0,some (4,[emC .own ⟨l,f,b,c⟩]),some (4,[emC .own ⟨l++[⟨11,0,a,0,f+v⟩],f,b,c⟩]))] (.tup []):=by
 refine EH m303 Tryz.func221 ?_
 unfold m303
 have w1:IntKind.i64.wrap (f+v)=f+v:=wK (by omega) (by omega)
 simp only [go_sem,seval,w1]
 repeat refine K ?_
 apply wG
 ·decide
 ·refine Sub.trans (Sub.fold1 0 0 12 rfl (by simp [-gD]<;>omega) rfl (by decide) (by decide) rfl) ?_
  simp only [fS,fS2,qA,qC,zH,jH]
  exact Sub.refl _
 ·simp [-qZ8,-gD,jH]<;>(first | rfl | exact ⟨rfl,rfl⟩ | exact ⟨rfl,rfl,rfl⟩ | skip)
theorem bX (l:List yK) (f b c:Int) (v:Int) (h:l.length<2^33) (hf:0≤f∧f<2^40) (hv:0≤v∧v<2^40):qU Tryz.prog num 304 [.ptr 0 0 0,.int .i64 v] [(0,some (4,[emC .own ⟨l,f,b,c⟩]),some (4,[emC .own ⟨l++[⟨10,0,0,0,f+v⟩],f,b,c⟩]))] (.tup []):=by
 refine EH m304 Tryz.func222 ?_
 unfold m304
 have w1:IntKind.i64.wrap (f+v)=f+v:=wK (by omega) (by omega)
 simp only [go_sem,seval,w1]
 repeat refine K ?_
 apply wG
 ·decide
 ·refine Sub.trans (Sub.fold1 0 0 12 rfl (by simp [-gD]<;>omega) rfl (by decide) (by decide) rfl) ?_
  simp only [fS,fS2,qA,qC,zH,jH]
  exact Sub.refl _
 ·simp [-qZ8,-gD,jH]<;>(first | rfl | exact ⟨rfl,rfl⟩ | exact ⟨rfl,rfl,rfl⟩ | skip)
theorem qOl (l:List yK) (f b c:Int) (h:l.length<2^33):qU Tryz.prog num 332 [.ptr 0 0 0] [(0,some (4,[emC .own ⟨l,f,b,c⟩]),some (4,[emC .own ⟨l++[⟨13,0,0,0,0⟩],f,b,c⟩]))] (.tup []):=by
 refine EH m332 Tryz.func236 ?_
 unfold m332
 simp only [go_sem,seval]
 repeat refine K ?_
 apply wG
 ·decide
 ·refine Sub.trans (Sub.fold1 0 0 12 rfl (by simp [-gD]<;>omega) rfl (by decide) (by decide) rfl) ?_
  simp only [fS,fS2,qA,qC,zH,jH]
  exact Sub.refl _
 ·simp [-qZ8,-gD,jH]<;>(first | rfl | exact ⟨rfl,rfl⟩ | exact ⟨rfl,rfl,rfl⟩ | skip)
def eO (b:Int):List yK:=[⟨1,7,0,0,0⟩,⟨7,0,-1,7,b⟩]
def gE (f b:Int):List yK:=[⟨1,7,0,0,1⟩,⟨8,6,0,7,b⟩,⟨11,0,6,0,f+4⟩,⟨10,0,0,0,f+0⟩]
def eT (f b:Int):List yK:=[⟨5,4,-1,0,b+3⟩,⟨11,0,4,0,f+9⟩]++eO b++[⟨13,0,0,0,0⟩]
@[simp] theorem qO4 (b:Int):(eO b).length=2:=rfl
@[simp] theorem qCq (f b:Int):(gE f b).length=4:=rfl
@[simp] theorem qLv (f b:Int):(eT f b).length=5:=rfl
theorem zF (l:List yK) (f b c:Int) (h:l.length<2^32) (hf:0≤f∧f<2^40) (hb:0≤b∧b<2^40):qU Tryz.prog num 309 [.ptr 0 0 0] [(0,some (4,[emC .own ⟨l,f,b,c⟩]),some (4,[emC .own ⟨l++eO b,f,b,c⟩]))] (.tup []):=by
 refine EH m309 Tryz.func227 ?_
 unfold m309
 simp only [go_sem,seval]
 refine CA [] (vV l f b c (7) (0) (by omega)) ?_
 try simp only [go_sem,seval]
 repeat refine K ?_
 generalize g1:l++[⟨1,7,0,0,0⟩]=l1
 have n1:l1.length=l.length+1:=by rw [←g1]; simp
 apply wG
 ·decide
 ·refine Sub.trans (Sub.fold1 0 0 12 rfl (by simp [-gD]<;>omega) rfl (by decide) (by decide) rfl) ?_
  simp only [fS,fS2,qA,qC,zH,jH]
  exact Sub.refl _
 ·simp [-qZ8,-gD,jH,←g1,eO]<;>(first | rfl | exact ⟨rfl,rfl⟩ | exact ⟨rfl,rfl,rfl⟩ | skip)
theorem qQ3 (l:List yK) (f b c:Int) (h:l.length<2^31) (hf:0≤f∧f<2^40) (hb:0≤b∧b<2^40):qU Tryz.prog num 264 [.ptr 0 0 0] [(0,some (4,[emC .own ⟨l,f,b,c⟩]),some (4,[emC .own ⟨l++gE f b,f,b,c⟩]))] (.tup []):=by
 refine EH m264 Tryz.func201 ?_
 unfold m264
 simp only [go_sem,seval]
 refine CA [] (vV l f b c (7) (1) (by omega)) ?_
 try simp only [go_sem,seval]
 repeat refine K ?_
 generalize g1:l++[⟨1,7,0,0,1⟩]=l1
 have n1:l1.length=l.length+1:=by rw [←g1]; simp
 apply uX
 ·refine Sub.trans (Sub.fold1 0 0 12 rfl (by simp [-gD]<;>omega) rfl (by decide) (by decide) rfl) ?_
  simp only [fS,fS2,qA,qC,zH (8) (6) (0) (7) (b),jH]
  exact Sub.refl _
 generalize g2:l1++[⟨8,6,0,7,b⟩]=l2
 have n2:l2.length=l1.length+1:=by rw [←g2]; simp
 refine CA [] (dU l2 f b c (6) (4) (by omega) hf (by omega)) ?_
 try simp only [go_sem,seval]
 generalize g3:l2++[⟨11,0,6,0,f+4⟩]=l3
 have n3:l3.length=l2.length+1:=by rw [←g3]; simp
 refine CA [] (bX l3 f b c (0) (by omega) hf (by omega)) ?_
 try simp only [go_sem,seval]
 generalize g4:l3++[⟨10,0,0,0,f+0⟩]=l4
 have n4:l4.length=l3.length+1:=by rw [←g4]; simp
 have hL:l4=l++gE f b:=by
  rw [←g4,←g3,←g2,←g1]
  simp [gE]
 rw [hL]
 refine ⟨_,Sub.refl _,yP (by decide) ?_⟩; simp [-qZ8]
theorem qBn (l:List yK) (f b c:Int) (h:l.length<2^31) (hf:0≤f∧f<2^40) (hb:0≤b∧b<2^40):qU Tryz.prog num 305 [.ptr 0 0 0] [(0,some (4,[emC .own ⟨l,f,b,c⟩]),some (4,[emC .own ⟨l++eT f b,f,b,c⟩]))] (.tup []):=by
 refine EH m305 Tryz.func223 ?_
 unfold m305
 simp only [go_sem,seval]
 refine CA [] (zS l f b c (4) (3) (by omega) hb (by omega)) ?_
 try simp only [go_sem,seval]
 generalize g1:l++[⟨5,4,-1,0,b+3⟩]=l1
 have n1:l1.length=l.length+1:=by rw [←g1]; simp
 refine CA [] (dU l1 f b c (4) (9) (by omega) hf (by omega)) ?_
 try simp only [go_sem,seval]
 generalize g2:l1++[⟨11,0,4,0,f+9⟩]=l2
 have n2:l2.length=l1.length+1:=by rw [←g2]; simp
 refine CA [] (zF l2 f b c (by omega) hf hb) ?_
 try simp only [go_sem,seval]
 generalize g3:l2++eO b=l3
 have n3:l3.length=l2.length+2:=by rw [←g3]; simp
 refine CA [] (qOl l3 f b c (by omega)) ?_
 try simp only [go_sem,seval]
 generalize g4:l3++[⟨13,0,0,0,0⟩]=l4
 have n4:l4.length=l3.length+1:=by rw [←g4]; simp
 have hL:l4=l++eT f b:=by
  rw [←g4,←g3,←g2,←g1]
  simp [eT]
 rw [hL]
 refine ⟨_,Sub.refl _,yP (by decide) ?_⟩; simp [-qZ8]
def cK (f b c:Int) (x:Ins):List yK :=
 eT f b++[⟨5,5,-1,0,b+2⟩,⟨1,7,0,0,c⟩,⟨4,6,5,7,0⟩,⟨11,0,6,0,f+(26+uM (decide (x.op=7)))⟩,⟨5,4,-1,0,b+1⟩,⟨2,4,4,5,0⟩,⟨4,6,4,7,0⟩,⟨11,0,6,0,f+18⟩,⟨10,0,0,0,f+19⟩,⟨3,4,4,7,0⟩,⟨6,0,4,x.a,b+4⟩,⟨1,7,0,0,1⟩,⟨2,5,5,7,0⟩,⟨6,0,-1,5,b+2⟩]++eO b ++
 (if x.op=7 then [⟨1,x.r,0,0,1⟩,⟨10,0,0,0,f+31⟩]++eO b++[⟨1,x.r,0,0,0⟩,⟨10,0,0,0,f+31⟩] else [⟨10,0,0,0,f+29⟩]++eO b++[⟨10,0,0,0,f+0⟩])
def cJ (f b c:Int) (x:Ins):List yK :=
 [⟨5,5,-1,0,b+2⟩,⟨11,0,5,0,f+22⟩,⟨5,4,-1,0,b+1⟩,⟨5,x.r,4,0,b+4⟩,⟨1,7,0,0,1⟩,⟨2,4,4,7,0⟩,⟨3,5,5,7,0⟩,⟨1,7,0,0,c⟩,⟨4,6,4,7,0⟩,⟨11,0,6,0,f+15⟩,⟨10,0,0,0,f+16⟩,⟨1,4,0,0,0⟩,⟨6,0,-1,4,b+1⟩,⟨6,0,-1,5,b+2⟩]++eO b++[⟨1,x.b,0,0,1⟩,⟨10,0,0,0,f+(if x.op=8 then 32 else 30)⟩,⟨5,4,-1,0,b+3⟩]++eO b++[⟨11,0,4,0,f+29⟩,⟨1,x.r,0,0,0⟩] ++
 (if x.op=8 then [⟨1,x.b,0,0,2⟩,⟨10,0,0,0,f+32⟩,⟨1,x.r,0,0,0⟩,⟨1,x.b,0,0,0⟩,⟨10,0,0,0,f+32⟩] else [⟨1,x.b,0,0,0⟩,⟨10,0,0,0,f+30⟩,⟨10,0,0,0,f+0⟩])
def cA (f b:Int):List yK:=eT f b++[⟨1,7,0,0,1⟩,⟨6,0,-1,7,b+3⟩]++eO b
def wJ (x:Ins):Int:=if x.op=5 then 29 else if x.op=7 then 31 else if x.op=6 then 30 else if x.op=8 then 32 else if x.op=9 then 13 else uM (qL x.op 1 13)
theorem vE (x:Ins):qU Tryz.prog num 262 [.agg (gT x)] [] (.int .i64 (wJ x)):=by
 refine EN m262 Tryz.func179 ?_
 unfold m262
 repeat' (first
  | (simp only [go_sem,seval])
  | (refine qP (fun hc=>?_) (fun hc=>?_)<;>((try simp only [qZ9,qZa,ne_eq,qZb,qZc] at hc)<;>(try simp only [hc])))
  | (refine bK (fun hc=>?_) (fun hc=>?_)<;>((try simp only [qZ9,qZa,ne_eq,qZb,qZc] at hc)<;>(try simp only [hc])))
  | (refine uP (fun hc=>?_) (fun hc=>?_)<;>((try simp only [qZ9,qZa,ne_eq,qZb,qZc] at hc)<;>(try simp only [hc])))
  | (refine dB (yE x.op 1 13) rfl rfl rfl rfl ?_)
  | (refine bL (yE x.op 1 13) rfl rfl rfl rfl ?_)
  | (refine dB (xK (qL x.op 1 13)) rfl rfl rfl rfl ?_)
  | (refine bL (xK (qL x.op 1 13)) rfl rfl rfl rfl ?_)
  | (refine ⟨by first | omega | (simp; done),?_⟩)
  | fail)
 all_goals (refine fz ?_; simp [wA,qR,qS,qN,-qZ8])
 all_goals (simp_all [wJ]; done)
theorem xJ (x:Ins):qU Tryz.prog num 285 [.agg (gT x)] [] (.int .i64 (wJ x)):=by
 refine EN m285 Tryz.func139 ?_
 unfold m285
 repeat' (first
  | (simp only [go_sem,seval])
  | (refine qP (fun hc=>?_) (fun hc=>?_)<;>((try simp only [qZ9,qZa,ne_eq,qZb,qZc] at hc)<;>(try simp only [hc])))
  | (refine bK (fun hc=>?_) (fun hc=>?_)<;>((try simp only [qZ9,qZa,ne_eq,qZb,qZc] at hc)<;>(try simp only [hc])))
  | (refine uP (fun hc=>?_) (fun hc=>?_)<;>((try simp only [qZ9,qZa,ne_eq,qZb,qZc] at hc)<;>(try simp only [hc])))
  | (refine dB (yO x.op 1 13) rfl rfl rfl rfl ?_)
  | (refine bL (yO x.op 1 13) rfl rfl rfl rfl ?_)
  | (refine dB (kJ (qL x.op 1 13)) rfl rfl rfl rfl ?_)
  | (refine bL (kJ (qL x.op 1 13)) rfl rfl rfl rfl ?_)
  | (refine ⟨by first | omega | (simp; done),?_⟩)
  | fail)
 all_goals (refine fz ?_; simp [wA,qR,qS,qN,-qZ8])
 all_goals (simp_all [wJ]; done)
theorem qOm (l:List yK) (f b c:Int) (h:l.length<2^30) (hf:0≤f∧f<2^40) (hb:0≤b∧b<2^40):qU Tryz.prog num 267 [.ptr 0 0 0] [(0,some (4,[emC .own ⟨l,f,b,c⟩]),some (4,[emC .own ⟨l++cA f b,f,b,c⟩]))] (.tup []):=by
 refine EH m267 Tryz.func204 ?_
 unfold m267
 simp only [go_sem,seval]
 refine CA [] (qBn l f b c (by omega) hf hb) ?_
 try simp only [go_sem,seval]
 generalize g1:l++eT f b=l1
 have n1:l1.length=l.length+5:=by rw [←g1]; simp
 refine CA [] (vV l1 f b c (7) (1) (by omega)) ?_
 try simp only [go_sem,seval]
 generalize g2:l1++[⟨1,7,0,0,1⟩]=l2
 have n2:l2.length=l1.length+1:=by rw [←g2]; simp
 refine CA [] (eY l2 f b c (3) (7) (by omega) hb (by omega)) ?_
 try simp only [go_sem,seval]
 generalize g3:l2++[⟨6,0,-1,7,b+3⟩]=l3
 have n3:l3.length=l2.length+1:=by rw [←g3]; simp
 refine CA [] (zF l3 f b c (by omega) hf hb) ?_
 try simp only [go_sem,seval]
 generalize g4:l3++eO b=l4
 have n4:l4.length=l3.length+2:=by rw [←g4]; simp
 have hL:l4=l++cA f b:=by
  rw [←g4,←g3,←g2,←g1]
  simp [cA]
 rw [hL]
 refine ⟨_,Sub.refl _,yP (by decide) ?_⟩; simp [-qZ8]
theorem qQ2 (l:List yK) (f b c:Int) (x:Ins) (h:l.length<2^30) (hx:x.op=5) (hf:0≤f∧f<2^40) (hb:0≤b∧b<2^40):qU Tryz.prog num 265 [.ptr 0 0 0,.agg (gT x)] [(0,some (4,[emC .own ⟨l,f,b,c⟩]),some (4,[emC .own ⟨l++cK f b c x,f,b,c⟩]))] (.tup []):=by
 refine EH m265 Tryz.func202 ?_
 unfold m265
 have hz:wJ x=29:=by simp [wJ,hx]
 have w4:IntKind.i64.wrap (b+4)=b+4:=wK (by omega) (by omega)
 simp only [go_sem,seval,hx]
 refine CA [] (qBn l f b c (by omega) hf hb) ?_
 try simp only [go_sem,seval]
 generalize g1:l++eT f b=l1
 have n1:l1.length=l.length+5:=by rw [←g1]; simp
 refine CA [] (zS l1 f b c (5) (2) (by omega) hb (by omega)) ?_
 try simp only [go_sem,seval]
 generalize g2:l1++[⟨5,5,-1,0,b+2⟩]=l2
 have n2:l2.length=l1.length+1:=by rw [←g2]; simp
 refine CA [] (vV l2 f b c (7) (c) (by omega)) ?_
 try simp only [go_sem,seval]
 generalize g3:l2++[⟨1,7,0,0,c⟩]=l3
 have n3:l3.length=l2.length+1:=by rw [←g3]; simp
 refine CA [] (uK l3 f b c (4) (6) (5) (7) (by omega)) ?_
 try simp only [go_sem,seval]
 generalize g4:l3++[⟨4,6,5,7,0⟩]=l4
 have n4:l4.length=l3.length+1:=by rw [←g4]; simp
 refine CA [] (xK false) ?_
 try simp only [go_sem,seval]
 have w1:IntKind.i64.wrap (26+uM false)=26:=rfl
 try simp only [w1]
 refine CA [] (dU l4 f b c (6) (26) (by omega) hf (by omega)) ?_
 try simp only [go_sem,seval]
 generalize g5:l4++[⟨11,0,6,0,f+26⟩]=l5
 have n5:l5.length=l4.length+1:=by rw [←g5]; simp
 refine CA [] (zS l5 f b c (4) (1) (by omega) hb (by omega)) ?_
 try simp only [go_sem,seval]
 generalize g6:l5++[⟨5,4,-1,0,b+1⟩]=l6
 have n6:l6.length=l5.length+1:=by rw [←g6]; simp
 refine CA [] (uK l6 f b c (2) (4) (4) (5) (by omega)) ?_
 try simp only [go_sem,seval]
 generalize g7:l6++[⟨2,4,4,5,0⟩]=l7
 have n7:l7.length=l6.length+1:=by rw [←g7]; simp
 refine CA [] (uK l7 f b c (4) (6) (4) (7) (by omega)) ?_
 try simp only [go_sem,seval]
 generalize g8:l7++[⟨4,6,4,7,0⟩]=l8
 have n8:l8.length=l7.length+1:=by rw [←g8]; simp
 refine CA [] (dU l8 f b c (6) (18) (by omega) hf (by omega)) ?_
 try simp only [go_sem,seval]
 generalize g9:l8++[⟨11,0,6,0,f+18⟩]=l9
 have n9:l9.length=l8.length+1:=by rw [←g9]; simp
 refine CA [] (bX l9 f b c (19) (by omega) hf (by omega)) ?_
 try simp only [go_sem,seval]
 generalize g10:l9++[⟨10,0,0,0,f+19⟩]=l10
 have n10:l10.length=l9.length+1:=by rw [←g10]; simp
 refine CA [] (uK l10 f b c (3) (4) (4) (7) (by omega)) ?_
 try simp only [go_sem,seval]
 repeat refine K ?_
 generalize g11:l10++[⟨3,4,4,7,0⟩]=l11
 have n11:l11.length=l10.length+1:=by rw [←g11]; simp
 simp only [w4]
 apply uX
 ·refine Sub.trans (Sub.fold1 0 0 13 rfl (by simp [-gD]<;>omega) rfl (by decide) (by decide) rfl) ?_
  simp only [fS,fS2,qA,qC,zH (6) (0) (4) (x.a) (b+4),jH]
  exact Sub.refl _
 generalize g12:l11++[⟨6,0,4,x.a,b+4⟩]=l12
 have n12:l12.length=l11.length+1:=by rw [←g12]; simp
 refine CA [] (vV l12 f b c (7) (1) (by omega)) ?_
 try simp only [go_sem,seval]
 generalize g13:l12++[⟨1,7,0,0,1⟩]=l13
 have n13:l13.length=l12.length+1:=by rw [←g13]; simp
 refine CA [] (uK l13 f b c (2) (5) (5) (7) (by omega)) ?_
 try simp only [go_sem,seval]
 generalize g14:l13++[⟨2,5,5,7,0⟩]=l14
 have n14:l14.length=l13.length+1:=by rw [←g14]; simp
 refine CA [] (eY l14 f b c (2) (5) (by omega) hb (by omega)) ?_
 try simp only [go_sem,seval]
 generalize g15:l14++[⟨6,0,-1,5,b+2⟩]=l15
 have n15:l15.length=l14.length+1:=by rw [←g15]; simp
 refine CA [] (zF l15 f b c (by omega) hf hb) ?_
 try simp only [go_sem,seval]
 generalize g16:l15++eO b=l16
 have n16:l16.length=l15.length+2:=by rw [←g16]; simp
 refine CA [] (vE x) ?_
 try simp only [go_sem,seval]
 simp only [hz]
 refine CA [] (bX l16 f b c (29) (by omega) hf (by omega)) ?_
 try simp only [go_sem,seval]
 generalize g17:l16++[⟨10,0,0,0,f+29⟩]=l17
 have n17:l17.length=l16.length+1:=by rw [←g17]; simp
 refine CA [] (zF l17 f b c (by omega) hf hb) ?_
 try simp only [go_sem,seval]
 generalize g18:l17++eO b=l18
 have n18:l18.length=l17.length+2:=by rw [←g18]; simp
 refine CA [] (bX l18 f b c (0) (by omega) hf (by omega)) ?_
 try simp only [go_sem,seval]
 generalize g19:l18++[⟨10,0,0,0,f+0⟩]=l19
 have n19:l19.length=l18.length+1:=by rw [←g19]; simp
 have hL:l19=l++cK f b c x:=by
  rw [←g19,←g18,←g17,←g16,←g15,←g14,←g13,←g12,←g11,←g10,←g9,←g8,←g7,←g6,←g5,←g4,←g3,←g2,←g1]
  simp [cK,hx,uM]
 rw [hL]
 refine ⟨_,Sub.refl _,yP (by decide) ?_⟩; simp [-qZ8]
theorem qJu (l:List yK) (f b c:Int) (x:Ins) (h:l.length<2^30) (hx:x.op=7) (hf:0≤f∧f<2^40) (hb:0≤b∧b<2^40):qU Tryz.prog num 265 [.ptr 0 0 0,.agg (gT x)] [(0,some (4,[emC .own ⟨l,f,b,c⟩]),some (4,[emC .own ⟨l++cK f b c x,f,b,c⟩]))] (.tup []):=by
 refine EH m265 Tryz.func202 ?_
 unfold m265
 have hz:wJ x=31:=by simp [wJ,hx]
 have w4:IntKind.i64.wrap (b+4)=b+4:=wK (by omega) (by omega)
 simp only [go_sem,seval,hx]
 refine CA [] (qBn l f b c (by omega) hf hb) ?_
 try simp only [go_sem,seval]
 generalize g1:l++eT f b=l1
 have n1:l1.length=l.length+5:=by rw [←g1]; simp
 refine CA [] (zS l1 f b c (5) (2) (by omega) hb (by omega)) ?_
 try simp only [go_sem,seval]
 generalize g2:l1++[⟨5,5,-1,0,b+2⟩]=l2
 have n2:l2.length=l1.length+1:=by rw [←g2]; simp
 refine CA [] (vV l2 f b c (7) (c) (by omega)) ?_
 try simp only [go_sem,seval]
 generalize g3:l2++[⟨1,7,0,0,c⟩]=l3
 have n3:l3.length=l2.length+1:=by rw [←g3]; simp
 refine CA [] (uK l3 f b c (4) (6) (5) (7) (by omega)) ?_
 try simp only [go_sem,seval]
 generalize g4:l3++[⟨4,6,5,7,0⟩]=l4
 have n4:l4.length=l3.length+1:=by rw [←g4]; simp
 refine CA [] (xK true) ?_
 try simp only [go_sem,seval]
 have w1:IntKind.i64.wrap (26+uM true)=27:=rfl
 try simp only [w1]
 refine CA [] (dU l4 f b c (6) (27) (by omega) hf (by omega)) ?_
 try simp only [go_sem,seval]
 generalize g5:l4++[⟨11,0,6,0,f+27⟩]=l5
 have n5:l5.length=l4.length+1:=by rw [←g5]; simp
 refine CA [] (zS l5 f b c (4) (1) (by omega) hb (by omega)) ?_
 try simp only [go_sem,seval]
 generalize g6:l5++[⟨5,4,-1,0,b+1⟩]=l6
 have n6:l6.length=l5.length+1:=by rw [←g6]; simp
 refine CA [] (uK l6 f b c (2) (4) (4) (5) (by omega)) ?_
 try simp only [go_sem,seval]
 generalize g7:l6++[⟨2,4,4,5,0⟩]=l7
 have n7:l7.length=l6.length+1:=by rw [←g7]; simp
 refine CA [] (uK l7 f b c (4) (6) (4) (7) (by omega)) ?_
 try simp only [go_sem,seval]
 generalize g8:l7++[⟨4,6,4,7,0⟩]=l8
 have n8:l8.length=l7.length+1:=by rw [←g8]; simp
 refine CA [] (dU l8 f b c (6) (18) (by omega) hf (by omega)) ?_
 try simp only [go_sem,seval]
 generalize g9:l8++[⟨11,0,6,0,f+18⟩]=l9
 have n9:l9.length=l8.length+1:=by rw [←g9]; simp
 refine CA [] (bX l9 f b c (19) (by omega) hf (by omega)) ?_
 try simp only [go_sem,seval]
 generalize g10:l9++[⟨10,0,0,0,f+19⟩]=l10
 have n10:l10.length=l9.length+1:=by rw [←g10]; simp
 refine CA [] (uK l10 f b c (3) (4) (4) (7) (by omega)) ?_
 try simp only [go_sem,seval]
 repeat refine K ?_
 generalize g11:l10++[⟨3,4,4,7,0⟩]=l11
 have n11:l11.length=l10.length+1:=by rw [←g11]; simp
 simp only [w4]
 apply uX
 ·refine Sub.trans (Sub.fold1 0 0 13 rfl (by simp [-gD]<;>omega) rfl (by decide) (by decide) rfl) ?_
  simp only [fS,fS2,qA,qC,zH (6) (0) (4) (x.a) (b+4),jH]
  exact Sub.refl _
 generalize g12:l11++[⟨6,0,4,x.a,b+4⟩]=l12
 have n12:l12.length=l11.length+1:=by rw [←g12]; simp
 refine CA [] (vV l12 f b c (7) (1) (by omega)) ?_
 try simp only [go_sem,seval]
 generalize g13:l12++[⟨1,7,0,0,1⟩]=l13
 have n13:l13.length=l12.length+1:=by rw [←g13]; simp
 refine CA [] (uK l13 f b c (2) (5) (5) (7) (by omega)) ?_
 try simp only [go_sem,seval]
 generalize g14:l13++[⟨2,5,5,7,0⟩]=l14
 have n14:l14.length=l13.length+1:=by rw [←g14]; simp
 refine CA [] (eY l14 f b c (2) (5) (by omega) hb (by omega)) ?_
 try simp only [go_sem,seval]
 generalize g15:l14++[⟨6,0,-1,5,b+2⟩]=l15
 have n15:l15.length=l14.length+1:=by rw [←g15]; simp
 refine CA [] (zF l15 f b c (by omega) hf hb) ?_
 try simp only [go_sem,seval]
 generalize g16:l15++eO b=l16
 have n16:l16.length=l15.length+2:=by rw [←g16]; simp
 refine CA [] (vV l16 f b c (x.r) (1) (by omega)) ?_
 try simp only [go_sem,seval]
 generalize g17:l16++[⟨1,x.r,0,0,1⟩]=l17
 have n17:l17.length=l16.length+1:=by rw [←g17]; simp
 refine CA [] (vE x) ?_
 try simp only [go_sem,seval]
 simp only [hz]
 refine CA [] (bX l17 f b c (31) (by omega) hf (by omega)) ?_
 try simp only [go_sem,seval]
 generalize g18:l17++[⟨10,0,0,0,f+31⟩]=l18
 have n18:l18.length=l17.length+1:=by rw [←g18]; simp
 refine CA [] (zF l18 f b c (by omega) hf hb) ?_
 try simp only [go_sem,seval]
 generalize g19:l18++eO b=l19
 have n19:l19.length=l18.length+2:=by rw [←g19]; simp
 refine CA [] (vV l19 f b c (x.r) (0) (by omega)) ?_
 try simp only [go_sem,seval]
 generalize g20:l19++[⟨1,x.r,0,0,0⟩]=l20
 have n20:l20.length=l19.length+1:=by rw [←g20]; simp
 refine CA [] (vE x) ?_
 try simp only [go_sem,seval]
 simp only [hz]
 refine CA [] (bX l20 f b c (31) (by omega) hf (by omega)) ?_
 try simp only [go_sem,seval]
 generalize g21:l20++[⟨10,0,0,0,f+31⟩]=l21
 have n21:l21.length=l20.length+1:=by rw [←g21]; simp
 have hL:l21=l++cK f b c x:=by
  rw [←g21,←g20,←g19,←g18,←g17,←g16,←g15,←g14,←g13,←g12,←g11,←g10,←g9,←g8,←g7,←g6,←g5,←g4,←g3,←g2,←g1]
  simp [cK,hx,uM]
 rw [hL]
 refine ⟨_,Sub.refl _,yP (by decide) ?_⟩; simp [-qZ8]
theorem qQ1 (l:List yK) (f b c:Int) (x:Ins) (h:l.length<2^30) (hx:x.op=6) (hf:0≤f∧f<2^40) (hb:0≤b∧b<2^40):qU Tryz.prog num 266 [.ptr 0 0 0,.agg (gT x)] [(0,some (4,[emC .own ⟨l,f,b,c⟩]),some (4,[emC .own ⟨l++cJ f b c x,f,b,c⟩]))] (.tup []):=by
 refine EH m266 Tryz.func203 ?_
 unfold m266
 have hz:wJ x=30:=by simp [wJ,hx]
 have w4:IntKind.i64.wrap (b+4)=b+4:=wK (by omega) (by omega)
 simp only [go_sem,seval,hx]
 refine CA [] (zS l f b c (5) (2) (by omega) hb (by omega)) ?_
 try simp only [go_sem,seval]
 generalize g1:l++[⟨5,5,-1,0,b+2⟩]=l1
 have n1:l1.length=l.length+1:=by rw [←g1]; simp
 refine CA [] (dU l1 f b c (5) (22) (by omega) hf (by omega)) ?_
 try simp only [go_sem,seval]
 generalize g2:l1++[⟨11,0,5,0,f+22⟩]=l2
 have n2:l2.length=l1.length+1:=by rw [←g2]; simp
 refine CA [] (zS l2 f b c (4) (1) (by omega) hb (by omega)) ?_
 try simp only [go_sem,seval]
 repeat refine K ?_
 generalize g3:l2++[⟨5,4,-1,0,b+1⟩]=l3
 have n3:l3.length=l2.length+1:=by rw [←g3]; simp
 simp only [w4]
 apply uX
 ·refine Sub.trans (Sub.fold1 0 0 13 rfl (by simp [-gD]<;>omega) rfl (by decide) (by decide) rfl) ?_
  simp only [fS,fS2,qA,qC,zH (5) (x.r) (4) (0) (b+4),jH]
  exact Sub.refl _
 generalize g4:l3++[⟨5,x.r,4,0,b+4⟩]=l4
 have n4:l4.length=l3.length+1:=by rw [←g4]; simp
 refine CA [] (vV l4 f b c (7) (1) (by omega)) ?_
 try simp only [go_sem,seval]
 generalize g5:l4++[⟨1,7,0,0,1⟩]=l5
 have n5:l5.length=l4.length+1:=by rw [←g5]; simp
 refine CA [] (uK l5 f b c (2) (4) (4) (7) (by omega)) ?_
 try simp only [go_sem,seval]
 generalize g6:l5++[⟨2,4,4,7,0⟩]=l6
 have n6:l6.length=l5.length+1:=by rw [←g6]; simp
 refine CA [] (uK l6 f b c (3) (5) (5) (7) (by omega)) ?_
 try simp only [go_sem,seval]
 generalize g7:l6++[⟨3,5,5,7,0⟩]=l7
 have n7:l7.length=l6.length+1:=by rw [←g7]; simp
 refine CA [] (vV l7 f b c (7) (c) (by omega)) ?_
 try simp only [go_sem,seval]
 generalize g8:l7++[⟨1,7,0,0,c⟩]=l8
 have n8:l8.length=l7.length+1:=by rw [←g8]; simp
 refine CA [] (uK l8 f b c (4) (6) (4) (7) (by omega)) ?_
 try simp only [go_sem,seval]
 generalize g9:l8++[⟨4,6,4,7,0⟩]=l9
 have n9:l9.length=l8.length+1:=by rw [←g9]; simp
 refine CA [] (dU l9 f b c (6) (15) (by omega) hf (by omega)) ?_
 try simp only [go_sem,seval]
 generalize g10:l9++[⟨11,0,6,0,f+15⟩]=l10
 have n10:l10.length=l9.length+1:=by rw [←g10]; simp
 refine CA [] (bX l10 f b c (16) (by omega) hf (by omega)) ?_
 try simp only [go_sem,seval]
 generalize g11:l10++[⟨10,0,0,0,f+16⟩]=l11
 have n11:l11.length=l10.length+1:=by rw [←g11]; simp
 refine CA [] (vV l11 f b c (4) (0) (by omega)) ?_
 try simp only [go_sem,seval]
 generalize g12:l11++[⟨1,4,0,0,0⟩]=l12
 have n12:l12.length=l11.length+1:=by rw [←g12]; simp
 refine CA [] (eY l12 f b c (1) (4) (by omega) hb (by omega)) ?_
 try simp only [go_sem,seval]
 generalize g13:l12++[⟨6,0,-1,4,b+1⟩]=l13
 have n13:l13.length=l12.length+1:=by rw [←g13]; simp
 refine CA [] (eY l13 f b c (2) (5) (by omega) hb (by omega)) ?_
 try simp only [go_sem,seval]
 generalize g14:l13++[⟨6,0,-1,5,b+2⟩]=l14
 have n14:l14.length=l13.length+1:=by rw [←g14]; simp
 refine CA [] (zF l14 f b c (by omega) hf hb) ?_
 try simp only [go_sem,seval]
 generalize g15:l14++eO b=l15
 have n15:l15.length=l14.length+2:=by rw [←g15]; simp
 refine CA [] (vV l15 f b c (x.b) (1) (by omega)) ?_
 try simp only [go_sem,seval]
 generalize g16:l15++[⟨1,x.b,0,0,1⟩]=l16
 have n16:l16.length=l15.length+1:=by rw [←g16]; simp
 refine CA [] (vE x) ?_
 try simp only [go_sem,seval]
 simp only [hz]
 refine CA [] (bX l16 f b c (30) (by omega) hf (by omega)) ?_
 try simp only [go_sem,seval]
 generalize g17:l16++[⟨10,0,0,0,f+30⟩]=l17
 have n17:l17.length=l16.length+1:=by rw [←g17]; simp
 refine CA [] (zS l17 f b c (4) (3) (by omega) hb (by omega)) ?_
 try simp only [go_sem,seval]
 generalize g18:l17++[⟨5,4,-1,0,b+3⟩]=l18
 have n18:l18.length=l17.length+1:=by rw [←g18]; simp
 refine CA [] (zF l18 f b c (by omega) hf hb) ?_
 try simp only [go_sem,seval]
 generalize g19:l18++eO b=l19
 have n19:l19.length=l18.length+2:=by rw [←g19]; simp
 refine CA [] (dU l19 f b c (4) (29) (by omega) hf (by omega)) ?_
 try simp only [go_sem,seval]
 generalize g20:l19++[⟨11,0,4,0,f+29⟩]=l20
 have n20:l20.length=l19.length+1:=by rw [←g20]; simp
 refine CA [] (vV l20 f b c (x.r) (0) (by omega)) ?_
 try simp only [go_sem,seval]
 repeat refine K ?_
 generalize g21:l20++[⟨1,x.r,0,0,0⟩]=l21
 have n21:l21.length=l20.length+1:=by rw [←g21]; simp
 refine DA [] (xK false) ?_
 try simp only [go_sem,seval]
 repeat refine K ?_
 have w1:IntKind.i64.wrap (2*uM false)=0:=rfl
 try simp only [w1]
 refine DA [] (vV l21 f b c (x.b) (0) (by omega)) ?_
 try simp only [go_sem,seval]
 generalize g22:l21++[⟨1,x.b,0,0,0⟩]=l22
 have n22:l22.length=l21.length+1:=by rw [←g22]; simp
 refine CA [] (vE x) ?_
 try simp only [go_sem,seval]
 simp only [hz]
 refine CA [] (bX l22 f b c (30) (by omega) hf (by omega)) ?_
 try simp only [go_sem,seval]
 generalize g23:l22++[⟨10,0,0,0,f+30⟩]=l23
 have n23:l23.length=l22.length+1:=by rw [←g23]; simp
 refine CA [] (bX l23 f b c (0) (by omega) hf (by omega)) ?_
 try simp only [go_sem,seval]
 generalize g24:l23++[⟨10,0,0,0,f+0⟩]=l24
 have n24:l24.length=l23.length+1:=by rw [←g24]; simp
 have hL:l24=l++cJ f b c x:=by
  rw [←g24,←g23,←g22,←g21,←g20,←g19,←g18,←g17,←g16,←g15,←g14,←g13,←g12,←g11,←g10,←g9,←g8,←g7,←g6,←g5,←g4,←g3,←g2,←g1]
  simp [cJ,hx,uM]
 rw [hL]
 refine ⟨_,Sub.refl _,yP (by decide) ?_⟩; simp [-qZ8]
theorem qJt (l:List yK) (f b c:Int) (x:Ins) (h:l.length<2^30) (hx:x.op=8) (hf:0≤f∧f<2^40) (hb:0≤b∧b<2^40):qU Tryz.prog num 266 [.ptr 0 0 0,.agg (gT x)] [(0,some (4,[emC .own ⟨l,f,b,c⟩]),some (4,[emC .own ⟨l++cJ f b c x,f,b,c⟩]))] (.tup []):=by
 refine EH m266 Tryz.func203 ?_
 unfold m266
 have hz:wJ x=32:=by simp [wJ,hx]
 have w4:IntKind.i64.wrap (b+4)=b+4:=wK (by omega) (by omega)
 simp only [go_sem,seval,hx]
 refine CA [] (zS l f b c (5) (2) (by omega) hb (by omega)) ?_
 try simp only [go_sem,seval]
 generalize g1:l++[⟨5,5,-1,0,b+2⟩]=l1
 have n1:l1.length=l.length+1:=by rw [←g1]; simp
 refine CA [] (dU l1 f b c (5) (22) (by omega) hf (by omega)) ?_
 try simp only [go_sem,seval]
 generalize g2:l1++[⟨11,0,5,0,f+22⟩]=l2
 have n2:l2.length=l1.length+1:=by rw [←g2]; simp
 refine CA [] (zS l2 f b c (4) (1) (by omega) hb (by omega)) ?_
 try simp only [go_sem,seval]
 repeat refine K ?_
 generalize g3:l2++[⟨5,4,-1,0,b+1⟩]=l3
 have n3:l3.length=l2.length+1:=by rw [←g3]; simp
 simp only [w4]
 apply uX
 ·refine Sub.trans (Sub.fold1 0 0 13 rfl (by simp [-gD]<;>omega) rfl (by decide) (by decide) rfl) ?_
  simp only [fS,fS2,qA,qC,zH (5) (x.r) (4) (0) (b+4),jH]
  exact Sub.refl _
 generalize g4:l3++[⟨5,x.r,4,0,b+4⟩]=l4
 have n4:l4.length=l3.length+1:=by rw [←g4]; simp
 refine CA [] (vV l4 f b c (7) (1) (by omega)) ?_
 try simp only [go_sem,seval]
 generalize g5:l4++[⟨1,7,0,0,1⟩]=l5
 have n5:l5.length=l4.length+1:=by rw [←g5]; simp
 refine CA [] (uK l5 f b c (2) (4) (4) (7) (by omega)) ?_
 try simp only [go_sem,seval]
 generalize g6:l5++[⟨2,4,4,7,0⟩]=l6
 have n6:l6.length=l5.length+1:=by rw [←g6]; simp
 refine CA [] (uK l6 f b c (3) (5) (5) (7) (by omega)) ?_
 try simp only [go_sem,seval]
 generalize g7:l6++[⟨3,5,5,7,0⟩]=l7
 have n7:l7.length=l6.length+1:=by rw [←g7]; simp
 refine CA [] (vV l7 f b c (7) (c) (by omega)) ?_
 try simp only [go_sem,seval]
 generalize g8:l7++[⟨1,7,0,0,c⟩]=l8
 have n8:l8.length=l7.length+1:=by rw [←g8]; simp
 refine CA [] (uK l8 f b c (4) (6) (4) (7) (by omega)) ?_
 try simp only [go_sem,seval]
 generalize g9:l8++[⟨4,6,4,7,0⟩]=l9
 have n9:l9.length=l8.length+1:=by rw [←g9]; simp
 refine CA [] (dU l9 f b c (6) (15) (by omega) hf (by omega)) ?_
 try simp only [go_sem,seval]
 generalize g10:l9++[⟨11,0,6,0,f+15⟩]=l10
 have n10:l10.length=l9.length+1:=by rw [←g10]; simp
 refine CA [] (bX l10 f b c (16) (by omega) hf (by omega)) ?_
 try simp only [go_sem,seval]
 generalize g11:l10++[⟨10,0,0,0,f+16⟩]=l11
 have n11:l11.length=l10.length+1:=by rw [←g11]; simp
 refine CA [] (vV l11 f b c (4) (0) (by omega)) ?_
 try simp only [go_sem,seval]
 generalize g12:l11++[⟨1,4,0,0,0⟩]=l12
 have n12:l12.length=l11.length+1:=by rw [←g12]; simp
 refine CA [] (eY l12 f b c (1) (4) (by omega) hb (by omega)) ?_
 try simp only [go_sem,seval]
 generalize g13:l12++[⟨6,0,-1,4,b+1⟩]=l13
 have n13:l13.length=l12.length+1:=by rw [←g13]; simp
 refine CA [] (eY l13 f b c (2) (5) (by omega) hb (by omega)) ?_
 try simp only [go_sem,seval]
 generalize g14:l13++[⟨6,0,-1,5,b+2⟩]=l14
 have n14:l14.length=l13.length+1:=by rw [←g14]; simp
 refine CA [] (zF l14 f b c (by omega) hf hb) ?_
 try simp only [go_sem,seval]
 generalize g15:l14++eO b=l15
 have n15:l15.length=l14.length+2:=by rw [←g15]; simp
 refine CA [] (vV l15 f b c (x.b) (1) (by omega)) ?_
 try simp only [go_sem,seval]
 generalize g16:l15++[⟨1,x.b,0,0,1⟩]=l16
 have n16:l16.length=l15.length+1:=by rw [←g16]; simp
 refine CA [] (vE x) ?_
 try simp only [go_sem,seval]
 simp only [hz]
 refine CA [] (bX l16 f b c (32) (by omega) hf (by omega)) ?_
 try simp only [go_sem,seval]
 generalize g17:l16++[⟨10,0,0,0,f+32⟩]=l17
 have n17:l17.length=l16.length+1:=by rw [←g17]; simp
 refine CA [] (zS l17 f b c (4) (3) (by omega) hb (by omega)) ?_
 try simp only [go_sem,seval]
 generalize g18:l17++[⟨5,4,-1,0,b+3⟩]=l18
 have n18:l18.length=l17.length+1:=by rw [←g18]; simp
 refine CA [] (zF l18 f b c (by omega) hf hb) ?_
 try simp only [go_sem,seval]
 generalize g19:l18++eO b=l19
 have n19:l19.length=l18.length+2:=by rw [←g19]; simp
 refine CA [] (dU l19 f b c (4) (29) (by omega) hf (by omega)) ?_
 try simp only [go_sem,seval]
 generalize g20:l19++[⟨11,0,4,0,f+29⟩]=l20
 have n20:l20.length=l19.length+1:=by rw [←g20]; simp
 refine CA [] (vV l20 f b c (x.r) (0) (by omega)) ?_
 try simp only [go_sem,seval]
 repeat refine K ?_
 generalize g21:l20++[⟨1,x.r,0,0,0⟩]=l21
 have n21:l21.length=l20.length+1:=by rw [←g21]; simp
 refine DA [] (xK true) ?_
 try simp only [go_sem,seval]
 repeat refine K ?_
 have w1:IntKind.i64.wrap (2*uM true)=2:=rfl
 try simp only [w1]
 refine DA [] (vV l21 f b c (x.b) (2) (by omega)) ?_
 try simp only [go_sem,seval]
 generalize g22:l21++[⟨1,x.b,0,0,2⟩]=l22
 have n22:l22.length=l21.length+1:=by rw [←g22]; simp
 refine CA [] (vE x) ?_
 try simp only [go_sem,seval]
 simp only [hz]
 refine CA [] (bX l22 f b c (32) (by omega) hf (by omega)) ?_
 try simp only [go_sem,seval]
 generalize g23:l22++[⟨10,0,0,0,f+32⟩]=l23
 have n23:l23.length=l22.length+1:=by rw [←g23]; simp
 refine CA [] (vV l23 f b c (x.r) (0) (by omega)) ?_
 try simp only [go_sem,seval]
 generalize g24:l23++[⟨1,x.r,0,0,0⟩]=l24
 have n24:l24.length=l23.length+1:=by rw [←g24]; simp
 refine CA [] (vV l24 f b c (x.b) (0) (by omega)) ?_
 try simp only [go_sem,seval]
 generalize g25:l24++[⟨1,x.b,0,0,0⟩]=l25
 have n25:l25.length=l24.length+1:=by rw [←g25]; simp
 refine CA [] (vE x) ?_
 try simp only [go_sem,seval]
 simp only [hz]
 refine CA [] (bX l25 f b c (32) (by omega) hf (by omega)) ?_
 try simp only [go_sem,seval]
 generalize g26:l25++[⟨10,0,0,0,f+32⟩]=l26
 have n26:l26.length=l25.length+1:=by rw [←g26]; simp
 have hL:l26=l++cJ f b c x:=by
  rw [←g26,←g25,←g24,←g23,←g22,←g21,←g20,←g19,←g18,←g17,←g16,←g15,←g14,←g13,←g12,←g11,←g10,←g9,←g8,←g7,←g6,←g5,←g4,←g3,←g2,←g1]
  simp [cJ,hx,uM]
 rw [hL]
 refine ⟨_,Sub.refl _,yP (by decide) ?_⟩; simp [-qZ8]
theorem zP (r v:Int):qU Tryz.prog num 298 [.int .i64 r,.int .i64 v] [] (.agg (bV ⟨5,r,-1,0,v⟩)):=by
 refine EN m298 Tryz.func231 ?_
 unfold m298
 simp only [go_sem,seval]
 refine fz ?_; simp [wA,qR,qS,qN,-qZ8]
theorem eX (v k:Int):qU Tryz.prog num 299 [.int .i64 v,.int .i64 k] [] (.agg (bV ⟨6,0,-1,k,v⟩)):=by
 refine EN m299 Tryz.func232 ?_
 unfold m299
 simp only [go_sem,seval]
 refine fz ?_; simp [wA,qR,qS,qN,-qZ8]
theorem vO (r n:Int):qU Tryz.prog num 253 [.int .i64 r,.int .i64 n] [] (.agg (bV ⟨1,r,0,0,n⟩)):=by
 refine EN m253 Tryz.func207 ?_
 unfold m253
 simp only [go_sem,seval]
 refine fz ?_; simp [wA,qR,qS,qN,-qZ8]
theorem gZ (a n:Int):qU Tryz.prog num 256 [.int .i64 a,.int .i64 n] [] (.agg (bV ⟨11,0,a,0,n⟩)):=by
 refine EN m256 Tryz.func210 ?_
 unfold m256
 simp only [go_sem,seval]
 refine fz ?_; simp [wA,qR,qS,qN,-qZ8]
theorem bF (n:Int):qU Tryz.prog num 255 [.int .i64 n] [] (.agg (bV ⟨10,0,0,0,n⟩)):=by
 refine EN m255 Tryz.func209 ?_
 unfold m255
 simp only [go_sem,seval]
 refine fz ?_; simp [wA,qR,qS,qN,-qZ8]
theorem vI (op r a b:Int):qU Tryz.prog num 254 [.int .i64 op,.int .i64 r,.int .i64 a,.int .i64 b] [] (.agg (bV ⟨op,r,a,b,0⟩)):=by
 refine EN m254 Tryz.func208 ?_
 unfold m254
 simp only [go_sem,seval]
 refine fz ?_; simp [wA,qR,qS,qN,-qZ8]
theorem qSs (b:Int):(eO b).take 2=eO b:=rfl
theorem qPr (f b:Int):(gE f b).take 4=gE f b:=rfl
theorem qPf (f b:Int):(eT f b).take 5=eT f b:=rfl
attribute [local go_sem] qSs qPr qPf qO4 qCq qLv
theorem eK (b:Int):qU Tryz.prog num 300 [.int .i64 b] [] (.sl .own 5 (jE (eO b))):=by
 refine EN m300 Tryz.func233 ?_
 unfold m300
 simp only [go_sem,seval]
 refine CA [] (vO 7 0) ?_
 try simp only [go_sem,seval]
 refine ⟨_,Sub.refl _,jC ?_⟩; simp [-qZ8]
 simp [jE,eO,bV]
theorem mO (b f:Int) (hf:0≤f∧f<2^40):qU Tryz.prog num 296 [.int .i64 b,.int .i64 f] [] (.sl .own 5 (jE (gE f b))):=by
 have w1:IntKind.i64.wrap (f+4)=f+4:=wK (by omega) (by omega)
 refine EN m296 Tryz.func229 ?_
 unfold m296
 simp only [go_sem,seval]
 refine CA [] (vO 7 1) ?_
 try simp only [go_sem,seval]
 try simp only [go_sem,seval,w1]
 refine CA [] (gZ 6 (f+4)) ?_
 try simp only [go_sem,seval]
 refine CA [] (bF f) ?_
 try simp only [go_sem,seval]
 refine ⟨_,Sub.refl _,jC ?_⟩; simp [-qZ8]
 simp [jE,gE,bV]
theorem qBi (b f:Int) (hb:0≤b∧b<2^40) (hf:0≤f∧f<2^40):qU Tryz.prog num 297 [.int .i64 b,.int .i64 f] [] (.sl .own 5 (jE (eT f b))):=by
 have w1:IntKind.i64.wrap (f+9)=f+9:=wK (by omega) (by omega)
 have w2:IntKind.i64.wrap (b+3)=b+3:=wK (by omega) (by omega)
 refine EN m297 Tryz.func230 ?_
 unfold m297
 simp only [go_sem,seval,w2]
 refine CA [] (zP 4 (b+3)) ?_
 try simp only [go_sem,seval]
 try simp only [go_sem,seval,w1]
 refine CA [] (gZ 4 (f+9)) ?_
 try simp only [go_sem,seval]
 refine CA [] (eK b) ?_
 try simp only [go_sem,seval]
 repeat refine K ?_
 refine ⟨_,Sub.refl _,jC ?_⟩; simp [-qZ8]
 simp [jE,eT,bV]
theorem qO9 (b f:Int) (hb:0≤b∧b<2^40) (hf:0≤f∧f<2^40):qU Tryz.prog num 260 [.int .i64 b,.int .i64 f] [] (.sl .own 5 (jE (gE f b++cA f b))):=by
 have hf' :∀v:Int,0≤v→v<2^20→IntKind.i64.wrap (f+v)=f+v:=fun v h1 h2=>wK (by omega) (by omega)
 have hb' :∀v:Int,0≤v→v<2^20→IntKind.i64.wrap (b+v)=b+v:=fun v h1 h2=>wK (by omega) (by omega)
 have b3:=hb' 3 (by decide) (by decide)
 refine EN m260 Tryz.func213 ?_
 unfold m260
 simp only [go_sem,seval,b3]
 refine CA [] (mO b f hf) ?_
 try simp only [go_sem,seval]
 refine CA [] (qBi b f hb hf) ?_
 try simp only [go_sem,seval]
 repeat refine K ?_
 refine CA [] (vO 7 1) ?_
 try simp only [go_sem,seval]
 try simp only [go_sem,seval,b3]
 refine CA [] (eX (b+3) 7) ?_
 try simp only [go_sem,seval]
 repeat refine K ?_
 refine CA [] (eK b) ?_
 try simp only [go_sem,seval]
 repeat refine K ?_
 refine ⟨_,Sub.refl _,jC ?_⟩; simp [-qZ8]
 simp [jE,bV,gE,eT,eO,cA]
theorem qPx (x:Ins) (c:Int) (b f:Int) (hx:x.op=5) (hb:0≤b∧b<2^40) (hf:0≤f∧f<2^40):qU Tryz.prog num 258 [.agg (gT x),.int .i64 b,.int .i64 c,.int .i64 f] [] (.sl .own 5 (jE (gE f b++cK f b c x))):=by
 have hf' :∀v:Int,0≤v→v<2^20→IntKind.i64.wrap (f+v)=f+v:=fun v h1 h2=>wK (by omega) (by omega)
 have hb' :∀v:Int,0≤v→v<2^20→IntKind.i64.wrap (b+v)=b+v:=fun v h1 h2=>wK (by omega) (by omega)
 have f18:=hf' 18 (by decide) (by decide)
 have f19:=hf' 19 (by decide) (by decide)
 have f26:=hf' 26 (by decide) (by decide)
 have f29:=hf' 29 (by decide) (by decide)
 have b1:=hb' 1 (by decide) (by decide)
 have b2:=hb' 2 (by decide) (by decide)
 have b4:=hb' 4 (by decide) (by decide)
 have hz:wJ x=29:=by simp [wJ,hx]
 have hn:IntKind.i64.wrap (f+26+uM false)=f+26:=by rw [wK (by simp [uM]<;>omega) (by simp [uM]<;>omega)]; simp [uM]<;>omega
 refine EN m258 Tryz.func211 ?_
 unfold m258
 simp only [go_sem,seval,hx]
 refine CA [] (kJ false) ?_
 try simp only [go_sem,seval]
 try simp only [go_sem,seval,f18,f19,f26,f29,b1,b2,b4,hz,hn]
 refine CA [] (xJ x) ?_
 try simp only [go_sem,seval]
 try simp only [go_sem,seval,f18,f19,f26,f29,b1,b2,b4,hz,hn]
 refine CA [] (mO b f hf) ?_
 try simp only [go_sem,seval]
 refine CA [] (qBi b f hb hf) ?_
 try simp only [go_sem,seval]
 repeat refine K ?_
 try simp only [go_sem,seval,f18,f19,f26,f29,b1,b2,b4,hz,hn]
 refine CA [] (zP 5 (b+2)) ?_
 try simp only [go_sem,seval]
 refine CA [] (vO 7 c) ?_
 try simp only [go_sem,seval]
 refine CA [] (vI 4 6 5 7) ?_
 try simp only [go_sem,seval]
 refine CA [] (gZ 6 (f+26)) ?_
 try simp only [go_sem,seval]
 repeat refine K ?_
 try simp only [go_sem,seval,f18,f19,f26,f29,b1,b2,b4,hz,hn]
 refine CA [] (zP 4 (b+1)) ?_
 try simp only [go_sem,seval]
 refine CA [] (vI 2 4 4 5) ?_
 try simp only [go_sem,seval]
 refine CA [] (vI 4 6 4 7) ?_
 try simp only [go_sem,seval]
 try simp only [go_sem,seval,f18,f19,f26,f29,b1,b2,b4,hz,hn]
 refine CA [] (gZ 6 (f+18)) ?_
 try simp only [go_sem,seval]
 try simp only [go_sem,seval,f18,f19,f26,f29,b1,b2,b4,hz,hn]
 refine CA [] (bF (f+19)) ?_
 try simp only [go_sem,seval]
 refine CA [] (vI 3 4 4 7) ?_
 try simp only [go_sem,seval]
 repeat refine K ?_
 try simp only [go_sem,seval,f18,f19,f26,f29,b1,b2,b4,hz,hn]
 refine DA [] (vO 7 1) ?_
 try simp only [go_sem,seval]
 refine DA [] (vI 2 5 5 7) ?_
 try simp only [go_sem,seval]
 refine DA [] (eX (b+2) 5) ?_
 try simp only [go_sem,seval]
 repeat refine K ?_
 refine CA [] (eK b) ?_
 try simp only [go_sem,seval]
 repeat refine K ?_
 refine CA [] (bF (f+29)) ?_
 try simp only [go_sem,seval]
 repeat refine K ?_
 refine CA [] (eK b) ?_
 try simp only [go_sem,seval]
 repeat refine K ?_
 refine CA [] (bF f) ?_
 try simp only [go_sem,seval]
 repeat refine K ?_
 refine ⟨_,Sub.refl _,jC ?_⟩; simp [-qZ8]
 simp [jE,bV,gE,cK,eT,eO,hx,uM]
theorem qJm (x:Ins) (c:Int) (b f:Int) (hx:x.op=7) (hb:0≤b∧b<2^40) (hf:0≤f∧f<2^40):qU Tryz.prog num 258 [.agg (gT x),.int .i64 b,.int .i64 c,.int .i64 f] [] (.sl .own 5 (jE (gE f b++cK f b c x))):=by
 have hf' :∀v:Int,0≤v→v<2^20→IntKind.i64.wrap (f+v)=f+v:=fun v h1 h2=>wK (by omega) (by omega)
 have hb' :∀v:Int,0≤v→v<2^20→IntKind.i64.wrap (b+v)=b+v:=fun v h1 h2=>wK (by omega) (by omega)
 have f18:=hf' 18 (by decide) (by decide)
 have f19:=hf' 19 (by decide) (by decide)
 have f26:=hf' 26 (by decide) (by decide)
 have f27:=hf' 27 (by decide) (by decide)
 have f31:=hf' 31 (by decide) (by decide)
 have b1:=hb' 1 (by decide) (by decide)
 have b2:=hb' 2 (by decide) (by decide)
 have b4:=hb' 4 (by decide) (by decide)
 have hz:wJ x=31:=by simp [wJ,hx]
 have hn:IntKind.i64.wrap (f+26+uM true)=f+27:=by rw [wK (by simp [uM]<;>omega) (by simp [uM]<;>omega)]; simp [uM]<;>omega
 refine EN m258 Tryz.func211 ?_
 unfold m258
 simp only [go_sem,seval,hx]
 refine CA [] (kJ true) ?_
 try simp only [go_sem,seval]
 try simp only [go_sem,seval,f18,f19,f26,f27,f31,b1,b2,b4,hz,hn]
 refine CA [] (xJ x) ?_
 try simp only [go_sem,seval]
 try simp only [go_sem,seval,f18,f19,f26,f27,f31,b1,b2,b4,hz,hn]
 refine CA [] (mO b f hf) ?_
 try simp only [go_sem,seval]
 refine CA [] (qBi b f hb hf) ?_
 try simp only [go_sem,seval]
 repeat refine K ?_
 try simp only [go_sem,seval,f18,f19,f26,f27,f31,b1,b2,b4,hz,hn]
 refine CA [] (zP 5 (b+2)) ?_
 try simp only [go_sem,seval]
 refine CA [] (vO 7 c) ?_
 try simp only [go_sem,seval]
 refine CA [] (vI 4 6 5 7) ?_
 try simp only [go_sem,seval]
 refine CA [] (gZ 6 (f+27)) ?_
 try simp only [go_sem,seval]
 repeat refine K ?_
 try simp only [go_sem,seval,f18,f19,f26,f27,f31,b1,b2,b4,hz,hn]
 refine CA [] (zP 4 (b+1)) ?_
 try simp only [go_sem,seval]
 refine CA [] (vI 2 4 4 5) ?_
 try simp only [go_sem,seval]
 refine CA [] (vI 4 6 4 7) ?_
 try simp only [go_sem,seval]
 try simp only [go_sem,seval,f18,f19,f26,f27,f31,b1,b2,b4,hz,hn]
 refine CA [] (gZ 6 (f+18)) ?_
 try simp only [go_sem,seval]
 try simp only [go_sem,seval,f18,f19,f26,f27,f31,b1,b2,b4,hz,hn]
 refine CA [] (bF (f+19)) ?_
 try simp only [go_sem,seval]
 refine CA [] (vI 3 4 4 7) ?_
 try simp only [go_sem,seval]
 repeat refine K ?_
 try simp only [go_sem,seval,f18,f19,f26,f27,f31,b1,b2,b4,hz,hn]
 refine DA [] (vO 7 1) ?_
 try simp only [go_sem,seval]
 refine DA [] (vI 2 5 5 7) ?_
 try simp only [go_sem,seval]
 refine DA [] (eX (b+2) 5) ?_
 try simp only [go_sem,seval]
 repeat refine K ?_
 refine CA [] (eK b) ?_
 try simp only [go_sem,seval]
 repeat refine K ?_
 refine CA [] (vO x.r 1) ?_
 try simp only [go_sem,seval]
 refine CA [] (bF (f+31)) ?_
 try simp only [go_sem,seval]
 repeat refine K ?_
 refine CA [] (eK b) ?_
 try simp only [go_sem,seval]
 repeat refine K ?_
 refine CA [] (vO x.r 0) ?_
 try simp only [go_sem,seval]
 refine CA [] (bF (f+31)) ?_
 try simp only [go_sem,seval]
 repeat refine K ?_
 refine ⟨_,Sub.refl _,jC ?_⟩; simp [-qZ8]
 simp [jE,bV,gE,cK,eT,eO,hx,uM]
theorem qPw (x:Ins) (c:Int) (b f:Int) (hx:x.op=6) (hb:0≤b∧b<2^40) (hf:0≤f∧f<2^40):qU Tryz.prog num 259 [.agg (gT x),.int .i64 b,.int .i64 c,.int .i64 f] [] (.sl .own 5 (jE (gE f b++cJ f b c x))):=by
 have hf' :∀v:Int,0≤v→v<2^20→IntKind.i64.wrap (f+v)=f+v:=fun v h1 h2=>wK (by omega) (by omega)
 have hb' :∀v:Int,0≤v→v<2^20→IntKind.i64.wrap (b+v)=b+v:=fun v h1 h2=>wK (by omega) (by omega)
 have f15:=hf' 15 (by decide) (by decide)
 have f16:=hf' 16 (by decide) (by decide)
 have f22:=hf' 22 (by decide) (by decide)
 have f29:=hf' 29 (by decide) (by decide)
 have f30:=hf' 30 (by decide) (by decide)
 have b1:=hb' 1 (by decide) (by decide)
 have b2:=hb' 2 (by decide) (by decide)
 have b3:=hb' 3 (by decide) (by decide)
 have b4:=hb' 4 (by decide) (by decide)
 have hz:wJ x=30:=by simp [wJ,hx]
 refine EN m259 Tryz.func212 ?_
 unfold m259
 simp only [go_sem,seval,hx]
 refine CA [] (xJ x) ?_
 try simp only [go_sem,seval]
 repeat refine K ?_
 try simp only [go_sem,seval,f15,f16,f22,f29,f30,b1,b2,b3,b4,hz]
 refine DA [] (mO b f hf) ?_
 try simp only [go_sem,seval]
 refine DA [] (zP 5 (b+2)) ?_
 try simp only [go_sem,seval]
 refine DA [] (gZ 5 (f+22)) ?_
 try simp only [go_sem,seval]
 refine DA [] (zP 4 (b+1)) ?_
 try simp only [go_sem,seval]
 repeat refine K ?_
 refine CA [] (vO 7 1) ?_
 try simp only [go_sem,seval]
 refine CA [] (vI 2 4 4 7) ?_
 try simp only [go_sem,seval]
 refine CA [] (vI 3 5 5 7) ?_
 try simp only [go_sem,seval]
 refine CA [] (vO 7 c) ?_
 try simp only [go_sem,seval]
 refine CA [] (vI 4 6 4 7) ?_
 try simp only [go_sem,seval]
 try simp only [go_sem,seval,f15,f16,f22,f29,f30,b1,b2,b3,b4,hz]
 refine CA [] (gZ 6 (f+15)) ?_
 try simp only [go_sem,seval]
 try simp only [go_sem,seval,f15,f16,f22,f29,f30,b1,b2,b3,b4,hz]
 refine CA [] (bF (f+16)) ?_
 try simp only [go_sem,seval]
 refine CA [] (vO 4 0) ?_
 try simp only [go_sem,seval]
 repeat refine K ?_
 try simp only [go_sem,seval,f15,f16,f22,f29,f30,b1,b2,b3,b4,hz]
 refine CA [] (eX (b+1) 4) ?_
 try simp only [go_sem,seval]
 try simp only [go_sem,seval,f15,f16,f22,f29,f30,b1,b2,b3,b4,hz]
 refine CA [] (eX (b+2) 5) ?_
 try simp only [go_sem,seval]
 repeat refine K ?_
 refine CA [] (eK b) ?_
 try simp only [go_sem,seval]
 repeat refine K ?_
 refine CA [] (vO x.b 1) ?_
 try simp only [go_sem,seval]
 refine CA [] (bF (f+30)) ?_
 try simp only [go_sem,seval]
 try simp only [go_sem,seval,f15,f16,f22,f29,f30,b1,b2,b3,b4,hz]
 refine CA [] (zP 4 (b+3)) ?_
 try simp only [go_sem,seval]
 repeat refine K ?_
 refine CA [] (eK b) ?_
 try simp only [go_sem,seval]
 repeat refine K ?_
 try simp only [go_sem,seval,f15,f16,f22,f29,f30,b1,b2,b3,b4,hz]
 refine DA [] (gZ 4 (f+29)) ?_
 try simp only [go_sem,seval]
 refine DA [] (vO x.r 0) ?_
 try simp only [go_sem,seval]
 repeat refine K ?_
 refine CA [] (vO x.b 0) ?_
 try simp only [go_sem,seval]
 refine CA [] (bF (f+30)) ?_
 try simp only [go_sem,seval]
 refine CA [] (bF f) ?_
 try simp only [go_sem,seval]
 repeat refine K ?_
 refine ⟨_,Sub.refl _,jC ?_⟩; simp [-qZ8]
 simp [jE,bV,gE,cJ,eO,hx,uM]
theorem qJl (x:Ins) (c:Int) (b f:Int) (hx:x.op=8) (hb:0≤b∧b<2^40) (hf:0≤f∧f<2^40):qU Tryz.prog num 259 [.agg (gT x),.int .i64 b,.int .i64 c,.int .i64 f] [] (.sl .own 5 (jE (gE f b++cJ f b c x))):=by
 have hf' :∀v:Int,0≤v→v<2^20→IntKind.i64.wrap (f+v)=f+v:=fun v h1 h2=>wK (by omega) (by omega)
 have hb' :∀v:Int,0≤v→v<2^20→IntKind.i64.wrap (b+v)=b+v:=fun v h1 h2=>wK (by omega) (by omega)
 have f15:=hf' 15 (by decide) (by decide)
 have f16:=hf' 16 (by decide) (by decide)
 have f22:=hf' 22 (by decide) (by decide)
 have f29:=hf' 29 (by decide) (by decide)
 have f32:=hf' 32 (by decide) (by decide)
 have b1:=hb' 1 (by decide) (by decide)
 have b2:=hb' 2 (by decide) (by decide)
 have b3:=hb' 3 (by decide) (by decide)
 have b4:=hb' 4 (by decide) (by decide)
 have hz:wJ x=32:=by simp [wJ,hx]
 refine EN m259 Tryz.func212 ?_
 unfold m259
 simp only [go_sem,seval,hx]
 refine CA [] (xJ x) ?_
 try simp only [go_sem,seval]
 repeat refine K ?_
 try simp only [go_sem,seval,f15,f16,f22,f29,f32,b1,b2,b3,b4,hz]
 refine DA [] (mO b f hf) ?_
 try simp only [go_sem,seval]
 refine DA [] (zP 5 (b+2)) ?_
 try simp only [go_sem,seval]
 refine DA [] (gZ 5 (f+22)) ?_
 try simp only [go_sem,seval]
 refine DA [] (zP 4 (b+1)) ?_
 try simp only [go_sem,seval]
 repeat refine K ?_
 refine CA [] (vO 7 1) ?_
 try simp only [go_sem,seval]
 refine CA [] (vI 2 4 4 7) ?_
 try simp only [go_sem,seval]
 refine CA [] (vI 3 5 5 7) ?_
 try simp only [go_sem,seval]
 refine CA [] (vO 7 c) ?_
 try simp only [go_sem,seval]
 refine CA [] (vI 4 6 4 7) ?_
 try simp only [go_sem,seval]
 try simp only [go_sem,seval,f15,f16,f22,f29,f32,b1,b2,b3,b4,hz]
 refine CA [] (gZ 6 (f+15)) ?_
 try simp only [go_sem,seval]
 try simp only [go_sem,seval,f15,f16,f22,f29,f32,b1,b2,b3,b4,hz]
 refine CA [] (bF (f+16)) ?_
 try simp only [go_sem,seval]
 refine CA [] (vO 4 0) ?_
 try simp only [go_sem,seval]
 repeat refine K ?_
 try simp only [go_sem,seval,f15,f16,f22,f29,f32,b1,b2,b3,b4,hz]
 refine CA [] (eX (b+1) 4) ?_
 try simp only [go_sem,seval]
 try simp only [go_sem,seval,f15,f16,f22,f29,f32,b1,b2,b3,b4,hz]
 refine CA [] (eX (b+2) 5) ?_
 try simp only [go_sem,seval]
 repeat refine K ?_
 refine CA [] (eK b) ?_
 try simp only [go_sem,seval]
 repeat refine K ?_
 refine CA [] (vO x.b 1) ?_
 try simp only [go_sem,seval]
 refine CA [] (bF (f+32)) ?_
 try simp only [go_sem,seval]
 try simp only [go_sem,seval,f15,f16,f22,f29,f32,b1,b2,b3,b4,hz]
 refine CA [] (zP 4 (b+3)) ?_
 try simp only [go_sem,seval]
 repeat refine K ?_
 refine CA [] (eK b) ?_
 try simp only [go_sem,seval]
 repeat refine K ?_
 try simp only [go_sem,seval,f15,f16,f22,f29,f32,b1,b2,b3,b4,hz]
 refine DA [] (gZ 4 (f+29)) ?_
 try simp only [go_sem,seval]
 refine DA [] (vO x.r 0) ?_
 try simp only [go_sem,seval]
 repeat refine K ?_
 refine DA [] (vO x.b 2) ?_
 try simp only [go_sem,seval]
 refine DA [] (bF (f+32)) ?_
 try simp only [go_sem,seval]
 refine DA [] (vO x.r 0) ?_
 try simp only [go_sem,seval]
 refine DA [] (vO x.b 0) ?_
 try simp only [go_sem,seval]
 refine DA [] (bF (f+32)) ?_
 try simp only [go_sem,seval]
 repeat refine K ?_
 refine ⟨_,Sub.refl _,jC ?_⟩; simp [-qZ8]
 simp [jE,bV,gE,cJ,eO,hx,uM]
end Go.Sep
