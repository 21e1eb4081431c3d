/- Contracts of functions. -/
import Derived.Test.YtebbppogicgpkaaGreatJxx14
import Derived.Test.YtebbppogicgpkaaGreatJxx16
open Bool renaming and_eq_true → qWu, not_eq_false → qYo, not_eq_false' → qYm, not_eq_true → qYn, not_eq_true' → qYl
open List renaming drop_one → qYj, take_of_length_le → qX3
namespace Go.Sep
set_option maxHeartbeats 16000000
open Go.Proofs
set_option linter.unusedSimpArgs false
set_option linter.unusedVariables false
set_option maxRecDepth 100000
open Nat renaming reduceAdd → qA, reduceMul → qB, reduceEqDiff → qC, reduceBEq → qD
open Int renaming reduceToNat → qE, reduceEq → qF, reduceLT → qG, reduceLE → qH
open List renaming getD_eq_getElem?_getD → gD
def m162:MFn:=⟨70,[.t 2,.t 3],kr [xb 1 0,xo 2 (.mv (.c (.nil))),xF 3] (kr [xo 10 (.mkSl [.nil] 0 []),xv 4 10] (.seq (kr [xm 11 2 1,xc1 12 62 (.t 11),xN 13 12,xv 14 13,za 15 0 1 14,zl 16 1 15 14,xg 17 (.call 202 [false] [.t 16]) 14 false,zN 18 17 14,xQ 19 14 18] (kF 19 [xv 20 4,xv 2 20,xF 3])) (kr [xv 21 4,xv 5 21] (.seq (kr [xI 6 0] (.blk 0 (.loop (.seq (kr [xv 22 6,xa 23 1 1,xl 24 23,xe 25 24,bT 26 .lss 22 25] (kX 26 0)) (.seq (.blk 1 (kr [xm 29 2 1,xv 30 6,xc2 31 203 (.t 29) (.t 30),xv 7 31] (kr [xo 32 (.mkSl [xz,xz,xz,xz,xz] 0 []),xv 8 32] (.seq (kr [xI 9 0] (.blk 2 (.loop (.seq (kr [xv 33 9,xa 34 1 1,xl 35 34,xv 36 6,xD 37 1 35 36,xl 38 37,xe 39 38,bT 40 .lss 33 39] (kX 40 2)) (.seq (.blk 3 (.dreg (.take 0 (xv 43 8) (.take 1 (xa 44 0 1) (.take 2 (xl 45 44) (.take 3 (xa 46 1 1) (.take 4 (xl 47 46) (.take 5 (xv 48 6) (.take 6 (xD 49 1 47 48) (.take 7 (xl 50 49) (.take 8 (xv 51 9) (.take 9 (xD 52 5 50 51) (.take 10 (xm 53 5 52) (.take 11 (xv 54 7) (.take 12 (xv 55 9) (.take 13 (xD 56 1 54 55) (.take 14 (xl 57 56) (.only 15 [] (xv 58 7) (.only 16 [2,10,14,1,9,13,7,8,11,12,6,4,5,3] (xo 59 (.call 204 [false,false,false,false] [.t 45,.t 53,.t 57,.t 58])) (.only 17 [0,16,2,10,14,1,9,13,7,8,11,12,6,4,5,3] (xA 60 5 40 43 59) (.only 18 [0,1,2,3,4,5,6,7,8,9,10,11,12,13,14] (xv 8 60) (.done)))))))))))))))))))))) (xr [xv 41 9,bI 42 .add 41 1,xv 9 42])))))) (.seq (kr [xv 61 8,xc1 62 205 (.t 61),xN 63 62] (kF 63 [xo 64 (.mkSl [.nil] 0 []),xv 2 64,xF 3])) (xr [xv 65 5,xv 66 8,xo 67 (.mkSl [.nil] 1 [(0,.t 66)]),xA 68 1 24 65 67,xv 5 68])))))) (xr [xv 27 6,bI 28 .add 27 1,xv 6 28])))))) (kR [xv 69 5,xv 2 69,xT 3])))))⟩
def m163:MFn:=⟨65,[.t 2,.t 3],kr [xb 1 0,xo 2 (.mv (.c (.nil))),xF 3] (.seq (kr [xm 11 2 1,xc1 12 48 (.t 11),xN 13 12,xv 14 13,za 15 0 1 14,zl 16 1 15 14,ze 17 16 14,zI 18 .gtr 17 0 14,zv 19 18 14,ya 20 0 1 19,yl 21 1 20 19,xg 22 (.call 206 [false,false] [.t 21,xi 0]) 19 true,yI 23 .lss 22 0 19,xg 24 (.pick (.t 19) (.t 23) (.c (.bool false))) 14 false,xQ 25 14 24] (kF 25 [xo 2 (.mv (.c (.nil))),xF 3])) (kr [xo 26 (.mkSl [.nil] 0 []),xv 4 26] (.seq (kr [xa 27 1 1,xl 28 27,xe 29 28,xI 30 0] (.blk 0 (.loop (kr [bT 31 .lss 30 29] (.seq (kX 31 0) (.seq (.blk 1 (kr [xD 32 1 28 30,xl 33 32,xv 6 33] (kr [xv 34 6,xc1 35 207 (.t 34),xv 7 35] (kr [xo 36 (.mkSl [xz,xz,xz,xz,xz] 0 []),xv 8 36] (.seq (kr [xv 37 6,xe 38 37,xI 39 0] (.blk 2 (.loop (kr [bT 40 .lss 39 38] (.seq (kX 40 2) (.seq (.blk 3 (kr [xv 41 39,xD 42 5 37 39,xm 43 5 42,xo 10 (.alloc [xz,xz,xz,xz,xz]),xv 9 41,xS 5 10 43] (.dreg (.take 0 (xv 44 8) (.take 1 (xa 45 0 1) (.take 2 (xl 46 45) (.take 3 (xm 47 5 10) (.take 4 (xv 48 7) (.take 5 (xv 49 9) (.take 6 (xD 50 1 48 49) (.take 7 (xl 51 50) (.only 8 [] (xv 52 7) (.only 9 [2,3,7,1,6,4,5] (xo 53 (.call 208 [false,false,false,false] [.t 46,.t 47,.t 51,.t 52])) (.only 10 [0,9,2,3,7,1,6,4,5] (xA 54 5 40 44 53) (.only 11 [0,1,2,3,4,5,6,7] (xv 8 54) (.done)))))))))))))))) (xr [bI 55 .add 39 1,xv 39 55]))))))) (.seq (kr [xv 56 8,xc1 57 209 (.t 56),xN 58 57] (kF 58 [xo 2 (.mv (.c (.nil))),xF 3])) (xr [xv 59 4,xv 60 8,xo 61 (.mkSl [.nil] 1 [(0,.t 60)]),xA 62 1 24 59 61,xv 4 62]))))))) (xr [bI 63 .add 30 1,xv 30 63]))))))) (kR [xv 64 4,xv 2 64,xT 3]))))⟩
def m203:MFn:=⟨32,[.t 4],kr [xb 2 0,xo 4 (.mv (.c (.nil)))] (.seq (kr [xm 6 2 2,xc1 7 62 (.t 6),xN 8 7,xv 9 8,zv 10 1 9,za 11 1 2 9,zl 12 1 11 9,ze 13 12 9,zI 14 .sub 13 1 9,xg 15 (.call 64 [false,false,false] [.t 10,xi 0,.t 14]) 9 false,zN 16 15 9,xQ 17 9 16] (kF 17 [xo 18 (.mkSl [xz] 0 []),xv 4 18])) (kr [xa 19 1 2,xl 20 19,xv 21 1,xD 22 1 20 21,xl 23 22,xc1 24 252 (.t 23),xv 5 24] (kR [xo 25 (.mkSl [xz] 0 []),xv 26 5,xv 27 5,xe 28 27,bI 29 .sub 28 1,xo 30 (.cut 1 (.t 26) none (some (.t 29))),xA 31 1 8 25 30,xv 4 31])))⟩
def m204:MFn:=⟨126,[.t 8],kr [xb 5 1,xo 8 (.mv (.c (.nil)))] (kr [xo 11 (.mkSl [xz,xz,xz,xz,xz] 0 []),xv 9 11] (.seq (kr [xm 12 5 5,xv 13 3,xe 14 13,xv 15 0,xe 16 15,xc3 17 92 (.t 12) (.t 14) (.t 16),xN 18 17] (kF 18 [xv 19 9,xv 8 19])) (.seq (kr [xa 20 0 5,xl 21 20] (.blk 0 (kr [bI 23 .eql 21 1,xv 22 23] (.cond 22 (kR [xa 24 1 5,xl 25 24,xa 26 4 5,xl 27 26,xc2 28 253 (.t 25) (.t 27),xo 29 (.mkSl [xz,xz,xz,xz,xz] 1 [(0,.t 28)]),xv 8 29]) (kr [bI 31 .eql 21 2,xv 30 31] (.cond 30 (kR [xa 32 1 5,xl 33 32,xa 34 2 5,xl 35 34,xa 36 3 5,xl 37 36,xo 38 (.call 254 [false,false,false,false] [xi 2,.t 33,.t 35,.t 37]),xo 39 (.mkSl [xz,xz,xz,xz,xz] 1 [(0,.t 38)]),xv 8 39]) (kr [bI 41 .eql 21 3,xv 40 41] (.cond 40 (kR [xa 42 1 5,xl 43 42,xa 44 2 5,xl 45 44,xa 46 3 5,xl 47 46,xo 48 (.call 254 [false,false,false,false] [xi 3,.t 43,.t 45,.t 47]),xo 49 (.mkSl [xz,xz,xz,xz,xz] 1 [(0,.t 48)]),xv 8 49]) (kr [bI 51 .eql 21 4,xv 50 51] (.cond 50 (kR [xa 52 1 5,xl 53 52,xa 54 2 5,xl 55 54,xa 56 3 5,xl 57 56,xo 58 (.call 254 [false,false,false,false] [xi 4,.t 53,.t 55,.t 57]),xo 59 (.mkSl [xz,xz,xz,xz,xz] 1 [(0,.t 58)]),xv 8 59]) (kr [bI 61 .eql 21 10,xv 60 61] (.cond 60 (kR [xa 62 2 5,xl 63 62,xo 64 (.build [xz,xz,xz,xz,xz] [(0,1,xi 9),(2,1,.t 63)]),xo 65 (.mkSl [xz,xz,xz,xz,xz] 1 [(0,.t 64)]),xv 8 65]) (kr [bI 67 .eql 21 11,xv 66 67] (.cond 66 (kR [xv 68 3,xa 69 4 5,xl 70 69,xD 71 1 68 70,xl 72 71,xc1 73 255 (.t 72),xo 74 (.mkSl [xz,xz,xz,xz,xz] 1 [(0,.t 73)]),xv 8 74]) (kr [bI 76 .eql 21 12,xv 75 76] (.cond 75 (.seq (.dreg (.take 0 (xa 77 2 5) (.take 1 (xl 78 77) (.take 2 (xv 79 3) (.only 3 [] (xa 80 4 5) (.only 4 [] (xl 81 80) (.only 5 [2] (xD 82 1 79 81) (.only 6 [5,2] (xl 83 82) (.only 7 [1,6,0,5,2] (xc2 84 256 (.t 78) (.t 83)) (.only 8 [7,1,6,0,5,2] (xo 85 (.mkSl [xz,xz,xz,xz,xz] 1 [(0,.t 84)])) (.only 9 [0,1,2] (xv 8 85) (.done)))))))))))) (.ret)) (kr [bI 87 .eql 21 13,xv 86 87] (kF 86 [xo 88 (.build [xz,xz,xz,xz,xz] [(0,1,xi 12)]),xo 89 (.mkSl [xz,xz,xz,xz,xz] 1 [(0,.t 88)]),xv 8 89])))))))))))))))))) (kr [xv 90 0,xa 91 4 5,xl 92 91,xc2 93 257 (.t 90) (.t 92),xv 10 93] (.seq (kr [xv 94 10,bI 95 .lss 94 0] (kF 95 [xv 96 9,xv 8 96])) (.seq (kr [xa 97 0 5,xl 98 97] (.blk 1 (.seq (kr [bI 100 .eql 98 5,xv 99 100] (.cond 99 (.skip) (xr [bI 101 .eql 98 7,xv 99 101]))) (.cond 99 (.seq (.dreg (.take 0 (xm 102 5 5) (.take 1 (xv 103 10) (.take 2 (xv 104 0) (.take 3 (xa 105 4 5) (.take 4 (xl 106 105) (.take 5 (xD 107 1 104 106) (.take 6 (xl 108 107) (.only 7 [] (xv 109 2) (.only 8 [0,1,6,5,2,4,3] (xo 110 (.call 258 [false,false,false,false] [.t 102,.t 103,.t 108,.t 109])) (.only 9 [0,1,2,3,4,5,6] (xv 8 110) (.done)))))))))))) (.ret)) (.seq (kr [bI 112 .eql 98 6,xv 111 112] (.cond 111 (.skip) (xr [bI 113 .eql 98 8,xv 111 113]))) (.cond 111 (.seq (.dreg (.take 0 (xm 114 5 5) (.take 1 (xv 115 10) (.take 2 (xv 116 0) (.take 3 (xa 117 4 5) (.take 4 (xl 118 117) (.take 5 (xD 119 1 116 118) (.take 6 (xl 120 119) (.only 7 [] (xv 121 2) (.only 8 [0,1,6,5,2,4,3] (xo 122 (.call 259 [false,false,false,false] [.t 114,.t 115,.t 120,.t 121])) (.only 9 [0,1,2,3,4,5,6] (xv 8 122) (.done)))))))))))) (.ret)) (.skip))))))) (kR [xv 123 10,xv 124 2,xc2 125 260 (.t 123) (.t 124),xv 8 125])))))))⟩
def m205:MFn:=⟨39,[.t 2],kr [xF 2] (kr [xv 6 0,xe 7 6,xv 3 7] (.seq (kr [xv 8 3,xc3 9 64 (.t 8) (xi 1) (xi 800),xN 10 9] (kF 10 [xF 2])) (.seq (kr [xI 4 0] (.blk 0 (.loop (.seq (kr [xv 11 4,xv 12 3,bT 13 .lss 11 12] (kX 13 0)) (.seq (.blk 1 (kr [xv 16 0,xv 17 4,xD 18 5 16 17,xm 19 5 18,xv 20 3,xc2 21 261 (.t 19) (.t 20),xN 22 21] (kF 22 [xF 2]))) (xr [xv 14 4,bI 15 .add 14 1,xv 4 15])))))) (kr [xv 23 0,xv 24 3,bI 25 .sub 24 1,xD 26 5 23 25,xa 27 0 26,xl 28 27,xv 5 28] (kR [xv 29 5,bI 30 .eql 29 10,xv 31 30,zv 32 5 31,zI 33 .eql 32 12 31,xQ 34 31 33,xv 35 34,zv 36 5 35,zI 37 .eql 36 13 35,xQ 38 35 37,xv 2 38])))))⟩
def m208:MFn:=⟨63,[.t 8],kr [xb 5 1,xo 8 (.mv (.c (.nil)))] (.seq (kr [xm 11 5 5,xv 12 3,xe 13 12,xv 14 0,xe 15 14,xc3 16 88 (.t 11) (.t 13) (.t 15),xN 17 16] (kF 17 [xo 8 (.mv (.c (.nil)))])) (.seq (kr [xa 18 0 5,xl 19 18,xc1 20 44 (.t 19),xN 21 20] (kF 21 [xm 22 5 5,xv 23 3,xc2 24 263 (.t 22) (.t 23),xo 25 (.mkSl [xz,xz,xz,xz,xz] 1 [(0,.t 24)]),xv 8 25])) (kr [xv 26 0,xa 27 4 5,xl 28 27,xc2 29 206 (.t 26) (.t 28),xv 9 29] (.seq (kr [xv 30 9,bI 31 .lss 30 0] (kF 31 [xo 8 (.mv (.c (.nil)))])) (kr [xv 32 2,xv 33 9,xv 34 0,xa 35 4 5,xl 36 35,xD 37 1 34 36,xl 38 37,xo 39 (.build [.nil,.int .i64 0,.int .i64 0,.int .i64 0] [(1,1,.t 32),(2,1,.t 33),(3,1,.t 38)]),xb 40 39,xv 10 40] (kr [xv 41 10,xo 42 (.call 264 [true] [.t 41])] (.seq (kr [xa 43 0 5,xl 44 43] (.blk 0 (.seq (kr [bI 48 .eql 44 5,xv 47 48] (.cond 47 (.skip) (xr [bI 49 .eql 44 7,xv 47 49]))) (.cond 47 (xr [xv 50 10,xm 51 5 5,xo 52 (.call 265 [true,false] [.t 50,.t 51])]) (.seq (kr [bI 54 .eql 44 6,xv 53 54] (.cond 53 (.skip) (xr [bI 55 .eql 44 8,xv 53 55]))) (.cond 53 (xr [xv 56 10,xm 57 5 5,xo 58 (.call 266 [true,false] [.t 56,.t 57])]) (xr [xv 45 10,xo 46 (.call 267 [true] [.t 45])]))))))) (kR [xv 59 10,xk 60 59,xa 61 0 60,xl 62 61,xv 8 62]))))))))⟩
def m209:MFn:=⟨39,[.t 2],kr [xF 2] (.seq (kr [xv 6 0,xe 7 6,xc3 8 59 (.t 7) (xi 1) (xi 800),xN 9 8] (kF 9 [xF 2])) (.seq (kr [xv 10 0,xe 11 10,xI 12 0] (.blk 0 (.loop (kr [bT 13 .lss 12 11] (.seq (kX 13 0) (.seq (.blk 1 (kr [xD 14 5 10 12,xm 15 5 14,xo 4 (.alloc [xz,xz,xz,xz,xz]),xS 5 4 15] (kr [xm 16 5 4,xv 17 0,xe 18 17,xc2 19 268 (.t 16) (.t 18),xN 20 19] (kF 20 [xF 2])))) (xr [bI 21 .add 12 1,xv 12 21]))))))) (kr [xv 22 0,xv 23 0,xe 24 23,bI 25 .sub 24 1,xD 26 5 22 25,xa 27 0 26,xl 28 27,xv 5 28] (kR [xv 29 5,bI 30 .eql 29 10,xv 31 30,zv 32 5 31,zI 33 .eql 32 12 31,xQ 34 31 33,xv 35 34,zv 36 5 35,zI 37 .eql 36 13 35,xQ 38 35 37,xv 2 38]))))⟩
def m263:MFn:=⟨65,[.cell 4 5 true],kr [xb 2 0,xo 4 (.alloc [xz,xz,xz,xz,xz])] (.seq (kr [xa 5 0 2,xl 6 5] (.blk 0 (kr [bI 8 .eql 6 1,xv 7 8] (.cond 7 (kR [xa 9 1 2,xl 10 9,xa 11 4 2,xl 12 11,xo 13 (.build [xz,xz,xz,xz,xz] [(0,1,xi 1),(1,1,.t 10),(4,1,.t 12)]),xS 5 4 13]) (kr [bI 15 .eql 6 2,xv 14 15] (.cond 14 (kR [xa 16 1 2,xl 17 16,xa 18 2 2,xl 19 18,xa 20 3 2,xl 21 20,xo 22 (.build [xz,xz,xz,xz,xz] [(0,1,xi 2),(1,1,.t 17),(2,1,.t 19),(3,1,.t 21)]),xS 5 4 22]) (kr [bI 24 .eql 6 3,xv 23 24] (.cond 23 (kR [xa 25 1 2,xl 26 25,xa 27 2 2,xl 28 27,xa 29 3 2,xl 30 29,xo 31 (.build [xz,xz,xz,xz,xz] [(0,1,xi 3),(1,1,.t 26),(2,1,.t 28),(3,1,.t 30)]),xS 5 4 31]) (kr [bI 33 .eql 6 4,xv 32 33] (.cond 32 (kR [xa 34 1 2,xl 35 34,xa 36 2 2,xl 37 36,xa 38 3 2,xl 39 38,xo 40 (.build [xz,xz,xz,xz,xz] [(0,1,xi 4),(1,1,.t 35),(2,1,.t 37),(3,1,.t 39)]),xS 5 4 40]) (kr [bI 42 .eql 6 10,xv 41 42] (.cond 41 (kR [xa 43 2 2,xl 44 43,xo 45 (.build [xz,xz,xz,xz,xz] [(0,1,xi 9),(2,1,.t 44)]),xS 5 4 45]) (kr [bI 47 .eql 6 11,xv 46 47] (.cond 46 (kR [xv 48 1,xa 49 4 2,xl 50 49,xD 51 1 48 50,xl 52 51,xo 53 (.build [xz,xz,xz,xz,xz] [(0,1,xi 10),(4,1,.t 52)]),xS 5 4 53]) (kr [bI 55 .eql 6 12,xv 54 55] (.cond 54 (.seq (.dreg (.take 0 (xa 56 2 2) (.take 1 (xl 57 56) (.take 2 (xv 58 1) (.only 3 [] (xa 59 4 2) (.only 4 [] (xl 60 59) (.only 5 [2] (xD 61 1 58 60) (.only 6 [5,2] (xl 62 61) (.only 7 [1,6,0,5,2] (xo 63 (.build [xz,xz,xz,xz,xz] [(0,1,xi 11),(2,1,.t 57),(4,1,.t 62)])) (.only 8 [0,1,2] (xS 5 4 63) (.done))))))))))) (.ret)) (.skip))))))))))))))))) (kR [xo 64 (.build [xz,xz,xz,xz,xz] [(0,1,xi 12)]),xS 5 4 64]))⟩
def pP (l:List yH):Int:=(l.getD (l.length-1) default).op
def bZ (l:List yH):Bool:=qO l.length 1 800&&l.all (fun s=>yW s l.length)&&(decide (pP l=10)||decide (pP l=12)||decide (pP l=13))
def gF (p:wU):List (List yH)×Bool :=
 if jU p&&bV p.caps&&p.bods.all (fun b=>bZ (comp p.caps b)) then (p.bods.map (comp p.caps),true) else ([],false)
theorem qIe (p:wU) (k:Nat) (h1:p.caps.length<2^40) (h2:p.bods.length<2^40) (h3 :∀b∈p.bods,b.length<2^40) (hp:jU p=true) (hk:k<p.bods.length):qU Tryz.prog num 203 [.agg (yT .bw p),.int .i64 k] [] (.sl .own 1 (wQ (yY (p.bods.getD k [])))):=by
 have w1:IntKind.i64.wrap ((p.bods.length:Int)-1)=p.bods.length-1:=wM (by omega) (by omega)
 have hw:qO (k:Int) 0 (p.bods.length-1)=true:=by rw [qP]; omega
 have hb:=h3 _ (wZ p.bods k [] hk)
 refine EN m203 Tryz.func180 ?_
 unfold m203
 simp only [go_sem,seval]
 refine CA [] (aZ p (by omega) (by omega) (fun b hb=>by have:=h3 b hb; omega)) ?_
 try simp only [go_sem,seval]
 try simp only [go_sem,seval,hp,w1]
 refine CA [] (yM k 0 (p.bods.length-1)) ?_
 try simp only [go_sem,seval]
 try simp only [go_sem,seval,hw,qZ .bw p.bods k hk]
 repeat refine K ?_
 refine CA [] (qC2 (p.bods.getD k []) hb) ?_
 try simp only [go_sem,seval]
 have w2:IntKind.i64.wrap (((p.bods.getD k []).length+1:Nat)-1:Int)=(p.bods.getD k []).length:=by rw [wM (by omega) (by omega)]; omega
 try simp only [go_sem,seval,jQ,w2]
 repeat refine K ?_
 refine ⟨_,Sub.refl _,yR ?_⟩; simp [-qYj]
 rw [qKp _ _ _ (by omega)]
 rfl
theorem qAa (l:List yH) (hl:l.length<2^40):qU Tryz.prog num 209 [.sl .bw 5 (jB l)] [] (.bool (bZ l)):=by
 refine EN m209 Tryz.func93 ?_
 unfold m209
 simp only [go_sem,seval]
 refine CA [] (yD l.length 1 800) ?_
 try simp only [go_sem,seval]
 cases hw2:qO l.length 1 800
 ·try simp only [go_sem,seval,hw2]
  refine fz ?_; simp [qX,qQ,qR,qL,-qYj]
  simp [bZ,hw2]
 try simp only [go_sem,seval,hw2]
 refine wB (ι:=Nat) (fun i=>.mk [(0,.sl .bw 5 (jB l)),(10,.sl .bw 5 (jB l)),(11,.int .i64 l.length),(12,.int .i64 i)] [] 10) (fun i=>i≤l.length∧(l.take i).all (fun x=>yW x l.length)=true) (fun i=>l.length-i) 0 (by simp) ?_ ?_
 ·refine Sub.shape [] id (by omega) ?_ ?_ ?_ ?_<;>simp [qN]
 ·rintro i ⟨hi,hp⟩
  simp only [go_sem,seval]
  refine qM (fun hc=>?_) (fun hc=>?_)
  ·simp only [decide_eq_true_eq] at hc
   have hl':i<l.length:=by omega
   simp only [go_sem,seval,aK l i hl']
   repeat refine K ?_
   refine CA [] (qIr (l.getD i default) l.length) ?_
   try simp only [go_sem,seval]
   cases hw3:yW (l.getD i default) l.length
   ·try simp only [go_sem,seval,hw3]
    refine fz ?_; simp [qX,qQ,qR,qL,-qYj]
    simp only [bZ]
    rw [bQ (p:=fun x=>yW x l.length) hl' hw3]
    simp
   ·try simp only [go_sem,seval,hw3,qW (i:=i) (by omega)]
    refine qV (i+1) (Sub.shape [] id (by omega) ?_ ?_ ?_ ?_) ?_ ?_
    any_goals (first | omega | (simp [qN]; done))
    exact ⟨hl',gI (p:=fun x=>yW x l.length) hp hl' hw3⟩
  ·simp only [decide_eq_false_iff_not] at hc
   have hlen:1≤l.length:=by rw [qP] at hw2; omega
   have ht:Int.toNat ((l.length:Int)-1)=l.length-1:=by omega
   have hwr:IntKind.i64.wrap ((l.length:Int)-1)=(l.length:Int)-1:=wM (by omega) (by omega)
   have he:=zV hp hc
   simp only [go_sem,seval,hwr,ht,aK l (l.length-1) (by omega)]
   repeat refine K ?_
   by_cases hx:(l.getD (l.length-1) default).op=10
   ·try simp only [go_sem,seval,hx]
    refine fz ?_; simp [qX,qQ,qR,qL,-qYj]
    simp only [bZ,hw2,he,pP,hx]
    rfl
   by_cases hy:(l.getD (l.length-1) default).op=12
   ·try simp only [go_sem,seval,hx,hy]
    refine fz ?_; simp [qX,qQ,qR,qL,-qYj]
    simp only [bZ,hw2,he,pP,hy]
    rfl
   try simp only [go_sem,seval,hx,hy]
   refine fz ?_; simp [qX,qQ,qR,qL,-qYj]
   simp only [bZ,hw2,he,pP,hx,hy]
   simp
theorem qA0 (l:List yH) (hl:l.length<2^40):qU Tryz.prog num 205 [.sl .bw 5 (jB l)] [] (.bool (bZ l)):=by
 refine EN m205 Tryz.func106 ?_
 unfold m205
 simp only [go_sem,seval]
 refine CA [] (yM l.length 1 800) ?_
 try simp only [go_sem,seval]
 cases hw2:qO l.length 1 800
 ·try simp only [go_sem,seval,hw2]
  refine fz ?_; simp [qX,qQ,qR,qL,-qYj]
  simp [bZ,hw2]
 try simp only [go_sem,seval,hw2]
 refine wB (ι:=Nat) (fun i=>.mk [(0,.sl .bw 5 (jB l)),(3,.int .i64 l.length),(4,.int .i64 i)] [] 10) (fun i=>i≤l.length∧(l.take i).all (fun x=>yW x l.length)=true) (fun i=>l.length-i) 0 (by simp) ?_ ?_
 ·refine Sub.shape [] id (by omega) ?_ ?_ ?_ ?_<;>simp [qN]
 ·rintro i ⟨hi,hp⟩
  simp only [go_sem,seval]
  refine qM (fun hc=>?_) (fun hc=>?_)
  ·simp only [decide_eq_true_eq] at hc
   have hl':i<l.length:=by omega
   simp only [go_sem,seval,aK l i hl']
   repeat refine K ?_
   refine CA [] (qId (l.getD i default) l.length) ?_
   try simp only [go_sem,seval]
   cases hw3:yW (l.getD i default) l.length
   ·try simp only [go_sem,seval,hw3]
    refine fz ?_; simp [qX,qQ,qR,qL,-qYj]
    simp only [bZ]
    rw [bQ (p:=fun x=>yW x l.length) hl' hw3]
    simp
   ·try simp only [go_sem,seval,hw3,qW (i:=i) (by omega)]
    refine qV (i+1) (Sub.shape [] id (by omega) ?_ ?_ ?_ ?_) ?_ ?_
    any_goals (first | omega | (simp [qN]; done))
    exact ⟨hl',gI (p:=fun x=>yW x l.length) hp hl' hw3⟩
  ·simp only [decide_eq_false_iff_not] at hc
   have hlen:1≤l.length:=by rw [qP] at hw2; omega
   have ht:Int.toNat ((l.length:Int)-1)=l.length-1:=by omega
   have hwr:IntKind.i64.wrap ((l.length:Int)-1)=(l.length:Int)-1:=wM (by omega) (by omega)
   have he:=zV hp hc
   simp only [go_sem,seval,hwr,ht,aK l (l.length-1) (by omega)]
   repeat refine K ?_
   by_cases hx:(l.getD (l.length-1) default).op=10
   ·try simp only [go_sem,seval,hx]
    refine fz ?_; simp [qX,qQ,qR,qL,-qYj]
    simp only [bZ,hw2,he,pP,hx]
    rfl
   by_cases hy:(l.getD (l.length-1) default).op=12
   ·try simp only [go_sem,seval,hx,hy]
    refine fz ?_; simp [qX,qQ,qR,qL,-qYj]
    simp only [bZ,hw2,he,pP,hy]
    rfl
   try simp only [go_sem,seval,hx,hy]
   refine fz ?_; simp [qX,qQ,qR,qL,-qYj]
   simp only [bZ,hw2,he,pP,hx,hy]
   simp
theorem qH6 {x:Ins} {pl ch:Int} (h:zA x pl ch=true) (ho:x.op=11∨x.op=12):0≤x.n∧x.n<pl:=by
 unfold zA at h
 rcases ho with ho | ho
 ·simp [ho] at h
  omega
 ·simp [ho] at h
  omega
theorem qOs {x:Ins} {pl ch:Int} (h:zA x pl ch=true) (ho:qO x.op 5 9=true):0≤x.n∧x.n<ch:=by
 rw [qP] at ho
 unfold zA at h
 obtain e | e | e | e | e:x.op=5∨x.op=6∨x.op=7∨x.op=8∨x.op=9:=by omega
 all_goals
  simp [e,qP] at h
  omega
theorem qR7 (x:Ins) (starts:List Int) (h:x.op=11∨x.op=12→0≤x.n∧x.n.toNat<starts.length):qU Tryz.prog num 263 [.agg (cJ x),.sl .bw 1 (wQ starts)] [] (.agg (bU (single x starts))):=by
 refine EN m263 Tryz.func200 ?_
 unfold m263
 by_cases hj:x.op=11∨x.op=12
 ·obtain ⟨n0,n1⟩:=h hj
  have g:=qI starts x.n.toNat n1
  rcases hj with hj | hj
  ·simp only [go_sem,seval,hj,g]
   repeat refine K ?_
   refine fz ?_; simp [qX,qQ,qR,qL,-qYj]
   all_goals simp [single,hj]
  ·simp only [go_sem,seval,hj,g]
   repeat refine K ?_
   refine fz ?_; simp [qX,qQ,qR,qL,-qYj]
   all_goals simp [single,hj]
 ·have e11 :¬x.op=11:=fun e=>hj (.inl e)
  have e12 :¬x.op=12:=fun e=>hj (.inr e)
  repeat' (first
   | (simp only [go_sem,seval,e11,e12])
   | (refine qM (fun hc=>?_) (fun hc=>?_)<;>((try simp only [qYl,qYm,ne_eq,qYn,qYo] at hc)<;>(try simp only [hc])))
   | (refine uH (fun hc=>?_) (fun hc=>?_)<;>((try simp only [qYl,qYm,ne_eq,qYn,qYo] at hc)<;>(try simp only [hc])))
   | (refine vP (fun hc=>?_) (fun hc=>?_)<;>((try simp only [qYl,qYm,ne_eq,qYn,qYo] at hc)<;>(try simp only [hc])))
   | (refine ⟨by first | omega | (simp; done),?_⟩)
   | fail)
  all_goals (refine fz ?_; simp [qX,qQ,qR,qL,-qYj])
  all_goals (try (simp_all [single]; done))
theorem qNb (caps:List Int) (x:Ins) (f:Int) (starts:List Int) (hl:caps.length<2^40) (hs:starts.length<2^40) (hf:0≤f∧f<2^40) :
  qU Tryz.prog num 208 [.sl .bw 1 (wQ caps),.agg (cJ x),.int .i64 f,.sl .bw 1 (wQ starts)] [] (.sl .own 5 (jB (hD caps x f starts))):=by
 refine EN m208 Tryz.func167 ?_
 unfold m208
 simp only [go_sem,seval]
 refine CA [] (qCa x starts.length caps.length (by omega) (by omega) (by omega) (by omega)) ?_
 try simp only [go_sem,seval]
 cases ho:zA x starts.length caps.length
 ·try simp only [go_sem,seval,ho]
  refine ⟨_,Sub.refl _,yR ?_⟩; simp [-qYj]
  simp [hD,ho,jB]
 try simp only [go_sem,seval,ho]
 refine CA [] (qDf x.op) ?_
 try simp only [go_sem,seval]
 cases hch:qO x.op 5 9
 ·have hj:=fun h=>qH6 ho h
  try simp only [go_sem,seval,hch]
  refine CA [] (qR7 x starts (fun h=>by have:=hj h; omega)) ?_
  try simp only [go_sem,seval]
  refine ⟨_,Sub.refl _,yR ?_⟩; simp [-qYj]
  simp [hD,ho,hch,jB,bU]
 try simp only [go_sem,seval,hch]
 refine CA [] (kB caps x.n hl) ?_
 try simp only [go_sem,seval]
 by_cases hb:base caps x.n<0
 ·try simp only [go_sem,seval,hb]
  refine ⟨_,Sub.refl _,yR ?_⟩; simp [-qYj]
  simp [hD,ho,hch,hb,jB]
 obtain ⟨n0,n1,_,b0,b1,b2⟩:=aR hb
 rw [qP] at b2
 have he:hD caps x f starts=gC f (base caps x.n)++(if x.op=5∨x.op=7 then cD f (base caps x.n) (caps.getD x.n.toNat 0) x else if x.op=6∨x.op=8 then cC f (base caps x.n) (caps.getD x.n.toNat 0) x else eT f (base caps x.n)):=by
  unfold hD
  rw [if_pos ho,if_pos hch,if_neg hb]
 try simp only [go_sem,seval,hb,qI caps x.n.toNat n1]
 repeat refine K ?_
 rw [he]
 generalize base caps x.n=b at *
 generalize caps.getD x.n.toNat 0=c at *
 clear he
 apply uU
 ·refine Sub.trans (Sub.nilLast 11 (front:=[]) (r':=emC .own ⟨[],f,b,c⟩) rfl (by simp [jB]) (by simp [jS,vI,bnd])) ?_
  simp only [put,qC,if_true,if_false]
  exact Sub.refl _
 refine CA [(0,11)] (qOy [] f b c (by simp) hf ⟨b0,by omega⟩) ?_
 try simp only [go_sem,seval]
 have hop:=qP.1 hch
 have hll:(gC f b).length<2^30:=by rw [qC0]; omega
 by_cases h5:x.op=5
 ·try simp only [go_sem,seval,h5]
  refine CA [(0,11)] (qOx (gC f b) f b c x hll h5 hf ⟨b0,by omega⟩) ?_
  try simp only [go_sem,seval]
  refine ⟨_,Sub.refl _,yR ?_⟩; simp [-qYj]
  try simp [h5]
 by_cases h7:x.op=7
 ·try simp only [go_sem,seval,h5,h7]
  refine CA [(0,11)] (qIv (gC f b) f b c x hll h7 hf ⟨b0,by omega⟩) ?_
  try simp only [go_sem,seval]
  refine ⟨_,Sub.refl _,yR ?_⟩; simp [-qYj]
  try simp [h7]
 by_cases h6:x.op=6
 ·try simp only [go_sem,seval,h5,h6,h7]
  refine CA [(0,11)] (qOw (gC f b) f b c x hll h6 hf ⟨b0,by omega⟩) ?_
  try simp only [go_sem,seval]
  refine ⟨_,Sub.refl _,yR ?_⟩; simp [-qYj]
  try simp [h6]
 by_cases h8:x.op=8
 ·try simp only [go_sem,seval,h5,h6,h7,h8]
  refine CA [(0,11)] (qIu (gC f b) f b c x hll h8 hf ⟨b0,by omega⟩) ?_
  try simp only [go_sem,seval]
  refine ⟨_,Sub.refl _,yR ?_⟩; simp [-qYj]
  try simp [h8]
 try simp only [go_sem,seval,h5,h6,h7,h8]
 refine CA [(0,11)] (qNd (gC f b) f b c hll hf ⟨b0,by omega⟩) ?_
 try simp only [go_sem,seval]
 refine ⟨_,Sub.refl _,yR ?_⟩; simp [-qYj]
 try simp [h5,h6,h7,h8]
theorem qM1 (caps:List Int) (x:Ins) (f:Int) (starts:List Int) (hl:caps.length<2^40) (hs:starts.length<2^40) (hf:0≤f∧f<2^40) :
  qU Tryz.prog num 204 [.sl .bw 1 (wQ caps),.agg (cJ x),.int .i64 f,.sl .bw 1 (wQ starts)] [] (.sl .own 5 (jB (hD caps x f starts))):=by
 refine EN m204 Tryz.func181 ?_
 unfold m204
 simp only [go_sem,seval]
 refine CA [] (qBl x starts.length caps.length (by omega) (by omega)) ?_
 try simp only [go_sem,seval]
 cases ho:zA x starts.length caps.length
 ·try simp only [go_sem,seval,ho]
  refine ⟨_,Sub.refl _,yR ?_⟩; simp [-qYj]
  simp [hD,ho,jB]
 try simp only [go_sem,seval,ho]
 have hop:=qP.1 (sJ ho).1
 cases hch:qO x.op 5 9
 ·have hj:=fun h=>qH6 ho h
  have hno :¬(5≤x.op∧x.op≤9):=fun h=>by rw [←qP] at h; rw [h] at hch; simp at hch
  have he:hD caps x f starts=[single x starts]:=by
   unfold hD
   rw [if_pos ho,hch]
   rfl
  rw [he]
  obtain e | e | e | e | e | e | e | e:x.op=1∨x.op=2∨x.op=3∨x.op=4∨x.op=10∨x.op=11∨x.op=12∨x.op=13:=by omega
  ·try simp only [go_sem,seval,e]
   refine CA [] (vL x.r x.n) ?_
   try simp only [go_sem,seval]
   refine ⟨_,Sub.refl _,yR ?_⟩; simp [-qYj]
   simp [jB,bU,single,e]
  ·try simp only [go_sem,seval,e]
   refine CA [] (vF 2 x.r x.a x.b) ?_
   try simp only [go_sem,seval]
   refine ⟨_,Sub.refl _,yR ?_⟩; simp [-qYj]
   simp [jB,bU,single,e]
  ·try simp only [go_sem,seval,e]
   refine CA [] (vF 3 x.r x.a x.b) ?_
   try simp only [go_sem,seval]
   refine ⟨_,Sub.refl _,yR ?_⟩; simp [-qYj]
   simp [jB,bU,single,e]
  ·try simp only [go_sem,seval,e]
   refine CA [] (vF 4 x.r x.a x.b) ?_
   try simp only [go_sem,seval]
   refine ⟨_,Sub.refl _,yR ?_⟩; simp [-qYj]
   simp [jB,bU,single,e]
  ·try simp only [go_sem,seval,e]
   refine ⟨_,Sub.refl _,yR ?_⟩; simp [-qYj]
   simp [jB,bU,single,e]
  ·have hj':=hj (.inl e)
   try simp only [go_sem,seval,e,qI starts x.n.toNat (by omega)]
   repeat refine K ?_
   refine CA [] (bD (starts.getD x.n.toNat 0)) ?_
   try simp only [go_sem,seval]
   refine ⟨_,Sub.refl _,yR ?_⟩; simp [-qYj]
   simp [jB,bU,single,e]
  ·have hj':=hj (.inr e)
   try simp only [go_sem,seval,e,qI starts x.n.toNat (by omega)]
   repeat refine K ?_
   refine DA [] (gW x.a (starts.getD x.n.toNat 0)) ?_
   try simp only [go_sem,seval]
   refine ⟨_,Sub.refl _,yR ?_⟩; simp [-qYj]
   simp [jB,bU,single,e]
  ·try simp only [go_sem,seval,e]
   refine ⟨_,Sub.refl _,yR ?_⟩; simp [-qYj]
   simp [jB,bU,single,e]
 have hop9:=qP.1 hch
 have e1 :¬x.op=1:=by omega
 have e2 :¬x.op=2:=by omega
 have e3 :¬x.op=3:=by omega
 have e4 :¬x.op=4:=by omega
 have e10 :¬x.op=10:=by omega
 have e11 :¬x.op=11:=by omega
 have e12 :¬x.op=12:=by omega
 have e13 :¬x.op=13:=by omega
 try simp only [go_sem,seval,e1,e2,e3,e4,e10,e11,e12,e13]
 refine CA [] (mN caps x.n hl) ?_
 try simp only [go_sem,seval]
 by_cases hb:base caps x.n<0
 ·try simp only [go_sem,seval,hb]
  refine ⟨_,Sub.refl _,yR ?_⟩; simp [-qYj]
  simp [hD,ho,hch,hb,jB]
 obtain ⟨n0,n1,_,b0,b1,b2⟩:=aR hb
 rw [qP] at b2
 have he:hD caps x f starts=gC f (base caps x.n)++(if x.op=5∨x.op=7 then cD f (base caps x.n) (caps.getD x.n.toNat 0) x else if x.op=6∨x.op=8 then cC f (base caps x.n) (caps.getD x.n.toNat 0) x else eT f (base caps x.n)):=by
  unfold hD
  rw [if_pos ho,if_pos hch,if_neg hb]
 have g:=qI caps x.n.toNat n1
 rw [he]
 generalize base caps x.n=b at *
 generalize caps.getD x.n.toNat 0=c at *
 clear he
 have hB:0≤b∧b<2^40:=⟨b0,by omega⟩
 by_cases h5:x.op=5
 ·try simp only [go_sem,seval,hb,h5,g]
  repeat refine K ?_
  refine DA [] (qOq x c b f h5 hB hf) ?_
  try simp only [go_sem,seval]
  refine ⟨_,Sub.refl _,yR ?_⟩; simp [-qYj]
  try simp [h5]
 by_cases h7:x.op=7
 ·try simp only [go_sem,seval,hb,h5,h7,g]
  repeat refine K ?_
  refine DA [] (qIo x c b f h7 hB hf) ?_
  try simp only [go_sem,seval]
  refine ⟨_,Sub.refl _,yR ?_⟩; simp [-qYj]
  try simp [h7]
 by_cases h6:x.op=6
 ·try simp only [go_sem,seval,hb,h5,h6,h7,g]
  repeat refine K ?_
  refine DA [] (qOp x c b f h6 hB hf) ?_
  try simp only [go_sem,seval]
  refine ⟨_,Sub.refl _,yR ?_⟩; simp [-qYj]
  try simp [h6]
 by_cases h8:x.op=8
 ·try simp only [go_sem,seval,hb,h5,h6,h7,h8,g]
  repeat refine K ?_
  refine DA [] (qIn x c b f h8 hB hf) ?_
  try simp only [go_sem,seval]
  refine ⟨_,Sub.refl _,yR ?_⟩; simp [-qYj]
  try simp [h8]
 try simp only [go_sem,seval,hb,h5,h6,h7,h8]
 refine CA [] (qN2 b f hB hf) ?_
 try simp only [go_sem,seval]
 refine ⟨_,Sub.refl _,yR ?_⟩; simp [-qYj]
 try simp [h5,h6,h7,h8]
theorem qHl (l:List (List yH)) (x:List yH):codes .own l++[[AV.sl .own 5 (jB x)]]=codes .own (l++[x]):=by simp [codes]
theorem qA4 {α β:Type} (f:α→β) (l:List α) (d:α) (i:Nat) (h:i<l.length):(l.take i).map f++[f (l.getD i d)]=(l.take (i+1)).map f:=by
 rw [bL l d i h,List.map_append]
 rfl
theorem kG (caps:List Int) (b:List Ins) (i:Nat) (hb:b.length≤24) (hi:i≤b.length):(gQ caps b i).length≤960:=by
 have:=qK0 caps b i
 omega
theorem qE4 {l:List Ins} {ch:Int} (h:uE l ch=true):1≤l.length∧l.length≤24:=by
 unfold uE at h
 simp only [qWu,qP] at h
 omega
theorem qH9 (p:wU) (hp:vY p):qU Tryz.prog num 163 [.agg (yT .bw p)] [] (.tup [.sl .own 1 (codes .own (gF p).1),.bool (gF p).2]):=by
 obtain ⟨h1,h2,h3⟩:=hp
 refine EN m163 Tryz.func122 ?_
 unfold m163
 simp only [go_sem,seval]
 refine CA [] (cS p (by omega) (by omega) (fun b hb=>by have:=h3 b hb; omega)) ?_
 try simp only [go_sem,seval]
 cases hok:jU p
 ·try simp only [go_sem,seval,hok]
  refine ⟨_,Sub.refl _,yO (by simp) ?_⟩; simp [-qYj]
  simp [gF,hok]
 try simp only [go_sem,seval,hok]
 have hb0:=qSa hok
 have hco:=fF hok
 cases hk:bV p.caps
 ·rw [hk] at hb0
  simp only [Bool.not_false,qWu,decide_eq_true_eq] at hb0
  try simp only [go_sem,seval,hb0.1]
  refine CA [] (kB p.caps 0 h1) ?_
  try simp only [go_sem,seval]
  try simp only [go_sem,seval,hb0.2]
  refine ⟨_,Sub.refl _,yO (by simp) ?_⟩; simp [-qYj]
  simp [gF,hk]
 rw [hk] at hb0
 simp only [Bool.not_true] at hb0
 by_cases hlen:(0:Int)<p.caps.length
 all_goals
  try simp only [go_sem,seval,hlen]
 any_goals
  have hb1 :¬base p.caps 0<0:=fun h=>by rw [decide_eq_true h,decide_eq_true hlen] at hb0; simp at hb0
  refine CA [] (kB p.caps 0 h1) ?_
  try simp only [go_sem,seval]
  try simp only [go_sem,seval,hb1]
 all_goals
  refine wB (ι:=Nat) (fun i=>.mk [(1,.ptr 10 0 0),(4,.ns 11 0 i),(28,.sl .bw 1 (uX .bw p.bods)),(29,.int .i64 p.bods.length),(30,.int .i64 i)] [(10,2,[yT .bw p]),(11,1,codes .own ((p.bods.take i).map (comp p.caps)))] 12) (fun i=>i≤p.bods.length∧(p.bods.take i).all (fun b=>bZ (comp p.caps b))=true) (fun i=>p.bods.length-i) 0 (by simp) ?_ ?_
  ·refine Sub.shape [] id (by omega) ?_ ?_ ?_ ?_<;>simp [qN]
   all_goals simp [codes]
  ·rintro i ⟨hi,hall⟩
   simp only [go_sem,seval]
   refine qM (fun hc=>?_) (fun hc=>?_)
   ·simp only [decide_eq_true_eq] at hc
    have hl':i<p.bods.length:=by omega
    have hbo:=hco.2.2.2.2 _ (wZ p.bods i [] hl')
    have hbl:=qE4 hbo
    have hlt:(p.bods.take i).length=i:=by simp; omega
    simp only [go_sem,seval,qZ .bw p.bods i hl']
    repeat refine K ?_
    refine CA [] (qEd (p.bods.getD i []) (by omega)) ?_
    try simp only [go_sem,seval]
    generalize hbd:p.bods.getD i []=b at hbo hbl
    refine wB (ι:=Nat) (fun j=>.mk [(1,.ptr 10 0 0),(4,.ns 11 0 i),(7,.ns 12 0 b.length),(8,.ns 13 0 (gQ p.caps b j).length),(28,.sl .bw 1 (uX .bw p.bods)),(29,.int .i64 p.bods.length),(30,.int .i64 i),(37,.sl .bw 5 (aA b)),(38,.int .i64 b.length),(39,.int .i64 j)] [(10,2,[yT .bw p]),(11,1,codes .own ((p.bods.take i).map (comp p.caps))),(12,1,wQ (yY b)),(13,5,jB (gQ p.caps b j))] 14) (fun j=>j≤b.length) (fun j=>b.length-j) 0 (by simp) ?_ ?_
    ·refine Sub.shape [] id (by omega) ?_ ?_ ?_ ?_<;>simp [qN]
     all_goals simp [gQ,yY,jQ,jB]
    ·intro j hj
     simp only [go_sem,seval]
     refine qM (fun hc2=>?_) (fun hc2=>?_)
     ·simp only [decide_eq_true_eq] at hc2
      have hj':j<b.length:=by omega
      have hcl:=kG p.caps b j hbl.2 (by omega)
      have hsl:(yY b).length=b.length:=jQ b b.length
      have hst:(yY b).take b.length=yY b:=qX3 (by omega)
      have hsg:(yY b).getD j 0=szB (b.take j):=xJ b b.length j hj'
      have hsz:=dW b j
      have hem:=qHf p.caps (b.getD j default) (szB (b.take j)) (yY b)
      simp only [go_sem,seval,uW b j hj',qI (yY b) j (by omega),hsg,hsl]
      repeat refine K ?_
      refine DA [] (qNb p.caps (b.getD j default) (szB (b.take j)) (yY b) h1 (by omega) ⟨hsz.1,by omega⟩) ?_
      try simp only [go_sem,seval]
      repeat refine K ?_
      try simp only [go_sem,seval,qW (i:=j) (by omega)]
      refine qV (j+1) (Sub.shape [] (fun n=>if n=13 then 16 else n) (by omega) ?_ ?_ ?_ ?_) hj' (by omega)<;>simp [qN]
      all_goals simp [gQ,jB]
     ·simp only [decide_eq_false_iff_not] at hc2
      have he:j=b.length:=by omega
      subst he
      have hcl:=kG p.caps b b.length hbl.2 (Nat.le_refl _)
      have hcn:=qHl ((p.bods.take i).map (comp p.caps)) (gQ p.caps b b.length)
      have hcm:(p.bods.take i).map (comp p.caps)++[gQ p.caps (p.bods.getD i []) (p.bods.getD i []).length]=(p.bods.take (i+1)).map (comp p.caps):=qA4 (comp p.caps) p.bods [] i hl'
      rw [hbd] at hcm
      simp only [go_sem,seval]
      refine CA [] (qAa (gQ p.caps b b.length) (by omega)) ?_
      try simp only [go_sem,seval]
      cases hcd:bZ (gQ p.caps b b.length)
      ·try simp only [go_sem,seval,hcd]
       refine ⟨_,Sub.refl _,yO (by simp) ?_⟩; simp [-qYj]
       have:(p.bods.all fun b=>bZ (comp p.caps b))=false:=bQ (d:=[]) hl' (by rw [hbd]; exact hcd)
       simp [gF,this]
      ·try simp only [go_sem,seval,hcd,List.length_map,hlt,qW (i:=i) (by omega)]
       repeat refine K ?_
       refine qV (i+1) ?_ ⟨hl',gI (d:=[]) hall hl' (by rw [hbd]; exact hcd)⟩ (by omega)
       refine Sub.trans (Sub.foldLast 15 0 13 rfl (by simp [-gD]<;>omega) rfl (by decide) (by decide) rfl) ?_
       simp only [fS,fS2,qA,qC,hcn,hcm]
       refine Sub.shape [] (fun n=>if n=11 then 15 else n) (by omega) ?_ ?_ ?_ ?_<;>simp [qN]
   ·simp only [decide_eq_false_iff_not] at hc
    have he:=zV hall hc
    have hie:i=p.bods.length:=by omega
    subst hie
    have ht:p.bods.take p.bods.length=p.bods:=List.take_length
    simp only [go_sem,seval,ht]
    refine ⟨_,Sub.refl _,yO (by simp) ?_⟩; simp [-qYj]
    simp [gF,hok,hk,he]
theorem qFw (p:wU) (hp:vY p):qU Tryz.prog num 162 [.agg (yT .bw p)] [] (.tup [.sl .own 1 (codes .own (gF p).1),.bool (gF p).2]):=by
 obtain ⟨h1,h2,h3⟩:=hp
 refine EN m162 Tryz.func136 ?_
 unfold m162
 simp only [go_sem,seval]
 refine CA [] (aZ p (by omega) (by omega) (fun b hb=>by have:=h3 b hb; omega)) ?_
 try simp only [go_sem,seval]
 cases hok:jU p
 ·try simp only [go_sem,seval,hok]
  refine ⟨_,Sub.refl _,yO (by simp) ?_⟩; simp [-qYj]
  simp [gF,hok,codes]
 try simp only [go_sem,seval,hok]
 have hco:=fF hok
 refine CA [] (qGy p.caps h1) ?_
 try simp only [go_sem,seval]
 cases hk:bV p.caps
 ·try simp only [go_sem,seval,hk]
  refine ⟨_,Sub.refl _,yO (by simp) ?_⟩; simp [-qYj]
  simp [gF,hk,codes]
 try simp only [go_sem,seval,hk]
 refine wB (ι:=Nat) (fun i=>.mk [(1,.ptr 10 0 0),(5,.ns 11 0 i),(6,.int .i64 i)] [(10,2,[yT .bw p]),(11,1,codes .own ((p.bods.take i).map (comp p.caps)))] 12) (fun i=>i≤p.bods.length∧(p.bods.take i).all (fun b=>bZ (comp p.caps b))=true) (fun i=>p.bods.length-i) 0 (by simp) ?_ ?_
 ·refine Sub.shape [] id (by omega) ?_ ?_ ?_ ?_<;>simp [qN]
  all_goals simp [codes]
 ·rintro i ⟨hi,hall⟩
  simp only [go_sem,seval]
  refine qM (fun hc=>?_) (fun hc=>?_)
  ·simp only [decide_eq_true_eq] at hc
   have hl':i<p.bods.length:=by omega
   have hbo:=hco.2.2.2.2 _ (wZ p.bods i [] hl')
   have hbl:=qE4 hbo
   have hlt:(p.bods.take i).length=i:=by simp; omega
   simp only [go_sem,seval]
   refine CA [] (qIe p i h1 h2 h3 hok hl') ?_
   try simp only [go_sem,seval]
   generalize hbd:p.bods.getD i []=b at hbo hbl
   refine wB (ι:=Nat) (fun j=>.mk [(1,.ptr 10 0 0),(5,.ns 11 0 i),(6,.int .i64 i),(7,.ns 12 0 b.length),(8,.ns 13 0 (gQ p.caps b j).length),(9,.int .i64 j)] [(10,2,[yT .bw p]),(11,1,codes .own ((p.bods.take i).map (comp p.caps))),(12,1,wQ (yY b)),(13,5,jB (gQ p.caps b j))] 14) (fun j=>j≤b.length) (fun j=>b.length-j) 0 (by simp) ?_ ?_
   ·refine Sub.shape [] id (by omega) ?_ ?_ ?_ ?_<;>simp [qN]
    all_goals simp [gQ,yY,jQ,jB]
   ·intro j hj
    simp only [go_sem,seval,qZ .bw p.bods i hl',hbd]
    repeat refine K ?_
    refine qM (fun hc2=>?_) (fun hc2=>?_)
    ·simp only [decide_eq_true_eq] at hc2
     have hj':j<b.length:=by omega
     have hcl:=kG p.caps b j hbl.2 (by omega)
     have hsl:(yY b).length=b.length:=jQ b b.length
     have hst:(yY b).take b.length=yY b:=qX3 (by omega)
     have hsg:(yY b).getD j 0=szB (b.take j):=xJ b b.length j hj'
     have hsz:=dW b j
     have hem:=qHf p.caps (b.getD j default) (szB (b.take j)) (yY b)
     simp only [go_sem,seval,qZ .bw p.bods i hl',hbd,uW b j hj',qI (yY b) j (by omega),hsg,hsl]
     repeat refine K ?_
     refine DA [] (qM1 p.caps (b.getD j default) (szB (b.take j)) (yY b) h1 (by omega) ⟨hsz.1,by omega⟩) ?_
     try simp only [go_sem,seval]
     repeat refine K ?_
     try simp only [go_sem,seval,qW (i:=j) (by omega)]
     refine qV (j+1) (Sub.shape [] (fun n=>if n=13 then 15 else n) (by omega) ?_ ?_ ?_ ?_) hj' (by omega)<;>simp [qN]
     all_goals simp [gQ,jB]
    ·simp only [decide_eq_false_iff_not] at hc2
     have he:j=b.length:=by omega
     subst he
     have hcl:=kG p.caps b b.length hbl.2 (Nat.le_refl _)
     have hcn:=qHl ((p.bods.take i).map (comp p.caps)) (gQ p.caps b b.length)
     have hcm:(p.bods.take i).map (comp p.caps)++[gQ p.caps (p.bods.getD i []) (p.bods.getD i []).length]=(p.bods.take (i+1)).map (comp p.caps):=qA4 (comp p.caps) p.bods [] i hl'
     rw [hbd] at hcm
     simp only [go_sem,seval]
     refine CA [] (qA0 (gQ p.caps b b.length) (by omega)) ?_
     try simp only [go_sem,seval]
     cases hcd:bZ (gQ p.caps b b.length)
     ·try simp only [go_sem,seval,hcd]
      refine ⟨_,Sub.refl _,yO (by simp) ?_⟩; simp [-qYj]
      have:(p.bods.all fun b=>bZ (comp p.caps b))=false:=bQ (d:=[]) hl' (by rw [hbd]; exact hcd)
      simp [gF,this,codes]
     ·try simp only [go_sem,seval,hcd,List.length_map,hlt,qW (i:=i) (by omega)]
      repeat refine K ?_
      refine qV (i+1) ?_ ⟨hl',gI (d:=[]) hall hl' (by rw [hbd]; exact hcd)⟩ (by omega)
      refine Sub.trans (Sub.foldLast 15 0 13 rfl (by simp [-gD]<;>omega) rfl (by decide) (by decide) rfl) ?_
      simp only [fS,fS2,qA,qC,hcn,hcm]
      refine Sub.shape [] (fun n=>if n=11 then 15 else n) (by omega) ?_ ?_ ?_ ?_<;>simp [qN]
  ·simp only [decide_eq_false_iff_not] at hc
   have he:=zV hall hc
   have hie:i=p.bods.length:=by omega
   subst hie
   have ht:p.bods.take p.bods.length=p.bods:=List.take_length
   simp only [go_sem,seval,ht]
   refine ⟨_,Sub.refl _,yO (by simp) ?_⟩; simp [-qYj]
   simp [gF,hok,hk,he]
theorem qAd (p:wU):(gF p).1.length≤4∧∀c∈(gF p).1,c.length≤960:=by
 unfold gF
 split
 ·rename_i h
  simp only [qWu] at h
  have hc:=fF h.1.1
  refine ⟨by simpa using hc.2.2.1,fun c hm=>?_⟩
  simp only [List.mem_map] at hm
  obtain ⟨b,hb,rfl⟩:=hm
  exact kG p.caps b b.length (qE4 (hc.2.2.2.2 b hb)).2 (Nat.le_refl _)
 ·simp
end Go.Sep
