/- Contracts of functions. -/
import Derived.Test.YtebbppogicgpkaaGreatRxx13
import Derived.Test.YtebbppogicgpkaaGreatRxx4
namespace Go.Sep
set_option maxHeartbeats 16000000
open Go.Proofs
set_option linter.unusedSimpArgs false
set_option linter.unusedVariables false
set_option maxRecDepth 100000
open Nat renaming reduceAdd → qA, reduceMul → qB, reduceEqDiff → qC, reduceBEq → qD
open Int renaming reduceToNat → qE, reduceEq → qF, reduceLT → qG, reduceLE → qH
open List renaming getD_eq_getElem?_getD → gD
def m19:MFn:=⟨6,[.t 2],kr [xF 2] (kR [xv 3 0,xe 4 3,bI 5 .gtr 4 1048576,xv 2 5])⟩
def m23:MFn:=⟨26,[.t 4],kr [xF 4] (.seq (kr [xv 6 0,xe 7 6,xv 8 1,xe 9 8,bT 10 .neq 7 9] (kF 10 [xF 4])) (.seq (kr [xI 5 0] (.blk 0 (.loop (.seq (kr [xv 11 5,xv 12 0,xe 13 12,bT 14 .lss 11 13] (kX 14 0)) (.seq (.blk 1 (.seq (.dreg (.take 0 (xv 17 0) (.take 1 (xv 18 5) (.take 2 (xD 19 1 17 18) (.take 3 (xl 20 19) (.take 4 (xv 21 1) (.only 5 [] (xv 22 5) (.only 6 [4] (xD 23 1 21 22) (.only 7 [6,4] (xl 24 23) (.only 8 [3,7,2,6,0,1,4] (bT 25 .neq 20 24) (.done))))))))))) (kF 25 [xF 4]))) (xr [xv 15 5,bI 16 .add 15 1,xv 5 16])))))) (kR [xT 4])))⟩
def m37:MFn:=⟨32,[.t 2],kr [xo 2 (.mv (.c (.nilp)))] (kr [xv 5 0,xe 6 5,xo 7 (.bin .add (xi 18813) (.t 6)),xv 3 7] (.seq (kr [xI 4 0] (.blk 0 (.loop (.seq (kr [xv 8 4,xv 9 0,xe 10 9,bT 11 .lss 8 10,xv 12 11,yv 13 4 12,yI 14 .lss 13 4000 12,xP 15 12 14] (kX 15 0)) (.seq (.blk 1 (xr [xv 18 3,bI 19 .mul 18 131,xv 20 0,xv 21 4,xD 22 1 20 21,xl 23 22,xo 24 (.cvi .i64 (.t 23)),bT 25 .add 19 24,bI 26 .add 25 7,bI 27 .«and» 26 1073741823,xv 3 27])) (xr [xv 16 4,bI 17 .add 16 1,xv 4 17])))))) (kR [xv 28 0,xv 29 3,xo 30 (.build [.nil,.int .i64 0,.int .i64 0] [(0,1,.t 28),(2,1,.t 29)]),xb 31 30,xv 2 31])))⟩
def m38:MFn:=⟨42,[.cell 2 2 true],kr [xo 2 (.alloc [.nil,.nil])] (kr [xv 4 0,xo 5 (.call 55 [true] [.t 4]),xo 3 (.alloc [.nil,.nil]),xS 2 3 5] (.seq (kr [xv 6 0,xo 7 (.call 39 [true,false] [.t 6,xi 20])] (.blk 0 (kr [bI 9 .eql 7 0,xv 8 9] (.cond 8 (.dreg (.take 0 (xa 10 0 3) (.take 1 (xl 11 10) (.take 2 (xv 12 0) (.only 3 [] (xo 13 (.mkSl [xz] 2 [(0,xi 0),(1,xi 5)])) (.only 4 [2] (xo 14 (.call 56 [true,false] [.t 12,.t 13])) (.only 5 [0,1,2] (xo 15 (.iad 1 (.t 11) (xi 0))) (.only 6 [0,1,2] (xS 1 15 14) (.done))))))))) (kr [bI 17 .eql 7 1,xv 16 17] (.cond 16 (.dreg (.take 0 (xa 18 1 3) (.take 1 (xl 19 18) (.take 2 (xo 20 (.iad 1 (.t 19) (xi 0))) (.take 3 (xl 21 20) (.take 4 (xv 22 0) (.only 5 [] (xa 23 1 3) (.only 6 [] (xl 24 23) (.only 7 [] (xo 25 (.iad 1 (.t 24) (xi 0))) (.only 8 [] (xl 26 25) (.only 9 [] (xo 27 (.iad 5 (.t 26) (xi 0))) (.only 10 [] (xm 28 5 27) (.only 11 [4] (xo 29 (.call 57 [true,false] [.t 22,.t 28])) (.only 12 [0,1,2,3,4] (xo 30 (.iad 5 (.t 21) (xi 0))) (.only 13 [0,1,2,3,4] (xS 5 30 29) (.done)))))))))))))))) (kr [bI 32 .eql 7 2,xv 31 32] (.cond 31 (xr [xa 33 1 3,⟨none,.store 1 (.t 33) (.c (.nil)),none⟩]) (kr [bI 35 .eql 7 3,xv 34 35] (.cond 34 (xr [xa 36 0 3,xl 37 36,xo 38 (.mkSl [xz] 3 [(0,xi 1),(1,xi 1),(2,xi 1)]),xA 39 1 8 37 38,xa 40 0 3,xS 1 40 39]) (.skip))))))))))) (kR [xm 41 2 3,xS 2 2 41])))⟩
def m39:MFn:=⟨37,[.t 4],kr [xI 4 0] (.seq (kr [xv 9 1,bI 10 .leq 9 0] (kF 10 [xI 4 0])) (.seq (kr [xv 11 1,bI 12 .leq 11 256] (kF 12 [xv 13 0,xo 14 (.call 58 [true] [.t 13]),xv 15 1,bT 16 .rem 14 15,xv 4 16])) (kr [xv 17 0,xo 18 (.call 58 [true] [.t 17]),xv 5 18] (kr [xv 19 0,xo 20 (.call 58 [true] [.t 19]),xv 6 20] (kr [xv 21 0,xo 22 (.call 58 [true] [.t 21]),xv 7 22] (kr [xv 23 0,xo 24 (.call 58 [true] [.t 23]),xv 8 24] (kR [xv 25 5,bI 26 .mul 25 16777216,xv 27 6,bI 28 .mul 27 65536,bT 29 .add 26 28,xv 30 7,bI 31 .mul 30 256,bT 32 .add 29 31,xv 33 8,bT 34 .add 32 33,xv 35 1,bT 36 .rem 34 35,xv 4 36])))))))⟩
def m40:MFn:=⟨9,[.t 4],kr [xF 4] (kR [xv 5 0,xv 6 1,xo 7 (.call 39 [true,false] [.t 5,.t 6]),bI 8 .eql 7 0,xv 4 8])⟩
def m55:MFn:=⟨40,[.cell 2 2 true],kr [xo 2 (.alloc [.nil,.nil])] (kr [xo 7 (.build [.nil,.nil] []),xo 3 (.alloc [.nil,.nil]),xS 2 3 7] (kr [xv 8 0,xo 9 (.call 39 [true,false] [.t 8,xi 3]),xo 10 (.bin .add (xi 1) (.t 9)),xv 4 10] (.seq (kr [xI 5 0] (.blk 0 (.loop (.seq (kr [xv 11 5,xv 12 4,bT 13 .lss 11 12] (kX 13 0)) (.seq (.blk 1 (.dreg (.take 0 (xa 16 0 3) (.take 1 (xl 17 16) (.only 2 [] (xv 18 0) (.only 3 [] (xo 19 (.call 39 [true,false] [.t 18,xi 4])) (.only 4 [] (xo 20 (.bin .add (xi 1) (.t 19))) (.only 5 [] (xo 21 (.mkSl [xz] 1 [(0,.t 20)])) (.only 6 [1,0] (xA 22 1 8 17 21) (.only 7 [0,1] (xa 23 0 3) (.only 8 [0,1] (xS 1 23 22) (.done)))))))))))) (xr [xv 14 5,bI 15 .add 14 1,xv 5 15])))))) (.seq (kr [xI 6 0] (.blk 2 (.loop (.seq (kr [xv 24 6,xv 25 0,xo 26 (.call 39 [true,false] [.t 25,xi 4]),xo 27 (.bin .add (xi 1) (.t 26)),bT 28 .lss 24 27] (kX 28 2)) (.seq (.blk 3 (.dreg (.take 0 (xa 31 1 3) (.take 1 (xl 32 31) (.take 2 (xv 33 0) (.only 3 [] (xv 34 4) (.only 4 [2] (xo 35 (.call 77 [true,false] [.t 33,.t 34])) (.only 5 [4,2] (xo 36 (.mkSl [.nil] 1 [(0,.t 35)])) (.only 6 [1,4,0,2] (xA 37 1 24 32 36) (.only 7 [0,1,2] (xa 38 1 3) (.only 8 [0,1,2] (xS 1 38 37) (.done)))))))))))) (xr [xv 29 6,bI 30 .add 29 1,xv 6 30])))))) (kR [xm 39 2 3,xS 2 2 39])))))⟩
def m56:MFn:=⟨12,[.t 4],kr [xI 4 0] (kR [xv 5 1,xv 6 0,xv 7 1,xe 8 7,xo 9 (.call 39 [true,false] [.t 6,.t 8]),xD 10 1 5 9,xl 11 10,xv 4 11])⟩
def m57:MFn:=⟨38,[.cell 4 5 true],kr [xb 3 1,xo 4 (.alloc [xz,xz,xz,xz,xz])] (.seq (kr [xv 5 0,xo 6 (.call 39 [true,false] [.t 5,xi 8])] (.blk 0 (kr [bI 8 .eql 6 0,xv 7 8] (.cond 7 (xr [xv 9 0,xo 10 (.call 39 [true,false] [.t 9,xi 16]),bI 11 .sub 10 1,xa 12 0 3,xS 1 12 11]) (kr [bI 14 .eql 6 1,xv 13 14] (.cond 13 (xr [xv 15 0,xo 16 (.call 39 [true,false] [.t 15,xi 6]),bI 17 .sub 16 1,xa 18 1 3,xS 1 18 17]) (kr [bI 20 .eql 6 2,xv 19 20] (.cond 19 (xr [xv 21 0,xo 22 (.call 39 [true,false] [.t 21,xi 6]),bI 23 .sub 22 1,xa 24 2 3,xS 1 24 23]) (kr [bI 26 .eql 6 3,xv 25 26] (.cond 25 (xr [xv 27 0,xo 28 (.call 39 [true,false] [.t 27,xi 6]),bI 29 .sub 28 1,xa 30 3 3,xS 1 30 29]) (kr [bI 32 .eql 6 4,xv 31 32] (.cond 31 (xr [xv 33 0,xo 34 (.mkSl [xz] 7 [(0,.c (.int .i64 (-1))),(1,xi 0),(2,xi 3),(3,xi 23),(4,xi 24),(5,xi 1000000000),(6,xi 1000000001)]),xo 35 (.call 56 [true,false] [.t 33,.t 34]),xa 36 4 3,xS 1 36 35]) (.skip))))))))))))) (kR [xm 37 5 3,xS 5 4 37]))⟩
def m58:MFn:=⟨58,[.t 2],kr [xI 2 0] (kr [xv 4 0,xv 5 0,xk 6 5,xa 7 2 6,xl 8 7,bI 9 .mul 8 6364136223846793005,bI 10 .add 9 1442695040888963407,xk 11 4,xa 12 2 11,xS 1 12 10] (.seq (.dreg (.take 0 (xv 13 0) (.take 1 (xk 14 13) (.take 2 (xa 15 2 14) (.take 3 (xl 16 15) (.take 4 (xo 17 (.bin .shr (.t 16) (.c (.int .u64 33)))) (.only 5 [] (xv 18 0) (.only 6 [] (xk 19 18) (.only 7 [] (xa 20 2 19) (.only 8 [] (xl 21 20) (.only 9 [] (xo 22 (.bin .shr (.t 21) (.c (.int .u64 45)))) (.only 10 [4,3,2,1,0] (bT 23 .xor 17 22) (.only 11 [10,4,3,2,1,0] (bI 24 .«and» 23 255) (.only 12 [0,1,2,3,4] (xv 3 24) (.done))))))))))))))) (.seq (.seq (.dreg (.take 0 (xv 25 0) (.take 1 (xk 26 25) (.take 2 (xa 27 1 26) (.take 3 (xl 28 27) (.only 4 [] (xv 29 0) (.only 5 [] (xk 30 29) (.only 6 [] (xa 31 0 30) (.only 7 [] (xl 32 31) (.only 8 [] (xe 33 32) (.only 9 [3,2,1,0] (bT 34 .lss 28 33) (.done)))))))))))) (.cond 34 (.seq (.dreg (.take 0 (xv 35 3) (.take 1 (xv 36 0) (.take 2 (xk 37 36) (.take 3 (xa 38 0 37) (.take 4 (xl 39 38) (.only 5 [] (xv 40 0) (.only 6 [] (xk 41 40) (.only 7 [] (xa 42 1 41) (.only 8 [] (xl 43 42) (.only 9 [4,3,2,1] (xD 44 1 39 43) (.only 10 [9,4,3,2,1] (xl 45 44) (.only 11 [10,9,4,3,2,1] (xo 46 (.cvi .i64 (.t 45))) (.only 12 [0,11,10,9,4,3,2,1] (bT 47 .add 35 46) (.only 13 [12,0,11,10,9,4,3,2,1] (bI 48 .«and» 47 255) (.only 14 [0,1,2,3,4] (xv 3 48) (.done))))))))))))))))) (xr [xv 49 0,xv 50 0,xk 51 50,xa 52 1 51,xl 53 52,bI 54 .add 53 1,xk 55 49,xa 56 1 55,xS 1 56 54])) (.skip))) (kR [xv 57 3,xv 2 57]))))⟩
def m77:MFn:=⟨83,[.t 4],kr [xo 4 (.mv (.c (.nil)))] (kr [xv 10 0,xv 11 1,xo 12 (.call 39 [true,false] [.t 10,.t 11]),xv 5 12] (kr [xv 13 0,xv 14 1,xo 15 (.call 39 [true,false] [.t 13,.t 14]),xv 6 15] (.seq (kr [xv 16 0,xo 17 (.call 39 [true,false] [.t 16,xi 5])] (.blk 0 (kr [bI 19 .eql 17 0,xv 18 19] (.cond 18 (kR [xo 20 (.build [xz,xz,xz,xz,xz] [(0,1,xi 1),(1,1,xi 0),(4,1,xi 3)]),xo 21 (.build [xz,xz,xz,xz,xz] [(0,1,xi 1),(1,1,xi 1),(4,1,xi 1)]),xv 22 5,xo 23 (.build [xz,xz,xz,xz,xz] [(0,1,xi 5),(2,1,xi 0),(4,1,.t 22)]),xo 24 (.build [xz,xz,xz,xz,xz] [(0,1,xi 3),(1,1,xi 0),(2,1,xi 0),(3,1,xi 1)]),xo 25 (.build [xz,xz,xz,xz,xz] [(0,1,xi 12),(2,1,xi 0),(4,1,xi 6)]),xo 26 (.build [xz,xz,xz,xz,xz] [(0,1,xi 11),(4,1,xi 2)]),xo 27 (.build [xz,xz,xz,xz,xz] [(0,1,xi 13)]),xo 28 (.mkSl [xz,xz,xz,xz,xz] 7 [(0,.t 20),(1,.t 21),(2,.t 23),(3,.t 24),(4,.t 25),(5,.t 26),(6,.t 27)]),xv 4 28]) (kr [bI 30 .eql 17 1,xv 29 30] (.cond 29 (kR [xv 31 5,xo 32 (.build [xz,xz,xz,xz,xz] [(0,1,xi 6),(1,1,xi 0),(3,1,xi 1),(4,1,.t 31)]),xo 33 (.build [xz,xz,xz,xz,xz] [(0,1,xi 12),(2,1,xi 1),(4,1,xi 4)]),xo 34 (.build [xz,xz,xz,xz,xz] [(0,1,xi 10),(2,1,xi 0)]),xo 35 (.build [xz,xz,xz,xz,xz] [(0,1,xi 11)]),xo 36 (.build [xz,xz,xz,xz,xz] [(0,1,xi 13)]),xo 37 (.mkSl [xz,xz,xz,xz,xz] 5 [(0,.t 32),(1,.t 33),(2,.t 34),(3,.t 35),(4,.t 36)]),xv 4 37]) (kr [bI 39 .eql 17 2,xv 38 39] (.cond 38 (kR [xv 40 5,xo 41 (.build [xz,xz,xz,xz,xz] [(0,1,xi 6),(1,1,xi 0),(3,1,xi 1),(4,1,.t 40)]),xo 42 (.build [xz,xz,xz,xz,xz] [(0,1,xi 2),(1,1,xi 0),(2,1,xi 0),(3,1,xi 1)]),xv 43 6,xo 44 (.build [xz,xz,xz,xz,xz] [(0,1,xi 5),(2,1,xi 0),(4,1,.t 43)]),xo 45 (.build [xz,xz,xz,xz,xz] [(0,1,xi 10),(2,1,xi 0)]),xo 46 (.build [xz,xz,xz,xz,xz] [(0,1,xi 11)]),xo 47 (.mkSl [xz,xz,xz,xz,xz] 5 [(0,.t 41),(1,.t 42),(2,.t 44),(3,.t 45),(4,.t 46)]),xv 4 47]) (kr [bI 49 .eql 17 3,xv 48 49] (kF 48 [xo 50 (.build [xz,xz,xz,xz,xz] [(0,1,xi 1),(1,1,xi 2),(4,1,xi 5)]),xv 51 5,xo 52 (.build [xz,xz,xz,xz,xz] [(0,1,xi 7),(1,1,xi 3),(2,1,xi 2),(4,1,.t 51)]),xv 53 6,xo 54 (.build [xz,xz,xz,xz,xz] [(0,1,xi 8),(1,1,xi 0),(3,1,xi 1),(4,1,.t 53)]),xo 55 (.build [xz,xz,xz,xz,xz] [(0,1,xi 10),(2,1,xi 1)]),xo 56 (.build [xz,xz,xz,xz,xz] [(0,1,xi 2),(1,1,xi 2),(2,1,xi 2),(3,1,xi 3)]),xo 57 (.build [xz,xz,xz,xz,xz] [(0,1,xi 11),(4,1,xi 1)]),xo 58 (.mkSl [xz,xz,xz,xz,xz] 6 [(0,.t 50),(1,.t 52),(2,.t 54),(3,.t 55),(4,.t 56),(5,.t 57)]),xv 4 58])))))))))) (kr [xv 59 0,xo 60 (.call 39 [true,false] [.t 59,xi 9]),xo 61 (.bin .add (xi 2) (.t 60)),xv 7 61] (kr [xo 62 (.mkSl [xz,xz,xz,xz,xz] 0 []),xv 8 62] (.seq (kr [xI 9 0] (.blk 1 (.loop (.seq (kr [xv 63 9,xv 64 7,bT 65 .lss 63 64] (kX 65 1)) (.seq (.blk 2 (xr [xv 68 8,xv 69 0,xv 70 7,bI 71 .add 70 1,xv 72 1,xo 73 (.call 91 [true,false,false] [.t 69,.t 71,.t 72]),xo 74 (.mkSl [xz,xz,xz,xz,xz] 1 [(0,.t 73)]),xA 75 5 40 68 74,xv 8 75])) (xr [xv 66 9,bI 67 .add 66 1,xv 9 67])))))) (kR [xv 76 8,xv 77 0,xo 78 (.mkSl [xz] 2 [(0,xi 13),(1,xi 11)]),xo 79 (.call 56 [true,false] [.t 77,.t 78]),xo 80 (.build [xz,xz,xz,xz,xz] [(0,1,.t 79)]),xo 81 (.mkSl [xz,xz,xz,xz,xz] 1 [(0,.t 80)]),xA 82 5 40 76 81,xv 4 82])))))))⟩
def m91:MFn:=⟨91,[.cell 6 5 true],kr [xo 6 (.alloc [xz,xz,xz,xz,xz])] (kr [xv 11 0,xo 12 (.call 39 [true,false] [.t 11,xi 4]),xv 13 0,xo 14 (.call 39 [true,false] [.t 13,xi 4]),xv 15 0,xo 16 (.call 39 [true,false] [.t 15,xi 4]),xv 7 12,xv 8 14,xv 9 16] (kr [xv 17 0,xv 18 2,xc2 19 98 (.t 18) (xi 1),xo 20 (.call 39 [true,false] [.t 17,.t 19]),xv 10 20] (.seq (kr [xv 21 0,xo 22 (.call 39 [true,false] [.t 21,xi 16])] (.blk 0 (.seq (kr [bI 24 .eql 22 0,xv 23 24] (.cond 23 (.skip) (xr [bI 25 .eql 22 1,xv 23 25]))) (.cond 23 (kR [xv 26 7,xv 27 0,xo 28 (.call 39 [true,false] [.t 27,xi 9]),bI 29 .sub 28 2,xo 30 (.build [xz,xz,xz,xz,xz] [(0,1,xi 1),(1,1,.t 26),(4,1,.t 29)]),xS 5 6 30]) (.seq (kr [bI 32 .eql 22 2,xv 31 32] (.cond 31 (.skip) (xr [bI 33 .eql 22 3,xv 31 33]))) (.cond 31 (kR [xv 34 0,xo 35 (.call 39 [true,false] [.t 34,xi 3]),xo 36 (.bin .add (xi 2) (.t 35)),xv 37 7,xv 38 8,xv 39 9,xo 40 (.build [xz,xz,xz,xz,xz] [(0,1,.t 36),(1,1,.t 37),(2,1,.t 38),(3,1,.t 39)]),xS 5 6 40]) (.seq (kr [bI 42 .eql 22 4,xv 41 42] (.cond 41 (.skip) (kr [bI 43 .eql 22 5,xv 41 43] (.cond 41 (.skip) (xr [bI 44 .eql 22 6,xv 41 44]))))) (.cond 41 (kR [xv 45 8,xv 46 10,xo 47 (.build [xz,xz,xz,xz,xz] [(0,1,xi 5),(2,1,.t 45),(4,1,.t 46)]),xS 5 6 47]) (.seq (kr [bI 49 .eql 22 7,xv 48 49] (.cond 48 (.skip) (kr [bI 50 .eql 22 8,xv 48 50] (.cond 48 (.skip) (xr [bI 51 .eql 22 9,xv 48 51]))))) (.cond 48 (kR [xv 52 7,xv 53 7,bI 54 .add 53 1,bI 55 .rem 54 4,xv 56 10,xo 57 (.build [xz,xz,xz,xz,xz] [(0,1,xi 6),(1,1,.t 52),(3,1,.t 55),(4,1,.t 56)]),xS 5 6 57]) (kr [bI 59 .eql 22 10,xv 58 59] (.cond 58 (kR [xv 60 7,xv 61 8,xv 62 10,xo 63 (.build [xz,xz,xz,xz,xz] [(0,1,xi 7),(1,1,.t 60),(2,1,.t 61),(4,1,.t 62)]),xS 5 6 63]) (kr [bI 65 .eql 22 11,xv 64 65] (.cond 64 (kR [xv 66 7,xv 67 7,bI 68 .add 67 1,bI 69 .rem 68 4,xv 70 10,xo 71 (.build [xz,xz,xz,xz,xz] [(0,1,xi 8),(1,1,.t 66),(3,1,.t 69),(4,1,.t 70)]),xS 5 6 71]) (kr [bI 73 .eql 22 12,xv 72 73] (.cond 72 (.seq (kr [xv 74 0,xo 75 (.call 40 [true,false] [.t 74,xi 3])] (kF 75 [xv 76 10,xo 77 (.build [xz,xz,xz,xz,xz] [(0,1,xi 9),(4,1,.t 76)]),xS 5 6 77])) (kR [xv 78 0,xv 79 1,xo 80 (.call 39 [true,false] [.t 78,.t 79]),xo 81 (.build [xz,xz,xz,xz,xz] [(0,1,xi 11),(4,1,.t 80)]),xS 5 6 81])) (kr [bI 83 .eql 22 13,xv 82 83] (kF 82 [xv 84 8,xv 85 0,xv 86 1,xo 87 (.call 39 [true,false] [.t 85,.t 86]),xo 88 (.build [xz,xz,xz,xz,xz] [(0,1,xi 12),(2,1,.t 84),(4,1,.t 87)]),xS 5 6 88])))))))))))))))))) (kR [xv 89 8,xo 90 (.build [xz,xz,xz,xz,xz] [(0,1,xi 10),(2,1,.t 89)]),xS 5 6 90]))))⟩
def qK9 (h:Int):Int:=IntKind.i64.wrap (IntKind.i64.wrap (h*6364136223846793005)+1442695040888963407)
def qS1 (h:Int):Int:=qPc .i64 (qYc .i64 (qPb .i64 h 33) (qPb .i64 h 45)) 255
def vK (code:List Int) (c:Cur):Int×Cur :=
 if (c.i:Int)<code.length then (qPc .i64 (IntKind.i64.wrap (qS1 (qK9 c.h)+IntKind.i64.wrap (code.getD c.i 0))) 255,⟨c.i+1,qK9 c.h⟩) else (qS1 (qK9 c.h),⟨c.i,qK9 c.h⟩)
theorem qWi (a:Int):0≤qPc .i64 a 255∧qPc .i64 a 255≤255:=by
 unfold qPc
 have h:(BitVec.ofInt IntKind.i64.bits a &&& BitVec.ofInt IntKind.i64.bits 255).toNat≤255:=by
  rw [BitVec.toNat_and]
  have:(BitVec.ofInt IntKind.i64.bits 255).toNat=255:=by decide
  rw [this]
  exact Nat.and_le_right
 rw [wM (by omega) (by omega)]
 omega
theorem rU (code:List Int) (c:Cur):0≤(vK code c).1∧(vK code c).1≤255:=by
 unfold vK
 split
 ·exact qWi _
 ·exact qWi _
theorem nE (code:List Int) (c:Cur) (hb:code.length<2^62):qZ Tryz.prog num 58 [.ptr 0 0 0] [(0,some (3,[xV code c]),some (3,[xV code (vK code c).2]))] (.int .i64 (vK code c).1):=by
 refine EH m58 Tryz.func151 ?_
 unfold m58
 simp only [go_sem,seval,xV,qFz,reduceCtorEq]
 repeat refine K ?_
 refine qS (fun hc=>?_) (fun hc=>?_)
 ·simp only [decide_eq_true_eq] at hc
  have hl:c.i<code.length:=by omega
  simp only [go_sem,seval,qFz,reduceCtorEq,qP5 code c.i hl,qR (i:=c.i) (by omega)]
  repeat refine K ?_
  apply wD
  ·exact Sub.refl _
  ·simp [-List.drop_one,-gD,vK,hc,qS1,qK9]<;>(first | rfl | exact ⟨rfl,rfl⟩ | exact ⟨rfl,rfl,rfl⟩ | skip)
 ·simp only [decide_eq_false_iff_not] at hc
  simp only [go_sem,seval]
  repeat refine K ?_
  apply wD
  ·exact Sub.refl _
  ·simp [-List.drop_one,-gD,vK,hc,qS1,qK9]<;>(first | rfl | exact ⟨rfl,rfl⟩ | exact ⟨rfl,rfl,rfl⟩ | skip)
def b1 (code:List Int) (c:Cur):Int×Cur:=vK code c
def qQ (code:List Int) (c:Cur) (n:Int):Int×Cur :=
 if n≤0 then (0,c) else if n≤256 then ((vK code c).1.tmod n,(vK code c).2) else
 ((IntKind.i64.wrap (IntKind.i64.wrap (IntKind.i64.wrap (IntKind.i64.wrap ((vK code c).1*16777216)+IntKind.i64.wrap ((vK code (vK code c).2).1*65536))+IntKind.i64.wrap ((vK code (vK code (vK code c).2).2).1*256))+(vK code (vK code (vK code (vK code c).2).2).2).1)).tmod n,(vK code (vK code (vK code (vK code c).2).2).2).2)
theorem yB (code:List Int) (c:Cur) (n:Int) (h:0<n):0≤(qQ code c n).1∧(qQ code c n).1<n:=by
 unfold qQ
 rw [if_neg (by omega)]
 split
 ·have:=rU code c
  exact ⟨Int.tmod_nonneg _ (by omega),Int.tmod_lt_of_pos _ h⟩
 ·have h1:=rU code c
  have h2:=rU code (vK code c).2
  have h3:=rU code (vK code (vK code c).2).2
  have h4:=rU code (vK code (vK code (vK code c).2).2).2
  refine ⟨Int.tmod_nonneg _ ?_,Int.tmod_lt_of_pos _ h⟩
  rw [wM (n:=(vK code c).1*16777216) (by omega) (by omega),wM (n:=(vK code (vK code c).2).1*65536) (by omega) (by omega),wM (n:=(vK code (vK code (vK code c).2).2).1*256) (by omega) (by omega)]
  rw [wM (n:=(vK code c).1*16777216+(vK code (vK code c).2).1*65536) (by omega) (by omega)]
  rw [wM (n:=(vK code c).1*16777216+(vK code (vK code c).2).1*65536+(vK code (vK code (vK code c).2).2).1*256) (by omega) (by omega)]
  rw [wM (by omega) (by omega)]
  omega
theorem wP (code:List Int) (c:Cur) (n:Int) (hb:code.length<2^62):qZ Tryz.prog num 39 [.ptr 0 0 0,.int .i64 n] [(0,some (3,[xV code c]),some (3,[xV code (qQ code c n).2]))] (.int .i64 (qQ code c n).1):=by
 refine EH m39 Tryz.func97 ?_
 unfold m39
 by_cases h0:n≤0
 ·simp only [go_sem,seval,h0]
  repeat refine K ?_
  apply wD
  ·exact Sub.refl _
  ·simp [-List.drop_one,-gD,qQ,h0]<;>(first | rfl | exact ⟨rfl,rfl⟩ | exact ⟨rfl,rfl,rfl⟩ | skip)
 have hn :¬n=0:=by omega
 by_cases h1:n≤256
 ·simp only [go_sem,seval,h0,h1]
  repeat refine K ?_
  refine CA [(0,0)] (nE code c hb) ?_
  try simp only [go_sem,seval]
  repeat refine K ?_
  try simp only [go_sem,seval,hn]
  repeat refine K ?_
  apply wD
  ·exact Sub.refl _
  ·simp [-List.drop_one,-gD,qQ,h0,h1]<;>(first | rfl | exact ⟨rfl,rfl⟩ | exact ⟨rfl,rfl,rfl⟩ | skip)
 simp only [go_sem,seval,h0,h1]
 repeat refine K ?_
 refine CA [(0,0)] (nE code c hb) ?_
 try simp only [go_sem,seval]
 repeat refine K ?_
 try simp only [go_sem,seval,hn]
 repeat refine K ?_
 refine CA [(0,0)] (nE code (vK code c).2 hb) ?_
 try simp only [go_sem,seval]
 repeat refine K ?_
 try simp only [go_sem,seval,hn]
 repeat refine K ?_
 refine CA [(0,0)] (nE code (vK code (vK code c).2).2 hb) ?_
 try simp only [go_sem,seval]
 repeat refine K ?_
 try simp only [go_sem,seval,hn]
 repeat refine K ?_
 refine CA [(0,0)] (nE code (vK code (vK code (vK code c).2).2).2 hb) ?_
 try simp only [go_sem,seval]
 repeat refine K ?_
 try simp only [go_sem,seval,hn]
 repeat refine K ?_
 apply wD
 ·exact Sub.refl _
 ·simp [-List.drop_one,-gD,qQ,h0,h1]<;>(first | rfl | exact ⟨rfl,rfl⟩ | exact ⟨rfl,rfl,rfl⟩ | skip)
def pW (code:List Int) (c:Cur) (n:Int):Bool×Cur:=(decide ((qQ code c n).1=0),(qQ code c n).2)
theorem qTr (code:List Int) (c:Cur) (n:Int) (hb:code.length<2^62):qZ Tryz.prog num 40 [.ptr 0 0 0,.int .i64 n] [(0,some (3,[xV code c]),some (3,[xV code (pW code c n).2]))] (.bool (pW code c n).1):=by
 refine EH m40 Tryz.func150 ?_
 unfold m40
 simp only [go_sem,seval]
 repeat refine K ?_
 refine CA [(0,0)] (wP code c n hb) ?_
 try simp only [go_sem,seval]
 repeat refine K ?_
 refine fz ?_; simp [wJ,wA,wB,qY,-List.drop_one]
 simp [pW]
def gY (code:List Int) (c:Cur) (l:List Int):Int×Cur:=(l.getD (qQ code c l.length).1.toNat 0,(qQ code c l.length).2)
theorem uS (code:List Int) (c:Cur) (l:List Int) (hb:code.length<2^62) (hl:0<l.length):qZ Tryz.prog num 56 [.ptr 0 0 0,.sl .bw 1 (wK l)] [(0,some (3,[xV code c]),some (3,[xV code (gY code c l).2]))] (.int .i64 (gY code c l).1):=by
 refine EH m56 Tryz.func152 ?_
 unfold m56
 simp only [go_sem,seval]
 repeat refine K ?_
 refine CA [(0,0)] (wP code c l.length hb) ?_
 try simp only [go_sem,seval]
 repeat refine K ?_
 have h:=yB code c l.length (by omega)
 have h2:(qQ code c l.length).1.toNat<l.length:=by omega
 try simp only [go_sem,seval,qI l _ h2]
 repeat refine K ?_
 refine fz ?_; simp [wJ,wA,wB,qY,-List.drop_one]
 simp [gY]
theorem qOi (a b:Int):qZ Tryz.prog num 98 [.int .i64 a,.int .i64 b] [] (.int .i64 (if b<a then a else b)):=by
 have h:=sN a b
 have e:max a b=if b<a then a else b:=by split<;>omega
 rw [e] at h
 exact h
def qVq (h x:Int):Int:=qPc .i64 (IntKind.i64.wrap (IntKind.i64.wrap (IntKind.i64.wrap (h*131)+IntKind.i64.wrap x)+7)) 1073741823
def oI (code:List Int) (i:Nat):Int:=(code.take i).foldl qVq (IntKind.i64.wrap (18813+code.length))
def qA9 (code:List Int):Cur:=⟨0,oI code 4000⟩
theorem qOr (code:List Int) (i:Nat) (h:i<code.length):oI code (i+1)=qVq (oI code i) (code.getD i 0):=by
 unfold oI
 rw [xG code 0 i h,List.foldl_append]
 rfl
theorem qOg (code:List Int) (hb:code.length<2^62):qZ Tryz.prog num 37 [.sl .fz 1 (bys code)] [(10,none,some (3,[xV code (qA9 code)]))] (.ptr 10 0 0):=by
 refine EH m37 Tryz.func63 ?_
 unfold m37
 simp only [go_sem,seval]
 repeat refine K ?_
 refine wC (ι:=Nat) (fun i=>.mk [(0,.sl .fz 1 (bys code)),(3,.int .i64 (oI code i)),(4,.int .i64 i)] [] 10) (fun i=>i≤code.length∧i≤4000) (fun i=>code.length-i) 0 (by simp) ?_ ?_
 ·refine Sub.shape [] id (by omega) ?_ ?_ ?_ ?_<;>simp [qP]
  simp [oI]
 ·rintro i ⟨hi,hi2⟩
  have hfin :¬(i:Int)<4000∨¬(i:Int)<code.length→oI code i=oI code 4000:=by
   rintro (h | h)
   ·have:i=4000:=by omega
    rw [this]
   ·unfold oI
    rw [List.take_of_length_le (by omega),List.take_of_length_le (by omega)]
  by_cases h1:(i:Int)<code.length
  ·have h1':i<code.length:=by omega
   by_cases h2:(i:Int)<4000
   ·have hs:=qOr code i h1'
    unfold qVq at hs
    simp only [go_sem,seval,h1,h2,qP5 code i h1',←hs,qR (i:=i) (by omega)]
    repeat refine K ?_
    refine qT (i+1) ?_ ⟨h1',by omega⟩ (by omega)
    refine Sub.shape [] id (by omega) ?_ ?_ ?_ ?_<;>simp [qP]
   ·have he:=hfin (.inl h2)
    simp only [go_sem,seval,h1,h2,he]
    repeat refine K ?_
    apply wD
    ·exact Sub.refl _
    ·simp [-List.drop_one,-gD,qA9]<;>(first | rfl | exact ⟨rfl,rfl⟩ | exact ⟨rfl,rfl,rfl⟩ | skip)
  ·have he:=hfin (.inr h1)
   simp only [go_sem,seval,h1,he]
   repeat refine K ?_
   apply wD
   ·exact Sub.refl _
   ·simp [-List.drop_one,-gD,qA9]<;>(first | rfl | exact ⟨rfl,rfl⟩ | exact ⟨rfl,rfl,rfl⟩ | skip)
def qS3 (code:List Int) (places r a b n k:Int) (c:Cur):Ins×Cur :=
 if k=0∨k=1 then (⟨1,r,0,0,IntKind.i64.wrap ((qQ code c 9).1-2)⟩,(qQ code c 9).2)
 else if k=2∨k=3 then (⟨IntKind.i64.wrap (2+(qQ code c 3).1),r,a,b,0⟩,(qQ code c 3).2)
 else if k=4∨k=5∨k=6 then (⟨5,0,a,0,n⟩,c)
 else if k=7∨k=8∨k=9 then (⟨6,r,0,(IntKind.i64.wrap (r+1)).tmod 4,n⟩,c)
 else if k=10 then (⟨7,r,a,0,n⟩,c)
 else if k=11 then (⟨8,r,0,(IntKind.i64.wrap (r+1)).tmod 4,n⟩,c)
 else if k=12 then (if (pW code c 3).1 then (⟨9,0,0,0,n⟩,(pW code c 3).2) else (⟨11,0,0,0,(qQ code (pW code c 3).2 places).1⟩,(qQ code (pW code c 3).2 places).2))
 else if k=13 then (⟨12,0,a,0,(qQ code c places).1⟩,(qQ code c places).2)
 else (⟨10,0,a,0,0⟩,c)
def qVo (code:List Int) (places wY:Int) (r a b:Int) (c:Cur):Ins×Cur :=
 qS3 code places r a b (qQ code c (if 1<wY then wY else 1)).1 (qQ code (qQ code c (if 1<wY then wY else 1)).2 16).1 (qQ code (qQ code c (if 1<wY then wY else 1)).2 16).2
def qBr (code:List Int) (c:Cur) (places wY:Int):Ins×Cur :=
 qVo code places wY (qQ code c 4).1 (qQ code (qQ code c 4).2 4).1 (qQ code (qQ code (qQ code c 4).2 4).2 4).1 (qQ code (qQ code (qQ code c 4).2 4).2 4).2
theorem qLz (code:List Int) (c:Cur) (places wY:Int) (hb:code.length<2^62):qZ Tryz.prog num 91 [.ptr 0 0 0,.int .i64 places,.int .i64 wY] [(0,some (3,[xV code c]),some (3,[xV code (qBr code c places wY).2]))] (.agg (gU (qBr code c places wY).1)):=by
 refine EH m91 Tryz.func174 ?_
 unfold m91 qBr
 simp only [go_sem,seval]
 repeat refine K ?_
 refine CA [(0,0)] (wP code c 4 hb) ?_
 try simp only [go_sem,seval]
 repeat refine K ?_
 generalize qQ code c 4=r
 try simp only [go_sem,seval]
 repeat refine K ?_
 refine CA [(0,0)] (wP code r.2 4 hb) ?_
 try simp only [go_sem,seval]
 repeat refine K ?_
 generalize qQ code r.2 4=a
 try simp only [go_sem,seval]
 repeat refine K ?_
 refine CA [(0,0)] (wP code a.2 4 hb) ?_
 try simp only [go_sem,seval]
 repeat refine K ?_
 generalize qQ code a.2 4=b
 unfold qVo
 try simp only [go_sem,seval]
 repeat refine K ?_
 refine CA [] (qOi wY 1) ?_
 try simp only [go_sem,seval]
 repeat refine K ?_
 try simp only [go_sem,seval]
 repeat refine K ?_
 refine CA [(0,0)] (wP code b.2 (if 1<wY then wY else 1) hb) ?_
 try simp only [go_sem,seval]
 repeat refine K ?_
 generalize qQ code b.2 (if 1<wY then wY else 1)=n
 try simp only [go_sem,seval]
 repeat refine K ?_
 refine CA [(0,0)] (wP code n.2 16 hb) ?_
 try simp only [go_sem,seval]
 repeat refine K ?_
 generalize qQ code n.2 16=k
 try simp only [go_sem,seval]
 repeat refine K ?_
 obtain ⟨k,d⟩:=k
 simp only
 unfold qS3
 by_cases h0:k=0
 ·subst h0
  try simp only [go_sem,seval,reduceCtorEq]
  repeat refine K ?_
  refine CA [(0,0)] (wP code d 9 hb) ?_
  try simp only [go_sem,seval]
  repeat refine K ?_
  try simp only [go_sem,seval]
  repeat refine K ?_
  apply wD
  ·exact Sub.refl _
  ·simp [-List.drop_one,-gD,gU]<;>(first | rfl | exact ⟨rfl,rfl⟩ | exact ⟨rfl,rfl,rfl⟩ | skip)
 by_cases h1:k=1
 ·subst h1
  try simp only [go_sem,seval,reduceCtorEq]
  repeat refine K ?_
  refine CA [(0,0)] (wP code d 9 hb) ?_
  try simp only [go_sem,seval]
  repeat refine K ?_
  try simp only [go_sem,seval]
  repeat refine K ?_
  apply wD
  ·exact Sub.refl _
  ·simp [-List.drop_one,-gD,gU]<;>(first | rfl | exact ⟨rfl,rfl⟩ | exact ⟨rfl,rfl,rfl⟩ | skip)
 by_cases h2:k=2
 ·subst h2
  try simp only [go_sem,seval,reduceCtorEq]
  repeat refine K ?_
  refine CA [(0,0)] (wP code d 3 hb) ?_
  try simp only [go_sem,seval]
  repeat refine K ?_
  try simp only [go_sem,seval]
  repeat refine K ?_
  apply wD
  ·exact Sub.refl _
  ·simp [-List.drop_one,-gD,gU]<;>(first | rfl | exact ⟨rfl,rfl⟩ | exact ⟨rfl,rfl,rfl⟩ | skip)
 by_cases h3:k=3
 ·subst h3
  try simp only [go_sem,seval,reduceCtorEq]
  repeat refine K ?_
  refine CA [(0,0)] (wP code d 3 hb) ?_
  try simp only [go_sem,seval]
  repeat refine K ?_
  try simp only [go_sem,seval]
  repeat refine K ?_
  apply wD
  ·exact Sub.refl _
  ·simp [-List.drop_one,-gD,gU]<;>(first | rfl | exact ⟨rfl,rfl⟩ | exact ⟨rfl,rfl,rfl⟩ | skip)
 by_cases h4:k=4
 ·subst h4
  try simp only [go_sem,seval,reduceCtorEq]
  repeat refine K ?_
  apply wD
  ·exact Sub.refl _
  ·simp [-List.drop_one,-gD,gU]<;>(first | rfl | exact ⟨rfl,rfl⟩ | exact ⟨rfl,rfl,rfl⟩ | skip)
 by_cases h5:k=5
 ·subst h5
  try simp only [go_sem,seval,reduceCtorEq]
  repeat refine K ?_
  apply wD
  ·exact Sub.refl _
  ·simp [-List.drop_one,-gD,gU]<;>(first | rfl | exact ⟨rfl,rfl⟩ | exact ⟨rfl,rfl,rfl⟩ | skip)
 by_cases h6:k=6
 ·subst h6
  try simp only [go_sem,seval,reduceCtorEq]
  repeat refine K ?_
  apply wD
  ·exact Sub.refl _
  ·simp [-List.drop_one,-gD,gU]<;>(first | rfl | exact ⟨rfl,rfl⟩ | exact ⟨rfl,rfl,rfl⟩ | skip)
 by_cases h7:k=7
 ·subst h7
  try simp only [go_sem,seval,reduceCtorEq]
  repeat refine K ?_
  apply wD
  ·exact Sub.refl _
  ·simp [-List.drop_one,-gD,gU]<;>(first | rfl | exact ⟨rfl,rfl⟩ | exact ⟨rfl,rfl,rfl⟩ | skip)
 by_cases h8:k=8
 ·subst h8
  try simp only [go_sem,seval,reduceCtorEq]
  repeat refine K ?_
  apply wD
  ·exact Sub.refl _
  ·simp [-List.drop_one,-gD,gU]<;>(first | rfl | exact ⟨rfl,rfl⟩ | exact ⟨rfl,rfl,rfl⟩ | skip)
 by_cases h9:k=9
 ·subst h9
  try simp only [go_sem,seval,reduceCtorEq]
  repeat refine K ?_
  apply wD
  ·exact Sub.refl _
  ·simp [-List.drop_one,-gD,gU]<;>(first | rfl | exact ⟨rfl,rfl⟩ | exact ⟨rfl,rfl,rfl⟩ | skip)
 by_cases h10:k=10
 ·subst h10
  try simp only [go_sem,seval,reduceCtorEq]
  repeat refine K ?_
  apply wD
  ·exact Sub.refl _
  ·simp [-List.drop_one,-gD,gU]<;>(first | rfl | exact ⟨rfl,rfl⟩ | exact ⟨rfl,rfl,rfl⟩ | skip)
 by_cases h11:k=11
 ·subst h11
  try simp only [go_sem,seval,reduceCtorEq]
  repeat refine K ?_
  apply wD
  ·exact Sub.refl _
  ·simp [-List.drop_one,-gD,gU]<;>(first | rfl | exact ⟨rfl,rfl⟩ | exact ⟨rfl,rfl,rfl⟩ | skip)
 by_cases h12:k=12
 ·subst h12
  try simp only [go_sem,seval,reduceCtorEq]
  repeat refine K ?_
  refine CA [(0,0)] (qTr code d 3 hb) ?_
  try simp only [go_sem,seval]
  repeat refine K ?_
  cases ho:(pW code d 3).1
  ·try simp only [go_sem,seval,ho]
   repeat refine K ?_
   refine CA [(0,0)] (wP code (pW code d 3).2 places hb) ?_
   try simp only [go_sem,seval]
   repeat refine K ?_
   try simp only [go_sem,seval]
   repeat refine K ?_
   apply wD
   ·exact Sub.refl _
   ·simp [-List.drop_one,-gD,ho]<;>(first | rfl | exact ⟨rfl,rfl⟩ | exact ⟨rfl,rfl,rfl⟩ | skip)
  ·try simp only [go_sem,seval,ho]
   repeat refine K ?_
   apply wD
   ·exact Sub.refl _
   ·simp [-List.drop_one,-gD,ho]<;>(first | rfl | exact ⟨rfl,rfl⟩ | exact ⟨rfl,rfl,rfl⟩ | skip)
 by_cases h13:k=13
 ·subst h13
  try simp only [go_sem,seval,reduceCtorEq]
  repeat refine K ?_
  refine CA [(0,0)] (wP code d places hb) ?_
  try simp only [go_sem,seval]
  repeat refine K ?_
  try simp only [go_sem,seval]
  repeat refine K ?_
  apply wD
  ·exact Sub.refl _
  ·simp [-List.drop_one,-gD,gU]<;>(first | rfl | exact ⟨rfl,rfl⟩ | exact ⟨rfl,rfl,rfl⟩ | skip)
 try simp only [go_sem,seval,h0,h1,h2,h3,h4,h5,h6,h7,h8,h9,h10,h11,h12,h13]
 repeat refine K ?_
 apply wD
 ·exact Sub.refl _
 ·simp [-List.drop_one,-gD,gU,h0,h1,h2,h3,h4,h5,h6,h7,h8,h9,h10,h11,h12,h13]<;>(first | rfl | exact ⟨rfl,rfl⟩ | exact ⟨rfl,rfl,rfl⟩ | skip)
def zL {β:Type} (step:Cur→β×Cur):Nat→Cur→List β×Cur
 | 0,c=>([],c)
 | n+1,c=>((zL step n c).1++[(step (zL step n c).2).1],(step (zL step n c).2).2)
@[simp] theorem zK {β:Type} (step:Cur→β×Cur) (c:Cur) :∀(n:Nat),(zL step n c).1.length=n
 | 0=>rfl
 | n+1=>by simp [zL,zK step c n]
def qMt (code:List Int) (wY n m k:Int) (c:Cur):List Ins×Cur :=
 if k=0 then ([⟨1,0,0,0,3⟩,⟨1,1,0,0,1⟩,⟨5,0,0,0,n⟩,⟨3,0,0,1,0⟩,⟨12,0,0,0,6⟩,⟨11,0,0,0,2⟩,⟨13,0,0,0,0⟩],c)
 else if k=1 then ([⟨6,0,0,1,n⟩,⟨12,0,1,0,4⟩,⟨10,0,0,0,0⟩,⟨11,0,0,0,0⟩,⟨13,0,0,0,0⟩],c)
 else if k=2 then ([⟨6,0,0,1,n⟩,⟨2,0,0,1,0⟩,⟨5,0,0,0,m⟩,⟨10,0,0,0,0⟩,⟨11,0,0,0,0⟩],c)
 else if k=3 then ([⟨1,2,0,0,5⟩,⟨7,3,2,0,n⟩,⟨8,0,0,1,m⟩,⟨10,0,1,0,0⟩,⟨2,2,2,3,0⟩,⟨11,0,0,0,1⟩],c)
 else
  ((zL (fun d=>qBr code d (2+(qQ code c 9).1+1) wY) (2+(qQ code c 9).1).toNat (qQ code c 9).2).1++[⟨(gY code (zL (fun d=>qBr code d (2+(qQ code c 9).1+1) wY) (2+(qQ code c 9).1).toNat (qQ code c 9).2).2 [13,11]).1,0,0,0,0⟩],
   (gY code (zL (fun d=>qBr code d (2+(qQ code c 9).1+1) wY) (2+(qQ code c 9).1).toNat (qQ code c 9).2).2 [13,11]).2)
def qMs (code:List Int) (wY n m:Int) (c:Cur):List Ins×Cur:=qMt code wY n m (qQ code c 5).1 (qQ code c 5).2
def lJ (code:List Int) (c:Cur) (wY:Int):List Ins×Cur :=
 qMs code wY (qQ code c wY).1 (qQ code (qQ code c wY).2 wY).1 (qQ code (qQ code c wY).2 wY).2
theorem qMr (code:List Int) (c:Cur) (wY:Int):1≤(lJ code c wY).1.length∧(lJ code c wY).1.length≤24:=by
 unfold lJ qMs
 generalize qQ code (qQ code (qQ code c wY).2 wY).2 5=k
 unfold qMt
 have h:=yB code k.2 9 (by omega)
 repeat' split
 all_goals first | (simp; done) | (simp; omega)
theorem qIw (code:List Int) (c:Cur) (wY:Int) (hb:code.length<2^62):qZ Tryz.prog num 77 [.ptr 0 0 0,.int .i64 wY] [(0,some (3,[xV code c]),some (3,[xV code (lJ code c wY).2]))] (.sl .own 5 (gO (lJ code c wY).1)):=by
 refine EH m77 Tryz.func132 ?_
 unfold m77 lJ
 simp only [go_sem,seval]
 repeat refine K ?_
 refine CA [(0,0)] (wP code c wY hb) ?_
 try simp only [go_sem,seval]
 repeat refine K ?_
 generalize qQ code c wY=n
 try simp only [go_sem,seval]
 repeat refine K ?_
 refine CA [(0,0)] (wP code n.2 wY hb) ?_
 try simp only [go_sem,seval]
 repeat refine K ?_
 generalize qQ code n.2 wY=m
 try simp only [go_sem,seval]
 repeat refine K ?_
 unfold qMs
 refine CA [(0,0)] (wP code m.2 5 hb) ?_
 try simp only [go_sem,seval]
 repeat refine K ?_
 generalize qQ code m.2 5=k
 try simp only [go_sem,seval]
 repeat refine K ?_
 obtain ⟨k,d⟩:=k
 simp only
 unfold qMt
 by_cases h0:k=0
 ·subst h0
  try simp only [go_sem,seval,reduceCtorEq]
  repeat refine K ?_
  apply wD
  ·exact Sub.refl _
  ·simp [-List.drop_one,-gD,gO,gU]<;>(first | rfl | exact ⟨rfl,rfl⟩ | exact ⟨rfl,rfl,rfl⟩ | skip)
 by_cases h1:k=1
 ·subst h1
  try simp only [go_sem,seval,reduceCtorEq]
  repeat refine K ?_
  apply wD
  ·exact Sub.refl _
  ·simp [-List.drop_one,-gD,gO,gU]<;>(first | rfl | exact ⟨rfl,rfl⟩ | exact ⟨rfl,rfl,rfl⟩ | skip)
 by_cases h2:k=2
 ·subst h2
  try simp only [go_sem,seval,reduceCtorEq]
  repeat refine K ?_
  apply wD
  ·exact Sub.refl _
  ·simp [-List.drop_one,-gD,gO,gU]<;>(first | rfl | exact ⟨rfl,rfl⟩ | exact ⟨rfl,rfl,rfl⟩ | skip)
 by_cases h3:k=3
 ·subst h3
  try simp only [go_sem,seval,reduceCtorEq]
  repeat refine K ?_
  apply wD
  ·exact Sub.refl _
  ·simp [-List.drop_one,-gD,gO,gU]<;>(first | rfl | exact ⟨rfl,rfl⟩ | exact ⟨rfl,rfl,rfl⟩ | skip)
 simp only [if_neg h0,if_neg h1,if_neg h2,if_neg h3]
 try simp only [go_sem,seval,h0,h1,h2,h3]
 repeat refine K ?_
 refine CA [(0,0)] (wP code d 9 hb) ?_
 try simp only [go_sem,seval]
 repeat refine K ?_
 have hr:=yB code d 9 (by omega)
 generalize qQ code d 9=r at hr
 obtain ⟨r,e⟩:=r
 simp only at hr⊢
 have w1:IntKind.i64.wrap (2+r)=2+r:=wM (by omega) (by omega)
 have w2:IntKind.i64.wrap (2+r+1)=2+r+1:=wM (by omega) (by omega)
 try simp only [go_sem,seval,w1]
 repeat refine K ?_
 refine wC (ι:=Nat) (fun i=>.mk [(0,.ptr 0 0 0),(1,.int .i64 wY),(7,.int .i64 (2+r)),(8,.ns 10 0 i),(9,.int .i64 i)] [(0,3,[xV code (zL (fun d=>qBr code d (2+r+1) wY) i e).2]),(10,5,gO (zL (fun d=>qBr code d (2+r+1) wY) i e).1)] 11) (fun i=>i≤(2+r).toNat) (fun i=>(2+r).toNat-i) 0 (by simp) ?_ ?_
 ·refine Sub.shape [] id (by omega) ?_ ?_ ?_ ?_<;>simp [qP]
  all_goals simp [zL,gO]
 ·intro i hi
  simp only [go_sem,seval]
  refine qS (fun hc=>?_) (fun hc=>?_)
  ·simp only [decide_eq_true_eq] at hc
   simp only [go_sem,seval,w2,qR (i:=i) (by omega)]
   repeat refine K ?_
   refine CA [(0,0)] (qLz code (zL (fun d=>qBr code d (2+r+1) wY) i e).2 (2+r+1) wY hb) ?_
   try simp only [go_sem,seval]
   repeat refine K ?_
   try simp only [go_sem,seval,qR (i:=i) (by omega),zK]
   repeat refine K ?_
   refine qT (i+1) ?_ (by omega) (by omega)
   simp only [zL]
   refine Sub.shape [] (fun n=>if n=10 then 12 else n) (by omega) ?_ ?_ ?_ ?_<;>simp [qP]
   exact .inl (by simp [gO,gU])
  ·simp only [decide_eq_false_iff_not] at hc
   have hie:i=(2+r).toNat:=by omega
   subst hie
   have hl:wK [13,11]=[[AV.int .i64 13],[.int .i64 11]]:=rfl
   simp only [go_sem,seval,←hl]
   repeat refine K ?_
   refine CA [(0,0)] (uS code (zL (fun d=>qBr code d (2+r+1) wY) (2+r).toNat e).2 [13,11] hb (by decide)) ?_
   try simp only [go_sem,seval]
   repeat refine K ?_
   try simp only [go_sem,seval,zK]
   repeat refine K ?_
   apply wD
   ·exact Sub.refl _
   ·simp [-List.drop_one,-gD,gU,gO]<;>(first | rfl | exact ⟨rfl,rfl⟩ | exact ⟨rfl,rfl,rfl⟩ | skip)
def gW {β:Type} (code:List Int) (base m:Int) (step:Cur→β×Cur):Nat→Nat→Cur→List β→List β×Cur
 | 0,_,c,acc=>(acc,(qQ code c m).2)
 | f+1,i,c,acc=>if (i:Int)<base+(qQ code c m).1 then gW code base m step f (i+1) (step (qQ code c m).2).2 (acc++[(step (qQ code c m).2).1]) else (acc,(qQ code c m).2)
theorem qDe {β:Type} {code:List Int} {base m:Int} {step:Cur→β×Cur} {N i:Nat} {c:Cur} {acc:List β} (hi:i<N) (h:(i:Int)<base+(qQ code c m).1) :
  gW code base m step (N-i) i c acc=gW code base m step (N-(i+1)) (i+1) (step (qQ code c m).2).2 (acc++[(step (qQ code c m).2).1]):=by
 have:N-i=(N-(i+1))+1:=by omega
 rw [this]
 simp only [gW,if_pos h]
theorem rO {β:Type} {code:List Int} {base m:Int} {step:Cur→β×Cur} {f i:Nat} {c:Cur} {acc:List β} (h :¬(i:Int)<base+(qQ code c m).1) :
  gW code base m step f i c acc=(acc,(qQ code c m).2):=by
 cases f with
 | zero=>rfl
 | succ f=>simp only [gW,if_neg h]
theorem cA {β:Type} {code:List Int} {base m:Int} {step:Cur→β×Cur} :∀(f i:Nat) (c:Cur) (acc:List β),acc.length≤(gW code base m step f i c acc).1.length∧(gW code base m step f i c acc).1.length≤acc.length+f
 | 0,_,_,acc=>by simp [gW]
 | f+1,i,c,acc=>by
  simp only [gW]
  split
  ·have:=cA (code:=code) (base:=base) (m:=m) (step:=step) f (i+1) (step (qQ code c m).2).2 (acc++[(step (qQ code c m).2).1])
   simp only [List.length_append,List.length_cons,List.length_nil] at this
   omega
  ·simp
theorem qHc {β:Type} {code:List Int} {base m:Int} {step:Cur→β×Cur} (f:Nat) (c:Cur) (hb:0<base) (hm:0<m):1≤(gW code base m step (f+1) 0 c []).1.length:=by
 have:=yB code c m hm
 simp only [gW]
 rw [if_pos (by omega)]
 have h2:=(cA (code:=code) (base:=base) (m:=m) (step:=step) f (0+1) (step (qQ code c m).2).2 ([]++[(step (qQ code c m).2).1])).1
 simpa using h2
theorem lG {β:Type} {code:List Int} {base m:Int} {step:Cur→β×Cur} {Q:β→Prop} (hs :∀c,Q (step c).1) :∀(f i:Nat) (c:Cur) (acc:List β),(∀x∈acc,Q x)→∀x∈(gW code base m step f i c acc).1,Q x
 | 0,_,_,acc,h=>h
 | f+1,i,c,acc,h=>by
  simp only [gW]
  split
  ·refine lG hs f (i+1) _ _ fun x hx=>?_
   rcases List.mem_append.1 hx with hx | hx
   ·exact h x hx
   ·rw [List.mem_singleton.1 hx]
    exact hs _
  ·exact h
def iH (code:List Int) (n:Nat) (c:Cur):List Int×Cur:=zL (fun d=>(IntKind.i64.wrap (1+(qQ code d 4).1),(qQ code d 4).2)) n c
def qF5 (code:List Int) (n:Int) (c:Cur):wV×Cur :=
 (⟨(iH code n.toNat c).1,(gW code 1 4 (fun d=>lJ code d n) 4 0 (iH code n.toNat c).2 []).1⟩,(gW code 1 4 (fun d=>lJ code d n) 4 0 (iH code n.toNat c).2 []).2)
def aU (code:List Int) (c:Cur):wV×Cur:=qF5 code (1+(qQ code c 3).1) (qQ code c 3).2
def qRq (code:List Int) (k:Int) (c:Cur) (x:Ins):Ins×Cur :=
 if k=0 then (⟨IntKind.i64.wrap ((qQ code c 16).1-1),x.r,x.a,x.b,x.n⟩,(qQ code c 16).2)
 else if k=1 then (⟨x.op,IntKind.i64.wrap ((qQ code c 6).1-1),x.a,x.b,x.n⟩,(qQ code c 6).2)
 else if k=2 then (⟨x.op,x.r,IntKind.i64.wrap ((qQ code c 6).1-1),x.b,x.n⟩,(qQ code c 6).2)
 else if k=3 then (⟨x.op,x.r,x.a,IntKind.i64.wrap ((qQ code c 6).1-1),x.n⟩,(qQ code c 6).2)
 else if k=4 then (⟨x.op,x.r,x.a,x.b,(gY code c [-1,0,3,23,24,1000000000,1000000001]).1⟩,(gY code c [-1,0,3,23,24,1000000000,1000000001]).2)
 else (x,c)
def qFt (code:List Int) (c:Cur) (x:Ins):Ins×Cur:=qRq code (qQ code c 8).1 (qQ code c 8).2 x
theorem qQd (code:List Int) (c:Cur) (x:Ins) (hb:code.length<2^62):qZ Tryz.prog num 57 [.ptr 0 0 0,.agg (gU x)] [(0,some (3,[xV code c]),some (3,[xV code (qFt code c x).2]))] (.agg (gU (qFt code c x).1)):=by
 refine EH m57 Tryz.func153 ?_
 unfold m57 qFt
 simp only [go_sem,seval]
 repeat refine K ?_
 refine CA [(0,0)] (wP code c 8 hb) ?_
 try simp only [go_sem,seval]
 repeat refine K ?_
 generalize qQ code c 8=k
 try simp only [go_sem,seval]
 repeat refine K ?_
 obtain ⟨k,d⟩:=k
 simp only
 unfold qRq
 by_cases h0:k=0
 ·subst h0
  try simp only [go_sem,seval,reduceCtorEq]
  repeat refine K ?_
  refine CA [(0,0)] (wP code d 16 hb) ?_
  try simp only [go_sem,seval]
  repeat refine K ?_
  try simp only [go_sem,seval]
  repeat refine K ?_
  apply wD
  ·exact Sub.refl _
  ·simp [-List.drop_one,-gD,gU]<;>(first | rfl | exact ⟨rfl,rfl⟩ | exact ⟨rfl,rfl,rfl⟩ | skip)
 by_cases h1:k=1
 ·subst h1
  try simp only [go_sem,seval,reduceCtorEq]
  repeat refine K ?_
  refine CA [(0,0)] (wP code d 6 hb) ?_
  try simp only [go_sem,seval]
  repeat refine K ?_
  try simp only [go_sem,seval]
  repeat refine K ?_
  apply wD
  ·exact Sub.refl _
  ·simp [-List.drop_one,-gD,gU]<;>(first | rfl | exact ⟨rfl,rfl⟩ | exact ⟨rfl,rfl,rfl⟩ | skip)
 by_cases h2:k=2
 ·subst h2
  try simp only [go_sem,seval,reduceCtorEq]
  repeat refine K ?_
  refine CA [(0,0)] (wP code d 6 hb) ?_
  try simp only [go_sem,seval]
  repeat refine K ?_
  try simp only [go_sem,seval]
  repeat refine K ?_
  apply wD
  ·exact Sub.refl _
  ·simp [-List.drop_one,-gD,gU]<;>(first | rfl | exact ⟨rfl,rfl⟩ | exact ⟨rfl,rfl,rfl⟩ | skip)
 by_cases h3:k=3
 ·subst h3
  try simp only [go_sem,seval,reduceCtorEq]
  repeat refine K ?_
  refine CA [(0,0)] (wP code d 6 hb) ?_
  try simp only [go_sem,seval]
  repeat refine K ?_
  try simp only [go_sem,seval]
  repeat refine K ?_
  apply wD
  ·exact Sub.refl _
  ·simp [-List.drop_one,-gD,gU]<;>(first | rfl | exact ⟨rfl,rfl⟩ | exact ⟨rfl,rfl,rfl⟩ | skip)
 by_cases h4:k=4
 ·subst h4
  have hl:wK [-1,0,3,23,24,1000000000,1000000001]=[[AV.int .i64 (-1)],[.int .i64 0],[.int .i64 3],[.int .i64 23],[.int .i64 24],[.int .i64 1000000000],[.int .i64 1000000001]]:=rfl
  try simp only [go_sem,seval,reduceCtorEq,←hl]
  repeat refine K ?_
  refine CA [(0,0)] (uS code d [-1,0,3,23,24,1000000000,1000000001] hb (by decide)) ?_
  try simp only [go_sem,seval]
  repeat refine K ?_
  try simp only [go_sem,seval]
  repeat refine K ?_
  apply wD
  ·exact Sub.refl _
  ·simp [-List.drop_one,-gD,gU]<;>(first | rfl | exact ⟨rfl,rfl⟩ | exact ⟨rfl,rfl,rfl⟩ | skip)
 try simp only [go_sem,seval,h0,h1,h2,h3,h4]
 repeat refine K ?_
 apply wD
 ·exact Sub.refl _
 ·simp [-List.drop_one,-gD,gU,h0,h1,h2,h3,h4]<;>(first | rfl | exact ⟨rfl,rfl⟩ | exact ⟨rfl,rfl,rfl⟩ | skip)
theorem oR (code:List Int) (n:Nat) (c:Cur):(iH code n c).1.length=n:=zK _ _ _
theorem qP8 (l:List (List Ins)) (b:List Ins):uC .own l++[[.sl .own 5 (gO b)]]=uC .own (l++[b]):=by simp [uC]
theorem rB (code:List Int) (c:Cur) (hb:code.length<2^62):qZ Tryz.prog num 55 [.ptr 0 0 0] [(0,some (3,[xV code c]),some (3,[xV code (aU code c).2]))] (.agg (vC .own (aU code c).1)):=by
 refine EH m55 Tryz.func64 ?_
 unfold m55 aU
 simp only [go_sem,seval]
 repeat refine K ?_
 refine CA [(0,0)] (wP code c 3 hb) ?_
 try simp only [go_sem,seval]
 repeat refine K ?_
 have hn:=yB code c 3 (by omega)
 generalize qQ code c 3=r at hn
 obtain ⟨r,d⟩:=r
 simp only at hn⊢
 have w1:IntKind.i64.wrap (1+r)=1+r:=wM (by omega) (by omega)
 try simp only [go_sem,seval,w1]
 repeat refine K ?_
 obtain ⟨n,hn2⟩:=Int.eq_ofNat_of_zero_le (show 0≤1+r by omega)
 rw [hn2]
 unfold qF5
 refine wC (ι:=Nat) (fun i=>.mk [(0,.ptr 0 0 0),(2,.ptr 10 0 0),(3,.ptr 11 0 0),(4,.int .i64 n),(5,.int .i64 i)] [(0,3,[xV code (iH code i d).2]),(10,2,[[.nil,.nil]]),(11,2,[[.sl .own 1 (wK (iH code i d).1),.nil]])] 12) (fun i=>i≤n) (fun i=>n-i) 0 (by simp) ?_ ?_
 ·refine Sub.shape [] id (by omega) ?_ ?_ ?_ ?_<;>simp [qP]
  all_goals simp [iH,zL,eY]
 ·intro i hi
  have hcl:=oR code i d
  simp only [go_sem,seval]
  refine qS (fun hc=>?_) (fun hc=>?_)
  ·simp only [decide_eq_true_eq] at hc
   simp only [go_sem,seval,qR (i:=i) (by omega),hcl]
   repeat refine K ?_
   refine DA [(0,0)] (wP code (iH code i d).2 4 hb) ?_
   try simp only [go_sem,seval]
   repeat refine K ?_
   try simp only [go_sem,seval,qR (i:=i) (by omega),hcl]
   repeat refine K ?_
   refine qT (i+1) ?_ (by omega) (by omega)
   have hs:iH code (i+1) d=((iH code i d).1++[IntKind.i64.wrap (1+(qQ code (iH code i d).2 4).1)],(qQ code (iH code i d).2 4).2):=rfl
   refine Sub.trans (Sub.fold1 11 0 14 rfl (by simp [-gD]<;>omega) rfl (by decide) (by decide) rfl) ?_
   simp only [fS,qA,qC,qTv,hcl]
   rw [hs]
   refine Sub.shape [] id (by omega) ?_ ?_ ?_ ?_<;>simp [qP]
  ·simp only [decide_eq_false_iff_not] at hc
   have hie:i=n:=by omega
   subst hie
   simp only [go_sem,seval]
   repeat refine K ?_
   try simp only [Int.toNat_natCast]
   obtain ⟨p,hp⟩ :∃p,iH code i d=p:=⟨_,rfl⟩
   obtain ⟨cs,e⟩:=p
   rw [hp] at hcl⊢
   simp only at hcl⊢
   refine wC (ι:=Nat×Cur×List (List Ins)) (fun s=>.mk [(0,.ptr 0 0 0),(2,.ptr 10 0 0),(3,.ptr 11 0 0),(4,.int .i64 i),(6,.int .i64 s.1)] [(0,3,[xV code s.2.1]),(10,2,[[.nil,.nil]]),(11,2,[[.sl .own 1 (wK cs),.sl .own 1 (uC .own s.2.2)]])] 12) (fun s=>s.1≤4∧s.2.2.length=s.1∧gW code 1 4 (fun d=>lJ code d i) (4-s.1) s.1 s.2.1 s.2.2=gW code 1 4 (fun d=>lJ code d i) 4 0 e []) (fun s=>4-s.1) (0,e,[]) ⟨by simp,rfl,rfl⟩ ?_ ?_
   ·refine Sub.shape [] id (by omega) ?_ ?_ ?_ ?_<;>simp [qP]
   ·rintro ⟨j,f,acc⟩ ⟨hj,hl,hd⟩
    simp only at hj hl hd⊢
    simp only [go_sem,seval]
    refine CA [(0,0)] (wP code f 4 hb) ?_
    try simp only [go_sem,seval]
    repeat refine K ?_
    have hr:=yB code f 4 (by omega)
    have w2:IntKind.i64.wrap (1+(qQ code f 4).1)=1+(qQ code f 4).1:=wM (by omega) (by omega)
    try simp only [go_sem,seval,w2]
    repeat refine K ?_
    refine qS (fun hc=>?_) (fun hc=>?_)
    ·simp only [decide_eq_true_eq] at hc
     have hg:=qDe (code:=code) (base:=1) (m:=4) (step:=fun d=>lJ code d i) (N:=4) (i:=j) (c:=f) (acc:=acc) (by omega) hc
     rw [hg] at hd
     try simp only at hd
     simp only [go_sem,seval,qR (i:=j) (by omega),hl]
     repeat refine K ?_
     refine DA [(0,0)] (qIw code (qQ code f 4).2 i hb) ?_
     try simp only [go_sem,seval]
     repeat refine K ?_
     try simp only [go_sem,seval,qR (i:=j) (by omega),hl]
     repeat refine K ?_
     refine qT (j+1,(lJ code (qQ code f 4).2 i).2,acc++[(lJ code (qQ code f 4).2 i).1]) ?_ ⟨by simp only; omega,by simp only [List.length_append,hl]; rfl,hd⟩ (by simp only; omega)
     refine Sub.trans (Sub.foldLast 15 0 13 rfl (by simp [-gD]<;>omega) rfl (by decide) (by decide) rfl) ?_
     simp only [fS,qA,qC,qP8]
     refine Sub.trans (Sub.fold1 11 1 15 rfl (by simp [-gD]<;>omega) rfl (by decide) (by decide) rfl) ?_
     simp only [fS,qA,qC,hl]
     refine Sub.shape [] id (by omega) ?_ ?_ ?_ ?_<;>simp [qP]
    ·simp only [decide_eq_false_iff_not] at hc
     rw [rO hc] at hd
     simp only [go_sem,seval]
     repeat refine K ?_
     rw [←hd]
     apply wD
     ·exact Sub.refl _
     ·simp [-List.drop_one,-gD,]<;>(first | rfl | exact ⟨rfl,rfl⟩ | exact ⟨rfl,rfl,rfl⟩ | skip)
theorem qCp (code:List Int) (c:Cur):1≤(aU code c).1.caps.length∧(aU code c).1.caps.length≤3∧1≤(aU code c).1.bods.length∧(aU code c).1.bods.length≤4∧∀b∈(aU code c).1.bods,1≤b.length∧b.length≤24:=by
 unfold aU
 have hn:=yB code c 3 (by omega)
 generalize qQ code c 3=r at hn
 obtain ⟨r,d⟩:=r
 simp only at hn⊢
 unfold qF5
 have h1:=oR code (1+r).toNat d
 generalize iH code (1+r).toNat d=p at h1
 obtain ⟨cs,e⟩:=p
 simp only at h1⊢
 refine ⟨by omega,by omega,qHc 3 e (by omega) (by omega),?_,lG (Q:=fun (b:List Ins)=>1≤b.length∧b.length≤24) (fun c=>qMr code c (1+r)) 4 0 e [] (by simp)⟩
 exact (cA 4 0 e []).2
def qQo (code:List Int) (k:Int) (c:Cur) (p:wV):wV×Cur :=
 if k=0 then (⟨p.caps.set 0 (gY code c [0,5]).1,p.bods⟩,(gY code c [0,5]).2)
 else if k=1 then (⟨p.caps,p.bods.set 0 ((p.bods.getD 0 []).set 0 (qFt code c ((p.bods.getD 0 []).getD 0 default)).1)⟩,(qFt code c ((p.bods.getD 0 []).getD 0 default)).2)
 else if k=2 then (⟨p.caps,[]⟩,c)
 else if k=3 then (⟨p.caps++[1,1,1],p.bods⟩,c)
 else (p,c)
def qQn (code:List Int) (r:wV×Cur):wV×Cur:=qQo code (qQ code r.2 20).1 (qQ code r.2 20).2 r.1
def qEk (code:List Int) (c:Cur):wV×Cur:=qQn code (aU code c)
theorem qOv (code:List Int) (c:Cur):(qEk code c).1.caps.length≤6∧(qEk code c).1.bods.length≤4∧∀b∈(qEk code c).1.bods,b.length≤24:=by
 unfold qEk qQn
 obtain ⟨h1,h2,h3,h4,h5⟩:=qCp code c
 generalize aU code c=r at *
 obtain ⟨p,d⟩:=r
 simp only at *
 generalize qQ code d 20=k
 unfold qQo
 repeat' split
 ·exact ⟨by simp; omega,h4,fun b hb=>(h5 b hb).2⟩
 ·refine ⟨by simp only; omega,by simp; omega,fun b hb=>?_⟩
  simp only at hb
  rcases List.mem_or_eq_of_mem_set hb with hb | hb
  ·exact (h5 b hb).2
  ·rw [hb,List.length_set]
   exact (h5 _ (wX p.bods 0 [] (by omega))).2
 ·exact ⟨by simp only; omega,by simp,fun b hb=>by simp at hb⟩
 ·exact ⟨by simp; omega,h4,fun b hb=>(h5 b hb).2⟩
 ·exact ⟨by simp only; omega,h4,fun b hb=>(h5 b hb).2⟩
theorem qTs (code:List Int) (c:Cur) (hb:code.length<2^62):qZ Tryz.prog num 38 [.ptr 0 0 0] [(0,some (3,[xV code c]),some (3,[xV code (qEk code c).2]))] (.agg (vC .own (qEk code c).1)):=by
 refine EH m38 Tryz.func98 ?_
 unfold m38 qEk
 simp only [go_sem,seval]
 repeat refine K ?_
 refine CA [(0,0)] (rB code c hb) ?_
 try simp only [go_sem,seval]
 repeat refine K ?_
 obtain ⟨g1,g2,g3,g4,g5⟩:=qCp code c
 generalize aU code c=r at *
 obtain ⟨p,d⟩:=r
 simp only at *
 have g6:=g5 _ (wX p.bods 0 [] (by omega))
 try simp only [go_sem,seval]
 repeat refine K ?_
 unfold qQn
 refine CA [(0,0)] (wP code d 20 hb) ?_
 try simp only [go_sem,seval]
 repeat refine K ?_
 try simp only [go_sem,seval]
 repeat refine K ?_
 generalize qQ code d 20=k
 obtain ⟨k,d⟩:=k
 simp only
 unfold qQo
 by_cases h0:k=0
 ·subst h0
  have hl:wK [0,5]=[[AV.int .i64 0],[.int .i64 5]]:=rfl
  have h0:=qI p.caps 0 (by omega)
  try simp only [go_sem,seval,reduceCtorEq,←hl,h0]
  repeat refine K ?_
  refine DA [(0,0)] (uS code d [0,5] hb (by decide)) ?_
  try simp only [go_sem,seval]
  repeat refine K ?_
  try simp only [go_sem,seval,h0]
  repeat refine K ?_
  apply wD
  ·exact Sub.refl _
  ·simp [-List.drop_one,-gD,]<;>(first | rfl | exact ⟨rfl,rfl⟩ | exact ⟨rfl,rfl,rfl⟩ | skip)
 by_cases h1:k=1
 ·subst h1
  have hb0:=dE .own p.bods 0 (by omega)
  have gs :∀r,((uC .own p.bods).set 0 r).getD 0 []=r:=fun r=>wE _ _ _ _ (by rw [hO]; omega)
  have hx:=zB (p.bods.getD 0 []) 0 (by omega)
  try simp only [go_sem,seval,reduceCtorEq,hb0,gs,hx]
  repeat refine K ?_
  refine DA [(0,0)] (qQd code d ((p.bods.getD 0 []).getD 0 default) hb) ?_
  try simp only [go_sem,seval]
  repeat refine K ?_
  try simp only [go_sem,seval,hb0,gs,hx]
  repeat refine K ?_
  apply wD
  ·refine Sub.trans (Sub.foldAt 12 0 14 rfl (by simp [-gD]<;>omega) rfl (by decide) (by decide) rfl (by simp<;>omega)) ?_
   simp only [fS,qA,qC,qHw]
   exact Sub.refl _
  ·simp [-List.drop_one,-gD,]<;>(first | rfl | exact ⟨rfl,rfl⟩ | exact ⟨rfl,rfl,rfl⟩ | skip)
 by_cases h2:k=2
 ·subst h2
  try simp only [go_sem,seval,reduceCtorEq]
  repeat refine K ?_
  apply wD
  ·exact Sub.refl _
  ·simp [-List.drop_one,-gD,qHx]<;>(first | rfl | exact ⟨rfl,rfl⟩ | exact ⟨rfl,rfl,rfl⟩ | skip)
 by_cases h3:k=3
 ·subst h3
  try simp only [go_sem,seval,reduceCtorEq]
  repeat refine K ?_
  apply wD
  ·exact Sub.refl _
  ·simp [-List.drop_one,-gD,wK]<;>(first | rfl | exact ⟨rfl,rfl⟩ | exact ⟨rfl,rfl,rfl⟩ | skip)
 try simp only [go_sem,seval,h0,h1,h2,h3]
 repeat refine K ?_
 apply wD
 ·exact Sub.refl _
 ·simp [-List.drop_one,-gD,h0,h1,h2,h3]<;>(first | rfl | exact ⟨rfl,rfl⟩ | exact ⟨rfl,rfl,rfl⟩ | skip)
theorem qVp (code:List Int) (places r a b n k wY:Int) (c:Cur) (hp:1≤places) (hr:0≤r∧r<4) (ha:0≤a∧a<4) (hb:0≤b∧b<4) (hn:0≤n∧n<wY) (hc:wY≤3):vN (qS3 code places r a b n k c).1 places wY=true:=by
 have h9:=yB code c 9 (by omega)
 have h3:=yB code c 3 (by omega)
 have hq:=yB code c places (by omega)
 have hq2:=yB code (pW code c 3).2 places (by omega)
 have w1:IntKind.i64.wrap ((qQ code c 9).1-2)=(qQ code c 9).1-2:=wM (by omega) (by omega)
 have w2:IntKind.i64.wrap (2+(qQ code c 3).1)=2+(qQ code c 3).1:=wM (by omega) (by omega)
 have hb4:0≤(IntKind.i64.wrap (r+1)).tmod 4∧(IntKind.i64.wrap (r+1)).tmod 4<4∧r≠(IntKind.i64.wrap (r+1)).tmod 4:=by
  obtain rfl | rfl | rfl | rfl:r=0∨r=1∨r=2∨r=3:=by omega
  all_goals decide
 unfold qS3
 rw [w1,w2]
 generalize (IntKind.i64.wrap (r+1)).tmod 4=b4 at hb4
 generalize qQ code (pW code c 3).2 places=z2 at *
 generalize qQ code c places=z1 at *
 generalize qQ code c 9=z9 at *
 generalize qQ code c 3=z3 at *
 clear w1 w2
 split
 ·simp [vN,qM]
  omega
 ·split
  ·obtain e | e | e:z3.1=0∨z3.1=1∨z3.1=2:=by omega
   all_goals
    simp [vN,qM,e]
    omega
  ·split
   ·simp [vN,qM]
    omega
   ·split
    ·simp [vN,qM]
     omega
    ·split
     ·simp [vN,qM]
      omega
     ·split
      ·simp [vN,qM]
       omega
      ·split
       ·split
        ·simp [vN,qM]
         omega
        ·simp [vN,qM]
         omega
       ·split
        ·simp [vN,qM]
         omega
        ·simp [vN,qM]
         omega
theorem qXc (code:List Int) (c:Cur) (places wY:Int) (hp:1≤places) (h1:1≤wY) (h3:wY≤3):vN (qBr code c places wY).1 places wY=true:=by
 have r1:=yB code c 4 (by omega)
 have r2:=yB code (qQ code c 4).2 4 (by omega)
 have r3:=yB code (qQ code (qQ code c 4).2 4).2 4 (by omega)
 have hm:(if 1<wY then wY else 1)=wY:=by split<;>omega
 unfold qBr qVo
 rw [hm]
 have r4:=yB code (qQ code (qQ code (qQ code c 4).2 4).2 4).2 wY (by omega)
 exact qVp _ _ _ _ _ _ _ _ _ hp r1 r2 r3 r4 h3
theorem sL {β:Type} {step:Cur→β×Cur} {Q:β→Prop} (h :∀c,Q (step c).1) :∀(n:Nat) (c:Cur),∀x∈(zL step n c).1,Q x
 | 0,c,x,hx=>by simp [zL] at hx
 | n+1,c,x,hx=>by
  simp only [zL] at hx
  rcases List.mem_append.1 hx with hx | hx
  ·exact sL h n c x hx
  ·rw [List.mem_singleton.1 hx]
   exact h _
theorem qWf (code:List Int) (c:Cur) (wY:Int) (h1:1≤wY) (h3:wY≤3):jT (lJ code c wY).1 wY=true:=by
 have hn:=yB code c wY (by omega)
 have hm:=yB code (qQ code c wY).2 wY (by omega)
 unfold lJ qMs
 generalize (qQ code (qQ code c wY).2 wY).1=m at hm
 generalize (qQ code (qQ code (qQ code c wY).2 wY).2 5)=k
 generalize (qQ code c wY).1=n at hn
 unfold qMt
 split
 ·simp [jT,vN,qM,fM]
  omega
 ·split
  ·simp [jT,vN,qM,fM]
   omega
  ·split
   ·simp [jT,vN,qM,fM]
    omega
   ·split
    ·simp [jT,vN,qM,fM]
     omega
    ·have h9:=yB code k.2 9 (by omega)
     generalize qQ code k.2 9=z at h9
     have hl:=zK (fun d=>qBr code d (2+z.1+1) wY) z.2 (2+z.1).toNat
     have ha:=sL (Q:=fun x=>vN x (2+z.1+1) wY=true) (fun c=>qXc code c (2+z.1+1) wY (by omega) h1 h3) (2+z.1).toNat z.2
     generalize zL (fun d=>qBr code d (2+z.1+1) wY) (2+z.1).toNat z.2=w at hl ha
     have hpk:(gY code w.2 [13,11]).1=13∨(gY code w.2 [13,11]).1=11:=by
      unfold gY
      have hb:=yB code w.2 (([13,11]:List Int).length:Int) (by simp)
      simp only [List.length_cons,List.length_nil] at hb⊢
      obtain e | e:(qQ code w.2 ((0+1+1:Nat):Int)).1=0∨(qQ code w.2 ((0+1+1:Nat):Int)).1=1:=by omega
      ·rw [e]; exact .inl rfl
      ·rw [e]; exact .inr rfl
     generalize (gY code w.2 [13,11]).1=o at hpk
     have hlen:((w.1++[(⟨o,0,0,0,0⟩:Ins)]).length:Int)=2+z.1+1:=by
      rw [List.length_append,hl]
      simp
      omega
     simp only [jT,hlen]
     simp only [Bool.and_eq_true,Bool.or_eq_true,decide_eq_true_eq,qM,List.all_append,List.all_eq_true,List.mem_singleton,forall_eq]
     have hlo:fM (w.1++[(⟨o,0,0,0,0⟩:Ins)])=o:=by
      unfold fM
      simp [List.getD_eq_getElem?_getD]
     refine ⟨⟨⟨⟨by omega,h3⟩,by omega,by omega⟩,ha,?_⟩,by rw [hlo]; exact hpk⟩
     rcases hpk with rfl | rfl
     ·simp [vN,qM]
      omega
     ·simp [vN,qM]
      omega
theorem qWb (code:List Int) (n:Nat) (c:Cur):dZ (iH code n c).1=true:=by
 unfold dZ iH
 rw [List.all_eq_true]
 refine sL (Q:=fun x=>qO x 1 4=true) (fun c=>?_) n c
 have h:=yB code c 4 (by omega)
 simp only
 rw [wM (by omega) (by omega),qM]
 omega
theorem tL (code:List Int) (c:Cur):uA (aU code c).1=true:=by
 have hs:=qCp code c
 unfold aU at hs⊢
 have hn:=yB code c 3 (by omega)
 generalize qQ code c 3=r at hn hs
 obtain ⟨r,d⟩:=r
 simp only at hn hs⊢
 unfold qF5 at hs⊢
 have h1:=oR code (1+r).toNat d
 have h2:=qWb code (1+r).toNat d
 generalize iH code (1+r).toNat d=p at h1 h2 hs
 obtain ⟨cs,e⟩:=p
 simp only at h1 h2 hs⊢
 have hl:(cs.length:Int)=1+r:=by omega
 unfold uA
 simp only [Bool.and_eq_true,decide_eq_true_eq,qM,List.all_eq_true]
 refine ⟨⟨⟨?_,by omega⟩,h2⟩,by omega⟩
 rw [hl]
 exact lG (Q:=fun (b:List Ins)=>jT b (1+r)=true) (fun c=>qWf code c (1+r) (by omega) (by omega)) 4 0 e [] (by simp)
theorem qYb (code:List Int):qZ Tryz.prog num 19 [.sl .bw 1 (bys code)] [] (.bool (decide ((1048576:Int)<code.length))):=by
 refine EN m19 Tryz.func14 ?_
 unfold m19
 simp only [go_sem,seval]
 repeat refine K ?_
 refine fz ?_; simp [wJ,wA,wB,qY,-List.drop_one]
theorem qDw (xs ys:List Int) (hx:xs.length≤2^47):qZ Tryz.prog num 23 [.sl .bw 1 (wK xs),.sl .bw 1 (wK ys)] [] (.bool (decide (xs=ys))):=by
 refine EN m23 Tryz.func18 ?_
 unfold m23
 simp only [go_sem,seval]
 repeat refine K ?_
 refine qS (fun hc=>?_) (fun hc=>?_)
 ·have hne:xs≠ys:=fun he=>by subst he; simp at hc
  simp only [go_sem,seval]
  repeat refine K ?_
  refine fz ?_; simp [wJ,wA,wB,qY,-List.drop_one]
  exact hne
 ·have hl:xs.length=ys.length:=by simp at hc; omega
  simp only [go_sem,seval]
  repeat refine K ?_
  refine wC (ι:=Nat) (fun i=>.mk [(0,.sl .bw 1 (wK xs)),(1,.sl .bw 1 (wK ys)),(5,.int .i64 i)] [] 10) (fun i=>i≤xs.length∧xs.take i=ys.take i) (fun i=>xs.length-i) 0 (by simp) ?_ ?_
  ·refine Sub.shape [] id (by omega) ?_ ?_ ?_ ?_<;>simp [qP]
  ·rintro i ⟨hi,hp⟩
   simp only [go_sem,seval]
   repeat refine K ?_
   refine qS (fun hc=>?_) (fun hc=>?_)
   ·simp only [decide_eq_true_eq] at hc
    have hil:i<xs.length:=by omega
    have hjl:i<ys.length:=by omega
    simp only [go_sem,seval,qI xs i hil,qI ys i hjl]
    repeat refine K ?_
    by_cases he:xs.getD i 0=ys.getD i 0
    ·simp only [go_sem,seval,he,qR (i:=i) (by omega)]
     repeat refine K ?_
     refine qT (i+1) (Sub.shape [] id (by omega) ?_ ?_ ?_ ?_) ?_ ?_
     any_goals (first | omega | (simp [qP]; done))
     refine ⟨hil,?_⟩
     rw [List.take_succ_eq_append_getElem hil,List.take_succ_eq_append_getElem hjl,hp]
     have he':xs[i]=ys[i]:=by simpa [List.getD_eq_getElem?_getD,hil,hjl] using he
     rw [he']
    ·simp only [go_sem,seval,he]
     repeat refine K ?_
     refine fz ?_; simp [wJ,wA,wB,qY,-List.drop_one]
     intro h
     subst h
     exact he rfl
   ·simp only [decide_eq_false_iff_not] at hc
    have he:xs=ys:=by
     have h1:i=xs.length:=by omega
     rw [h1,List.take_length,hl,List.take_length] at hp
     exact hp
    simp only [go_sem,seval]
    repeat refine K ?_
    refine fz ?_; simp [wJ,wA,wB,qY,-List.drop_one]
    exact he
end Go.Sep
