/- Contracts of functions. -/
import Derived.Test.YtebbppogicgpkaaGreatUxx20
import Derived.Test.YtebbppogicgpkaaGreatUxx9
open List renaming drop_one → qZ8, length_append → qY4, take_of_length_le → qXx
namespace Go.Sep
set_option maxHeartbeats 16000000
open Go.Proofs
set_option linter.unusedSimpArgs false
set_option linter.unusedVariables false
set_option maxRecDepth 100000
open Nat renaming reduceAdd → qA, reduceMul → qB, reduceEqDiff → qC, reduceBEq → qD
open Int renaming reduceToNat → qE, reduceEq → qF, reduceLT → qG, reduceLE → qH
open List renaming getD_eq_getElem?_getD → gD
def m19:MFn:=⟨6,[.t 2],kr [xF 2] (kR [xv 3 0,xe 4 3,bI 5 .gtr 4 1048576,xv 2 5])⟩
def m37:MFn:=⟨32,[.t 2],kr [xo 2 (.mv (.c (.nilp)))] (kr [xv 5 0,xe 6 5,xo 7 (.bin .add (xi 18813) (.t 6)),xv 3 7] (.seq (kr [xI 4 0] (.blk 0 (.loop (.seq (kr [xv 8 4,xv 9 0,xe 10 9,bT 11 .lss 8 10,xv 12 11,yv 13 4 12,yI 14 .lss 13 4000 12,xP 15 12 14] (kX 15 0)) (.seq (.blk 1 (xr [xv 18 3,bI 19 .mul 18 131,xv 20 0,xv 21 4,xD 22 1 20 21,xl 23 22,xo 24 (.cvi .i64 (.t 23)),bT 25 .add 19 24,bI 26 .add 25 7,bI 27 .«and» 26 1073741823,xv 3 27])) (xr [xv 16 4,bI 17 .add 16 1,xv 4 17])))))) (kR [xv 28 0,xv 29 3,xo 30 (.build [.nil,.int .i64 0,.int .i64 0] [(0,1,.t 28),(2,1,.t 29)]),xb 31 30,xv 2 31])))⟩
def m38:MFn:=⟨42,[.cell 2 2 true],kr [xo 2 (.alloc [.nil,.nil])] (kr [xv 4 0,xo 5 (.call 55 [true] [.t 4]),xo 3 (.alloc [.nil,.nil]),xS 2 3 5] (.seq (kr [xv 6 0,xo 7 (.call 39 [true,false] [.t 6,xi 20])] (.blk 0 (kr [bI 9 .eql 7 0,xv 8 9] (.cond 8 (.dreg (.take 0 (xa 10 0 3) (.take 1 (xl 11 10) (.take 2 (xv 12 0) (.only 3 [] (xo 13 (.mkSl [xz] 2 [(0,xi 0),(1,xi 5)])) (.only 4 [2] (xo 14 (.call 56 [true,false] [.t 12,.t 13])) (.only 5 [0,1,2] (xo 15 (.iad 1 (.t 11) (xi 0))) (.only 6 [0,1,2] (xS 1 15 14) (.done))))))))) (kr [bI 17 .eql 7 1,xv 16 17] (.cond 16 (.dreg (.take 0 (xa 18 1 3) (.take 1 (xl 19 18) (.take 2 (xo 20 (.iad 1 (.t 19) (xi 0))) (.take 3 (xl 21 20) (.take 4 (xv 22 0) (.only 5 [] (xa 23 1 3) (.only 6 [] (xl 24 23) (.only 7 [] (xo 25 (.iad 1 (.t 24) (xi 0))) (.only 8 [] (xl 26 25) (.only 9 [] (xo 27 (.iad 5 (.t 26) (xi 0))) (.only 10 [] (xm 28 5 27) (.only 11 [4] (xo 29 (.call 57 [true,false] [.t 22,.t 28])) (.only 12 [0,1,2,3,4] (xo 30 (.iad 5 (.t 21) (xi 0))) (.only 13 [0,1,2,3,4] (xS 5 30 29) (.done)))))))))))))))) (kr [bI 32 .eql 7 2,xv 31 32] (.cond 31 (xr [xa 33 1 3,⟨none,.store 1 (.t 33) (.c (.nil)),none⟩]) (kr [bI 35 .eql 7 3,xv 34 35] (.cond 34 (xr [xa 36 0 3,xl 37 36,xo 38 (.mkSl [xz] 3 [(0,xi 1),(1,xi 1),(2,xi 1)]),xA 39 1 8 37 38,xa 40 0 3,xS 1 40 39]) (.skip))))))))))) (kR [xm 41 2 3,xS 2 2 41])))⟩
def m39:MFn:=⟨37,[.t 4],kr [xI 4 0] (.seq (kr [xv 9 1,bI 10 .leq 9 0] (kF 10 [xI 4 0])) (.seq (kr [xv 11 1,bI 12 .leq 11 256] (kF 12 [xv 13 0,xo 14 (.call 58 [true] [.t 13]),xv 15 1,bT 16 .rem 14 15,xv 4 16])) (kr [xv 17 0,xo 18 (.call 58 [true] [.t 17]),xv 5 18] (kr [xv 19 0,xo 20 (.call 58 [true] [.t 19]),xv 6 20] (kr [xv 21 0,xo 22 (.call 58 [true] [.t 21]),xv 7 22] (kr [xv 23 0,xo 24 (.call 58 [true] [.t 23]),xv 8 24] (kR [xv 25 5,bI 26 .mul 25 16777216,xv 27 6,bI 28 .mul 27 65536,bT 29 .add 26 28,xv 30 7,bI 31 .mul 30 256,bT 32 .add 29 31,xv 33 8,bT 34 .add 32 33,xv 35 1,bT 36 .rem 34 35,xv 4 36])))))))⟩
def m40:MFn:=⟨9,[.t 4],kr [xF 4] (kR [xv 5 0,xv 6 1,xo 7 (.call 39 [true,false] [.t 5,.t 6]),bI 8 .eql 7 0,xv 4 8])⟩
def m55:MFn:=⟨40,[.cell 2 2 true],kr [xo 2 (.alloc [.nil,.nil])] (kr [xo 7 (.build [.nil,.nil] []),xo 3 (.alloc [.nil,.nil]),xS 2 3 7] (kr [xv 8 0,xo 9 (.call 39 [true,false] [.t 8,xi 3]),xo 10 (.bin .add (xi 1) (.t 9)),xv 4 10] (.seq (kr [xI 5 0] (.blk 0 (.loop (.seq (kr [xv 11 5,xv 12 4,bT 13 .lss 11 12] (kX 13 0)) (.seq (.blk 1 (.dreg (.take 0 (xa 16 0 3) (.take 1 (xl 17 16) (.only 2 [] (xv 18 0) (.only 3 [] (xo 19 (.call 39 [true,false] [.t 18,xi 4])) (.only 4 [] (xo 20 (.bin .add (xi 1) (.t 19))) (.only 5 [] (xo 21 (.mkSl [xz] 1 [(0,.t 20)])) (.only 6 [1,0] (xA 22 1 8 17 21) (.only 7 [0,1] (xa 23 0 3) (.only 8 [0,1] (xS 1 23 22) (.done)))))))))))) (xr [xv 14 5,bI 15 .add 14 1,xv 5 15])))))) (.seq (kr [xI 6 0] (.blk 2 (.loop (.seq (kr [xv 24 6,xv 25 0,xo 26 (.call 39 [true,false] [.t 25,xi 4]),xo 27 (.bin .add (xi 1) (.t 26)),bT 28 .lss 24 27] (kX 28 2)) (.seq (.blk 3 (.dreg (.take 0 (xa 31 1 3) (.take 1 (xl 32 31) (.take 2 (xv 33 0) (.only 3 [] (xv 34 4) (.only 4 [2] (xo 35 (.call 77 [true,false] [.t 33,.t 34])) (.only 5 [4,2] (xo 36 (.mkSl [.nil] 1 [(0,.t 35)])) (.only 6 [1,4,0,2] (xA 37 1 24 32 36) (.only 7 [0,1,2] (xa 38 1 3) (.only 8 [0,1,2] (xS 1 38 37) (.done)))))))))))) (xr [xv 29 6,bI 30 .add 29 1,xv 6 30])))))) (kR [xm 39 2 3,xS 2 2 39])))))⟩
def m56:MFn:=⟨12,[.t 4],kr [xI 4 0] (kR [xv 5 1,xv 6 0,xv 7 1,xe 8 7,xo 9 (.call 39 [true,false] [.t 6,.t 8]),xD 10 1 5 9,xl 11 10,xv 4 11])⟩
def m57:MFn:=⟨38,[.cell 4 5 true],kr [xb 3 1,xo 4 (.alloc [xz,xz,xz,xz,xz])] (.seq (kr [xv 5 0,xo 6 (.call 39 [true,false] [.t 5,xi 8])] (.blk 0 (kr [bI 8 .eql 6 0,xv 7 8] (.cond 7 (xr [xv 9 0,xo 10 (.call 39 [true,false] [.t 9,xi 16]),bI 11 .sub 10 1,xa 12 0 3,xS 1 12 11]) (kr [bI 14 .eql 6 1,xv 13 14] (.cond 13 (xr [xv 15 0,xo 16 (.call 39 [true,false] [.t 15,xi 6]),bI 17 .sub 16 1,xa 18 1 3,xS 1 18 17]) (kr [bI 20 .eql 6 2,xv 19 20] (.cond 19 (xr [xv 21 0,xo 22 (.call 39 [true,false] [.t 21,xi 6]),bI 23 .sub 22 1,xa 24 2 3,xS 1 24 23]) (kr [bI 26 .eql 6 3,xv 25 26] (.cond 25 (xr [xv 27 0,xo 28 (.call 39 [true,false] [.t 27,xi 6]),bI 29 .sub 28 1,xa 30 3 3,xS 1 30 29]) (kr [bI 32 .eql 6 4,xv 31 32] (.cond 31 (xr [xv 33 0,xo 34 (.mkSl [xz] 7 [(0,.c (.int .i64 (-1))),(1,xi 0),(2,xi 3),(3,xi 23),(4,xi 24),(5,xi 1000000000),(6,xi 1000000001)]),xo 35 (.call 56 [true,false] [.t 33,.t 34]),xa 36 4 3,xS 1 36 35]) (.skip))))))))))))) (kR [xm 37 5 3,xS 5 4 37]))⟩
def m58:MFn:=⟨58,[.t 2],kr [xI 2 0] (kr [xv 4 0,xv 5 0,xk 6 5,xa 7 2 6,xl 8 7,bI 9 .mul 8 6364136223846793005,bI 10 .add 9 1442695040888963407,xk 11 4,xa 12 2 11,xS 1 12 10] (.seq (.dreg (.take 0 (xv 13 0) (.take 1 (xk 14 13) (.take 2 (xa 15 2 14) (.take 3 (xl 16 15) (.take 4 (xo 17 (.bin .shr (.t 16) (.c (.int .u64 33)))) (.only 5 [] (xv 18 0) (.only 6 [] (xk 19 18) (.only 7 [] (xa 20 2 19) (.only 8 [] (xl 21 20) (.only 9 [] (xo 22 (.bin .shr (.t 21) (.c (.int .u64 45)))) (.only 10 [4,3,2,1,0] (bT 23 .xor 17 22) (.only 11 [10,4,3,2,1,0] (bI 24 .«and» 23 255) (.only 12 [0,1,2,3,4] (xv 3 24) (.done))))))))))))))) (.seq (.seq (.dreg (.take 0 (xv 25 0) (.take 1 (xk 26 25) (.take 2 (xa 27 1 26) (.take 3 (xl 28 27) (.only 4 [] (xv 29 0) (.only 5 [] (xk 30 29) (.only 6 [] (xa 31 0 30) (.only 7 [] (xl 32 31) (.only 8 [] (xe 33 32) (.only 9 [3,2,1,0] (bT 34 .lss 28 33) (.done)))))))))))) (.cond 34 (.seq (.dreg (.take 0 (xv 35 3) (.take 1 (xv 36 0) (.take 2 (xk 37 36) (.take 3 (xa 38 0 37) (.take 4 (xl 39 38) (.only 5 [] (xv 40 0) (.only 6 [] (xk 41 40) (.only 7 [] (xa 42 1 41) (.only 8 [] (xl 43 42) (.only 9 [4,3,2,1] (xD 44 1 39 43) (.only 10 [9,4,3,2,1] (xl 45 44) (.only 11 [10,9,4,3,2,1] (xo 46 (.cvi .i64 (.t 45))) (.only 12 [0,11,10,9,4,3,2,1] (bT 47 .add 35 46) (.only 13 [12,0,11,10,9,4,3,2,1] (bI 48 .«and» 47 255) (.only 14 [0,1,2,3,4] (xv 3 48) (.done))))))))))))))))) (xr [xv 49 0,xv 50 0,xk 51 50,xa 52 1 51,xl 53 52,bI 54 .add 53 1,xk 55 49,xa 56 1 55,xS 1 56 54])) (.skip))) (kR [xv 57 3,xv 2 57]))))⟩
def m77:MFn:=⟨83,[.t 4],kr [xo 4 (.mv (.c (.nil)))] (kr [xv 10 0,xv 11 1,xo 12 (.call 39 [true,false] [.t 10,.t 11]),xv 5 12] (kr [xv 13 0,xv 14 1,xo 15 (.call 39 [true,false] [.t 13,.t 14]),xv 6 15] (.seq (kr [xv 16 0,xo 17 (.call 39 [true,false] [.t 16,xi 5])] (.blk 0 (kr [bI 19 .eql 17 0,xv 18 19] (.cond 18 (kR [xo 20 (.build [xz,xz,xz,xz,xz] [(0,1,xi 1),(1,1,xi 0),(4,1,xi 3)]),xo 21 (.build [xz,xz,xz,xz,xz] [(0,1,xi 1),(1,1,xi 1),(4,1,xi 1)]),xv 22 5,xo 23 (.build [xz,xz,xz,xz,xz] [(0,1,xi 5),(2,1,xi 0),(4,1,.t 22)]),xo 24 (.build [xz,xz,xz,xz,xz] [(0,1,xi 3),(1,1,xi 0),(2,1,xi 0),(3,1,xi 1)]),xo 25 (.build [xz,xz,xz,xz,xz] [(0,1,xi 12),(2,1,xi 0),(4,1,xi 6)]),xo 26 (.build [xz,xz,xz,xz,xz] [(0,1,xi 11),(4,1,xi 2)]),xo 27 (.build [xz,xz,xz,xz,xz] [(0,1,xi 13)]),xo 28 (.mkSl [xz,xz,xz,xz,xz] 7 [(0,.t 20),(1,.t 21),(2,.t 23),(3,.t 24),(4,.t 25),(5,.t 26),(6,.t 27)]),xv 4 28]) (kr [bI 30 .eql 17 1,xv 29 30] (.cond 29 (kR [xv 31 5,xo 32 (.build [xz,xz,xz,xz,xz] [(0,1,xi 6),(1,1,xi 0),(3,1,xi 1),(4,1,.t 31)]),xo 33 (.build [xz,xz,xz,xz,xz] [(0,1,xi 12),(2,1,xi 1),(4,1,xi 4)]),xo 34 (.build [xz,xz,xz,xz,xz] [(0,1,xi 10),(2,1,xi 0)]),xo 35 (.build [xz,xz,xz,xz,xz] [(0,1,xi 11)]),xo 36 (.build [xz,xz,xz,xz,xz] [(0,1,xi 13)]),xo 37 (.mkSl [xz,xz,xz,xz,xz] 5 [(0,.t 32),(1,.t 33),(2,.t 34),(3,.t 35),(4,.t 36)]),xv 4 37]) (kr [bI 39 .eql 17 2,xv 38 39] (.cond 38 (kR [xv 40 5,xo 41 (.build [xz,xz,xz,xz,xz] [(0,1,xi 6),(1,1,xi 0),(3,1,xi 1),(4,1,.t 40)]),xo 42 (.build [xz,xz,xz,xz,xz] [(0,1,xi 2),(1,1,xi 0),(2,1,xi 0),(3,1,xi 1)]),xv 43 6,xo 44 (.build [xz,xz,xz,xz,xz] [(0,1,xi 5),(2,1,xi 0),(4,1,.t 43)]),xo 45 (.build [xz,xz,xz,xz,xz] [(0,1,xi 10),(2,1,xi 0)]),xo 46 (.build [xz,xz,xz,xz,xz] [(0,1,xi 11)]),xo 47 (.mkSl [xz,xz,xz,xz,xz] 5 [(0,.t 41),(1,.t 42),(2,.t 44),(3,.t 45),(4,.t 46)]),xv 4 47]) (kr [bI 49 .eql 17 3,xv 48 49] (kF 48 [xo 50 (.build [xz,xz,xz,xz,xz] [(0,1,xi 1),(1,1,xi 2),(4,1,xi 5)]),xv 51 5,xo 52 (.build [xz,xz,xz,xz,xz] [(0,1,xi 7),(1,1,xi 3),(2,1,xi 2),(4,1,.t 51)]),xv 53 6,xo 54 (.build [xz,xz,xz,xz,xz] [(0,1,xi 8),(1,1,xi 0),(3,1,xi 1),(4,1,.t 53)]),xo 55 (.build [xz,xz,xz,xz,xz] [(0,1,xi 10),(2,1,xi 1)]),xo 56 (.build [xz,xz,xz,xz,xz] [(0,1,xi 2),(1,1,xi 2),(2,1,xi 2),(3,1,xi 3)]),xo 57 (.build [xz,xz,xz,xz,xz] [(0,1,xi 11),(4,1,xi 1)]),xo 58 (.mkSl [xz,xz,xz,xz,xz] 6 [(0,.t 50),(1,.t 52),(2,.t 54),(3,.t 55),(4,.t 56),(5,.t 57)]),xv 4 58])))))))))) (kr [xv 59 0,xo 60 (.call 39 [true,false] [.t 59,xi 9]),xo 61 (.bin .add (xi 2) (.t 60)),xv 7 61] (kr [xo 62 (.mkSl [xz,xz,xz,xz,xz] 0 []),xv 8 62] (.seq (kr [xI 9 0] (.blk 1 (.loop (.seq (kr [xv 63 9,xv 64 7,bT 65 .lss 63 64] (kX 65 1)) (.seq (.blk 2 (xr [xv 68 8,xv 69 0,xv 70 7,bI 71 .add 70 1,xv 72 1,xo 73 (.call 91 [true,false,false] [.t 69,.t 71,.t 72]),xo 74 (.mkSl [xz,xz,xz,xz,xz] 1 [(0,.t 73)]),xA 75 5 40 68 74,xv 8 75])) (xr [xv 66 9,bI 67 .add 66 1,xv 9 67])))))) (kR [xv 76 8,xv 77 0,xo 78 (.mkSl [xz] 2 [(0,xi 13),(1,xi 11)]),xo 79 (.call 56 [true,false] [.t 77,.t 78]),xo 80 (.build [xz,xz,xz,xz,xz] [(0,1,.t 79)]),xo 81 (.mkSl [xz,xz,xz,xz,xz] 1 [(0,.t 80)]),xA 82 5 40 76 81,xv 4 82])))))))⟩
def m91:MFn:=⟨91,[.cell 6 5 true],kr [xo 6 (.alloc [xz,xz,xz,xz,xz])] (kr [xv 11 0,xo 12 (.call 39 [true,false] [.t 11,xi 4]),xv 13 0,xo 14 (.call 39 [true,false] [.t 13,xi 4]),xv 15 0,xo 16 (.call 39 [true,false] [.t 15,xi 4]),xv 7 12,xv 8 14,xv 9 16] (kr [xv 17 0,xv 18 2,xc2 19 98 (.t 18) (xi 1),xo 20 (.call 39 [true,false] [.t 17,.t 19]),xv 10 20] (.seq (kr [xv 21 0,xo 22 (.call 39 [true,false] [.t 21,xi 16])] (.blk 0 (.seq (kr [bI 24 .eql 22 0,xv 23 24] (.cond 23 (.skip) (xr [bI 25 .eql 22 1,xv 23 25]))) (.cond 23 (kR [xv 26 7,xv 27 0,xo 28 (.call 39 [true,false] [.t 27,xi 9]),bI 29 .sub 28 2,xo 30 (.build [xz,xz,xz,xz,xz] [(0,1,xi 1),(1,1,.t 26),(4,1,.t 29)]),xS 5 6 30]) (.seq (kr [bI 32 .eql 22 2,xv 31 32] (.cond 31 (.skip) (xr [bI 33 .eql 22 3,xv 31 33]))) (.cond 31 (kR [xv 34 0,xo 35 (.call 39 [true,false] [.t 34,xi 3]),xo 36 (.bin .add (xi 2) (.t 35)),xv 37 7,xv 38 8,xv 39 9,xo 40 (.build [xz,xz,xz,xz,xz] [(0,1,.t 36),(1,1,.t 37),(2,1,.t 38),(3,1,.t 39)]),xS 5 6 40]) (.seq (kr [bI 42 .eql 22 4,xv 41 42] (.cond 41 (.skip) (kr [bI 43 .eql 22 5,xv 41 43] (.cond 41 (.skip) (xr [bI 44 .eql 22 6,xv 41 44]))))) (.cond 41 (kR [xv 45 8,xv 46 10,xo 47 (.build [xz,xz,xz,xz,xz] [(0,1,xi 5),(2,1,.t 45),(4,1,.t 46)]),xS 5 6 47]) (.seq (kr [bI 49 .eql 22 7,xv 48 49] (.cond 48 (.skip) (kr [bI 50 .eql 22 8,xv 48 50] (.cond 48 (.skip) (xr [bI 51 .eql 22 9,xv 48 51]))))) (.cond 48 (kR [xv 52 7,xv 53 7,bI 54 .add 53 1,bI 55 .rem 54 4,xv 56 10,xo 57 (.build [xz,xz,xz,xz,xz] [(0,1,xi 6),(1,1,.t 52),(3,1,.t 55),(4,1,.t 56)]),xS 5 6 57]) (kr [bI 59 .eql 22 10,xv 58 59] (.cond 58 (kR [xv 60 7,xv 61 8,xv 62 10,xo 63 (.build [xz,xz,xz,xz,xz] [(0,1,xi 7),(1,1,.t 60),(2,1,.t 61),(4,1,.t 62)]),xS 5 6 63]) (kr [bI 65 .eql 22 11,xv 64 65] (.cond 64 (kR [xv 66 7,xv 67 7,bI 68 .add 67 1,bI 69 .rem 68 4,xv 70 10,xo 71 (.build [xz,xz,xz,xz,xz] [(0,1,xi 8),(1,1,.t 66),(3,1,.t 69),(4,1,.t 70)]),xS 5 6 71]) (kr [bI 73 .eql 22 12,xv 72 73] (.cond 72 (.seq (kr [xv 74 0,xo 75 (.call 40 [true,false] [.t 74,xi 3])] (kF 75 [xv 76 10,xo 77 (.build [xz,xz,xz,xz,xz] [(0,1,xi 9),(4,1,.t 76)]),xS 5 6 77])) (kR [xv 78 0,xv 79 1,xo 80 (.call 39 [true,false] [.t 78,.t 79]),xo 81 (.build [xz,xz,xz,xz,xz] [(0,1,xi 11),(4,1,.t 80)]),xS 5 6 81])) (kr [bI 83 .eql 22 13,xv 82 83] (kF 82 [xv 84 8,xv 85 0,xv 86 1,xo 87 (.call 39 [true,false] [.t 85,.t 86]),xo 88 (.build [xz,xz,xz,xz,xz] [(0,1,xi 12),(2,1,.t 84),(4,1,.t 87)]),xS 5 6 88])))))))))))))))))) (kR [xv 89 8,xo 90 (.build [xz,xz,xz,xz,xz] [(0,1,xi 10),(2,1,.t 89)]),xS 5 6 90]))))⟩
def m213:MFn:=⟨18,[.t 6],kr [xI 6 0] (kr [xv 8 1,xv 9 0,xe 10 9,bI 11 .quo 10 4,bT 12 .add 8 11,xv 7 12] (.seq (kr [xv 13 7,xv 14 2,bT 15 .gtr 13 14] (kF 15 [xv 16 2,xv 6 16])) (kR [xv 17 7,xv 6 17])))⟩
def qKr (h:Int):Int:=IntKind.i64.wrap (IntKind.i64.wrap (h*6364136223846793005)+1442695040888963407)
def qRh (h:Int):Int:=qP2 .i64 (qWv .i64 (qP1 .i64 h 33) (qP1 .i64 h 45)) 255
def uH (code:List Int) (c:Cur):Int×Cur :=
 if (c.i:Int)<code.length then (qP2 .i64 (IntKind.i64.wrap (qRh (qKr c.h)+IntKind.i64.wrap (code.getD c.i 0))) 255,⟨c.i+1,qKr c.h⟩) else (qRh (qKr c.h),⟨c.i,qKr c.h⟩)
theorem qV5 (a:Int):0≤qP2 .i64 a 255∧qP2 .i64 a 255≤255:=by
 unfold qP2
 have h:(BitVec.ofInt IntKind.i64.bits a &&& BitVec.ofInt IntKind.i64.bits 255).toNat≤255:=by
  rw [BitVec.toNat_and]
  have:(BitVec.ofInt IntKind.i64.bits 255).toNat=255:=by decide
  rw [this]
  exact Nat.and_le_right
 rw [wK (by omega) (by omega)]
 omega
theorem tP (code:List Int) (c:Cur):0≤(uH code c).1∧(uH code c).1≤255:=by
 unfold uH
 split
 ·exact qV5 _
 ·exact qV5 _
theorem oY (code:List Int) (c:Cur) (hb:code.length<2^62):qU Tryz.prog num 58 [.ptr 0 0 0] [(0,some (3,[iD code c]),some (3,[iD code (uH code c).2]))] (.int .i64 (uH code c).1):=by
 refine EH m58 Tryz.func151 ?_
 unfold m58
 simp only [go_sem,seval,iD,qGt,reduceCtorEq]
 repeat refine K ?_
 refine qP (fun hc=>?_) (fun hc=>?_)
 ·simp only [decide_eq_true_eq] at hc
  have hl:c.i<code.length:=by omega
  simp only [go_sem,seval,qGt,reduceCtorEq,qOx code c.i hl,qV (i:=c.i) (by omega)]
  repeat refine K ?_
  apply wF
  ·exact Sub.refl _
  ·simp [-qZ8,-gD,uH,hc,qRh,qKr]<;>(first | rfl | exact ⟨rfl,rfl⟩ | exact ⟨rfl,rfl,rfl⟩ | skip)
 ·simp only [decide_eq_false_iff_not] at hc
  simp only [go_sem,seval]
  apply wF
  ·exact Sub.refl _
  ·simp [-qZ8,-gD,uH,hc,qRh,qKr]<;>(first | rfl | exact ⟨rfl,rfl⟩ | exact ⟨rfl,rfl,rfl⟩ | skip)
def b1 (code:List Int) (c:Cur):Int×Cur:=uH code c
def wI (code:List Int) (c:Cur) (n:Int):Int×Cur :=
 if n≤0 then (0,c) else if n≤256 then ((uH code c).1.tmod n,(uH code c).2) else
 ((IntKind.i64.wrap (IntKind.i64.wrap (IntKind.i64.wrap (IntKind.i64.wrap ((uH code c).1*16777216)+IntKind.i64.wrap ((uH code (uH code c).2).1*65536))+IntKind.i64.wrap ((uH code (uH code (uH code c).2).2).1*256))+(uH code (uH code (uH code (uH code c).2).2).2).1)).tmod n,(uH code (uH code (uH code (uH code c).2).2).2).2)
theorem zK (code:List Int) (c:Cur) (n:Int) (h:0<n):0≤(wI code c n).1∧(wI code c n).1<n:=by
 unfold wI
 rw [if_neg (by omega)]
 split
 ·have:=tP code c
  exact ⟨Int.tmod_nonneg _ (by omega),Int.tmod_lt_of_pos _ h⟩
 ·have h1:=tP code c
  have h2:=tP code (uH code c).2
  have h3:=tP code (uH code (uH code c).2).2
  have h4:=tP code (uH code (uH code (uH code c).2).2).2
  refine ⟨Int.tmod_nonneg _ ?_,Int.tmod_lt_of_pos _ h⟩
  rw [wK (n:=(uH code c).1*16777216) (by omega) (by omega),wK (n:=(uH code (uH code c).2).1*65536) (by omega) (by omega),wK (n:=(uH code (uH code (uH code c).2).2).1*256) (by omega) (by omega)]
  rw [wK (n:=(uH code c).1*16777216+(uH code (uH code c).2).1*65536) (by omega) (by omega)]
  rw [wK (n:=(uH code c).1*16777216+(uH code (uH code c).2).1*65536+(uH code (uH code (uH code c).2).2).1*256) (by omega) (by omega)]
  rw [wK (by omega) (by omega)]
  omega
theorem yR (code:List Int) (c:Cur) (n:Int) (hb:code.length<2^62):qU Tryz.prog num 39 [.ptr 0 0 0,.int .i64 n] [(0,some (3,[iD code c]),some (3,[iD code (wI code c n).2]))] (.int .i64 (wI code c n).1):=by
 refine EH m39 Tryz.func97 ?_
 unfold m39
 by_cases h0:n≤0
 ·simp only [go_sem,seval,h0]
  apply wF
  ·exact Sub.refl _
  ·simp [-qZ8,-gD,wI,h0]<;>(first | rfl | exact ⟨rfl,rfl⟩ | exact ⟨rfl,rfl,rfl⟩ | skip)
 have hn :¬n=0:=by omega
 by_cases h1:n≤256
 ·simp only [go_sem,seval,h0,h1]
  refine CA [(0,0)] (oY code c hb) ?_
  try simp only [go_sem,seval]
  repeat refine K ?_
  apply wF
  ·exact Sub.refl _
  ·simp [-qZ8,-gD,wI,h0,h1]<;>(first | rfl | exact ⟨rfl,rfl⟩ | exact ⟨rfl,rfl,rfl⟩ | skip)
 simp only [go_sem,seval,h0,h1]
 refine CA [(0,0)] (oY code c hb) ?_
 try simp only [go_sem,seval]
 refine CA [(0,0)] (oY code (uH code c).2 hb) ?_
 try simp only [go_sem,seval]
 refine CA [(0,0)] (oY code (uH code (uH code c).2).2 hb) ?_
 try simp only [go_sem,seval]
 refine CA [(0,0)] (oY code (uH code (uH code (uH code c).2).2).2 hb) ?_
 try simp only [go_sem,seval]
 repeat refine K ?_
 apply wF
 ·exact Sub.refl _
 ·simp [-qZ8,-gD,wI,h0,h1]<;>(first | rfl | exact ⟨rfl,rfl⟩ | exact ⟨rfl,rfl,rfl⟩ | skip)
def oT (code:List Int) (c:Cur) (n:Int):Bool×Cur:=(decide ((wI code c n).1=0),(wI code c n).2)
theorem qKn (code:List Int) (c:Cur) (n:Int) (hb:code.length<2^62):qU Tryz.prog num 40 [.ptr 0 0 0,.int .i64 n] [(0,some (3,[iD code c]),some (3,[iD code (oT code c n).2]))] (.bool (oT code c n).1):=by
 refine EH m40 Tryz.func150 ?_
 unfold m40
 simp only [go_sem,seval]
 refine CA [(0,0)] (yR code c n hb) ?_
 try simp only [go_sem,seval]
 refine fz ?_; simp [wA,qR,qS,qN,-qZ8]
 simp [oT]
def qCk (code:List Int) (c:Cur) (l:List Int):Int×Cur:=(l.getD (wI code c l.length).1.toNat 0,(wI code c l.length).2)
theorem rJ (code:List Int) (c:Cur) (l:List Int) (hb:code.length<2^62) (hl:0<l.length):qU Tryz.prog num 56 [.ptr 0 0 0,.sl .bw 1 (wS l)] [(0,some (3,[iD code c]),some (3,[iD code (qCk code c l).2]))] (.int .i64 (qCk code c l).1):=by
 refine EH m56 Tryz.func152 ?_
 unfold m56
 simp only [go_sem,seval]
 refine CA [(0,0)] (yR code c l.length hb) ?_
 try simp only [go_sem,seval]
 have h:=zK code c l.length (by omega)
 have h2:(wI code c l.length).1.toNat<l.length:=by omega
 try simp only [go_sem,seval,qI l _ h2]
 repeat refine K ?_
 refine fz ?_; simp [wA,qR,qS,qN,-qZ8]
 simp [qCk]
theorem qO7 (a b:Int):qU Tryz.prog num 98 [.int .i64 a,.int .i64 b] [] (.int .i64 (if b<a then a else b)):=by
 have h:=qA8 a b
 have e:max a b=if b<a then a else b:=by split<;>omega
 rw [e] at h
 exact h
def qUh (h x:Int):Int:=qP2 .i64 (IntKind.i64.wrap (IntKind.i64.wrap (IntKind.i64.wrap (h*131)+IntKind.i64.wrap x)+7)) 1073741823
def rM (code:List Int) (i:Nat):Int:=(code.take i).foldl qUh (IntKind.i64.wrap (18813+code.length))
def qE8 (code:List Int):Cur:=⟨0,rM code 4000⟩
theorem qOk (code:List Int) (i:Nat) (h:i<code.length):rM code (i+1)=qUh (rM code i) (code.getD i 0):=by
 unfold rM
 rw [uZ code 0 i h,List.foldl_append]
 rfl
theorem qUb (code:List Int) (hb:code.length<2^62):qU Tryz.prog num 37 [.sl .fz 1 (bys code)] [(10,none,some (3,[iD code (qE8 code)]))] (.ptr 10 0 0):=by
 refine EH m37 Tryz.func63 ?_
 unfold m37
 simp only [go_sem,seval]
 refine wC (ι:=Nat) (fun i=>.mk [(0,.sl .fz 1 (bys code)),(3,.int .i64 (rM code i)),(4,.int .i64 i)] [] 10) (fun i=>i≤code.length∧i≤4000) (fun i=>code.length-i) 0 (by simp) ?_ ?_
 ·refine Sub.shape [] id (by omega) ?_ ?_ ?_ ?_<;>simp [qM]
  simp [rM]
 ·rintro i ⟨hi,hi2⟩
  have hfin :¬(i:Int)<4000∨¬(i:Int)<code.length→rM code i=rM code 4000:=by
   rintro (h | h)
   ·have:i=4000:=by omega
    rw [this]
   ·unfold rM
    rw [qXx (by omega),qXx (by omega)]
  by_cases h1:(i:Int)<code.length
  ·have h1':i<code.length:=by omega
   by_cases h2:(i:Int)<4000
   ·have hs:=qOk code i h1'
    unfold qUh at hs
    simp only [go_sem,seval,h1,h2,qOx code i h1',←hs,qV (i:=i) (by omega)]
    repeat refine K ?_
    refine qW (i+1) ?_ ⟨h1',by omega⟩ (by omega)
    refine Sub.shape [] id (by omega) ?_ ?_ ?_ ?_<;>simp [qM]
   ·have he:=hfin (.inl h2)
    simp only [go_sem,seval,h1,h2,he]
    apply wF
    ·exact Sub.refl _
    ·simp [-qZ8,-gD,qE8]<;>(first | rfl | exact ⟨rfl,rfl⟩ | exact ⟨rfl,rfl,rfl⟩ | skip)
  ·have he:=hfin (.inr h1)
   simp only [go_sem,seval,h1,he]
   apply wF
   ·exact Sub.refl _
   ·simp [-qZ8,-gD,qE8]<;>(first | rfl | exact ⟨rfl,rfl⟩ | exact ⟨rfl,rfl,rfl⟩ | skip)
def qW6 (code:List Int) (places r a b n k:Int) (c:Cur):Ins×Cur :=
 if k=0∨k=1 then (⟨1,r,0,0,IntKind.i64.wrap ((wI code c 9).1-2)⟩,(wI code c 9).2)
 else if k=2∨k=3 then (⟨IntKind.i64.wrap (2+(wI code c 3).1),r,a,b,0⟩,(wI code c 3).2)
 else if k=4∨k=5∨k=6 then (⟨5,0,a,0,n⟩,c)
 else if k=7∨k=8∨k=9 then (⟨6,r,0,(IntKind.i64.wrap (r+1)).tmod 4,n⟩,c)
 else if k=10 then (⟨7,r,a,0,n⟩,c)
 else if k=11 then (⟨8,r,0,(IntKind.i64.wrap (r+1)).tmod 4,n⟩,c)
 else if k=12 then (if (oT code c 3).1 then (⟨9,0,0,0,n⟩,(oT code c 3).2) else (⟨11,0,0,0,(wI code (oT code c 3).2 places).1⟩,(wI code (oT code c 3).2 places).2))
 else if k=13 then (⟨12,0,a,0,(wI code c places).1⟩,(wI code c places).2)
 else (⟨10,0,a,0,0⟩,c)
def qW5 (code:List Int) (places yJ:Int) (r a b:Int) (c:Cur):Ins×Cur :=
 qW6 code places r a b (wI code c (if 1<yJ then yJ else 1)).1 (wI code (wI code c (if 1<yJ then yJ else 1)).2 16).1 (wI code (wI code c (if 1<yJ then yJ else 1)).2 16).2
def qJn (code:List Int) (c:Cur) (places yJ:Int):Ins×Cur :=
 qW5 code places yJ (wI code c 4).1 (wI code (wI code c 4).2 4).1 (wI code (wI code (wI code c 4).2 4).2 4).1 (wI code (wI code (wI code c 4).2 4).2 4).2
theorem qMa (code:List Int) (c:Cur) (places yJ:Int) (hb:code.length<2^62):qU Tryz.prog num 91 [.ptr 0 0 0,.int .i64 places,.int .i64 yJ] [(0,some (3,[iD code c]),some (3,[iD code (qJn code c places yJ).2]))] (.agg (gT (qJn code c places yJ).1)):=by
 refine EH m91 Tryz.func174 ?_
 unfold m91 qJn
 simp only [go_sem,seval]
 refine CA [(0,0)] (yR code c 4 hb) ?_
 try simp only [go_sem,seval]
 generalize wI code c 4=r
 refine CA [(0,0)] (yR code r.2 4 hb) ?_
 try simp only [go_sem,seval]
 generalize wI code r.2 4=a
 refine CA [(0,0)] (yR code a.2 4 hb) ?_
 try simp only [go_sem,seval]
 generalize wI code a.2 4=b
 unfold qW5
 refine CA [] (qO7 yJ 1) ?_
 try simp only [go_sem,seval]
 refine CA [(0,0)] (yR code b.2 (if 1<yJ then yJ else 1) hb) ?_
 try simp only [go_sem,seval]
 generalize wI code b.2 (if 1<yJ then yJ else 1)=n
 refine CA [(0,0)] (yR code n.2 16 hb) ?_
 try simp only [go_sem,seval]
 generalize wI code n.2 16=k
 obtain ⟨k,d⟩:=k
 simp only
 unfold qW6
 by_cases h0:k=0
 ·subst h0
  try simp only [go_sem,seval,reduceCtorEq]
  refine CA [(0,0)] (yR code d 9 hb) ?_
  try simp only [go_sem,seval]
  apply wF
  ·exact Sub.refl _
  ·simp [-qZ8,-gD,gT]<;>(first | rfl | exact ⟨rfl,rfl⟩ | exact ⟨rfl,rfl,rfl⟩ | skip)
 by_cases h1:k=1
 ·subst h1
  try simp only [go_sem,seval,reduceCtorEq]
  refine CA [(0,0)] (yR code d 9 hb) ?_
  try simp only [go_sem,seval]
  apply wF
  ·exact Sub.refl _
  ·simp [-qZ8,-gD,gT]<;>(first | rfl | exact ⟨rfl,rfl⟩ | exact ⟨rfl,rfl,rfl⟩ | skip)
 by_cases h2:k=2
 ·subst h2
  try simp only [go_sem,seval,reduceCtorEq]
  refine CA [(0,0)] (yR code d 3 hb) ?_
  try simp only [go_sem,seval]
  apply wF
  ·exact Sub.refl _
  ·simp [-qZ8,-gD,gT]<;>(first | rfl | exact ⟨rfl,rfl⟩ | exact ⟨rfl,rfl,rfl⟩ | skip)
 by_cases h3:k=3
 ·subst h3
  try simp only [go_sem,seval,reduceCtorEq]
  refine CA [(0,0)] (yR code d 3 hb) ?_
  try simp only [go_sem,seval]
  apply wF
  ·exact Sub.refl _
  ·simp [-qZ8,-gD,gT]<;>(first | rfl | exact ⟨rfl,rfl⟩ | exact ⟨rfl,rfl,rfl⟩ | skip)
 by_cases h4:k=4
 ·subst h4
  try simp only [go_sem,seval,reduceCtorEq]
  apply wF
  ·exact Sub.refl _
  ·simp [-qZ8,-gD,gT]<;>(first | rfl | exact ⟨rfl,rfl⟩ | exact ⟨rfl,rfl,rfl⟩ | skip)
 by_cases h5:k=5
 ·subst h5
  try simp only [go_sem,seval,reduceCtorEq]
  apply wF
  ·exact Sub.refl _
  ·simp [-qZ8,-gD,gT]<;>(first | rfl | exact ⟨rfl,rfl⟩ | exact ⟨rfl,rfl,rfl⟩ | skip)
 by_cases h6:k=6
 ·subst h6
  try simp only [go_sem,seval,reduceCtorEq]
  apply wF
  ·exact Sub.refl _
  ·simp [-qZ8,-gD,gT]<;>(first | rfl | exact ⟨rfl,rfl⟩ | exact ⟨rfl,rfl,rfl⟩ | skip)
 by_cases h7:k=7
 ·subst h7
  try simp only [go_sem,seval,reduceCtorEq]
  apply wF
  ·exact Sub.refl _
  ·simp [-qZ8,-gD,gT]<;>(first | rfl | exact ⟨rfl,rfl⟩ | exact ⟨rfl,rfl,rfl⟩ | skip)
 by_cases h8:k=8
 ·subst h8
  try simp only [go_sem,seval,reduceCtorEq]
  apply wF
  ·exact Sub.refl _
  ·simp [-qZ8,-gD,gT]<;>(first | rfl | exact ⟨rfl,rfl⟩ | exact ⟨rfl,rfl,rfl⟩ | skip)
 by_cases h9:k=9
 ·subst h9
  try simp only [go_sem,seval,reduceCtorEq]
  apply wF
  ·exact Sub.refl _
  ·simp [-qZ8,-gD,gT]<;>(first | rfl | exact ⟨rfl,rfl⟩ | exact ⟨rfl,rfl,rfl⟩ | skip)
 by_cases h10:k=10
 ·subst h10
  try simp only [go_sem,seval,reduceCtorEq]
  apply wF
  ·exact Sub.refl _
  ·simp [-qZ8,-gD,gT]<;>(first | rfl | exact ⟨rfl,rfl⟩ | exact ⟨rfl,rfl,rfl⟩ | skip)
 by_cases h11:k=11
 ·subst h11
  try simp only [go_sem,seval,reduceCtorEq]
  apply wF
  ·exact Sub.refl _
  ·simp [-qZ8,-gD,gT]<;>(first | rfl | exact ⟨rfl,rfl⟩ | exact ⟨rfl,rfl,rfl⟩ | skip)
 by_cases h12:k=12
 ·subst h12
  try simp only [go_sem,seval,reduceCtorEq]
  refine CA [(0,0)] (qKn code d 3 hb) ?_
  try simp only [go_sem,seval]
  cases ho:(oT code d 3).1
  ·try simp only [go_sem,seval,ho]
   refine CA [(0,0)] (yR code (oT code d 3).2 places hb) ?_
   try simp only [go_sem,seval]
   apply wF
   ·exact Sub.refl _
   ·simp [-qZ8,-gD,ho]<;>(first | rfl | exact ⟨rfl,rfl⟩ | exact ⟨rfl,rfl,rfl⟩ | skip)
  ·try simp only [go_sem,seval,ho]
   apply wF
   ·exact Sub.refl _
   ·simp [-qZ8,-gD,ho]<;>(first | rfl | exact ⟨rfl,rfl⟩ | exact ⟨rfl,rfl,rfl⟩ | skip)
 by_cases h13:k=13
 ·subst h13
  try simp only [go_sem,seval,reduceCtorEq]
  refine CA [(0,0)] (yR code d places hb) ?_
  try simp only [go_sem,seval]
  apply wF
  ·exact Sub.refl _
  ·simp [-qZ8,-gD,gT]<;>(first | rfl | exact ⟨rfl,rfl⟩ | exact ⟨rfl,rfl,rfl⟩ | skip)
 try simp only [go_sem,seval,h0,h1,h2,h3,h4,h5,h6,h7,h8,h9,h10,h11,h12,h13]
 apply wF
 ·exact Sub.refl _
 ·simp [-qZ8,-gD,gT,h0,h1,h2,h3,h4,h5,h6,h7,h8,h9,h10,h11,h12,h13]<;>(first | rfl | exact ⟨rfl,rfl⟩ | exact ⟨rfl,rfl,rfl⟩ | skip)
def lI {β:Type} (step:Cur→β×Cur):Nat→Cur→List β×Cur
 | 0,c=>([],c)
 | n+1,c=>((lI step n c).1++[(step (lI step n c).2).1],(step (lI step n c).2).2)
@[simp] theorem rH {β:Type} (step:Cur→β×Cur) (c:Cur) :∀(n:Nat),(lI step n c).1.length=n
 | 0=>rfl
 | n+1=>by simp [lI,rH step c n]
def qQi (code:List Int) (yJ n m k:Int) (c:Cur):List Ins×Cur :=
 if k=0 then ([⟨1,0,0,0,3⟩,⟨1,1,0,0,1⟩,⟨5,0,0,0,n⟩,⟨3,0,0,1,0⟩,⟨12,0,0,0,6⟩,⟨11,0,0,0,2⟩,⟨13,0,0,0,0⟩],c)
 else if k=1 then ([⟨6,0,0,1,n⟩,⟨12,0,1,0,4⟩,⟨10,0,0,0,0⟩,⟨11,0,0,0,0⟩,⟨13,0,0,0,0⟩],c)
 else if k=2 then ([⟨6,0,0,1,n⟩,⟨2,0,0,1,0⟩,⟨5,0,0,0,m⟩,⟨10,0,0,0,0⟩,⟨11,0,0,0,0⟩],c)
 else if k=3 then ([⟨1,2,0,0,5⟩,⟨7,3,2,0,n⟩,⟨8,0,0,1,m⟩,⟨10,0,1,0,0⟩,⟨2,2,2,3,0⟩,⟨11,0,0,0,1⟩],c)
 else
  ((lI (fun d=>qJn code d (2+(wI code c 9).1+1) yJ) (2+(wI code c 9).1).toNat (wI code c 9).2).1++[⟨(qCk code (lI (fun d=>qJn code d (2+(wI code c 9).1+1) yJ) (2+(wI code c 9).1).toNat (wI code c 9).2).2 [13,11]).1,0,0,0,0⟩],
   (qCk code (lI (fun d=>qJn code d (2+(wI code c 9).1+1) yJ) (2+(wI code c 9).1).toNat (wI code c 9).2).2 [13,11]).2)
def qQh (code:List Int) (yJ n m:Int) (c:Cur):List Ins×Cur:=qQi code yJ n m (wI code c 5).1 (wI code c 5).2
def pH (code:List Int) (c:Cur) (yJ:Int):List Ins×Cur :=
 qQh code yJ (wI code c yJ).1 (wI code (wI code c yJ).2 yJ).1 (wI code (wI code c yJ).2 yJ).2
theorem qMs (code:List Int) (c:Cur) (yJ:Int):1≤(pH code c yJ).1.length∧(pH code c yJ).1.length≤24:=by
 unfold pH qQh
 generalize wI code (wI code (wI code c yJ).2 yJ).2 5=k
 unfold qQi
 have h:=zK code k.2 9 (by omega)
 repeat' split
 all_goals first | (simp; done) | (simp; omega)
theorem qJj (code:List Int) (c:Cur) (yJ:Int) (hb:code.length<2^62):qU Tryz.prog num 77 [.ptr 0 0 0,.int .i64 yJ] [(0,some (3,[iD code c]),some (3,[iD code (pH code c yJ).2]))] (.sl .own 5 (aN (pH code c yJ).1)):=by
 refine EH m77 Tryz.func132 ?_
 unfold m77 pH
 simp only [go_sem,seval]
 refine CA [(0,0)] (yR code c yJ hb) ?_
 try simp only [go_sem,seval]
 generalize wI code c yJ=n
 refine CA [(0,0)] (yR code n.2 yJ hb) ?_
 try simp only [go_sem,seval]
 generalize wI code n.2 yJ=m
 unfold qQh
 refine CA [(0,0)] (yR code m.2 5 hb) ?_
 try simp only [go_sem,seval]
 generalize wI code m.2 5=k
 obtain ⟨k,d⟩:=k
 simp only
 unfold qQi
 by_cases h0:k=0
 ·subst h0
  try simp only [go_sem,seval,reduceCtorEq]
  apply wF
  ·exact Sub.refl _
  ·simp [-qZ8,-gD,aN,gT]<;>(first | rfl | exact ⟨rfl,rfl⟩ | exact ⟨rfl,rfl,rfl⟩ | skip)
 by_cases h1:k=1
 ·subst h1
  try simp only [go_sem,seval,reduceCtorEq]
  apply wF
  ·exact Sub.refl _
  ·simp [-qZ8,-gD,aN,gT]<;>(first | rfl | exact ⟨rfl,rfl⟩ | exact ⟨rfl,rfl,rfl⟩ | skip)
 by_cases h2:k=2
 ·subst h2
  try simp only [go_sem,seval,reduceCtorEq]
  apply wF
  ·exact Sub.refl _
  ·simp [-qZ8,-gD,aN,gT]<;>(first | rfl | exact ⟨rfl,rfl⟩ | exact ⟨rfl,rfl,rfl⟩ | skip)
 by_cases h3:k=3
 ·subst h3
  try simp only [go_sem,seval,reduceCtorEq]
  apply wF
  ·exact Sub.refl _
  ·simp [-qZ8,-gD,aN,gT]<;>(first | rfl | exact ⟨rfl,rfl⟩ | exact ⟨rfl,rfl,rfl⟩ | skip)
 simp only [if_neg h0,if_neg h1,if_neg h2,if_neg h3]
 try simp only [go_sem,seval,h0,h1,h2,h3]
 refine CA [(0,0)] (yR code d 9 hb) ?_
 try simp only [go_sem,seval]
 have hr:=zK code d 9 (by omega)
 generalize wI code d 9=r at hr
 obtain ⟨r,e⟩:=r
 simp only at hr⊢
 have w1:IntKind.i64.wrap (2+r)=2+r:=wK (by omega) (by omega)
 have w2:IntKind.i64.wrap (2+r+1)=2+r+1:=wK (by omega) (by omega)
 try simp only [go_sem,seval,w1]
 refine wC (ι:=Nat) (fun i=>.mk [(0,.ptr 0 0 0),(1,.int .i64 yJ),(7,.int .i64 (2+r)),(8,.ns 10 0 i),(9,.int .i64 i)] [(0,3,[iD code (lI (fun d=>qJn code d (2+r+1) yJ) i e).2]),(10,5,aN (lI (fun d=>qJn code d (2+r+1) yJ) i e).1)] 11) (fun i=>i≤(2+r).toNat) (fun i=>(2+r).toNat-i) 0 (by simp) ?_ ?_
 ·refine Sub.shape [] id (by omega) ?_ ?_ ?_ ?_<;>simp [qM]
  all_goals simp [lI,aN]
 ·intro i hi
  simp only [go_sem,seval]
  refine qP (fun hc=>?_) (fun hc=>?_)
  ·simp only [decide_eq_true_eq] at hc
   simp only [go_sem,seval,w2,qV (i:=i) (by omega)]
   refine CA [(0,0)] (qMa code (lI (fun d=>qJn code d (2+r+1) yJ) i e).2 (2+r+1) yJ hb) ?_
   try simp only [go_sem,seval]
   repeat refine K ?_
   try simp only [go_sem,seval,qV (i:=i) (by omega),rH]
   refine qW (i+1) ?_ (by omega) (by omega)
   simp only [lI]
   refine Sub.shape [] (fun n=>if n=10 then 12 else n) (by omega) ?_ ?_ ?_ ?_<;>simp [qM]
   exact .inl (by simp [aN,gT])
  ·simp only [decide_eq_false_iff_not] at hc
   have hie:i=(2+r).toNat:=by omega
   subst hie
   have hl:wS [13,11]=[[AV.int .i64 13],[.int .i64 11]]:=rfl
   simp only [go_sem,seval,←hl]
   refine CA [(0,0)] (rJ code (lI (fun d=>qJn code d (2+r+1) yJ) (2+r).toNat e).2 [13,11] hb (by decide)) ?_
   try simp only [go_sem,seval]
   repeat refine K ?_
   apply wF
   ·exact Sub.refl _
   ·simp [-qZ8,-gD,gT,aN]<;>(first | rfl | exact ⟨rfl,rfl⟩ | exact ⟨rfl,rfl,rfl⟩ | skip)
def aF {β:Type} (code:List Int) (base m:Int) (step:Cur→β×Cur):Nat→Nat→Cur→List β→List β×Cur
 | 0,_,c,acc=>(acc,(wI code c m).2)
 | f+1,i,c,acc=>if (i:Int)<base+(wI code c m).1 then aF code base m step f (i+1) (step (wI code c m).2).2 (acc++[(step (wI code c m).2).1]) else (acc,(wI code c m).2)
theorem qKv {β:Type} {code:List Int} {base m:Int} {step:Cur→β×Cur} {N i:Nat} {c:Cur} {acc:List β} (hi:i<N) (h:(i:Int)<base+(wI code c m).1) :
  aF code base m step (N-i) i c acc=aF code base m step (N-(i+1)) (i+1) (step (wI code c m).2).2 (acc++[(step (wI code c m).2).1]):=by
 have:N-i=(N-(i+1))+1:=by omega
 rw [this]
 simp only [aF,if_pos h]
theorem qFf {β:Type} {code:List Int} {base m:Int} {step:Cur→β×Cur} {f i:Nat} {c:Cur} {acc:List β} (h :¬(i:Int)<base+(wI code c m).1) :
  aF code base m step f i c acc=(acc,(wI code c m).2):=by
 cases f with
 | zero=>rfl
 | succ f=>simp only [aF,if_neg h]
theorem kB {β:Type} {code:List Int} {base m:Int} {step:Cur→β×Cur} :∀(f i:Nat) (c:Cur) (acc:List β),acc.length≤(aF code base m step f i c acc).1.length∧(aF code base m step f i c acc).1.length≤acc.length+f
 | 0,_,_,acc=>by simp [aF]
 | f+1,i,c,acc=>by
  simp only [aF]
  split
  ·have:=kB (code:=code) (base:=base) (m:=m) (step:=step) f (i+1) (step (wI code c m).2).2 (acc++[(step (wI code c m).2).1])
   simp only [qY4,List.length_cons,List.length_nil] at this
   omega
  ·simp
theorem qQ4 {β:Type} {code:List Int} {base m:Int} {step:Cur→β×Cur} (f:Nat) (c:Cur) (hb:0<base) (hm:0<m):1≤(aF code base m step (f+1) 0 c []).1.length:=by
 have:=zK code c m hm
 simp only [aF]
 rw [if_pos (by omega)]
 have h2:=(kB (code:=code) (base:=base) (m:=m) (step:=step) f (0+1) (step (wI code c m).2).2 ([]++[(step (wI code c m).2).1])).1
 simpa using h2
theorem qBo {β:Type} {code:List Int} {base m:Int} {step:Cur→β×Cur} {Q:β→Prop} (hs :∀c,Q (step c).1) :∀(f i:Nat) (c:Cur) (acc:List β),(∀x∈acc,Q x)→∀x∈(aF code base m step f i c acc).1,Q x
 | 0,_,_,acc,h=>h
 | f+1,i,c,acc,h=>by
  simp only [aF]
  split
  ·refine qBo hs f (i+1) _ _ fun x hx=>?_
   rcases List.mem_append.1 hx with hx | hx
   ·exact h x hx
   ·rw [List.mem_singleton.1 hx]
    exact hs _
  ·exact h
def nR (code:List Int) (n:Nat) (c:Cur):List Int×Cur:=lI (fun d=>(IntKind.i64.wrap (1+(wI code d 4).1),(wI code d 4).2)) n c
def qLx (code:List Int) (n:Int) (c:Cur):wV×Cur :=
 (⟨(nR code n.toNat c).1,(aF code 1 4 (fun d=>pH code d n) 4 0 (nR code n.toNat c).2 []).1⟩,(aF code 1 4 (fun d=>pH code d n) 4 0 (nR code n.toNat c).2 []).2)
def xE (code:List Int) (c:Cur):wV×Cur:=qLx code (1+(wI code c 3).1) (wI code c 3).2
def qR5 (code:List Int) (k:Int) (c:Cur) (x:Ins):Ins×Cur :=
 if k=0 then (⟨IntKind.i64.wrap ((wI code c 16).1-1),x.r,x.a,x.b,x.n⟩,(wI code c 16).2)
 else if k=1 then (⟨x.op,IntKind.i64.wrap ((wI code c 6).1-1),x.a,x.b,x.n⟩,(wI code c 6).2)
 else if k=2 then (⟨x.op,x.r,IntKind.i64.wrap ((wI code c 6).1-1),x.b,x.n⟩,(wI code c 6).2)
 else if k=3 then (⟨x.op,x.r,x.a,IntKind.i64.wrap ((wI code c 6).1-1),x.n⟩,(wI code c 6).2)
 else if k=4 then (⟨x.op,x.r,x.a,x.b,(qCk code c [-1,0,3,23,24,1000000000,1000000001]).1⟩,(qCk code c [-1,0,3,23,24,1000000000,1000000001]).2)
 else (x,c)
def qGn (code:List Int) (c:Cur) (x:Ins):Ins×Cur:=qR5 code (wI code c 8).1 (wI code c 8).2 x
theorem qPv (code:List Int) (c:Cur) (x:Ins) (hb:code.length<2^62):qU Tryz.prog num 57 [.ptr 0 0 0,.agg (gT x)] [(0,some (3,[iD code c]),some (3,[iD code (qGn code c x).2]))] (.agg (gT (qGn code c x).1)):=by
 refine EH m57 Tryz.func153 ?_
 unfold m57 qGn
 simp only [go_sem,seval]
 refine CA [(0,0)] (yR code c 8 hb) ?_
 try simp only [go_sem,seval]
 generalize wI code c 8=k
 obtain ⟨k,d⟩:=k
 simp only
 unfold qR5
 by_cases h0:k=0
 ·subst h0
  try simp only [go_sem,seval,reduceCtorEq]
  refine CA [(0,0)] (yR code d 16 hb) ?_
  try simp only [go_sem,seval]
  apply wF
  ·exact Sub.refl _
  ·simp [-qZ8,-gD,gT]<;>(first | rfl | exact ⟨rfl,rfl⟩ | exact ⟨rfl,rfl,rfl⟩ | skip)
 by_cases h1:k=1
 ·subst h1
  try simp only [go_sem,seval,reduceCtorEq]
  refine CA [(0,0)] (yR code d 6 hb) ?_
  try simp only [go_sem,seval]
  apply wF
  ·exact Sub.refl _
  ·simp [-qZ8,-gD,gT]<;>(first | rfl | exact ⟨rfl,rfl⟩ | exact ⟨rfl,rfl,rfl⟩ | skip)
 by_cases h2:k=2
 ·subst h2
  try simp only [go_sem,seval,reduceCtorEq]
  refine CA [(0,0)] (yR code d 6 hb) ?_
  try simp only [go_sem,seval]
  apply wF
  ·exact Sub.refl _
  ·simp [-qZ8,-gD,gT]<;>(first | rfl | exact ⟨rfl,rfl⟩ | exact ⟨rfl,rfl,rfl⟩ | skip)
 by_cases h3:k=3
 ·subst h3
  try simp only [go_sem,seval,reduceCtorEq]
  refine CA [(0,0)] (yR code d 6 hb) ?_
  try simp only [go_sem,seval]
  apply wF
  ·exact Sub.refl _
  ·simp [-qZ8,-gD,gT]<;>(first | rfl | exact ⟨rfl,rfl⟩ | exact ⟨rfl,rfl,rfl⟩ | skip)
 by_cases h4:k=4
 ·subst h4
  have hl:wS [-1,0,3,23,24,1000000000,1000000001]=[[AV.int .i64 (-1)],[.int .i64 0],[.int .i64 3],[.int .i64 23],[.int .i64 24],[.int .i64 1000000000],[.int .i64 1000000001]]:=rfl
  try simp only [go_sem,seval,reduceCtorEq,←hl]
  refine CA [(0,0)] (rJ code d [-1,0,3,23,24,1000000000,1000000001] hb (by decide)) ?_
  try simp only [go_sem,seval]
  apply wF
  ·exact Sub.refl _
  ·simp [-qZ8,-gD,gT]<;>(first | rfl | exact ⟨rfl,rfl⟩ | exact ⟨rfl,rfl,rfl⟩ | skip)
 try simp only [go_sem,seval,h0,h1,h2,h3,h4]
 apply wF
 ·exact Sub.refl _
 ·simp [-qZ8,-gD,gT,h0,h1,h2,h3,h4]<;>(first | rfl | exact ⟨rfl,rfl⟩ | exact ⟨rfl,rfl,rfl⟩ | skip)
theorem qDb (code:List Int) (n:Nat) (c:Cur):(nR code n c).1.length=n:=rH _ _ _
theorem qOz (l:List (List Ins)) (b:List Ins):dM .own l++[[.sl .own 5 (aN b)]]=dM .own (l++[b]):=by simp [dM]
theorem tA (code:List Int) (c:Cur) (hb:code.length<2^62):qU Tryz.prog num 55 [.ptr 0 0 0] [(0,some (3,[iD code c]),some (3,[iD code (xE code c).2]))] (.agg (jA .own (xE code c).1)):=by
 refine EH m55 Tryz.func64 ?_
 unfold m55 xE
 simp only [go_sem,seval]
 refine CA [(0,0)] (yR code c 3 hb) ?_
 try simp only [go_sem,seval]
 have hn:=zK code c 3 (by omega)
 generalize wI code c 3=r at hn
 obtain ⟨r,d⟩:=r
 simp only at hn⊢
 have w1:IntKind.i64.wrap (1+r)=1+r:=wK (by omega) (by omega)
 try simp only [go_sem,seval,w1]
 obtain ⟨n,hn2⟩:=Int.eq_ofNat_of_zero_le (show 0≤1+r by omega)
 rw [hn2]
 unfold qLx
 refine wC (ι:=Nat) (fun i=>.mk [(0,.ptr 0 0 0),(2,.ptr 10 0 0),(3,.ptr 11 0 0),(4,.int .i64 n),(5,.int .i64 i)] [(0,3,[iD code (nR code i d).2]),(10,2,[[.nil,.nil]]),(11,2,[[.sl .own 1 (wS (nR code i d).1),.nil]])] 12) (fun i=>i≤n) (fun i=>n-i) 0 (by simp) ?_ ?_
 ·refine Sub.shape [] id (by omega) ?_ ?_ ?_ ?_<;>simp [qM]
  all_goals simp [nR,lI,uA]
 ·intro i hi
  have hcl:=qDb code i d
  simp only [go_sem,seval]
  refine qP (fun hc=>?_) (fun hc=>?_)
  ·simp only [decide_eq_true_eq] at hc
   simp only [go_sem,seval,qV (i:=i) (by omega),hcl]
   repeat refine K ?_
   refine DA [(0,0)] (yR code (nR code i d).2 4 hb) ?_
   try simp only [go_sem,seval]
   repeat refine K ?_
   try simp only [go_sem,seval,qV (i:=i) (by omega),hcl]
   refine qW (i+1) ?_ (by omega) (by omega)
   have hs:nR code (i+1) d=((nR code i d).1++[IntKind.i64.wrap (1+(wI code (nR code i d).2 4).1)],(wI code (nR code i d).2 4).2):=rfl
   refine Sub.trans (Sub.fold1 11 0 14 rfl (by simp [-gD]<;>omega) rfl (by decide) (by decide) rfl) ?_
   simp only [fS,qA,qC,lX,hcl]
   rw [hs]
   refine Sub.shape [] id (by omega) ?_ ?_ ?_ ?_<;>simp [qM]
  ·simp only [decide_eq_false_iff_not] at hc
   have hie:i=n:=by omega
   subst hie
   simp only [go_sem,seval]
   obtain ⟨p,hp⟩ :∃p,nR code i d=p:=⟨_,rfl⟩
   obtain ⟨cs,e⟩:=p
   rw [hp] at hcl⊢
   simp only at hcl⊢
   refine wC (ι:=Nat×Cur×List (List Ins)) (fun s=>.mk [(0,.ptr 0 0 0),(2,.ptr 10 0 0),(3,.ptr 11 0 0),(4,.int .i64 i),(6,.int .i64 s.1)] [(0,3,[iD code s.2.1]),(10,2,[[.nil,.nil]]),(11,2,[[.sl .own 1 (wS cs),.sl .own 1 (dM .own s.2.2)]])] 12) (fun s=>s.1≤4∧s.2.2.length=s.1∧aF code 1 4 (fun d=>pH code d i) (4-s.1) s.1 s.2.1 s.2.2=aF code 1 4 (fun d=>pH code d i) 4 0 e []) (fun s=>4-s.1) (0,e,[]) ⟨by simp,rfl,rfl⟩ ?_ ?_
   ·refine Sub.shape [] id (by omega) ?_ ?_ ?_ ?_<;>simp [qM]
   ·rintro ⟨j,f,acc⟩ ⟨hj,hl,hd⟩
    simp only at hj hl hd⊢
    simp only [go_sem,seval]
    refine CA [(0,0)] (yR code f 4 hb) ?_
    try simp only [go_sem,seval]
    have hr:=zK code f 4 (by omega)
    have w2:IntKind.i64.wrap (1+(wI code f 4).1)=1+(wI code f 4).1:=wK (by omega) (by omega)
    try simp only [go_sem,seval,w2]
    refine qP (fun hc=>?_) (fun hc=>?_)
    ·simp only [decide_eq_true_eq] at hc
     have hg:=qKv (code:=code) (base:=1) (m:=4) (step:=fun d=>pH code d i) (N:=4) (i:=j) (c:=f) (acc:=acc) (by omega) hc
     rw [hg] at hd
     try simp only at hd
     simp only [go_sem,seval,qV (i:=j) (by omega),hl]
     repeat refine K ?_
     refine DA [(0,0)] (qJj code (wI code f 4).2 i hb) ?_
     try simp only [go_sem,seval]
     repeat refine K ?_
     try simp only [go_sem,seval,qV (i:=j) (by omega),hl]
     refine qW (j+1,(pH code (wI code f 4).2 i).2,acc++[(pH code (wI code f 4).2 i).1]) ?_ ⟨by simp only; omega,by simp only [qY4,hl]; rfl,hd⟩ (by simp only; omega)
     refine Sub.trans (Sub.foldLast 15 0 13 rfl (by simp [-gD]<;>omega) rfl (by decide) (by decide) rfl) ?_
     simp only [fS,qA,qC,qOz]
     refine Sub.trans (Sub.fold1 11 1 15 rfl (by simp [-gD]<;>omega) rfl (by decide) (by decide) rfl) ?_
     simp only [fS,qA,qC,hl]
     refine Sub.shape [] id (by omega) ?_ ?_ ?_ ?_<;>simp [qM]
    ·simp only [decide_eq_false_iff_not] at hc
     rw [qFf hc] at hd
     simp only [go_sem,seval]
     rw [←hd]
     apply wF
     ·exact Sub.refl _
     ·simp [-qZ8,-gD,]<;>(first | rfl | exact ⟨rfl,rfl⟩ | exact ⟨rfl,rfl,rfl⟩ | skip)
theorem qDu (code:List Int) (c:Cur):1≤(xE code c).1.caps.length∧(xE code c).1.caps.length≤3∧1≤(xE code c).1.bods.length∧(xE code c).1.bods.length≤4∧∀b∈(xE code c).1.bods,1≤b.length∧b.length≤24:=by
 unfold xE
 have hn:=zK code c 3 (by omega)
 generalize wI code c 3=r at hn
 obtain ⟨r,d⟩:=r
 simp only at hn⊢
 unfold qLx
 have h1:=qDb code (1+r).toNat d
 generalize nR code (1+r).toNat d=p at h1
 obtain ⟨cs,e⟩:=p
 simp only at h1⊢
 refine ⟨by omega,by omega,qQ4 3 e (by omega) (by omega),?_,qBo (Q:=fun (b:List Ins)=>1≤b.length∧b.length≤24) (fun c=>qMs code c (1+r)) 4 0 e [] (by simp)⟩
 exact (kB 4 0 e []).2
def qQ7 (code:List Int) (k:Int) (c:Cur) (p:wV):wV×Cur :=
 if k=0 then (⟨p.caps.set 0 (qCk code c [0,5]).1,p.bods⟩,(qCk code c [0,5]).2)
 else if k=1 then (⟨p.caps,p.bods.set 0 ((p.bods.getD 0 []).set 0 (qGn code c ((p.bods.getD 0 []).getD 0 default)).1)⟩,(qGn code c ((p.bods.getD 0 []).getD 0 default)).2)
 else if k=2 then (⟨p.caps,[]⟩,c)
 else if k=3 then (⟨p.caps++[1,1,1],p.bods⟩,c)
 else (p,c)
def qQ6 (code:List Int) (r:wV×Cur):wV×Cur:=qQ7 code (wI code r.2 20).1 (wI code r.2 20).2 r.1
def qD5 (code:List Int) (c:Cur):wV×Cur:=qQ6 code (xE code c)
theorem qOn (code:List Int) (c:Cur):(qD5 code c).1.caps.length≤6∧(qD5 code c).1.bods.length≤4∧∀b∈(qD5 code c).1.bods,b.length≤24:=by
 unfold qD5 qQ6
 obtain ⟨h1,h2,h3,h4,h5⟩:=qDu code c
 generalize xE code c=r at *
 obtain ⟨p,d⟩:=r
 simp only at *
 generalize wI code d 20=k
 unfold qQ7
 repeat' split
 ·exact ⟨by simp; omega,h4,fun b hb=>(h5 b hb).2⟩
 ·refine ⟨by simp only; omega,by simp; omega,fun b hb=>?_⟩
  simp only at hb
  rcases List.mem_or_eq_of_mem_set hb with hb | hb
  ·exact (h5 b hb).2
  ·rw [hb,List.length_set]
   exact (h5 _ (yB p.bods 0 [] (by omega))).2
 ·exact ⟨by simp only; omega,by simp,fun b hb=>by simp at hb⟩
 ·exact ⟨by simp; omega,h4,fun b hb=>(h5 b hb).2⟩
 ·exact ⟨by simp only; omega,h4,fun b hb=>(h5 b hb).2⟩
theorem qSv (code:List Int) (c:Cur) (hb:code.length<2^62):qU Tryz.prog num 38 [.ptr 0 0 0] [(0,some (3,[iD code c]),some (3,[iD code (qD5 code c).2]))] (.agg (jA .own (qD5 code c).1)):=by
 refine EH m38 Tryz.func98 ?_
 unfold m38 qD5
 simp only [go_sem,seval]
 refine CA [(0,0)] (tA code c hb) ?_
 try simp only [go_sem,seval]
 obtain ⟨g1,g2,g3,g4,g5⟩:=qDu code c
 generalize xE code c=r at *
 obtain ⟨p,d⟩:=r
 simp only at *
 have g6:=g5 _ (yB p.bods 0 [] (by omega))
 unfold qQ6
 refine CA [(0,0)] (yR code d 20 hb) ?_
 try simp only [go_sem,seval]
 generalize wI code d 20=k
 obtain ⟨k,d⟩:=k
 simp only
 unfold qQ7
 by_cases h0:k=0
 ·subst h0
  have hl:wS [0,5]=[[AV.int .i64 0],[.int .i64 5]]:=rfl
  have h0:=qI p.caps 0 (by omega)
  try simp only [go_sem,seval,reduceCtorEq,←hl,h0]
  repeat refine K ?_
  refine DA [(0,0)] (rJ code d [0,5] hb (by decide)) ?_
  try simp only [go_sem,seval]
  repeat refine K ?_
  try simp only [go_sem,seval,h0]
  repeat refine K ?_
  apply wF
  ·exact Sub.refl _
  ·simp [-qZ8,-gD,]<;>(first | rfl | exact ⟨rfl,rfl⟩ | exact ⟨rfl,rfl,rfl⟩ | skip)
 by_cases h1:k=1
 ·subst h1
  have hb0:=qZ .own p.bods 0 (by omega)
  have gs :∀r,((dM .own p.bods).set 0 r).getD 0 []=r:=fun r=>wH _ _ _ _ (by rw [kD]; omega)
  have hx:=gM (p.bods.getD 0 []) 0 (by omega)
  try simp only [go_sem,seval,reduceCtorEq,hb0,gs,hx]
  repeat refine K ?_
  refine DA [(0,0)] (qPv code d ((p.bods.getD 0 []).getD 0 default) hb) ?_
  try simp only [go_sem,seval]
  repeat refine K ?_
  try simp only [go_sem,seval,hb0,gs,hx]
  repeat refine K ?_
  apply wF
  ·refine Sub.trans (Sub.foldAt 12 0 14 rfl (by simp [-gD]<;>omega) rfl (by decide) (by decide) rfl (by simp<;>omega)) ?_
   simp only [fS,qA,qC,qIq]
   exact Sub.refl _
  ·simp [-qZ8,-gD,]<;>(first | rfl | exact ⟨rfl,rfl⟩ | exact ⟨rfl,rfl,rfl⟩ | skip)
 by_cases h2:k=2
 ·subst h2
  try simp only [go_sem,seval,reduceCtorEq]
  apply wF
  ·exact Sub.refl _
  ·simp [-qZ8,-gD,qIr]<;>(first | rfl | exact ⟨rfl,rfl⟩ | exact ⟨rfl,rfl,rfl⟩ | skip)
 by_cases h3:k=3
 ·subst h3
  try simp only [go_sem,seval,reduceCtorEq]
  repeat refine K ?_
  apply wF
  ·exact Sub.refl _
  ·simp [-qZ8,-gD,wS]<;>(first | rfl | exact ⟨rfl,rfl⟩ | exact ⟨rfl,rfl,rfl⟩ | skip)
 try simp only [go_sem,seval,h0,h1,h2,h3]
 apply wF
 ·exact Sub.refl _
 ·simp [-qZ8,-gD,h0,h1,h2,h3]<;>(first | rfl | exact ⟨rfl,rfl⟩ | exact ⟨rfl,rfl,rfl⟩ | skip)
def qAu (n:Nat) (cL most:Int):Int:=if most<cL+(n:Int)/4 then most else cL+(n:Int)/4
theorem qKo (code:List Int) (cL most:Int) (hb:code.length<2^62) (h0:0≤cL∧cL<2^40):qU Tryz.prog num 213 [.sl .bw 1 (bys code),.int .i64 cL,.int .i64 most] [] (.int .i64 (qAu code.length cL most)):=by
 have q0:Int.tdiv (code.length:Int) 4=(code.length:Int)/4:=Int.tdiv_eq_ediv_of_nonneg (by omega)
 have q1:IntKind.i64.wrap ((code.length:Int)/4)=(code.length:Int)/4:=wK (by omega) (by omega)
 have q2:IntKind.i64.wrap (cL+(code.length:Int)/4)=cL+(code.length:Int)/4:=wK (by omega) (by omega)
 refine EN m213 Tryz.func66 ?_
 unfold m213
 simp only [go_sem,seval,q0,q1,q2]
 by_cases h:most<cL+(code.length:Int)/4
 ·try simp only [go_sem,seval,h,q0,q1,q2]
  refine fz ?_; simp [wA,qR,qS,qN,-qZ8]
  simp [qAu,h]
 ·try simp only [go_sem,seval,h,q0,q1,q2]
  refine fz ?_; simp [wA,qR,qS,qN,-qZ8]
  simp [qAu,h]
theorem qO2 (n:Nat) {cL most:Int} (h:cL≤most):cL≤qAu n cL most∧qAu n cL most≤most:=by
 unfold qAu
 split<;>omega
theorem qWu (code:List Int):qU Tryz.prog num 19 [.sl .bw 1 (bys code)] [] (.bool (decide ((1048576:Int)<code.length))):=by
 refine EN m19 Tryz.func14 ?_
 unfold m19
 simp only [go_sem,seval]
 refine fz ?_; simp [wA,qR,qS,qN,-qZ8]
end Go.Sep
