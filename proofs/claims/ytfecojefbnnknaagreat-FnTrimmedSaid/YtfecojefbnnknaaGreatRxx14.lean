/- Contracts of functions. -/
import Derived.Test.YtfecojefbnnknaaGreatRxx10
open List renaming all_eq_true → wDj, drop_one → wD9, getD_eq_getElem?_getD → wBr, length_append → wC5, take_length → wDo, take_of_length_le → wBy, take_succ_eq_append_getElem → wDe
namespace Go.Sep
set_option maxHeartbeats 16000000
open Go.Proofs
set_option linter.unusedSimpArgs false
set_option linter.unusedVariables false
set_option maxRecDepth 100000
open Nat renaming reduceAdd → qA, reduceMul → qB, reduceEqDiff → qC, reduceBEq → qD
open Int renaming reduceToNat → qE, reduceEq → qF, reduceLT → qG, reduceLE → qH
open List renaming getD_eq_getElem?_getD → gD
def m19:MFn:=⟨6,[.t 2],kr [xF 2] (kR [xv 3 0,xe 4 3,bI 5 .gtr 4 1048576,xv 2 5])⟩
def m23:MFn:=⟨26,[.t 4],kr [xF 4] (.seq (kr [xv 6 0,xe 7 6,xv 8 1,xe 9 8,bT 10 .neq 7 9] (kF 10 [xF 4])) (.seq (kr [xI 5 0] (.blk 0 (.loop (.seq (kr [xv 11 5,xv 12 0,xe 13 12,bT 14 .lss 11 13] (kX 14 0)) (.seq (.blk 1 (.seq (.dreg (.take 0 (xv 17 0) (.take 1 (xv 18 5) (.take 2 (xD 19 1 17 18) (.take 3 (xl 20 19) (.take 4 (xv 21 1) (.only 5 [] (xv 22 5) (.only 6 [4] (xD 23 1 21 22) (.only 7 [6,4] (xl 24 23) (.only 8 [3,7,2,6,0,1,4] (bT 25 .neq 20 24) (.done))))))))))) (kF 25 [xF 4]))) (xr [xv 15 5,bI 16 .add 15 1,xv 5 16])))))) (kR [xT 4])))⟩
def m37:MFn:=⟨32,[.t 2],kr [xo 2 (.mv (.c (.nilp)))] (kr [xv 5 0,xe 6 5,xo 7 (.bin .add (xi 18813) (.t 6)),xv 3 7] (.seq (kr [xI 4 0] (.blk 0 (.loop (.seq (kr [xv 8 4,xv 9 0,xe 10 9,bT 11 .lss 8 10,xv 12 11,yv 13 4 12,yI 14 .lss 13 4000 12,xP 15 12 14] (kX 15 0)) (.seq (.blk 1 (xr [xv 18 3,bI 19 .mul 18 131,xv 20 0,xv 21 4,xD 22 1 20 21,xl 23 22,xo 24 (.cvi .i64 (.t 23)),bT 25 .add 19 24,bI 26 .add 25 7,bI 27 .«and» 26 1073741823,xv 3 27])) (xr [xv 16 4,bI 17 .add 16 1,xv 4 17])))))) (kR [xv 28 0,xv 29 3,xo 30 (.build [.nil,.int .i64 0,.int .i64 0] [(0,1,.t 28),(2,1,.t 29)]),xb 31 30,xv 2 31])))⟩
def m38:MFn:=⟨42,[.cell 2 2 true],kr [xo 2 (.alloc [.nil,.nil])] (kr [xv 4 0,xo 5 (.call 55 [true] [.t 4]),xo 3 (.alloc [.nil,.nil]),xS 2 3 5] (.seq (kr [xv 6 0,xo 7 (.call 39 [true,false] [.t 6,xi 20])] (.blk 0 (kr [bI 9 .eql 7 0,xv 8 9] (.cond 8 (.dreg (.take 0 (xa 10 0 3) (.take 1 (xl 11 10) (.take 2 (xv 12 0) (.only 3 [] (xo 13 (.mkSl [xz] 2 [(0,xi 0),(1,xi 5)])) (.only 4 [2] (xo 14 (.call 56 [true,false] [.t 12,.t 13])) (.only 5 [0,1,2] (xo 15 (.iad 1 (.t 11) (xi 0))) (.only 6 [0,1,2] (xS 1 15 14) (.done))))))))) (kr [bI 17 .eql 7 1,xv 16 17] (.cond 16 (.dreg (.take 0 (xa 18 1 3) (.take 1 (xl 19 18) (.take 2 (xo 20 (.iad 1 (.t 19) (xi 0))) (.take 3 (xl 21 20) (.take 4 (xv 22 0) (.only 5 [] (xa 23 1 3) (.only 6 [] (xl 24 23) (.only 7 [] (xo 25 (.iad 1 (.t 24) (xi 0))) (.only 8 [] (xl 26 25) (.only 9 [] (xo 27 (.iad 5 (.t 26) (xi 0))) (.only 10 [] (xm 28 5 27) (.only 11 [4] (xo 29 (.call 57 [true,false] [.t 22,.t 28])) (.only 12 [0,1,2,3,4] (xo 30 (.iad 5 (.t 21) (xi 0))) (.only 13 [0,1,2,3,4] (xS 5 30 29) (.done)))))))))))))))) (kr [bI 32 .eql 7 2,xv 31 32] (.cond 31 (xr [xa 33 1 3,⟨none,.store 1 (.t 33) (.c (.nil)),none⟩]) (kr [bI 35 .eql 7 3,xv 34 35] (.cond 34 (xr [xa 36 0 3,xl 37 36,xo 38 (.mkSl [xz] 3 [(0,xi 1),(1,xi 1),(2,xi 1)]),xA 39 1 8 37 38,xa 40 0 3,xS 1 40 39]) (.skip))))))))))) (kR [xm 41 2 3,xS 2 2 41])))⟩
def m39:MFn:=⟨37,[.t 4],kr [xI 4 0] (.seq (kr [xv 9 1,bI 10 .leq 9 0] (kF 10 [xI 4 0])) (.seq (kr [xv 11 1,bI 12 .leq 11 256] (kF 12 [xv 13 0,xo 14 (.call 58 [true] [.t 13]),xv 15 1,bT 16 .rem 14 15,xv 4 16])) (kr [xv 17 0,xo 18 (.call 58 [true] [.t 17]),xv 5 18] (kr [xv 19 0,xo 20 (.call 58 [true] [.t 19]),xv 6 20] (kr [xv 21 0,xo 22 (.call 58 [true] [.t 21]),xv 7 22] (kr [xv 23 0,xo 24 (.call 58 [true] [.t 23]),xv 8 24] (kR [xv 25 5,bI 26 .mul 25 16777216,xv 27 6,bI 28 .mul 27 65536,bT 29 .add 26 28,xv 30 7,bI 31 .mul 30 256,bT 32 .add 29 31,xv 33 8,bT 34 .add 32 33,xv 35 1,bT 36 .rem 34 35,xv 4 36])))))))⟩
def m40:MFn:=⟨9,[.t 4],kr [xF 4] (kR [xv 5 0,xv 6 1,xo 7 (.call 39 [true,false] [.t 5,.t 6]),bI 8 .eql 7 0,xv 4 8])⟩
def m55:MFn:=⟨40,[.cell 2 2 true],kr [xo 2 (.alloc [.nil,.nil])] (kr [xo 7 (.build [.nil,.nil] []),xo 3 (.alloc [.nil,.nil]),xS 2 3 7] (kr [xv 8 0,xo 9 (.call 39 [true,false] [.t 8,xi 3]),xo 10 (.bin .add (xi 1) (.t 9)),xv 4 10] (.seq (kr [xI 5 0] (.blk 0 (.loop (.seq (kr [xv 11 5,xv 12 4,bT 13 .lss 11 12] (kX 13 0)) (.seq (.blk 1 (.dreg (.take 0 (xa 16 0 3) (.take 1 (xl 17 16) (.only 2 [] (xv 18 0) (.only 3 [] (xo 19 (.call 39 [true,false] [.t 18,xi 4])) (.only 4 [] (xo 20 (.bin .add (xi 1) (.t 19))) (.only 5 [] (xo 21 (.mkSl [xz] 1 [(0,.t 20)])) (.only 6 [1,0] (xA 22 1 8 17 21) (.only 7 [0,1] (xa 23 0 3) (.only 8 [0,1] (xS 1 23 22) (.done)))))))))))) (xr [xv 14 5,bI 15 .add 14 1,xv 5 15])))))) (.seq (kr [xI 6 0] (.blk 2 (.loop (.seq (kr [xv 24 6,xv 25 0,xo 26 (.call 39 [true,false] [.t 25,xi 4]),xo 27 (.bin .add (xi 1) (.t 26)),bT 28 .lss 24 27] (kX 28 2)) (.seq (.blk 3 (.dreg (.take 0 (xa 31 1 3) (.take 1 (xl 32 31) (.take 2 (xv 33 0) (.only 3 [] (xv 34 4) (.only 4 [2] (xo 35 (.call 77 [true,false] [.t 33,.t 34])) (.only 5 [4,2] (xo 36 (.mkSl [.nil] 1 [(0,.t 35)])) (.only 6 [1,4,0,2] (xA 37 1 24 32 36) (.only 7 [0,1,2] (xa 38 1 3) (.only 8 [0,1,2] (xS 1 38 37) (.done)))))))))))) (xr [xv 29 6,bI 30 .add 29 1,xv 6 30])))))) (kR [xm 39 2 3,xS 2 2 39])))))⟩
def m56:MFn:=⟨12,[.t 4],kr [xI 4 0] (kR [xv 5 1,xv 6 0,xv 7 1,xe 8 7,xo 9 (.call 39 [true,false] [.t 6,.t 8]),xD 10 1 5 9,xl 11 10,xv 4 11])⟩
def m57:MFn:=⟨38,[.cell 4 5 true],kr [xb 3 1,xo 4 (.alloc [xz,xz,xz,xz,xz])] (.seq (kr [xv 5 0,xo 6 (.call 39 [true,false] [.t 5,xi 8])] (.blk 0 (kr [bI 8 .eql 6 0,xv 7 8] (.cond 7 (xr [xv 9 0,xo 10 (.call 39 [true,false] [.t 9,xi 16]),bI 11 .sub 10 1,xa 12 0 3,xS 1 12 11]) (kr [bI 14 .eql 6 1,xv 13 14] (.cond 13 (xr [xv 15 0,xo 16 (.call 39 [true,false] [.t 15,xi 6]),bI 17 .sub 16 1,xa 18 1 3,xS 1 18 17]) (kr [bI 20 .eql 6 2,xv 19 20] (.cond 19 (xr [xv 21 0,xo 22 (.call 39 [true,false] [.t 21,xi 6]),bI 23 .sub 22 1,xa 24 2 3,xS 1 24 23]) (kr [bI 26 .eql 6 3,xv 25 26] (.cond 25 (xr [xv 27 0,xo 28 (.call 39 [true,false] [.t 27,xi 6]),bI 29 .sub 28 1,xa 30 3 3,xS 1 30 29]) (kr [bI 32 .eql 6 4,xv 31 32] (.cond 31 (xr [xv 33 0,xo 34 (.mkSl [xz] 7 [(0,.c (.int .i64 (-1))),(1,xi 0),(2,xi 3),(3,xi 23),(4,xi 24),(5,xi 1000000000),(6,xi 1000000001)]),xo 35 (.call 56 [true,false] [.t 33,.t 34]),xa 36 4 3,xS 1 36 35]) (.skip))))))))))))) (kR [xm 37 5 3,xS 5 4 37]))⟩
def m58:MFn:=⟨58,[.t 2],kr [xI 2 0] (kr [xv 4 0,xv 5 0,xk 6 5,xa 7 2 6,xl 8 7,bI 9 .mul 8 6364136223846793005,bI 10 .add 9 1442695040888963407,xk 11 4,xa 12 2 11,xS 1 12 10] (.seq (.dreg (.take 0 (xv 13 0) (.take 1 (xk 14 13) (.take 2 (xa 15 2 14) (.take 3 (xl 16 15) (.take 4 (xo 17 (.bin .shr (.t 16) (.c (.int .u64 33)))) (.only 5 [] (xv 18 0) (.only 6 [] (xk 19 18) (.only 7 [] (xa 20 2 19) (.only 8 [] (xl 21 20) (.only 9 [] (xo 22 (.bin .shr (.t 21) (.c (.int .u64 45)))) (.only 10 [4,3,2,1,0] (bT 23 .xor 17 22) (.only 11 [10,4,3,2,1,0] (bI 24 .«and» 23 255) (.only 12 [0,1,2,3,4] (xv 3 24) (.done))))))))))))))) (.seq (.seq (.dreg (.take 0 (xv 25 0) (.take 1 (xk 26 25) (.take 2 (xa 27 1 26) (.take 3 (xl 28 27) (.only 4 [] (xv 29 0) (.only 5 [] (xk 30 29) (.only 6 [] (xa 31 0 30) (.only 7 [] (xl 32 31) (.only 8 [] (xe 33 32) (.only 9 [3,2,1,0] (bT 34 .lss 28 33) (.done)))))))))))) (.cond 34 (.seq (.dreg (.take 0 (xv 35 3) (.take 1 (xv 36 0) (.take 2 (xk 37 36) (.take 3 (xa 38 0 37) (.take 4 (xl 39 38) (.only 5 [] (xv 40 0) (.only 6 [] (xk 41 40) (.only 7 [] (xa 42 1 41) (.only 8 [] (xl 43 42) (.only 9 [4,3,2,1] (xD 44 1 39 43) (.only 10 [9,4,3,2,1] (xl 45 44) (.only 11 [10,9,4,3,2,1] (xo 46 (.cvi .i64 (.t 45))) (.only 12 [0,11,10,9,4,3,2,1] (bT 47 .add 35 46) (.only 13 [12,0,11,10,9,4,3,2,1] (bI 48 .«and» 47 255) (.only 14 [0,1,2,3,4] (xv 3 48) (.done))))))))))))))))) (xr [xv 49 0,xv 50 0,xk 51 50,xa 52 1 51,xl 53 52,bI 54 .add 53 1,xk 55 49,xa 56 1 55,xS 1 56 54])) (.skip))) (kR [xv 57 3,xv 2 57]))))⟩
def m77:MFn:=⟨83,[.t 4],kr [xo 4 (.mv (.c (.nil)))] (kr [xv 10 0,xv 11 1,xo 12 (.call 39 [true,false] [.t 10,.t 11]),xv 5 12] (kr [xv 13 0,xv 14 1,xo 15 (.call 39 [true,false] [.t 13,.t 14]),xv 6 15] (.seq (kr [xv 16 0,xo 17 (.call 39 [true,false] [.t 16,xi 5])] (.blk 0 (kr [bI 19 .eql 17 0,xv 18 19] (.cond 18 (kR [xo 20 (.build [xz,xz,xz,xz,xz] [(0,1,xi 1),(1,1,xi 0),(4,1,xi 3)]),xo 21 (.build [xz,xz,xz,xz,xz] [(0,1,xi 1),(1,1,xi 1),(4,1,xi 1)]),xv 22 5,xo 23 (.build [xz,xz,xz,xz,xz] [(0,1,xi 5),(2,1,xi 0),(4,1,.t 22)]),xo 24 (.build [xz,xz,xz,xz,xz] [(0,1,xi 3),(1,1,xi 0),(2,1,xi 0),(3,1,xi 1)]),xo 25 (.build [xz,xz,xz,xz,xz] [(0,1,xi 12),(2,1,xi 0),(4,1,xi 6)]),xo 26 (.build [xz,xz,xz,xz,xz] [(0,1,xi 11),(4,1,xi 2)]),xo 27 (.build [xz,xz,xz,xz,xz] [(0,1,xi 13)]),xo 28 (.mkSl [xz,xz,xz,xz,xz] 7 [(0,.t 20),(1,.t 21),(2,.t 23),(3,.t 24),(4,.t 25),(5,.t 26),(6,.t 27)]),xv 4 28]) (kr [bI 30 .eql 17 1,xv 29 30] (.cond 29 (kR [xv 31 5,xo 32 (.build [xz,xz,xz,xz,xz] [(0,1,xi 6),(1,1,xi 0),(3,1,xi 1),(4,1,.t 31)]),xo 33 (.build [xz,xz,xz,xz,xz] [(0,1,xi 12),(2,1,xi 1),(4,1,xi 4)]),xo 34 (.build [xz,xz,xz,xz,xz] [(0,1,xi 10),(2,1,xi 0)]),xo 35 (.build [xz,xz,xz,xz,xz] [(0,1,xi 11)]),xo 36 (.build [xz,xz,xz,xz,xz] [(0,1,xi 13)]),xo 37 (.mkSl [xz,xz,xz,xz,xz] 5 [(0,.t 32),(1,.t 33),(2,.t 34),(3,.t 35),(4,.t 36)]),xv 4 37]) (kr [bI 39 .eql 17 2,xv 38 39] (.cond 38 (kR [xv 40 5,xo 41 (.build [xz,xz,xz,xz,xz] [(0,1,xi 6),(1,1,xi 0),(3,1,xi 1),(4,1,.t 40)]),xo 42 (.build [xz,xz,xz,xz,xz] [(0,1,xi 2),(1,1,xi 0),(2,1,xi 0),(3,1,xi 1)]),xv 43 6,xo 44 (.build [xz,xz,xz,xz,xz] [(0,1,xi 5),(2,1,xi 0),(4,1,.t 43)]),xo 45 (.build [xz,xz,xz,xz,xz] [(0,1,xi 10),(2,1,xi 0)]),xo 46 (.build [xz,xz,xz,xz,xz] [(0,1,xi 11)]),xo 47 (.mkSl [xz,xz,xz,xz,xz] 5 [(0,.t 41),(1,.t 42),(2,.t 44),(3,.t 45),(4,.t 46)]),xv 4 47]) (kr [bI 49 .eql 17 3,xv 48 49] (kF 48 [xo 50 (.build [xz,xz,xz,xz,xz] [(0,1,xi 1),(1,1,xi 2),(4,1,xi 5)]),xv 51 5,xo 52 (.build [xz,xz,xz,xz,xz] [(0,1,xi 7),(1,1,xi 3),(2,1,xi 2),(4,1,.t 51)]),xv 53 6,xo 54 (.build [xz,xz,xz,xz,xz] [(0,1,xi 8),(1,1,xi 0),(3,1,xi 1),(4,1,.t 53)]),xo 55 (.build [xz,xz,xz,xz,xz] [(0,1,xi 10),(2,1,xi 1)]),xo 56 (.build [xz,xz,xz,xz,xz] [(0,1,xi 2),(1,1,xi 2),(2,1,xi 2),(3,1,xi 3)]),xo 57 (.build [xz,xz,xz,xz,xz] [(0,1,xi 11),(4,1,xi 1)]),xo 58 (.mkSl [xz,xz,xz,xz,xz] 6 [(0,.t 50),(1,.t 52),(2,.t 54),(3,.t 55),(4,.t 56),(5,.t 57)]),xv 4 58])))))))))) (kr [xv 59 0,xo 60 (.call 39 [true,false] [.t 59,xi 9]),xo 61 (.bin .add (xi 2) (.t 60)),xv 7 61] (kr [xo 62 (.mkSl [xz,xz,xz,xz,xz] 0 []),xv 8 62] (.seq (kr [xI 9 0] (.blk 1 (.loop (.seq (kr [xv 63 9,xv 64 7,bT 65 .lss 63 64] (kX 65 1)) (.seq (.blk 2 (xr [xv 68 8,xv 69 0,xv 70 7,bI 71 .add 70 1,xv 72 1,xo 73 (.call 91 [true,false,false] [.t 69,.t 71,.t 72]),xo 74 (.mkSl [xz,xz,xz,xz,xz] 1 [(0,.t 73)]),xA 75 5 40 68 74,xv 8 75])) (xr [xv 66 9,bI 67 .add 66 1,xv 9 67])))))) (kR [xv 76 8,xv 77 0,xo 78 (.mkSl [xz] 2 [(0,xi 13),(1,xi 11)]),xo 79 (.call 56 [true,false] [.t 77,.t 78]),xo 80 (.build [xz,xz,xz,xz,xz] [(0,1,.t 79)]),xo 81 (.mkSl [xz,xz,xz,xz,xz] 1 [(0,.t 80)]),xA 82 5 40 76 81,xv 4 82])))))))⟩
def m91:MFn:=⟨91,[.cell 6 5 true],kr [xo 6 (.alloc [xz,xz,xz,xz,xz])] (kr [xv 11 0,xo 12 (.call 39 [true,false] [.t 11,xi 4]),xv 13 0,xo 14 (.call 39 [true,false] [.t 13,xi 4]),xv 15 0,xo 16 (.call 39 [true,false] [.t 15,xi 4]),xv 7 12,xv 8 14,xv 9 16] (kr [xv 17 0,xv 18 2,xc2 19 98 (.t 18) (xi 1),xo 20 (.call 39 [true,false] [.t 17,.t 19]),xv 10 20] (.seq (kr [xv 21 0,xo 22 (.call 39 [true,false] [.t 21,xi 16])] (.blk 0 (.seq (kr [bI 24 .eql 22 0,xv 23 24] (.cond 23 (.skip) (xr [bI 25 .eql 22 1,xv 23 25]))) (.cond 23 (kR [xv 26 7,xv 27 0,xo 28 (.call 39 [true,false] [.t 27,xi 9]),bI 29 .sub 28 2,xo 30 (.build [xz,xz,xz,xz,xz] [(0,1,xi 1),(1,1,.t 26),(4,1,.t 29)]),xS 5 6 30]) (.seq (kr [bI 32 .eql 22 2,xv 31 32] (.cond 31 (.skip) (xr [bI 33 .eql 22 3,xv 31 33]))) (.cond 31 (kR [xv 34 0,xo 35 (.call 39 [true,false] [.t 34,xi 3]),xo 36 (.bin .add (xi 2) (.t 35)),xv 37 7,xv 38 8,xv 39 9,xo 40 (.build [xz,xz,xz,xz,xz] [(0,1,.t 36),(1,1,.t 37),(2,1,.t 38),(3,1,.t 39)]),xS 5 6 40]) (.seq (kr [bI 42 .eql 22 4,xv 41 42] (.cond 41 (.skip) (kr [bI 43 .eql 22 5,xv 41 43] (.cond 41 (.skip) (xr [bI 44 .eql 22 6,xv 41 44]))))) (.cond 41 (kR [xv 45 8,xv 46 10,xo 47 (.build [xz,xz,xz,xz,xz] [(0,1,xi 5),(2,1,.t 45),(4,1,.t 46)]),xS 5 6 47]) (.seq (kr [bI 49 .eql 22 7,xv 48 49] (.cond 48 (.skip) (kr [bI 50 .eql 22 8,xv 48 50] (.cond 48 (.skip) (xr [bI 51 .eql 22 9,xv 48 51]))))) (.cond 48 (kR [xv 52 7,xv 53 7,bI 54 .add 53 1,bI 55 .rem 54 4,xv 56 10,xo 57 (.build [xz,xz,xz,xz,xz] [(0,1,xi 6),(1,1,.t 52),(3,1,.t 55),(4,1,.t 56)]),xS 5 6 57]) (kr [bI 59 .eql 22 10,xv 58 59] (.cond 58 (kR [xv 60 7,xv 61 8,xv 62 10,xo 63 (.build [xz,xz,xz,xz,xz] [(0,1,xi 7),(1,1,.t 60),(2,1,.t 61),(4,1,.t 62)]),xS 5 6 63]) (kr [bI 65 .eql 22 11,xv 64 65] (.cond 64 (kR [xv 66 7,xv 67 7,bI 68 .add 67 1,bI 69 .rem 68 4,xv 70 10,xo 71 (.build [xz,xz,xz,xz,xz] [(0,1,xi 8),(1,1,.t 66),(3,1,.t 69),(4,1,.t 70)]),xS 5 6 71]) (kr [bI 73 .eql 22 12,xv 72 73] (.cond 72 (.seq (kr [xv 74 0,xo 75 (.call 40 [true,false] [.t 74,xi 3])] (kF 75 [xv 76 10,xo 77 (.build [xz,xz,xz,xz,xz] [(0,1,xi 9),(4,1,.t 76)]),xS 5 6 77])) (kR [xv 78 0,xv 79 1,xo 80 (.call 39 [true,false] [.t 78,.t 79]),xo 81 (.build [xz,xz,xz,xz,xz] [(0,1,xi 11),(4,1,.t 80)]),xS 5 6 81])) (kr [bI 83 .eql 22 13,xv 82 83] (kF 82 [xv 84 8,xv 85 0,xv 86 1,xo 87 (.call 39 [true,false] [.t 85,.t 86]),xo 88 (.build [xz,xz,xz,xz,xz] [(0,1,xi 12),(2,1,.t 84),(4,1,.t 87)]),xS 5 6 88])))))))))))))))))) (kR [xv 89 8,xo 90 (.build [xz,xz,xz,xz,xz] [(0,1,xi 10),(2,1,.t 89)]),xS 5 6 90]))))⟩
def m213:MFn:=⟨18,[.t 6],kr [xI 6 0] (kr [xv 8 1,xv 9 0,xe 10 9,bI 11 .quo 10 4,bT 12 .add 8 11,xv 7 12] (.seq (kr [xv 13 7,xv 14 2,bT 15 .gtr 13 14] (kF 15 [xv 16 2,xv 6 16])) (kR [xv 17 7,xv 6 17])))⟩
def qJa (h:Int):Int:=IntKind.i64.wrap (IntKind.i64.wrap (h*6364136223846793005)+1442695040888963407)
def qS2 (h:Int):Int:=qP1 .i64 (wAh .i64 (qP0 .i64 h 33) (qP0 .i64 h 45)) 255
def jO (code:List Int) (c:Cur):Int×Cur :=
 if (c.i:Int)<code.length then (qP1 .i64 (IntKind.i64.wrap (qS2 (qJa c.h)+IntKind.i64.wrap (code.getD c.i 0))) 255,⟨c.i+1,qJa c.h⟩) else (qS2 (qJa c.h),⟨c.i,qJa c.h⟩)
theorem qXp (a:Int):0≤qP1 .i64 a 255∧qP1 .i64 a 255≤255:=by
 unfold qP1
 have h:(BitVec.ofInt IntKind.i64.bits a &&& BitVec.ofInt IntKind.i64.bits 255).toNat≤255:=by
  rw [BitVec.toNat_and]
  have:(BitVec.ofInt IntKind.i64.bits 255).toNat=255:=by decide
  rw [this]
  exact Nat.and_le_right
 rw [yL (by omega) (by omega)]
 omega
theorem pG (code:List Int) (c:Cur):0≤(jO code c).1∧(jO code c).1≤255:=by
 unfold jO
 split
 ·exact qXp _
 ·exact qXp _
theorem lD (code:List Int) (c:Cur) (hb:code.length<2^62):qY Tryz.prog num 58 [.ptr 0 0 0] [(0,some (3,[eI code c]),some (3,[eI code (jO code c).2]))] (.int .i64 (jO code c).1):=by
 refine EH m58 Tryz.func89 ?_
 unfold m58
 simp only [go_sem,seval,eI,qF0,reduceCtorEq]
 repeat refine K ?_
 refine qP (fun hc=>?_) (fun hc=>?_)
 ·simp only [decide_eq_true_eq] at hc
  have hl:c.i<code.length:=by omega
  simp only [go_sem,seval,qF0,reduceCtorEq,qOq code c.i hl,qN (i:=c.i) (by omega)]
  repeat refine K ?_
  apply wI
  ·exact Sub.refl _
  ·simp [-wD9,-gD,jO,hc,qS2,qJa]<;>(first | rfl | exact ⟨rfl,rfl⟩ | exact ⟨rfl,rfl,rfl⟩ | skip)
 ·simp only [decide_eq_false_iff_not] at hc
  simp only [go_sem,seval]
  apply wI
  ·exact Sub.refl _
  ·simp [-wD9,-gD,jO,hc,qS2,qJa]<;>(first | rfl | exact ⟨rfl,rfl⟩ | exact ⟨rfl,rfl,rfl⟩ | skip)
def b1 (code:List Int) (c:Cur):Int×Cur:=jO code c
def qR (code:List Int) (c:Cur) (n:Int):Int×Cur :=
 if n≤0 then (0,c) else if n≤256 then ((jO code c).1.tmod n,(jO code c).2) else
 ((IntKind.i64.wrap (IntKind.i64.wrap (IntKind.i64.wrap (IntKind.i64.wrap ((jO code c).1*16777216)+IntKind.i64.wrap ((jO code (jO code c).2).1*65536))+IntKind.i64.wrap ((jO code (jO code (jO code c).2).2).1*256))+(jO code (jO code (jO code (jO code c).2).2).2).1)).tmod n,(jO code (jO code (jO code (jO code c).2).2).2).2)
theorem jC (code:List Int) (c:Cur) (n:Int) (h:0<n):0≤(qR code c n).1∧(qR code c n).1<n:=by
 unfold qR
 rw [if_neg (by omega)]
 split
 ·have:=pG code c
  exact ⟨Int.tmod_nonneg _ (by omega),Int.tmod_lt_of_pos _ h⟩
 ·have h1:=pG code c
  have h2:=pG code (jO code c).2
  have h3:=pG code (jO code (jO code c).2).2
  have h4:=pG code (jO code (jO code (jO code c).2).2).2
  refine ⟨Int.tmod_nonneg _ ?_,Int.tmod_lt_of_pos _ h⟩
  rw [yL (n:=(jO code c).1*16777216) (by omega) (by omega),yL (n:=(jO code (jO code c).2).1*65536) (by omega) (by omega),yL (n:=(jO code (jO code (jO code c).2).2).1*256) (by omega) (by omega)]
  rw [yL (n:=(jO code c).1*16777216+(jO code (jO code c).2).1*65536) (by omega) (by omega)]
  rw [yL (n:=(jO code c).1*16777216+(jO code (jO code c).2).1*65536+(jO code (jO code (jO code c).2).2).1*256) (by omega) (by omega)]
  rw [yL (by omega) (by omega)]
  omega
theorem yG (code:List Int) (c:Cur) (n:Int) (hb:code.length<2^62):qY Tryz.prog num 39 [.ptr 0 0 0,.int .i64 n] [(0,some (3,[eI code c]),some (3,[eI code (qR code c n).2]))] (.int .i64 (qR code c n).1):=by
 refine EH m39 Tryz.func48 ?_
 unfold m39
 by_cases h0:n≤0
 ·simp only [go_sem,seval,h0]
  apply wI
  ·exact Sub.refl _
  ·simp [-wD9,-gD,qR,h0]<;>(first | rfl | exact ⟨rfl,rfl⟩ | exact ⟨rfl,rfl,rfl⟩ | skip)
 have hn :¬n=0:=by omega
 by_cases h1:n≤256
 ·simp only [go_sem,seval,h0,h1]
  refine CA [(0,0)] (lD code c hb) ?_
  try simp only [go_sem,seval]
  repeat refine K ?_
  apply wI
  ·exact Sub.refl _
  ·simp [-wD9,-gD,qR,h0,h1]<;>(first | rfl | exact ⟨rfl,rfl⟩ | exact ⟨rfl,rfl,rfl⟩ | skip)
 simp only [go_sem,seval,h0,h1]
 refine CA [(0,0)] (lD code c hb) ?_
 try simp only [go_sem,seval]
 refine CA [(0,0)] (lD code (jO code c).2 hb) ?_
 try simp only [go_sem,seval]
 refine CA [(0,0)] (lD code (jO code (jO code c).2).2 hb) ?_
 try simp only [go_sem,seval]
 refine CA [(0,0)] (lD code (jO code (jO code (jO code c).2).2).2 hb) ?_
 try simp only [go_sem,seval]
 repeat refine K ?_
 apply wI
 ·exact Sub.refl _
 ·simp [-wD9,-gD,qR,h0,h1]<;>(first | rfl | exact ⟨rfl,rfl⟩ | exact ⟨rfl,rfl,rfl⟩ | skip)
def oG (code:List Int) (c:Cur) (n:Int):Bool×Cur:=(decide ((qR code c n).1=0),(qR code c n).2)
theorem qU0 (code:List Int) (c:Cur) (n:Int) (hb:code.length<2^62):qY Tryz.prog num 40 [.ptr 0 0 0,.int .i64 n] [(0,some (3,[eI code c]),some (3,[eI code (oG code c n).2]))] (.bool (oG code c n).1):=by
 refine EH m40 Tryz.func138 ?_
 unfold m40
 simp only [go_sem,seval]
 refine CA [(0,0)] (yG code c n hb) ?_
 try simp only [go_sem,seval]
 refine fz ?_; simp [yQ,wJ,wK,wR,-wD9]
 simp [oG]
def kZ (code:List Int) (c:Cur) (l:List Int):Int×Cur:=(l.getD (qR code c l.length).1.toNat 0,(qR code c l.length).2)
theorem mF (code:List Int) (c:Cur) (l:List Int) (hb:code.length<2^62) (hl:0<l.length):qY Tryz.prog num 56 [.ptr 0 0 0,.sl .bw 1 (wE l)] [(0,some (3,[eI code c]),some (3,[eI code (kZ code c l).2]))] (.int .i64 (kZ code c l).1):=by
 refine EH m56 Tryz.func92 ?_
 unfold m56
 simp only [go_sem,seval]
 refine CA [(0,0)] (yG code c l.length hb) ?_
 try simp only [go_sem,seval]
 have h:=jC code c l.length (by omega)
 have h2:(qR code c l.length).1.toNat<l.length:=by omega
 try simp only [go_sem,seval,qI l _ h2]
 repeat refine K ?_
 refine fz ?_; simp [yQ,wJ,wK,wR,-wD9]
 simp [kZ]
theorem qWe (a b:Int):qY Tryz.prog num 98 [.int .i64 a,.int .i64 b] [] (.int .i64 (if b<a then a else b)):=by
 have h:=qU1 a b
 have e:max a b=if b<a then a else b:=by split<;>omega
 rw [e] at h
 exact h
def qWo (h x:Int):Int:=qP1 .i64 (IntKind.i64.wrap (IntKind.i64.wrap (IntKind.i64.wrap (h*131)+IntKind.i64.wrap x)+7)) 1073741823
def mM (code:List Int) (i:Nat):Int:=(code.take i).foldl qWo (IntKind.i64.wrap (18813+code.length))
def cJ (code:List Int):Cur:=⟨0,mM code 4000⟩
theorem qO4 (code:List Int) (i:Nat) (h:i<code.length):mM code (i+1)=qWo (mM code i) (code.getD i 0):=by
 unfold mM
 rw [jX code 0 i h,List.foldl_append]
 rfl
theorem oO (code:List Int) (hb:code.length<2^62):qY Tryz.prog num 37 [.sl .fz 1 (bys code)] [(10,none,some (3,[eI code (cJ code)]))] (.ptr 10 0 0):=by
 refine EH m37 Tryz.func46 ?_
 unfold m37
 simp only [go_sem,seval]
 refine qZ (ι:=Nat) (fun i=>.mk [(0,.sl .fz 1 (bys code)),(3,.int .i64 (mM code i)),(4,.int .i64 i)] [] 10) (fun i=>i≤code.length∧i≤4000) (fun i=>code.length-i) 0 (by simp) ?_ ?_
 ·refine Sub.shape [] id (by omega) ?_ ?_ ?_ ?_<;>simp [qK]
  simp [mM]
 ·rintro i ⟨hi,hi2⟩
  have hfin :¬(i:Int)<4000∨¬(i:Int)<code.length→mM code i=mM code 4000:=by
   rintro (h | h)
   ·have:i=4000:=by omega
    rw [this]
   ·unfold mM
    rw [wBy (by omega),wBy (by omega)]
  by_cases h1:(i:Int)<code.length
  ·have h1':i<code.length:=by omega
   by_cases h2:(i:Int)<4000
   ·have hs:=qO4 code i h1'
    unfold qWo at hs
    simp only [go_sem,seval,h1,h2,qOq code i h1',←hs,qN (i:=i) (by omega)]
    repeat refine K ?_
    refine qM (i+1) ?_ ⟨h1',by omega⟩ (by omega)
    refine Sub.shape [] id (by omega) ?_ ?_ ?_ ?_<;>simp [qK]
   ·have he:=hfin (.inl h2)
    simp only [go_sem,seval,h1,h2,he]
    apply wI
    ·exact Sub.refl _
    ·simp [-wD9,-gD,cJ]<;>(first | rfl | exact ⟨rfl,rfl⟩ | exact ⟨rfl,rfl,rfl⟩ | skip)
  ·have he:=hfin (.inr h1)
   simp only [go_sem,seval,h1,he]
   apply wI
   ·exact Sub.refl _
   ·simp [-wD9,-gD,cJ]<;>(first | rfl | exact ⟨rfl,rfl⟩ | exact ⟨rfl,rfl,rfl⟩ | skip)
def qS8 (code:List Int) (places r a b n k:Int) (c:Cur):Ins×Cur :=
 if k=0∨k=1 then (⟨1,r,0,0,IntKind.i64.wrap ((qR code c 9).1-2)⟩,(qR code c 9).2)
 else if k=2∨k=3 then (⟨IntKind.i64.wrap (2+(qR code c 3).1),r,a,b,0⟩,(qR code c 3).2)
 else if k=4∨k=5∨k=6 then (⟨5,0,a,0,n⟩,c)
 else if k=7∨k=8∨k=9 then (⟨6,r,0,(IntKind.i64.wrap (r+1)).tmod 4,n⟩,c)
 else if k=10 then (⟨7,r,a,0,n⟩,c)
 else if k=11 then (⟨8,r,0,(IntKind.i64.wrap (r+1)).tmod 4,n⟩,c)
 else if k=12 then (if (oG code c 3).1 then (⟨9,0,0,0,n⟩,(oG code c 3).2) else (⟨11,0,0,0,(qR code (oG code c 3).2 places).1⟩,(qR code (oG code c 3).2 places).2))
 else if k=13 then (⟨12,0,a,0,(qR code c places).1⟩,(qR code c places).2)
 else (⟨10,0,a,0,0⟩,c)
def qWm (code:List Int) (places wH:Int) (r a b:Int) (c:Cur):Ins×Cur :=
 qS8 code places r a b (qR code c (if 1<wH then wH else 1)).1 (qR code (qR code c (if 1<wH then wH else 1)).2 16).1 (qR code (qR code c (if 1<wH then wH else 1)).2 16).2
def qAm (code:List Int) (c:Cur) (places wH:Int):Ins×Cur :=
 qWm code places wH (qR code c 4).1 (qR code (qR code c 4).2 4).1 (qR code (qR code (qR code c 4).2 4).2 4).1 (qR code (qR code (qR code c 4).2 4).2 4).2
theorem qL7 (code:List Int) (c:Cur) (places wH:Int) (hb:code.length<2^62):qY Tryz.prog num 91 [.ptr 0 0 0,.int .i64 places,.int .i64 wH] [(0,some (3,[eI code c]),some (3,[eI code (qAm code c places wH).2]))] (.agg (gE (qAm code c places wH).1)):=by
 refine EH m91 Tryz.func122 ?_
 unfold m91 qAm
 simp only [go_sem,seval]
 refine CA [(0,0)] (yG code c 4 hb) ?_
 try simp only [go_sem,seval]
 generalize qR code c 4=r
 refine CA [(0,0)] (yG code r.2 4 hb) ?_
 try simp only [go_sem,seval]
 generalize qR code r.2 4=a
 refine CA [(0,0)] (yG code a.2 4 hb) ?_
 try simp only [go_sem,seval]
 generalize qR code a.2 4=b
 unfold qWm
 refine CA [] (qWe wH 1) ?_
 try simp only [go_sem,seval]
 refine CA [(0,0)] (yG code b.2 (if 1<wH then wH else 1) hb) ?_
 try simp only [go_sem,seval]
 generalize qR code b.2 (if 1<wH then wH else 1)=n
 refine CA [(0,0)] (yG code n.2 16 hb) ?_
 try simp only [go_sem,seval]
 generalize qR code n.2 16=k
 obtain ⟨k,d⟩:=k
 simp only
 unfold qS8
 by_cases h0:k=0
 ·subst h0
  try simp only [go_sem,seval,reduceCtorEq]
  refine CA [(0,0)] (yG code d 9 hb) ?_
  try simp only [go_sem,seval]
  apply wI
  ·exact Sub.refl _
  ·simp [-wD9,-gD,gE]<;>(first | rfl | exact ⟨rfl,rfl⟩ | exact ⟨rfl,rfl,rfl⟩ | skip)
 by_cases h1:k=1
 ·subst h1
  try simp only [go_sem,seval,reduceCtorEq]
  refine CA [(0,0)] (yG code d 9 hb) ?_
  try simp only [go_sem,seval]
  apply wI
  ·exact Sub.refl _
  ·simp [-wD9,-gD,gE]<;>(first | rfl | exact ⟨rfl,rfl⟩ | exact ⟨rfl,rfl,rfl⟩ | skip)
 by_cases h2:k=2
 ·subst h2
  try simp only [go_sem,seval,reduceCtorEq]
  refine CA [(0,0)] (yG code d 3 hb) ?_
  try simp only [go_sem,seval]
  apply wI
  ·exact Sub.refl _
  ·simp [-wD9,-gD,gE]<;>(first | rfl | exact ⟨rfl,rfl⟩ | exact ⟨rfl,rfl,rfl⟩ | skip)
 by_cases h3:k=3
 ·subst h3
  try simp only [go_sem,seval,reduceCtorEq]
  refine CA [(0,0)] (yG code d 3 hb) ?_
  try simp only [go_sem,seval]
  apply wI
  ·exact Sub.refl _
  ·simp [-wD9,-gD,gE]<;>(first | rfl | exact ⟨rfl,rfl⟩ | exact ⟨rfl,rfl,rfl⟩ | skip)
 by_cases h4:k=4
 ·subst h4
  try simp only [go_sem,seval,reduceCtorEq]
  apply wI
  ·exact Sub.refl _
  ·simp [-wD9,-gD,gE]<;>(first | rfl | exact ⟨rfl,rfl⟩ | exact ⟨rfl,rfl,rfl⟩ | skip)
 by_cases h5:k=5
 ·subst h5
  try simp only [go_sem,seval,reduceCtorEq]
  apply wI
  ·exact Sub.refl _
  ·simp [-wD9,-gD,gE]<;>(first | rfl | exact ⟨rfl,rfl⟩ | exact ⟨rfl,rfl,rfl⟩ | skip)
 by_cases h6:k=6
 ·subst h6
  try simp only [go_sem,seval,reduceCtorEq]
  apply wI
  ·exact Sub.refl _
  ·simp [-wD9,-gD,gE]<;>(first | rfl | exact ⟨rfl,rfl⟩ | exact ⟨rfl,rfl,rfl⟩ | skip)
 by_cases h7:k=7
 ·subst h7
  try simp only [go_sem,seval,reduceCtorEq]
  apply wI
  ·exact Sub.refl _
  ·simp [-wD9,-gD,gE]<;>(first | rfl | exact ⟨rfl,rfl⟩ | exact ⟨rfl,rfl,rfl⟩ | skip)
 by_cases h8:k=8
 ·subst h8
  try simp only [go_sem,seval,reduceCtorEq]
  apply wI
  ·exact Sub.refl _
  ·simp [-wD9,-gD,gE]<;>(first | rfl | exact ⟨rfl,rfl⟩ | exact ⟨rfl,rfl,rfl⟩ | skip)
 by_cases h9:k=9
 ·subst h9
  try simp only [go_sem,seval,reduceCtorEq]
  apply wI
  ·exact Sub.refl _
  ·simp [-wD9,-gD,gE]<;>(first | rfl | exact ⟨rfl,rfl⟩ | exact ⟨rfl,rfl,rfl⟩ | skip)
 by_cases h10:k=10
 ·subst h10
  try simp only [go_sem,seval,reduceCtorEq]
  apply wI
  ·exact Sub.refl _
  ·simp [-wD9,-gD,gE]<;>(first | rfl | exact ⟨rfl,rfl⟩ | exact ⟨rfl,rfl,rfl⟩ | skip)
 by_cases h11:k=11
 ·subst h11
  try simp only [go_sem,seval,reduceCtorEq]
  apply wI
  ·exact Sub.refl _
  ·simp [-wD9,-gD,gE]<;>(first | rfl | exact ⟨rfl,rfl⟩ | exact ⟨rfl,rfl,rfl⟩ | skip)
 by_cases h12:k=12
 ·subst h12
  try simp only [go_sem,seval,reduceCtorEq]
  refine CA [(0,0)] (qU0 code d 3 hb) ?_
  try simp only [go_sem,seval]
  cases ho:(oG code d 3).1
  ·try simp only [go_sem,seval,ho]
   refine CA [(0,0)] (yG code (oG code d 3).2 places hb) ?_
   try simp only [go_sem,seval]
   apply wI
   ·exact Sub.refl _
   ·simp [-wD9,-gD,ho]<;>(first | rfl | exact ⟨rfl,rfl⟩ | exact ⟨rfl,rfl,rfl⟩ | skip)
  ·try simp only [go_sem,seval,ho]
   apply wI
   ·exact Sub.refl _
   ·simp [-wD9,-gD,ho]<;>(first | rfl | exact ⟨rfl,rfl⟩ | exact ⟨rfl,rfl,rfl⟩ | skip)
 by_cases h13:k=13
 ·subst h13
  try simp only [go_sem,seval,reduceCtorEq]
  refine CA [(0,0)] (yG code d places hb) ?_
  try simp only [go_sem,seval]
  apply wI
  ·exact Sub.refl _
  ·simp [-wD9,-gD,gE]<;>(first | rfl | exact ⟨rfl,rfl⟩ | exact ⟨rfl,rfl,rfl⟩ | skip)
 try simp only [go_sem,seval,h0,h1,h2,h3,h4,h5,h6,h7,h8,h9,h10,h11,h12,h13]
 apply wI
 ·exact Sub.refl _
 ·simp [-wD9,-gD,gE,h0,h1,h2,h3,h4,h5,h6,h7,h8,h9,h10,h11,h12,h13]<;>(first | rfl | exact ⟨rfl,rfl⟩ | exact ⟨rfl,rfl,rfl⟩ | skip)
def aF {β:Type} (step:Cur→β×Cur):Nat→Cur→List β×Cur
 | 0,c=>([],c)
 | n+1,c=>((aF step n c).1++[(step (aF step n c).2).1],(step (aF step n c).2).2)
@[simp] theorem cT {β:Type} (step:Cur→β×Cur) (c:Cur) :∀(n:Nat),(aF step n c).1.length=n
 | 0=>rfl
 | n+1=>by simp [aF,cT step c n]
def qLz (code:List Int) (wH n m k:Int) (c:Cur):List Ins×Cur :=
 if k=0 then ([⟨1,0,0,0,3⟩,⟨1,1,0,0,1⟩,⟨5,0,0,0,n⟩,⟨3,0,0,1,0⟩,⟨12,0,0,0,6⟩,⟨11,0,0,0,2⟩,⟨13,0,0,0,0⟩],c)
 else if k=1 then ([⟨6,0,0,1,n⟩,⟨12,0,1,0,4⟩,⟨10,0,0,0,0⟩,⟨11,0,0,0,0⟩,⟨13,0,0,0,0⟩],c)
 else if k=2 then ([⟨6,0,0,1,n⟩,⟨2,0,0,1,0⟩,⟨5,0,0,0,m⟩,⟨10,0,0,0,0⟩,⟨11,0,0,0,0⟩],c)
 else if k=3 then ([⟨1,2,0,0,5⟩,⟨7,3,2,0,n⟩,⟨8,0,0,1,m⟩,⟨10,0,1,0,0⟩,⟨2,2,2,3,0⟩,⟨11,0,0,0,1⟩],c)
 else
  ((aF (fun d=>qAm code d (2+(qR code c 9).1+1) wH) (2+(qR code c 9).1).toNat (qR code c 9).2).1++[⟨(kZ code (aF (fun d=>qAm code d (2+(qR code c 9).1+1) wH) (2+(qR code c 9).1).toNat (qR code c 9).2).2 [13,11]).1,0,0,0,0⟩],
   (kZ code (aF (fun d=>qAm code d (2+(qR code c 9).1+1) wH) (2+(qR code c 9).1).toNat (qR code c 9).2).2 [13,11]).2)
def qLy (code:List Int) (wH n m:Int) (c:Cur):List Ins×Cur:=qLz code wH n m (qR code c 5).1 (qR code c 5).2
def aU (code:List Int) (c:Cur) (wH:Int):List Ins×Cur :=
 qLy code wH (qR code c wH).1 (qR code (qR code c wH).2 wH).1 (qR code (qR code c wH).2 wH).2
theorem mW (code:List Int) (c:Cur) (wH:Int):1≤(aU code c wH).1.length∧(aU code c wH).1.length≤24:=by
 unfold aU qLy
 generalize qR code (qR code (qR code c wH).2 wH).2 5=k
 unfold qLz
 have h:=jC code k.2 9 (by omega)
 repeat' split
 all_goals first | (simp; done) | (simp; omega)
theorem rW (code:List Int) (c:Cur) (wH:Int) (hb:code.length<2^62):qY Tryz.prog num 77 [.ptr 0 0 0,.int .i64 wH] [(0,some (3,[eI code c]),some (3,[eI code (aU code c wH).2]))] (.sl .own 5 (yV (aU code c wH).1)):=by
 refine EH m77 Tryz.func88 ?_
 unfold m77 aU
 simp only [go_sem,seval]
 refine CA [(0,0)] (yG code c wH hb) ?_
 try simp only [go_sem,seval]
 generalize qR code c wH=n
 refine CA [(0,0)] (yG code n.2 wH hb) ?_
 try simp only [go_sem,seval]
 generalize qR code n.2 wH=m
 unfold qLy
 refine CA [(0,0)] (yG code m.2 5 hb) ?_
 try simp only [go_sem,seval]
 generalize qR code m.2 5=k
 obtain ⟨k,d⟩:=k
 simp only
 unfold qLz
 by_cases h0:k=0
 ·subst h0
  try simp only [go_sem,seval,reduceCtorEq]
  apply wI
  ·exact Sub.refl _
  ·simp [-wD9,-gD,yV,gE]<;>(first | rfl | exact ⟨rfl,rfl⟩ | exact ⟨rfl,rfl,rfl⟩ | skip)
 by_cases h1:k=1
 ·subst h1
  try simp only [go_sem,seval,reduceCtorEq]
  apply wI
  ·exact Sub.refl _
  ·simp [-wD9,-gD,yV,gE]<;>(first | rfl | exact ⟨rfl,rfl⟩ | exact ⟨rfl,rfl,rfl⟩ | skip)
 by_cases h2:k=2
 ·subst h2
  try simp only [go_sem,seval,reduceCtorEq]
  apply wI
  ·exact Sub.refl _
  ·simp [-wD9,-gD,yV,gE]<;>(first | rfl | exact ⟨rfl,rfl⟩ | exact ⟨rfl,rfl,rfl⟩ | skip)
 by_cases h3:k=3
 ·subst h3
  try simp only [go_sem,seval,reduceCtorEq]
  apply wI
  ·exact Sub.refl _
  ·simp [-wD9,-gD,yV,gE]<;>(first | rfl | exact ⟨rfl,rfl⟩ | exact ⟨rfl,rfl,rfl⟩ | skip)
 simp only [if_neg h0,if_neg h1,if_neg h2,if_neg h3]
 try simp only [go_sem,seval,h0,h1,h2,h3]
 refine CA [(0,0)] (yG code d 9 hb) ?_
 try simp only [go_sem,seval]
 have hr:=jC code d 9 (by omega)
 generalize qR code d 9=r at hr
 obtain ⟨r,e⟩:=r
 simp only at hr⊢
 have w1:IntKind.i64.wrap (2+r)=2+r:=yL (by omega) (by omega)
 have w2:IntKind.i64.wrap (2+r+1)=2+r+1:=yL (by omega) (by omega)
 try simp only [go_sem,seval,w1]
 refine qZ (ι:=Nat) (fun i=>.mk [(0,.ptr 0 0 0),(1,.int .i64 wH),(7,.int .i64 (2+r)),(8,.ns 10 0 i),(9,.int .i64 i)] [(0,3,[eI code (aF (fun d=>qAm code d (2+r+1) wH) i e).2]),(10,5,yV (aF (fun d=>qAm code d (2+r+1) wH) i e).1)] 11) (fun i=>i≤(2+r).toNat) (fun i=>(2+r).toNat-i) 0 (by simp) ?_ ?_
 ·refine Sub.shape [] id (by omega) ?_ ?_ ?_ ?_<;>simp [qK]
  all_goals simp [aF,yV]
 ·intro i hi
  simp only [go_sem,seval]
  refine qP (fun hc=>?_) (fun hc=>?_)
  ·simp only [decide_eq_true_eq] at hc
   simp only [go_sem,seval,w2,qN (i:=i) (by omega)]
   refine CA [(0,0)] (qL7 code (aF (fun d=>qAm code d (2+r+1) wH) i e).2 (2+r+1) wH hb) ?_
   try simp only [go_sem,seval]
   repeat refine K ?_
   try simp only [go_sem,seval,qN (i:=i) (by omega),cT]
   refine qM (i+1) ?_ (by omega) (by omega)
   simp only [aF]
   refine Sub.shape [] (fun n=>if n=10 then 12 else n) (by omega) ?_ ?_ ?_ ?_<;>simp [qK]
   exact .inl (by simp [yV,gE])
  ·simp only [decide_eq_false_iff_not] at hc
   have hie:i=(2+r).toNat:=by omega
   subst hie
   have hl:wE [13,11]=[[AV.int .i64 13],[.int .i64 11]]:=rfl
   simp only [go_sem,seval,←hl]
   refine CA [(0,0)] (mF code (aF (fun d=>qAm code d (2+r+1) wH) (2+r).toNat e).2 [13,11] hb (by decide)) ?_
   try simp only [go_sem,seval]
   repeat refine K ?_
   apply wI
   ·exact Sub.refl _
   ·simp [-wD9,-gD,gE,yV]<;>(first | rfl | exact ⟨rfl,rfl⟩ | exact ⟨rfl,rfl,rfl⟩ | skip)
def dL {β:Type} (code:List Int) (base m:Int) (step:Cur→β×Cur):Nat→Nat→Cur→List β→List β×Cur
 | 0,_,c,acc=>(acc,(qR code c m).2)
 | f+1,i,c,acc=>if (i:Int)<base+(qR code c m).1 then dL code base m step f (i+1) (step (qR code c m).2).2 (acc++[(step (qR code c m).2).1]) else (acc,(qR code c m).2)
theorem qJh {β:Type} {code:List Int} {base m:Int} {step:Cur→β×Cur} {N i:Nat} {c:Cur} {acc:List β} (hi:i<N) (h:(i:Int)<base+(qR code c m).1) :
  dL code base m step (N-i) i c acc=dL code base m step (N-(i+1)) (i+1) (step (qR code c m).2).2 (acc++[(step (qR code c m).2).1]):=by
 have:N-i=(N-(i+1))+1:=by omega
 rw [this]
 simp only [dL,if_pos h]
theorem qD3 {β:Type} {code:List Int} {base m:Int} {step:Cur→β×Cur} {f i:Nat} {c:Cur} {acc:List β} (h :¬(i:Int)<base+(qR code c m).1) :
  dL code base m step f i c acc=(acc,(qR code c m).2):=by
 cases f with
 | zero=>rfl
 | succ f=>simp only [dL,if_neg h]
theorem eQ {β:Type} {code:List Int} {base m:Int} {step:Cur→β×Cur} :∀(f i:Nat) (c:Cur) (acc:List β),acc.length≤(dL code base m step f i c acc).1.length∧(dL code base m step f i c acc).1.length≤acc.length+f
 | 0,_,_,acc=>by simp [dL]
 | f+1,i,c,acc=>by
  simp only [dL]
  split
  ·have:=eQ (code:=code) (base:=base) (m:=m) (step:=step) f (i+1) (step (qR code c m).2).2 (acc++[(step (qR code c m).2).1])
   simp only [wC5,List.length_cons,List.length_nil] at this
   omega
  ·simp
theorem qQf {β:Type} {code:List Int} {base m:Int} {step:Cur→β×Cur} (f:Nat) (c:Cur) (hb:0<base) (hm:0<m):1≤(dL code base m step (f+1) 0 c []).1.length:=by
 have:=jC code c m hm
 simp only [dL]
 rw [if_pos (by omega)]
 have h2:=(eQ (code:=code) (base:=base) (m:=m) (step:=step) f (0+1) (step (qR code c m).2).2 ([]++[(step (qR code c m).2).1])).1
 simpa using h2
theorem mO {β:Type} {code:List Int} {base m:Int} {step:Cur→β×Cur} {Q:β→Prop} (hs :∀c,Q (step c).1) :∀(f i:Nat) (c:Cur) (acc:List β),(∀x∈acc,Q x)→∀x∈(dL code base m step f i c acc).1,Q x
 | 0,_,_,acc,h=>h
 | f+1,i,c,acc,h=>by
  simp only [dL]
  split
  ·refine mO hs f (i+1) _ _ fun x hx=>?_
   rcases List.mem_append.1 hx with hx | hx
   ·exact h x hx
   ·rw [List.mem_singleton.1 hx]
    exact hs _
  ·exact h
def cE (code:List Int) (n:Nat) (c:Cur):List Int×Cur:=aF (fun d=>(IntKind.i64.wrap (1+(qR code d 4).1),(qR code d 4).2)) n c
def qE4 (code:List Int) (n:Int) (c:Cur):wQ×Cur :=
 (⟨(cE code n.toNat c).1,(dL code 1 4 (fun d=>aU code d n) 4 0 (cE code n.toNat c).2 []).1⟩,(dL code 1 4 (fun d=>aU code d n) 4 0 (cE code n.toNat c).2 []).2)
def dJ (code:List Int) (c:Cur):wQ×Cur:=qE4 code (1+(qR code c 3).1) (qR code c 3).2
def qRs (code:List Int) (k:Int) (c:Cur) (x:Ins):Ins×Cur :=
 if k=0 then (⟨IntKind.i64.wrap ((qR code c 16).1-1),x.r,x.a,x.b,x.n⟩,(qR code c 16).2)
 else if k=1 then (⟨x.op,IntKind.i64.wrap ((qR code c 6).1-1),x.a,x.b,x.n⟩,(qR code c 6).2)
 else if k=2 then (⟨x.op,x.r,IntKind.i64.wrap ((qR code c 6).1-1),x.b,x.n⟩,(qR code c 6).2)
 else if k=3 then (⟨x.op,x.r,x.a,IntKind.i64.wrap ((qR code c 6).1-1),x.n⟩,(qR code c 6).2)
 else if k=4 then (⟨x.op,x.r,x.a,x.b,(kZ code c [-1,0,3,23,24,1000000000,1000000001]).1⟩,(kZ code c [-1,0,3,23,24,1000000000,1000000001]).2)
 else (x,c)
def sK (code:List Int) (c:Cur) (x:Ins):Ins×Cur:=qRs code (qR code c 8).1 (qR code c 8).2 x
theorem qFv (code:List Int) (c:Cur) (x:Ins) (hb:code.length<2^62):qY Tryz.prog num 57 [.ptr 0 0 0,.agg (gE x)] [(0,some (3,[eI code c]),some (3,[eI code (sK code c x).2]))] (.agg (gE (sK code c x).1)):=by
 refine EH m57 Tryz.func91 ?_
 unfold m57 sK
 simp only [go_sem,seval]
 refine CA [(0,0)] (yG code c 8 hb) ?_
 try simp only [go_sem,seval]
 generalize qR code c 8=k
 obtain ⟨k,d⟩:=k
 simp only
 unfold qRs
 by_cases h0:k=0
 ·subst h0
  try simp only [go_sem,seval,reduceCtorEq]
  refine CA [(0,0)] (yG code d 16 hb) ?_
  try simp only [go_sem,seval]
  apply wI
  ·exact Sub.refl _
  ·simp [-wD9,-gD,gE]<;>(first | rfl | exact ⟨rfl,rfl⟩ | exact ⟨rfl,rfl,rfl⟩ | skip)
 by_cases h1:k=1
 ·subst h1
  try simp only [go_sem,seval,reduceCtorEq]
  refine CA [(0,0)] (yG code d 6 hb) ?_
  try simp only [go_sem,seval]
  apply wI
  ·exact Sub.refl _
  ·simp [-wD9,-gD,gE]<;>(first | rfl | exact ⟨rfl,rfl⟩ | exact ⟨rfl,rfl,rfl⟩ | skip)
 by_cases h2:k=2
 ·subst h2
  try simp only [go_sem,seval,reduceCtorEq]
  refine CA [(0,0)] (yG code d 6 hb) ?_
  try simp only [go_sem,seval]
  apply wI
  ·exact Sub.refl _
  ·simp [-wD9,-gD,gE]<;>(first | rfl | exact ⟨rfl,rfl⟩ | exact ⟨rfl,rfl,rfl⟩ | skip)
 by_cases h3:k=3
 ·subst h3
  try simp only [go_sem,seval,reduceCtorEq]
  refine CA [(0,0)] (yG code d 6 hb) ?_
  try simp only [go_sem,seval]
  apply wI
  ·exact Sub.refl _
  ·simp [-wD9,-gD,gE]<;>(first | rfl | exact ⟨rfl,rfl⟩ | exact ⟨rfl,rfl,rfl⟩ | skip)
 by_cases h4:k=4
 ·subst h4
  have hl:wE [-1,0,3,23,24,1000000000,1000000001]=[[AV.int .i64 (-1)],[.int .i64 0],[.int .i64 3],[.int .i64 23],[.int .i64 24],[.int .i64 1000000000],[.int .i64 1000000001]]:=rfl
  try simp only [go_sem,seval,reduceCtorEq,←hl]
  refine CA [(0,0)] (mF code d [-1,0,3,23,24,1000000000,1000000001] hb (by decide)) ?_
  try simp only [go_sem,seval]
  apply wI
  ·exact Sub.refl _
  ·simp [-wD9,-gD,gE]<;>(first | rfl | exact ⟨rfl,rfl⟩ | exact ⟨rfl,rfl,rfl⟩ | skip)
 try simp only [go_sem,seval,h0,h1,h2,h3,h4]
 apply wI
 ·exact Sub.refl _
 ·simp [-wD9,-gD,gE,h0,h1,h2,h3,h4]<;>(first | rfl | exact ⟨rfl,rfl⟩ | exact ⟨rfl,rfl,rfl⟩ | skip)
theorem mV (code:List Int) (n:Nat) (c:Cur):(cE code n c).1.length=n:=cT _ _ _
theorem qOw (l:List (List Ins)) (b:List Ins):yT .own l++[[.sl .own 5 (yV b)]]=yT .own (l++[b]):=by simp [yT]
theorem oP (code:List Int) (c:Cur) (hb:code.length<2^62):qY Tryz.prog num 55 [.ptr 0 0 0] [(0,some (3,[eI code c]),some (3,[eI code (dJ code c).2]))] (.agg (jY .own (dJ code c).1)):=by
 refine EH m55 Tryz.func47 ?_
 unfold m55 dJ
 simp only [go_sem,seval]
 refine CA [(0,0)] (yG code c 3 hb) ?_
 try simp only [go_sem,seval]
 have hn:=jC code c 3 (by omega)
 generalize qR code c 3=r at hn
 obtain ⟨r,d⟩:=r
 simp only at hn⊢
 have w1:IntKind.i64.wrap (1+r)=1+r:=yL (by omega) (by omega)
 try simp only [go_sem,seval,w1]
 obtain ⟨n,hn2⟩:=Int.eq_ofNat_of_zero_le (show 0≤1+r by omega)
 rw [hn2]
 unfold qE4
 refine qZ (ι:=Nat) (fun i=>.mk [(0,.ptr 0 0 0),(2,.ptr 10 0 0),(3,.ptr 11 0 0),(4,.int .i64 n),(5,.int .i64 i)] [(0,3,[eI code (cE code i d).2]),(10,2,[[.nil,.nil]]),(11,2,[[.sl .own 1 (wE (cE code i d).1),.nil]])] 12) (fun i=>i≤n) (fun i=>n-i) 0 (by simp) ?_ ?_
 ·refine Sub.shape [] id (by omega) ?_ ?_ ?_ ?_<;>simp [qK]
  all_goals simp [cE,aF,qAl]
 ·intro i hi
  have hcl:=mV code i d
  simp only [go_sem,seval]
  refine qP (fun hc=>?_) (fun hc=>?_)
  ·simp only [decide_eq_true_eq] at hc
   simp only [go_sem,seval,qN (i:=i) (by omega),hcl]
   repeat refine K ?_
   refine DA [(0,0)] (yG code (cE code i d).2 4 hb) ?_
   try simp only [go_sem,seval]
   repeat refine K ?_
   try simp only [go_sem,seval,qN (i:=i) (by omega),hcl]
   refine qM (i+1) ?_ (by omega) (by omega)
   have hs:cE code (i+1) d=((cE code i d).1++[IntKind.i64.wrap (1+(qR code (cE code i d).2 4).1)],(qR code (cE code i d).2 4).2):=rfl
   refine Sub.trans (Sub.fold1 11 0 14 rfl (by simp [-gD]<;>omega) rfl (by decide) (by decide) rfl) ?_
   simp only [fS,qA,qC,eF,hcl]
   rw [hs]
   refine Sub.shape [] id (by omega) ?_ ?_ ?_ ?_<;>simp [qK]
  ·simp only [decide_eq_false_iff_not] at hc
   have hie:i=n:=by omega
   subst hie
   simp only [go_sem,seval]
   obtain ⟨p,hp⟩ :∃p,cE code i d=p:=⟨_,rfl⟩
   obtain ⟨cs,e⟩:=p
   rw [hp] at hcl⊢
   simp only at hcl⊢
   refine qZ (ι:=Nat×Cur×List (List Ins)) (fun s=>.mk [(0,.ptr 0 0 0),(2,.ptr 10 0 0),(3,.ptr 11 0 0),(4,.int .i64 i),(6,.int .i64 s.1)] [(0,3,[eI code s.2.1]),(10,2,[[.nil,.nil]]),(11,2,[[.sl .own 1 (wE cs),.sl .own 1 (yT .own s.2.2)]])] 12) (fun s=>s.1≤4∧s.2.2.length=s.1∧dL code 1 4 (fun d=>aU code d i) (4-s.1) s.1 s.2.1 s.2.2=dL code 1 4 (fun d=>aU code d i) 4 0 e []) (fun s=>4-s.1) (0,e,[]) ⟨by simp,rfl,rfl⟩ ?_ ?_
   ·refine Sub.shape [] id (by omega) ?_ ?_ ?_ ?_<;>simp [qK]
   ·rintro ⟨j,f,acc⟩ ⟨hj,hl,hd⟩
    simp only at hj hl hd⊢
    simp only [go_sem,seval]
    refine CA [(0,0)] (yG code f 4 hb) ?_
    try simp only [go_sem,seval]
    have hr:=jC code f 4 (by omega)
    have w2:IntKind.i64.wrap (1+(qR code f 4).1)=1+(qR code f 4).1:=yL (by omega) (by omega)
    try simp only [go_sem,seval,w2]
    refine qP (fun hc=>?_) (fun hc=>?_)
    ·simp only [decide_eq_true_eq] at hc
     have hg:=qJh (code:=code) (base:=1) (m:=4) (step:=fun d=>aU code d i) (N:=4) (i:=j) (c:=f) (acc:=acc) (by omega) hc
     rw [hg] at hd
     try simp only at hd
     simp only [go_sem,seval,qN (i:=j) (by omega),hl]
     repeat refine K ?_
     refine DA [(0,0)] (rW code (qR code f 4).2 i hb) ?_
     try simp only [go_sem,seval]
     repeat refine K ?_
     try simp only [go_sem,seval,qN (i:=j) (by omega),hl]
     refine qM (j+1,(aU code (qR code f 4).2 i).2,acc++[(aU code (qR code f 4).2 i).1]) ?_ ⟨by simp only; omega,by simp only [wC5,hl]; rfl,hd⟩ (by simp only; omega)
     refine Sub.trans (Sub.foldLast 15 0 13 rfl (by simp [-gD]<;>omega) rfl (by decide) (by decide) rfl) ?_
     simp only [fS,qA,qC,qOw]
     refine Sub.trans (Sub.fold1 11 1 15 rfl (by simp [-gD]<;>omega) rfl (by decide) (by decide) rfl) ?_
     simp only [fS,qA,qC,hl]
     refine Sub.shape [] id (by omega) ?_ ?_ ?_ ?_<;>simp [qK]
    ·simp only [decide_eq_false_iff_not] at hc
     rw [qD3 hc] at hd
     simp only [go_sem,seval]
     rw [←hd]
     apply wI
     ·exact Sub.refl _
     ·simp [-wD9,-gD,]<;>(first | rfl | exact ⟨rfl,rfl⟩ | exact ⟨rfl,rfl,rfl⟩ | skip)
theorem pT (code:List Int) (c:Cur):1≤(dJ code c).1.caps.length∧(dJ code c).1.caps.length≤3∧1≤(dJ code c).1.bods.length∧(dJ code c).1.bods.length≤4∧∀b∈(dJ code c).1.bods,1≤b.length∧b.length≤24:=by
 unfold dJ
 have hn:=jC code c 3 (by omega)
 generalize qR code c 3=r at hn
 obtain ⟨r,d⟩:=r
 simp only at hn⊢
 unfold qE4
 have h1:=mV code (1+r).toNat d
 generalize cE code (1+r).toNat d=p at h1
 obtain ⟨cs,e⟩:=p
 simp only at h1⊢
 refine ⟨by omega,by omega,qQf 3 e (by omega) (by omega),?_,mO (Q:=fun (b:List Ins)=>1≤b.length∧b.length≤24) (fun c=>mW code c (1+r)) 4 0 e [] (by simp)⟩
 exact (eQ 4 0 e []).2
def qQi (code:List Int) (k:Int) (c:Cur) (p:wQ):wQ×Cur :=
 if k=0 then (⟨p.caps.set 0 (kZ code c [0,5]).1,p.bods⟩,(kZ code c [0,5]).2)
 else if k=1 then (⟨p.caps,p.bods.set 0 ((p.bods.getD 0 []).set 0 (sK code c ((p.bods.getD 0 []).getD 0 default)).1)⟩,(sK code c ((p.bods.getD 0 []).getD 0 default)).2)
 else if k=2 then (⟨p.caps,[]⟩,c)
 else if k=3 then (⟨p.caps++[1,1,1],p.bods⟩,c)
 else (p,c)
def qQh (code:List Int) (r:wQ×Cur):wQ×Cur:=qQi code (qR code r.2 20).1 (qR code r.2 20).2 r.1
def sB (code:List Int) (c:Cur):wQ×Cur:=qQh code (dJ code c)
theorem qOa (code:List Int) (c:Cur):(sB code c).1.caps.length≤6∧(sB code c).1.bods.length≤4∧∀b∈(sB code c).1.bods,b.length≤24:=by
 unfold sB qQh
 obtain ⟨h1,h2,h3,h4,h5⟩:=pT code c
 generalize dJ code c=r at *
 obtain ⟨p,d⟩:=r
 simp only at *
 generalize qR code d 20=k
 unfold qQi
 repeat' split
 ·exact ⟨by simp; omega,h4,fun b hb=>(h5 b hb).2⟩
 ·refine ⟨by simp only; omega,by simp; omega,fun b hb=>?_⟩
  simp only at hb
  rcases List.mem_or_eq_of_mem_set hb with hb | hb
  ·exact (h5 b hb).2
  ·rw [hb,List.length_set]
   exact (h5 _ (yB p.bods 0 [] (by omega))).2
 ·exact ⟨by simp only; omega,by simp,fun b hb=>by simp at hb⟩
 ·exact ⟨by simp; omega,h4,fun b hb=>(h5 b hb).2⟩
 ·exact ⟨by simp only; omega,h4,fun b hb=>(h5 b hb).2⟩
theorem qJ2 (code:List Int) (c:Cur) (hb:code.length<2^62):qY Tryz.prog num 38 [.ptr 0 0 0] [(0,some (3,[eI code c]),some (3,[eI code (sB code c).2]))] (.agg (jY .own (sB code c).1)):=by
 refine EH m38 Tryz.func52 ?_
 unfold m38 sB
 simp only [go_sem,seval]
 refine CA [(0,0)] (oP code c hb) ?_
 try simp only [go_sem,seval]
 obtain ⟨g1,g2,g3,g4,g5⟩:=pT code c
 generalize dJ code c=r at *
 obtain ⟨p,d⟩:=r
 simp only at *
 have g6:=g5 _ (yB p.bods 0 [] (by omega))
 unfold qQh
 refine CA [(0,0)] (yG code d 20 hb) ?_
 try simp only [go_sem,seval]
 generalize qR code d 20=k
 obtain ⟨k,d⟩:=k
 simp only
 unfold qQi
 by_cases h0:k=0
 ·subst h0
  have hl:wE [0,5]=[[AV.int .i64 0],[.int .i64 5]]:=rfl
  have h0:=qI p.caps 0 (by omega)
  try simp only [go_sem,seval,reduceCtorEq,←hl,h0]
  repeat refine K ?_
  refine DA [(0,0)] (mF code d [0,5] hb (by decide)) ?_
  try simp only [go_sem,seval]
  repeat refine K ?_
  try simp only [go_sem,seval,h0]
  repeat refine K ?_
  apply wI
  ·exact Sub.refl _
  ·simp [-wD9,-gD,]<;>(first | rfl | exact ⟨rfl,rfl⟩ | exact ⟨rfl,rfl,rfl⟩ | skip)
 by_cases h1:k=1
 ·subst h1
  have hb0:=wB .own p.bods 0 (by omega)
  have gs :∀r,((yT .own p.bods).set 0 r).getD 0 []=r:=fun r=>jR _ _ _ _ (by rw [eT]; omega)
  have hx:=jQ (p.bods.getD 0 []) 0 (by omega)
  try simp only [go_sem,seval,reduceCtorEq,hb0,gs,hx]
  repeat refine K ?_
  refine DA [(0,0)] (qFv code d ((p.bods.getD 0 []).getD 0 default) hb) ?_
  try simp only [go_sem,seval]
  repeat refine K ?_
  try simp only [go_sem,seval,hb0,gs,hx]
  repeat refine K ?_
  apply wI
  ·refine Sub.trans (Sub.foldAt 12 0 14 rfl (by simp [-gD]<;>omega) rfl (by decide) (by decide) rfl (by simp<;>omega)) ?_
   simp only [fS,qA,qC,qGt]
   exact Sub.refl _
  ·simp [-wD9,-gD,]<;>(first | rfl | exact ⟨rfl,rfl⟩ | exact ⟨rfl,rfl,rfl⟩ | skip)
 by_cases h2:k=2
 ·subst h2
  try simp only [go_sem,seval,reduceCtorEq]
  apply wI
  ·exact Sub.refl _
  ·simp [-wD9,-gD,qGu]<;>(first | rfl | exact ⟨rfl,rfl⟩ | exact ⟨rfl,rfl,rfl⟩ | skip)
 by_cases h3:k=3
 ·subst h3
  try simp only [go_sem,seval,reduceCtorEq]
  repeat refine K ?_
  apply wI
  ·exact Sub.refl _
  ·simp [-wD9,-gD,wE]<;>(first | rfl | exact ⟨rfl,rfl⟩ | exact ⟨rfl,rfl,rfl⟩ | skip)
 try simp only [go_sem,seval,h0,h1,h2,h3]
 apply wI
 ·exact Sub.refl _
 ·simp [-wD9,-gD,h0,h1,h2,h3]<;>(first | rfl | exact ⟨rfl,rfl⟩ | exact ⟨rfl,rfl,rfl⟩ | skip)
theorem qWn (code:List Int) (places r a b n k wH:Int) (c:Cur) (hp:1≤places) (hr:0≤r∧r<4) (ha:0≤a∧a<4) (hb:0≤b∧b<4) (hn:0≤n∧n<wH) (hc:wH≤3):jJ (qS8 code places r a b n k c).1 places wH=true:=by
 have h9:=jC code c 9 (by omega)
 have h3:=jC code c 3 (by omega)
 have hq:=jC code c places (by omega)
 have hq2:=jC code (oG code c 3).2 places (by omega)
 have w1:IntKind.i64.wrap ((qR code c 9).1-2)=(qR code c 9).1-2:=yL (by omega) (by omega)
 have w2:IntKind.i64.wrap (2+(qR code c 3).1)=2+(qR code c 3).1:=yL (by omega) (by omega)
 have hb4:0≤(IntKind.i64.wrap (r+1)).tmod 4∧(IntKind.i64.wrap (r+1)).tmod 4<4∧r≠(IntKind.i64.wrap (r+1)).tmod 4:=by
  obtain rfl | rfl | rfl | rfl:r=0∨r=1∨r=2∨r=3:=by omega
  all_goals decide
 unfold qS8
 rw [w1,w2]
 generalize (IntKind.i64.wrap (r+1)).tmod 4=b4 at hb4
 generalize qR code (oG code c 3).2 places=z2 at *
 generalize qR code c places=z1 at *
 generalize qR code c 9=z9 at *
 generalize qR code c 3=z3 at *
 clear w1 w2
 split
 ·simp [jJ,qL]
  omega
 ·split
  ·obtain e | e | e:z3.1=0∨z3.1=1∨z3.1=2:=by omega
   all_goals
    simp [jJ,qL,e]
    omega
  ·split
   ·simp [jJ,qL]
    omega
   ·split
    ·simp [jJ,qL]
     omega
    ·split
     ·simp [jJ,qL]
      omega
     ·split
      ·simp [jJ,qL]
       omega
      ·split
       ·split
        ·simp [jJ,qL]
         omega
        ·simp [jJ,qL]
         omega
       ·split
        ·simp [jJ,qL]
         omega
        ·simp [jJ,qL]
         omega
theorem qZ4 (code:List Int) (c:Cur) (places wH:Int) (hp:1≤places) (h1:1≤wH) (h3:wH≤3):jJ (qAm code c places wH).1 places wH=true:=by
 have r1:=jC code c 4 (by omega)
 have r2:=jC code (qR code c 4).2 4 (by omega)
 have r3:=jC code (qR code (qR code c 4).2 4).2 4 (by omega)
 have hm:(if 1<wH then wH else 1)=wH:=by split<;>omega
 unfold qAm qWm
 rw [hm]
 have r4:=jC code (qR code (qR code (qR code c 4).2 4).2 4).2 wH (by omega)
 exact qWn _ _ _ _ _ _ _ _ _ hp r1 r2 r3 r4 h3
theorem qBz {β:Type} {step:Cur→β×Cur} {Q:β→Prop} (h :∀c,Q (step c).1) :∀(n:Nat) (c:Cur),∀x∈(aF step n c).1,Q x
 | 0,c,x,hx=>by simp [aF] at hx
 | n+1,c,x,hx=>by
  simp only [aF] at hx
  rcases List.mem_append.1 hx with hx | hx
  ·exact qBz h n c x hx
  ·rw [List.mem_singleton.1 hx]
   exact h _
theorem qXm (code:List Int) (c:Cur) (wH:Int) (h1:1≤wH) (h3:wH≤3):wF (aU code c wH).1 wH=true:=by
 have hn:=jC code c wH (by omega)
 have hm:=jC code (qR code c wH).2 wH (by omega)
 unfold aU qLy
 generalize (qR code (qR code c wH).2 wH).1=m at hm
 generalize (qR code (qR code (qR code c wH).2 wH).2 5)=k
 generalize (qR code c wH).1=n at hn
 unfold qLz
 split
 ·simp [wF,jJ,qL,xK]
  omega
 ·split
  ·simp [wF,jJ,qL,xK]
   omega
  ·split
   ·simp [wF,jJ,qL,xK]
    omega
   ·split
    ·simp [wF,jJ,qL,xK]
     omega
    ·have h9:=jC code k.2 9 (by omega)
     generalize qR code k.2 9=z at h9
     have hl:=cT (fun d=>qAm code d (2+z.1+1) wH) z.2 (2+z.1).toNat
     have ha:=qBz (Q:=fun x=>jJ x (2+z.1+1) wH=true) (fun c=>qZ4 code c (2+z.1+1) wH (by omega) h1 h3) (2+z.1).toNat z.2
     generalize aF (fun d=>qAm code d (2+z.1+1) wH) (2+z.1).toNat z.2=w at hl ha
     have hpk:(kZ code w.2 [13,11]).1=13∨(kZ code w.2 [13,11]).1=11:=by
      unfold kZ
      have hb:=jC code w.2 (([13,11]:List Int).length:Int) (by simp)
      simp only [List.length_cons,List.length_nil] at hb⊢
      obtain e | e:(qR code w.2 ((0+1+1:Nat):Int)).1=0∨(qR code w.2 ((0+1+1:Nat):Int)).1=1:=by omega
      ·rw [e]; exact .inl rfl
      ·rw [e]; exact .inr rfl
     generalize (kZ code w.2 [13,11]).1=o at hpk
     have hlen:((w.1++[(⟨o,0,0,0,0⟩:Ins)]).length:Int)=2+z.1+1:=by
      rw [wC5,hl]
      simp
      omega
     simp only [wF,hlen]
     simp only [Bool.and_eq_true,Bool.or_eq_true,decide_eq_true_eq,qL,List.all_append,wDj,List.mem_singleton,forall_eq]
     have hlo:xK (w.1++[(⟨o,0,0,0,0⟩:Ins)])=o:=by
      unfold xK
      simp [wBr]
     refine ⟨⟨⟨⟨by omega,h3⟩,by omega,by omega⟩,ha,?_⟩,by rw [hlo]; exact hpk⟩
     rcases hpk with rfl | rfl
     ·simp [jJ,qL]
      omega
     ·simp [jJ,qL]
      omega
theorem qXi (code:List Int) (n:Nat) (c:Cur):dY (cE code n c).1=true:=by
 unfold dY cE
 rw [wDj]
 refine qBz (Q:=fun x=>qW x 1 4=true) (fun c=>?_) n c
 have h:=jC code c 4 (by omega)
 simp only
 rw [yL (by omega) (by omega),qL]
 omega
theorem qHl (code:List Int) (c:Cur):yR (dJ code c).1=true:=by
 have hs:=pT code c
 unfold dJ at hs⊢
 have hn:=jC code c 3 (by omega)
 generalize qR code c 3=r at hn hs
 obtain ⟨r,d⟩:=r
 simp only at hn hs⊢
 unfold qE4 at hs⊢
 have h1:=mV code (1+r).toNat d
 have h2:=qXi code (1+r).toNat d
 generalize cE code (1+r).toNat d=p at h1 h2 hs
 obtain ⟨cs,e⟩:=p
 simp only at h1 h2 hs⊢
 have hl:(cs.length:Int)=1+r:=by omega
 unfold yR
 simp only [Bool.and_eq_true,decide_eq_true_eq,qL,wDj]
 refine ⟨⟨⟨?_,by omega⟩,h2⟩,by omega⟩
 rw [hl]
 exact mO (Q:=fun (b:List Ins)=>wF b (1+r)=true) (fun c=>qXm code c (1+r) (by omega) (by omega)) 4 0 e [] (by simp)
def qAe (n:Nat) (least most:Int):Int:=if most<least+(n:Int)/4 then most else least+(n:Int)/4
theorem qU2 (code:List Int) (least most:Int) (hb:code.length<2^62) (h0:0≤least∧least<2^40):qY Tryz.prog num 213 [.sl .bw 1 (bys code),.int .i64 least,.int .i64 most] [] (.int .i64 (qAe code.length least most)):=by
 have q0:Int.tdiv (code.length:Int) 4=(code.length:Int)/4:=Int.tdiv_eq_ediv_of_nonneg (by omega)
 have q1:IntKind.i64.wrap ((code.length:Int)/4)=(code.length:Int)/4:=yL (by omega) (by omega)
 have q2:IntKind.i64.wrap (least+(code.length:Int)/4)=least+(code.length:Int)/4:=yL (by omega) (by omega)
 refine EN m213 Tryz.func49 ?_
 unfold m213
 simp only [go_sem,seval,q0,q1,q2]
 by_cases h:most<least+(code.length:Int)/4
 ·try simp only [go_sem,seval,h,q0,q1,q2]
  refine fz ?_; simp [yQ,wJ,wK,wR,-wD9]
  simp [qAe,h]
 ·try simp only [go_sem,seval,h,q0,q1,q2]
  refine fz ?_; simp [yQ,wJ,wK,wR,-wD9]
  simp [qAe,h]
theorem qW7 (n:Nat) {least most:Int} (h:least≤most):least≤qAe n least most∧qAe n least most≤most:=by
 unfold qAe
 split<;>omega
theorem wAg (code:List Int):qY Tryz.prog num 19 [.sl .bw 1 (bys code)] [] (.bool (decide ((1048576:Int)<code.length))):=by
 refine EN m19 Tryz.func6 ?_
 unfold m19
 simp only [go_sem,seval]
 refine fz ?_; simp [yQ,wJ,wK,wR,-wD9]
theorem iE (xs ys:List Int) (hx:xs.length≤2^47):qY Tryz.prog num 23 [.sl .bw 1 (wE xs),.sl .bw 1 (wE ys)] [] (.bool (decide (xs=ys))):=by
 refine EN m23 Tryz.func13 ?_
 unfold m23
 simp only [go_sem,seval]
 refine qP (fun hc=>?_) (fun hc=>?_)
 ·have hne:xs≠ys:=fun he=>by subst he; simp at hc
  simp only [go_sem,seval]
  refine fz ?_; simp [yQ,wJ,wK,wR,-wD9]
  exact hne
 ·have hl:xs.length=ys.length:=by simp at hc; omega
  simp only [go_sem,seval]
  refine qZ (ι:=Nat) (fun i=>.mk [(0,.sl .bw 1 (wE xs)),(1,.sl .bw 1 (wE ys)),(5,.int .i64 i)] [] 10) (fun i=>i≤xs.length∧xs.take i=ys.take i) (fun i=>xs.length-i) 0 (by simp) ?_ ?_
  ·refine Sub.shape [] id (by omega) ?_ ?_ ?_ ?_<;>simp [qK]
  ·rintro i ⟨hi,hp⟩
   simp only [go_sem,seval]
   refine qP (fun hc=>?_) (fun hc=>?_)
   ·simp only [decide_eq_true_eq] at hc
    have hil:i<xs.length:=by omega
    have hjl:i<ys.length:=by omega
    simp only [go_sem,seval,qI xs i hil,qI ys i hjl]
    repeat refine K ?_
    by_cases he:xs.getD i 0=ys.getD i 0
    ·simp only [go_sem,seval,he,qN (i:=i) (by omega)]
     refine qM (i+1) (Sub.shape [] id (by omega) ?_ ?_ ?_ ?_) ?_ ?_
     any_goals (first | omega | (simp [qK]; done))
     refine ⟨hil,?_⟩
     rw [wDe hil,wDe hjl,hp]
     have he':xs[i]=ys[i]:=by simpa [wBr,hil,hjl] using he
     rw [he']
    ·simp only [go_sem,seval,he]
     refine fz ?_; simp [yQ,wJ,wK,wR,-wD9]
     intro h
     subst h
     exact he rfl
   ·simp only [decide_eq_false_iff_not] at hc
    have he:xs=ys:=by
     have h1:i=xs.length:=by omega
     rw [h1,wDo,hl,wDo] at hp
     exact hp
    simp only [go_sem,seval]
    refine fz ?_; simp [yQ,wJ,wK,wR,-wD9]
    exact he
end Go.Sep
