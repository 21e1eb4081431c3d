/- Contracts of functions. -/
import Derived.Test.YtjbknbgdfhihcaaGreatJxx4
namespace Go.Sep
set_option maxHeartbeats 16000000
open Go.Proofs
set_option linter.unusedSimpArgs false
set_option linter.unusedVariables false
set_option maxRecDepth 100000
open Nat renaming reduceAdd → qA, reduceMul → qB, reduceEqDiff → qC, reduceBEq → qD
open Int renaming reduceToNat → qE, reduceEq → qF, reduceLT → qG, reduceLE → qH
open List renaming getD_eq_getElem?_getD → gD
def m164:MFn:=⟨27,[.t 4],kr [xF 4] (.seq (kr [xv 6 0,xe 7 6,xv 8 1,xe 9 8,bT 10 .neq 7 9] (kF 10 [xF 4])) (.seq (kr [xI 5 0] (.blk 0 (.loop (.seq (kr [xv 11 5,xv 12 0,xe 13 12,bT 14 .lss 11 13] (kX 14 0)) (.seq (.blk 1 (.seq (.dreg (.take 0 (xv 17 0) (.take 1 (xv 18 5) (.take 2 (xD 19 1 17 18) (.take 3 (xl 20 19) (.take 4 (xv 21 1) (.only 5 [] (xv 22 5) (.only 6 [4] (xD 23 1 21 22) (.only 7 [6,4] (xl 24 23) (.only 8 [3,7,2,6,0,1,4] (xc2 25 210 (.t 20) (.t 24)) (.only 9 [8,3,7,2,6,0,1,4] (xN 26 25) (.done)))))))))))) (kF 26 [xF 4]))) (xr [xv 15 5,bI 16 .add 15 1,xv 5 16])))))) (kR [xT 4])))⟩
def m172:MFn:=⟨30,[.t 4],kr [xb 2 0,xI 4 0] (kr [xa 5 0 2,xl 6 5,xv 7 1,xc2 8 221 (.t 6) (.t 7),xv 1 8] (.seq (kr [xv 9 1,bI 10 .lss 9 0] (kF 10 [xo 4 (.mv (.c (.int .i64 (-1))))])) (kr [xa 11 1 2,xl 12 11,xv 13 1,xc2 14 222 (.t 12) (.t 13),xv 1 14] (.seq (kr [xv 15 1,bI 16 .lss 15 0] (kF 16 [xo 4 (.mv (.c (.int .i64 (-1))))])) (kr [xa 17 2 2,xm 18 1 17,xv 19 1,xc2 20 223 (.t 18) (.t 19),xv 1 20] (.seq (kr [xv 21 1,bI 22 .lss 21 0] (kF 22 [xo 4 (.mv (.c (.int .i64 (-1))))])) (kr [xa 23 3 2,xl 24 23,xv 25 1,xc2 26 117 (.t 24) (.t 25),xv 1 26] (.seq (kr [xv 27 1,bI 28 .lss 27 0] (kF 28 [xo 4 (.mv (.c (.int .i64 (-1))))])) (kR [xv 29 1,xv 4 29])))))))))⟩
def m173:MFn:=⟨21,[.cell 2 4 true],kr [xb 1 0,xo 2 (.alloc [.nil,.nil,.nil,.nil])] (kr [xo 3 (.alloc [.nil,.nil,.nil,.nil])] (kr [xa 4 0 1,xl 5 4,xc1 6 226 (.t 5),xa 7 0 3,xS 1 7 6] (kr [xa 8 1 1,xl 9 8,xc1 10 227 (.t 9),xa 11 1 3,xS 1 11 10] (kr [xa 12 2 1,xm 13 1 12,xc1 14 228 (.t 13),xa 15 2 3,xS 1 15 14] (kr [xa 16 3 1,xl 17 16,xc1 18 116 (.t 17),xa 19 3 3,xS 1 19 18] (kR [xm 20 4 3,xS 4 2 20]))))))⟩
def m176:MFn:=⟨29,[.t 4],kr [xb 2 0,xb 3 1,xF 4] (.seq (kr [xa 5 0 2,xl 6 5,xa 7 0 3,xl 8 7,xc2 9 164 (.t 6) (.t 8),xN 10 9] (kF 10 [xF 4])) (.seq (kr [xa 11 1 2,xl 12 11,xa 13 1 3,xl 14 13,xc2 15 231 (.t 12) (.t 14),xN 16 15] (kF 16 [xF 4])) (.seq (kr [xa 17 2 2,xm 18 1 17,xa 19 2 3,xm 20 1 19,xc2 21 232 (.t 18) (.t 20),xN 22 21] (kF 22 [xF 4])) (.seq (kr [xa 23 3 2,xl 24 23,xa 25 3 3,xl 26 25,xc2 27 119 (.t 24) (.t 26),xN 28 27] (kF 28 [xF 4])) (kR [xT 4])))))⟩
def m210:MFn:=⟨27,[.t 4],kr [xF 4] (.seq (kr [xv 6 0,xe 7 6,xv 8 1,xe 9 8,bT 10 .neq 7 9] (kF 10 [xF 4])) (.seq (kr [xI 5 0] (.blk 0 (.loop (.seq (kr [xv 11 5,xv 12 0,xe 13 12,bT 14 .lss 11 13] (kX 14 0)) (.seq (.blk 1 (.seq (.dreg (.take 0 (xv 17 0) (.take 1 (xv 18 5) (.take 2 (xD 19 5 17 18) (.take 3 (xm 20 5 19) (.take 4 (xv 21 1) (.only 5 [] (xv 22 5) (.only 6 [4] (xD 23 5 21 22) (.only 7 [6,4] (xm 24 5 23) (.only 8 [3,7,2,6,0,1,4] (xc2 25 269 (.t 20) (.t 24)) (.only 9 [8,3,7,2,6,0,1,4] (xN 26 25) (.done)))))))))))) (kF 26 [xF 4]))) (xr [xv 15 5,bI 16 .add 15 1,xv 5 16])))))) (kR [xT 4])))⟩
def m221:MFn:=⟨27,[.t 4],kr [xI 4 0] (kr [xv 6 1,xv 7 0,xe 8 7,bT 9 .sub 6 8,xv 1 9] (.seq (kr [xv 10 1,bI 11 .lss 10 0] (kF 11 [xo 4 (.mv (.c (.int .i64 (-1))))])) (.seq (kr [xI 5 0] (.blk 0 (.loop (.seq (kr [xv 12 5,xv 13 0,xe 14 13,bT 15 .lss 12 14] (kX 15 0)) (.seq (.blk 1 (kr [xv 18 0,xv 19 5,xD 20 1 18 19,xl 21 20,xv 22 1,xc2 23 274 (.t 21) (.t 22),xv 1 23] (kr [xv 24 1,bI 25 .lss 24 0] (kF 25 [xo 4 (.mv (.c (.int .i64 (-1))))])))) (xr [xv 16 5,bI 17 .add 16 1,xv 5 17])))))) (kR [xv 26 1,xv 4 26]))))⟩
def m222:MFn:=⟨27,[.t 4],kr [xI 4 0] (kr [xv 6 1,xv 7 0,xe 8 7,bT 9 .sub 6 8,xv 1 9] (.seq (kr [xv 10 1,bI 11 .lss 10 0] (kF 11 [xo 4 (.mv (.c (.int .i64 (-1))))])) (.seq (kr [xI 5 0] (.blk 0 (.loop (.seq (kr [xv 12 5,xv 13 0,xe 14 13,bT 15 .lss 12 14] (kX 15 0)) (.seq (.blk 1 (kr [xv 18 0,xv 19 5,xD 20 4 18 19,xm 21 4 20,xv 22 1,xc2 23 275 (.t 21) (.t 22),xv 1 23] (kr [xv 24 1,bI 25 .lss 24 0] (kF 25 [xo 4 (.mv (.c (.int .i64 (-1))))])))) (xr [xv 16 5,bI 17 .add 16 1,xv 5 17])))))) (kR [xv 26 1,xv 4 26]))))⟩
def m223:MFn:=⟨12,[.t 4],kr [xb 2 0,xI 4 0] (kr [xa 5 0 2,xl 6 5,xv 7 1,xc2 8 276 (.t 6) (.t 7),xv 1 8] (.seq (kr [xv 9 1,bI 10 .lss 9 0] (kF 10 [xo 4 (.mv (.c (.int .i64 (-1))))])) (kR [xv 11 1,xv 4 11])))⟩
def m226:MFn:=⟨23,[.t 2],kr [xo 2 (.mv (.c (.nil)))] (kr [xv 5 0,xe 6 5,xo 7 (.mkS [.nil] 24 (.t 6) (.t 6)),xv 3 7] (.seq (kr [xI 4 0] (.blk 0 (.loop (.seq (kr [xv 8 4,xv 9 0,xe 10 9,bT 11 .lss 8 10] (kX 11 0)) (.seq (.blk 1 (xr [xv 14 3,xv 15 4,xv 16 0,xv 17 4,xD 18 1 16 17,xl 19 18,xc1 20 277 (.t 19),xD 21 1 14 15,xS 1 21 20])) (xr [xv 12 4,bI 13 .add 12 1,xv 4 13])))))) (kR [xv 22 3,xv 2 22])))⟩
def m227:MFn:=⟨23,[.t 2],kr [xo 2 (.mv (.c (.nil)))] (kr [xv 5 0,xe 6 5,xo 7 (.mkS [.int .i64 0,.nil,.nil,.int .i64 0] 64 (.t 6) (.t 6)),xv 3 7] (.seq (kr [xI 4 0] (.blk 0 (.loop (.seq (kr [xv 8 4,xv 9 0,xe 10 9,bT 11 .lss 8 10] (kX 11 0)) (.seq (.blk 1 (xr [xv 14 3,xv 15 4,xv 16 0,xv 17 4,xD 18 4 16 17,xm 19 4 18,xc1 20 278 (.t 19),xD 21 4 14 15,xS 4 21 20])) (xr [xv 12 4,bI 13 .add 12 1,xv 4 13])))))) (kR [xv 22 3,xv 2 22])))⟩
def m228:MFn:=⟨9,[.cell 2 1 true],kr [xb 1 0,xo 2 (.alloc [.nil])] (kr [xo 3 (.alloc [.nil])] (kr [xa 4 0 1,xl 5 4,xc1 6 279 (.t 5),xa 7 0 3,xS 1 7 6] (kR [xm 8 1 3,xS 1 2 8])))⟩
def m231:MFn:=⟨27,[.t 4],kr [xF 4] (.seq (kr [xv 6 0,xe 7 6,xv 8 1,xe 9 8,bT 10 .neq 7 9] (kF 10 [xF 4])) (.seq (kr [xI 5 0] (.blk 0 (.loop (.seq (kr [xv 11 5,xv 12 0,xe 13 12,bT 14 .lss 11 13] (kX 14 0)) (.seq (.blk 1 (.seq (.dreg (.take 0 (xv 17 0) (.take 1 (xv 18 5) (.take 2 (xD 19 4 17 18) (.take 3 (xm 20 4 19) (.take 4 (xv 21 1) (.only 5 [] (xv 22 5) (.only 6 [4] (xD 23 4 21 22) (.only 7 [6,4] (xm 24 4 23) (.only 8 [3,7,2,6,0,1,4] (xc2 25 281 (.t 20) (.t 24)) (.only 9 [8,3,7,2,6,0,1,4] (xN 26 25) (.done)))))))))))) (kF 26 [xF 4]))) (xr [xv 15 5,bI 16 .add 15 1,xv 5 16])))))) (kR [xT 4])))⟩
def m232:MFn:=⟨11,[.t 4],kr [xb 2 0,xb 3 1,xF 4] (.seq (kr [xa 5 0 2,xl 6 5,xa 7 0 3,xl 8 7,xc2 9 282 (.t 6) (.t 8),xN 10 9] (kF 10 [xF 4])) (kR [xT 4]))⟩
def m269:MFn:=⟨30,[.t 4],kr [xb 2 0,xb 3 1,xF 4] (.seq (kr [xa 5 0 2,xl 6 5,xa 7 0 3,xl 8 7,bT 9 .neq 6 8] (kF 9 [xF 4])) (.seq (kr [xa 10 1 2,xl 11 10,xa 12 1 3,xl 13 12,bT 14 .neq 11 13] (kF 14 [xF 4])) (.seq (kr [xa 15 2 2,xl 16 15,xa 17 2 3,xl 18 17,bT 19 .neq 16 18] (kF 19 [xF 4])) (.seq (kr [xa 20 3 2,xl 21 20,xa 22 3 3,xl 23 22,bT 24 .neq 21 23] (kF 24 [xF 4])) (.seq (kr [xa 25 4 2,xl 26 25,xa 27 4 3,xl 28 27,bT 29 .neq 26 28] (kF 29 [xF 4])) (kR [xT 4]))))))⟩
def m274:MFn:=⟨12,[.t 4],kr [xI 4 0] (kr [xv 5 1,xv 6 0,xe 7 6,bT 8 .sub 5 7,xv 1 8] (.seq (kr [xv 9 1,bI 10 .lss 9 0] (kF 10 [xo 4 (.mv (.c (.int .i64 (-1))))])) (kR [xv 11 1,xv 4 11])))⟩
def m275:MFn:=⟨18,[.t 4],kr [xb 2 0,xI 4 0] (kr [xa 5 1 2,xl 6 5,xv 7 1,xc2 8 35 (.t 6) (.t 7),xv 1 8] (.seq (kr [xv 9 1,bI 10 .lss 9 0] (kF 10 [xo 4 (.mv (.c (.int .i64 (-1))))])) (kr [xa 11 2 2,xl 12 11,xv 13 1,xc2 14 35 (.t 12) (.t 13),xv 1 14] (.seq (kr [xv 15 1,bI 16 .lss 15 0] (kF 16 [xo 4 (.mv (.c (.int .i64 (-1))))])) (kR [xv 17 1,xv 4 17])))))⟩
def m276:MFn:=⟨27,[.t 4],kr [xI 4 0] (kr [xv 6 1,xv 7 0,xe 8 7,bT 9 .sub 6 8,xv 1 9] (.seq (kr [xv 10 1,bI 11 .lss 10 0] (kF 11 [xo 4 (.mv (.c (.int .i64 (-1))))])) (.seq (kr [xI 5 0] (.blk 0 (.loop (.seq (kr [xv 12 5,xv 13 0,xe 14 13,bT 15 .lss 12 14] (kX 15 0)) (.seq (.blk 1 (kr [xv 18 0,xv 19 5,xD 20 1 18 19,xl 21 20,xv 22 1,xc2 23 321 (.t 21) (.t 22),xv 1 23] (kr [xv 24 1,bI 25 .lss 24 0] (kF 25 [xo 4 (.mv (.c (.int .i64 (-1))))])))) (xr [xv 16 5,bI 17 .add 16 1,xv 5 17])))))) (kR [xv 26 1,xv 4 26]))))⟩
def m277:MFn:=⟨23,[.t 2],kr [xo 2 (.mv (.c (.nil)))] (kr [xv 5 0,xe 6 5,xo 7 (.mkS [xz,xz,xz,xz,xz] 40 (.t 6) (.t 6)),xv 3 7] (.seq (kr [xI 4 0] (.blk 0 (.loop (.seq (kr [xv 8 4,xv 9 0,xe 10 9,bT 11 .lss 8 10] (kX 11 0)) (.seq (.blk 1 (xr [xv 14 3,xv 15 4,xv 16 0,xv 17 4,xD 18 5 16 17,xm 19 5 18,xc1 20 322 (.t 19),xD 21 5 14 15,xS 5 21 20])) (xr [xv 12 4,bI 13 .add 12 1,xv 4 13])))))) (kR [xv 22 3,xv 2 22])))⟩
def m278:MFn:=⟨19,[.cell 2 4 true],kr [xb 1 0,xo 2 (.alloc [.int .i64 0,.nil,.nil,.int .i64 0])] (kr [xo 3 (.alloc [.int .i64 0,.nil,.nil,.int .i64 0])] (kr [xa 4 0 1,xl 5 4,xa 6 0 3,xS 1 6 5] (kr [xa 7 1 1,xl 8 7,xc1 9 5 (.t 8),xa 10 1 3,xS 1 10 9] (kr [xa 11 2 1,xl 12 11,xc1 13 5 (.t 12),xa 14 2 3,xS 1 14 13] (kr [xa 15 3 1,xl 16 15,xa 17 3 3,xS 1 17 16] (kR [xm 18 4 3,xS 4 2 18]))))))⟩
def m279:MFn:=⟨23,[.t 2],kr [xo 2 (.mv (.c (.nil)))] (kr [xv 5 0,xe 6 5,xo 7 (.mkS [.nil] 24 (.t 6) (.t 6)),xv 3 7] (.seq (kr [xI 4 0] (.blk 0 (.loop (.seq (kr [xv 8 4,xv 9 0,xe 10 9,bT 11 .lss 8 10] (kX 11 0)) (.seq (.blk 1 (xr [xv 14 3,xv 15 4,xv 16 0,xv 17 4,xD 18 1 16 17,xl 19 18,xc1 20 323 (.t 19),xD 21 1 14 15,xS 1 21 20])) (xr [xv 12 4,bI 13 .add 12 1,xv 4 13])))))) (kR [xv 22 3,xv 2 22])))⟩
def m281:MFn:=⟨27,[.t 4],kr [xb 2 0,xb 3 1,xF 4] (.seq (kr [xa 5 0 2,xl 6 5,xa 7 0 3,xl 8 7,bT 9 .neq 6 8] (kF 9 [xF 4])) (.seq (kr [xa 10 1 2,xl 11 10,xa 12 1 3,xl 13 12,xc2 14 8 (.t 11) (.t 13),xN 15 14] (kF 15 [xF 4])) (.seq (kr [xa 16 2 2,xl 17 16,xa 18 2 3,xl 19 18,xc2 20 8 (.t 17) (.t 19),xN 21 20] (kF 21 [xF 4])) (.seq (kr [xa 22 3 2,xl 23 22,xa 24 3 3,xl 25 24,bT 26 .neq 23 25] (kF 26 [xF 4])) (kR [xT 4])))))⟩
def m282:MFn:=⟨27,[.t 4],kr [xF 4] (.seq (kr [xv 6 0,xe 7 6,xv 8 1,xe 9 8,bT 10 .neq 7 9] (kF 10 [xF 4])) (.seq (kr [xI 5 0] (.blk 0 (.loop (.seq (kr [xv 11 5,xv 12 0,xe 13 12,bT 14 .lss 11 13] (kX 14 0)) (.seq (.blk 1 (.seq (.dreg (.take 0 (xv 17 0) (.take 1 (xv 18 5) (.take 2 (xD 19 1 17 18) (.take 3 (xl 20 19) (.take 4 (xv 21 1) (.only 5 [] (xv 22 5) (.only 6 [4] (xD 23 1 21 22) (.only 7 [6,4] (xl 24 23) (.only 8 [3,7,2,6,0,1,4] (xc2 25 324 (.t 20) (.t 24)) (.only 9 [8,3,7,2,6,0,1,4] (xN 26 25) (.done)))))))))))) (kF 26 [xF 4]))) (xr [xv 15 5,bI 16 .add 15 1,xv 5 16])))))) (kR [xT 4])))⟩
def m321:MFn:=⟨27,[.t 4],kr [xI 4 0] (kr [xv 6 1,xv 7 0,xe 8 7,bT 9 .sub 6 8,xv 1 9] (.seq (kr [xv 10 1,bI 11 .lss 10 0] (kF 11 [xo 4 (.mv (.c (.int .i64 (-1))))])) (.seq (kr [xI 5 0] (.blk 0 (.loop (.seq (kr [xv 12 5,xv 13 0,xe 14 13,bT 15 .lss 12 14] (kX 15 0)) (.seq (.blk 1 (kr [xv 18 0,xv 19 5,xD 20 2 18 19,xm 21 2 20,xv 22 1,xc2 23 341 (.t 21) (.t 22),xv 1 23] (kr [xv 24 1,bI 25 .lss 24 0] (kF 25 [xo 4 (.mv (.c (.int .i64 (-1))))])))) (xr [xv 16 5,bI 17 .add 16 1,xv 5 17])))))) (kR [xv 26 1,xv 4 26]))))⟩
def m322:MFn:=⟨20,[.cell 2 5 true],kr [xb 1 0,xo 2 (.alloc [xz,xz,xz,xz,xz])] (kr [xo 3 (.alloc [xz,xz,xz,xz,xz])] (kr [xa 4 0 1,xl 5 4,xa 6 0 3,xS 1 6 5] (kr [xa 7 1 1,xl 8 7,xa 9 1 3,xS 1 9 8] (kr [xa 10 2 1,xl 11 10,xa 12 2 3,xS 1 12 11] (kr [xa 13 3 1,xl 14 13,xa 15 3 3,xS 1 15 14] (kr [xa 16 4 1,xl 17 16,xa 18 4 3,xS 1 18 17] (kR [xm 19 5 3,xS 5 2 19])))))))⟩
def m323:MFn:=⟨23,[.t 2],kr [xo 2 (.mv (.c (.nil)))] (kr [xv 5 0,xe 6 5,xo 7 (.mkS [.int .i64 0,.nil] 32 (.t 6) (.t 6)),xv 3 7] (.seq (kr [xI 4 0] (.blk 0 (.loop (.seq (kr [xv 8 4,xv 9 0,xe 10 9,bT 11 .lss 8 10] (kX 11 0)) (.seq (.blk 1 (xr [xv 14 3,xv 15 4,xv 16 0,xv 17 4,xD 18 2 16 17,xm 19 2 18,xc1 20 342 (.t 19),xD 21 2 14 15,xS 2 21 20])) (xr [xv 12 4,bI 13 .add 12 1,xv 4 13])))))) (kR [xv 22 3,xv 2 22])))⟩
def m324:MFn:=⟨27,[.t 4],kr [xF 4] (.seq (kr [xv 6 0,xe 7 6,xv 8 1,xe 9 8,bT 10 .neq 7 9] (kF 10 [xF 4])) (.seq (kr [xI 5 0] (.blk 0 (.loop (.seq (kr [xv 11 5,xv 12 0,xe 13 12,bT 14 .lss 11 13] (kX 14 0)) (.seq (.blk 1 (.seq (.dreg (.take 0 (xv 17 0) (.take 1 (xv 18 5) (.take 2 (xD 19 2 17 18) (.take 3 (xm 20 2 19) (.take 4 (xv 21 1) (.only 5 [] (xv 22 5) (.only 6 [4] (xD 23 2 21 22) (.only 7 [6,4] (xm 24 2 23) (.only 8 [3,7,2,6,0,1,4] (xc2 25 343 (.t 20) (.t 24)) (.only 9 [8,3,7,2,6,0,1,4] (xN 26 25) (.done)))))))))))) (kF 26 [xF 4]))) (xr [xv 15 5,bI 16 .add 15 1,xv 5 16])))))) (kR [xT 4])))⟩
def m341:MFn:=⟨12,[.t 4],kr [xb 2 0,xI 4 0] (kr [xa 5 1 2,xl 6 5,xv 7 1,xc2 8 35 (.t 6) (.t 7),xv 1 8] (.seq (kr [xv 9 1,bI 10 .lss 9 0] (kF 10 [xo 4 (.mv (.c (.int .i64 (-1))))])) (kR [xv 11 1,xv 4 11])))⟩
def m342:MFn:=⟨12,[.cell 2 2 true],kr [xb 1 0,xo 2 (.alloc [.int .i64 0,.nil])] (kr [xo 3 (.alloc [.int .i64 0,.nil])] (kr [xa 4 0 1,xl 5 4,xa 6 0 3,xS 1 6 5] (kr [xa 7 1 1,xl 8 7,xc1 9 5 (.t 8),xa 10 1 3,xS 1 10 9] (kR [xm 11 2 3,xS 2 2 11]))))⟩
def m343:MFn:=⟨16,[.t 4],kr [xb 2 0,xb 3 1,xF 4] (.seq (kr [xa 5 0 2,xl 6 5,xa 7 0 3,xl 8 7,bT 9 .neq 6 8] (kF 9 [xF 4])) (.seq (kr [xa 10 1 2,xl 11 10,xa 12 1 3,xl 13 12,xc2 14 8 (.t 11) (.t 13),xN 15 14] (kF 15 [xF 4])) (kR [xT 4])))⟩
theorem toStep_ok (x:Step):CallOk Tryz.prog num 322 [.agg (stepC x)] [] (.agg (stepC x)):=by
 refine EN m322 Tryz.func197 ?_
 unfold m322
 simp only [go_sem,seval]
 repeat refine K ?_
 refine ⟨_,Sub.refl _,qAm ?_⟩; simp [-List.drop_one]
theorem toStepS_ok (l:List Step) (hl:64*l.length≤2^47):CallOk Tryz.prog num 277 [.sl .bw 5 (steps l)] [] (.sl .own 5 (steps l)):=by
 refine EN m277 Tryz.func129 ?_
 unfold m277
 simp only [go_sem,seval]
 repeat refine K ?_
 refine qA8 (ι:=Nat) (fun i=>.mk [(0,.sl .bw 5 (steps l)),(3,.ns 10 0 l.length),(4,.int .i64 i)] [(10,5,steps (l.take i++List.replicate (l.length-i) ⟨0,0,0,0,0⟩))] 11) (fun i=>i≤l.length) (fun i=>l.length-i) 0 (by simp) ?_ ?_
 ·refine Sub.shape [] id (by omega) ?_ ?_ ?_ ?_<;>simp [qA2]
  left
  exact steps_rep _ _ _ _ _ _
 ·intro i hi
  simp only [go_sem,seval]
  refine qA1 (fun hc=>?_) (fun hc=>?_)
  ·simp only [decide_eq_true_eq] at hc
   have hl':i<l.length:=by omega
   have hm:=qCc l (⟨0,0,0,0,0⟩:Step) i hi
   simp only [go_sem,seval,qC6 l i hl',hm]
   repeat refine K ?_
   refine CA [] (toStep_ok (l.getD i default)) ?_
   try simp only [go_sem,seval]
   repeat refine K ?_
   have hs:=fill_set l default (⟨0,0,0,0,0⟩:Step) i hl'
   have hs':(l.take i++List.replicate (l.length-i) (⟨0,0,0,0,0⟩:Step)).set i ⟨(l.getD i default).op,(l.getD i default).r,(l.getD i default).a,(l.getD i default).b,(l.getD i default).n⟩=l.take (i+1)++List.replicate (l.length-(i+1)) ⟨0,0,0,0,0⟩:=hs
   try simp only [go_sem,seval,qC6 _ i (hm▸hl'),hm,hs',qA7 (i:=i) (by omega)]
   repeat refine K ?_
   refine qA6 (i+1) (Sub.shape [] id (by omega) ?_ ?_ ?_ ?_) ?_ ?_
   any_goals (first | omega | (simp [qA2]; done))
  ·simp only [decide_eq_false_iff_not] at hc
   have:i=l.length:=by omega
   subst this
   simp only [go_sem,seval]
   repeat refine K ?_
   refine fz ?_; simp [FinS,nilL,nilV,oneOr,-List.drop_one]
theorem szStepS_ok (xs:List Step) (n:Int) (hx:xs.length<2^63) (h0:0≤n) (h1:n≤2^62):CallOk Tryz.prog num 274 [.sl .bw 5 (steps xs),.int .i64 n] [] (.int .i64 (szL xs.length n)):=by
 refine EN m274 Tryz.func119 ?_
 unfold m274
 have hw:IntKind.i64.wrap (n-xs.length)=n-xs.length:=qAg (by omega) (by omega)
 simp only [go_sem,seval,hw]
 repeat refine K ?_
 refine qA1 (fun hc=>?_) (fun hc=>?_)
 ·simp only [go_sem,seval]
  repeat refine K ?_
  refine fz ?_; simp [FinS,nilL,nilV,oneOr,-List.drop_one]
  simp only [decide_eq_true_eq] at hc
  simp [szL,hc]
 ·simp only [go_sem,seval]
  repeat refine K ?_
  refine fz ?_; simp [FinS,nilL,nilV,oneOr,-List.drop_one]
  simp only [decide_eq_false_iff_not] at hc
  simp [szL,hc]
theorem eqStep_ok (x y:Step):CallOk Tryz.prog num 269 [.agg (stepC x),.agg (stepC y)] [] (.bool (decide (x=y))):=by
 refine EN m269 Tryz.func203 ?_
 unfold m269
 cases x
 cases y
 repeat' (first
  | (simp only [go_sem,seval])
  | (refine qA1 (fun hc=>?_) (fun hc=>?_)<;>((try simp only [Bool.not_eq_true',Bool.not_eq_false',ne_eq,Bool.not_eq_true,Bool.not_eq_false] at hc)<;>(try simp only [hc])))
  | (refine qB4 (fun hc=>?_) (fun hc=>?_)<;>((try simp only [Bool.not_eq_true',Bool.not_eq_false',ne_eq,Bool.not_eq_true,Bool.not_eq_false] at hc)<;>(try simp only [hc])))
  | (refine qAy (fun hc=>?_) (fun hc=>?_)<;>((try simp only [Bool.not_eq_true',Bool.not_eq_false',ne_eq,Bool.not_eq_true,Bool.not_eq_false] at hc)<;>(try simp only [hc])))
  | (refine ⟨by first | omega | (simp; done),?_⟩)
  | fail)
 all_goals (refine fz ?_; simp [FinS,nilL,nilV,oneOr,-List.drop_one])
 all_goals (try (simp_all; done))
theorem eqStepS_ok (xs ys:List Step) (hx:xs.length≤2^47)  : CallOk Tryz.prog num 210 [.sl .bw 5 (steps xs),.sl .bw 5 (steps ys)] [] (.bool (decide (xs=ys))):=by
 refine EN m210 Tryz.func146 ?_
 unfold m210
 simp only [go_sem,seval]
 repeat refine K ?_
 refine qA1 (fun hc=>?_) (fun hc=>?_)
 ·have hne:xs≠ys:=fun he=>by subst he; simp at hc
  simp only [go_sem,seval]
  repeat refine K ?_
  refine fz ?_; simp [FinS,nilL,nilV,oneOr,-List.drop_one]
  exact hne
 ·have hl:xs.length=ys.length:=by simp at hc; omega
  simp only [go_sem,seval]
  repeat refine K ?_
  refine qA8 (ι:=Nat) (fun i=>.mk [(0,.sl .bw 5 (steps xs)),(1,.sl .bw 5 (steps ys)),(5,.int .i64 i)] [] 10) (fun i=>i≤xs.length∧xs.take i=ys.take i) (fun i=>xs.length-i) 0 (by simp) ?_ ?_
  ·refine Sub.shape [] id (by omega) ?_ ?_ ?_ ?_<;>simp [qA2]
  ·rintro i ⟨hi,hp⟩
   simp only [go_sem,seval]
   repeat refine K ?_
   refine qA1 (fun hc=>?_) (fun hc=>?_)
   ·simp only [decide_eq_true_eq] at hc
    have hil:i<xs.length:=by omega
    have hjl:i<ys.length:=by omega
    simp only [go_sem,seval,qC6 xs i hil,qC6 ys i hjl]
    repeat refine K ?_
    refine DA [] (eqStep_ok (xs.getD i default) (ys.getD i default)) ?_
    try simp only [go_sem,seval]
    repeat refine K ?_
    by_cases he:xs.getD i default=ys.getD i default
    ·simp only [go_sem,seval,he,qA7 (i:=i) (by omega)]
     repeat refine K ?_
     refine qA6 (i+1) (Sub.shape [] id (by omega) ?_ ?_ ?_ ?_) ?_ ?_
     any_goals (first | omega | (simp [qA2]; done))
     refine ⟨hil,?_⟩
     rw [List.take_succ_eq_append_getElem hil,List.take_succ_eq_append_getElem hjl,hp]
     have he':xs[i]=ys[i]:=by simpa [List.getD_eq_getElem?_getD,hil,hjl] using he
     rw [he']
    ·simp only [go_sem,seval,he]
     repeat refine K ?_
     refine fz ?_; simp [FinS,nilL,nilV,oneOr,-List.drop_one]
     intro h
     subst h
     exact he rfl
   ·simp only [decide_eq_false_iff_not] at hc
    have he:xs=ys:=by
     have h1:i=xs.length:=by omega
     rw [h1,List.take_length,hl,List.take_length] at hp
     exact hp
    simp only [go_sem,seval]
    repeat refine K ?_
    refine fz ?_; simp [FinS,nilL,nilV,oneOr,-List.drop_one]
    exact he
theorem toWrite_ok (x:Write) (h1:8*x.view.length≤2^47):CallOk Tryz.prog num 342 [.agg (writeC .bw x)] [] (.agg (writeC .own x)):=by
 refine EN m342 Tryz.func236 ?_
 unfold m342
 simp only [go_sem,seval]
 repeat refine K ?_
 refine CA [] (toIntS_ok x.view h1) ?_
 try simp only [go_sem,seval]
 repeat refine K ?_
 refine ⟨_,Sub.refl _,qAm ?_⟩; simp [-List.drop_one]
theorem nil_writes :∀(n:Nat),nilRs (List.replicate n [.int .i64 0,AV.nil]) (writes .own (List.replicate n ⟨0,[]⟩))
 | 0=>by simp [writes]
 | n+1=>by
  have:=nil_writes n
  simp only [List.replicate_succ,writes,List.map_cons] at this⊢
  exact (qCs _ _ _ _).2 ⟨by simp [writeC,qB7],this⟩
theorem toWriteS_ok (l:List Write) (hl:64*l.length≤2^47) (hb1 :∀x∈l,8*x.view.length≤2^47):CallOk Tryz.prog num 323 [.sl .bw 2 (writes .bw l)] [] (.sl .own 2 (writes .own l)):=by
 refine EN m323 Tryz.func198 ?_
 unfold m323
 simp only [go_sem,seval]
 repeat refine K ?_
 refine qA8 (ι:=Nat) (fun i=>.mk [(0,.sl .bw 2 (writes .bw l)),(3,.ns 10 0 l.length),(4,.int .i64 i)] [(10,2,writes .own (l.take i++List.replicate (l.length-i) ⟨0,[]⟩))] 11) (fun i=>i≤l.length) (fun i=>l.length-i) 0 (by simp) ?_ ?_
 ·refine Sub.shape [] id (by omega) ?_ ?_ ?_ ?_<;>simp [qA2]
  right
  exact nil_writes _
 ·intro i hi
  simp only [go_sem,seval]
  refine qA1 (fun hc=>?_) (fun hc=>?_)
  ·simp only [decide_eq_true_eq] at hc
   have hl':i<l.length:=by omega
   have hm:=qCc l (⟨0,[]⟩:Write) i hi
   simp only [go_sem,seval,qCa .bw l i hl',hm]
   repeat refine K ?_
   refine CA [] (toWrite_ok (l.getD i default) (hb1 _ (qAd l i default hl'))) ?_
   try simp only [go_sem,seval]
   repeat refine K ?_
   have hs:=fill_set l default (⟨0,[]⟩:Write) i hl'
   try simp only [go_sem,seval,qCa .own _ i (hm▸hl'),hm,qA7 (i:=i) (by omega)]
   repeat refine K ?_
   refine qA6 (i+1) ?_ hl' (by omega)
   refine Sub.trans (Sub.foldAt 10 1 11 rfl (by simp [-gD]<;>omega) rfl (by decide) (by decide) rfl (by simp<;>omega)) ?_
   simp only [fS,fS2,qA,qC,writes_set,hs]
   refine Sub.shape [] id (by omega) ?_ ?_ ?_ ?_<;>simp [qA2]
  ·simp only [decide_eq_false_iff_not] at hc
   have:i=l.length:=by omega
   subst this
   simp only [go_sem,seval]
   repeat refine K ?_
   refine fz ?_; simp [FinS,nilL,nilV,oneOr,-List.drop_one]
theorem szWrite_ok (x:Write) (n:Int) (hx:x.view.length<2^63) (h0:0≤n) (h1:n≤2^61):CallOk Tryz.prog num 341 [.agg (writeC .bw x),.int .i64 n] [] (.int .i64 (szL (x.view.length) n)):=by
 refine EN m341 Tryz.func232 ?_
 unfold m341
 simp only [go_sem,seval]
 repeat refine K ?_
 refine CA [] (szIntS_ok x.view n hx h0 (by omega)) ?_
 try simp only [go_sem,seval]
 repeat refine K ?_
 refine qA1 (fun hk=>?_) (fun hk=>?_)
 ·simp only [decide_eq_true_eq] at hk
  simp only [go_sem,seval]
  repeat refine K ?_
  refine fz ?_; simp [FinS,nilL,nilV,oneOr,-List.drop_one]
  simp [szL_neg hk]
 ·simp only [decide_eq_false_iff_not] at hk
  simp only [go_sem,seval]
  repeat refine K ?_
  refine fz ?_; simp [FinS,nilL,nilV,oneOr,-List.drop_one]
theorem szWriteS_ok (l:List Write) (n:Int) (hl:l.length<2^63) (hb :∀x∈l,x.view.length<2^63) (h0:0≤n) (h1:n≤2^61):CallOk Tryz.prog num 321 [.sl .bw 2 (writes .bw l),.int .i64 n] [] (.int .i64 (szL (l.length+tots zWrite l) n)):=by
 refine EN m321 Tryz.func193 ?_
 unfold m321
 have hw:IntKind.i64.wrap (n-l.length)=n-l.length:=qAg (by omega) (by omega)
 simp only [go_sem,seval,hw]
 repeat refine K ?_
 refine qA1 (fun hc=>?_) (fun hc=>?_)
 ·simp only [decide_eq_true_eq] at hc
  simp only [go_sem,seval]
  repeat refine K ?_
  refine fz ?_; simp [FinS,nilL,nilV,oneOr,-List.drop_one]
  rw [qD2 (by push_cast; omega)]
 ·simp only [decide_eq_false_iff_not] at hc
  simp only [go_sem,seval]
  repeat refine K ?_
  refine qA8 (ι:=Nat) (fun i=>.mk [(0,.sl .bw 2 (writes .bw l)),(1,.int .i64 (n-l.length-tots zWrite (l.take i))),(5,.int .i64 i)] [] 10) (fun i=>i≤l.length∧(tots zWrite (l.take i):Int)≤n-l.length) (fun i=>l.length-i) 0 ⟨by simp,by simp [tots]; omega⟩ ?_ ?_
  ·refine Sub.shape [] id (by omega) ?_ ?_ ?_ ?_<;>simp [qA2]
   all_goals simp [tots]
  ·rintro i ⟨hi,hs⟩
   simp only [go_sem,seval]
   refine qA1 (fun hc2=>?_) (fun hc2=>?_)
   ·simp only [decide_eq_true_eq] at hc2
    have hl':i<l.length:=by omega
    have ht:=tots_take zWrite l default i hl'
    have hle:=qDz zWrite l (i+1)
    have hz:zWrite (l.getD i default)=(l.getD i default).view.length:=rfl
    simp only [go_sem,seval,qCa .bw l i hl']
    repeat refine K ?_
    refine CA [] (szWrite_ok (l.getD i default) (n-l.length-tots zWrite (l.take i)) (hb _ (qAd l i default hl')) (by omega) (by omega)) ?_
    try simp only [go_sem,seval]
    repeat refine K ?_
    refine qA1 (fun hc3=>?_) (fun hc3=>?_)
    ·simp only [decide_eq_true_eq] at hc3
     have h3:n-l.length-tots zWrite (l.take i)<(((l.getD i default).view.length:Nat):Int):=by
      apply Int.lt_of_not_ge
      intro h
      rw [szL_big (by omega)] at hc3
      omega
     simp only [go_sem,seval]
     repeat refine K ?_
     refine fz ?_; simp [FinS,nilL,nilV,oneOr,-List.drop_one]
     rw [qD2 (by push_cast; push_cast at h3; omega)]
    ·simp only [decide_eq_false_iff_not] at hc3
     have h3:=qDj hc3
     rw [h3] at hc3
     have e3:n-l.length-(tots zWrite (l.take i):Int)-(((l.getD i default).view.length:Nat):Int)=n-l.length-tots zWrite (l.take (i+1)):=by omega
     try simp only [go_sem,seval,h3,e3,qA7 (i:=i) (by omega)]
     repeat refine K ?_
     refine qA6 (i+1) (Sub.shape [] id (by omega) ?_ ?_ ?_ ?_) ?_ ?_
     any_goals (first | omega | (simp [qA2]; done))
   ·simp only [decide_eq_false_iff_not] at hc2
    have he:l.take i=l:=List.take_of_length_le (by omega)
    rw [he] at hs
    simp only [go_sem,seval,he]
    repeat refine K ?_
    refine fz ?_; simp [FinS,nilL,nilV,oneOr,-List.drop_one]
    rw [szL_big (by push_cast; omega)]
    try (push_cast; omega)
theorem eqWrite_ok (x y:Write) (h1:x.view.length≤2^47):CallOk Tryz.prog num 343 [.agg (writeC .bw x),.agg (writeC .bw y)] [] (.bool (decide (x=y))):=by
 refine EN m343 Tryz.func239 ?_
 unfold m343
 simp only [go_sem,seval]
 repeat refine K ?_
 by_cases e0:x.v=y.v
 case neg =>
  try simp only [go_sem,seval,e0]
  repeat refine K ?_
  refine fz ?_; simp [FinS,nilL,nilV,oneOr,-List.drop_one]
  try (intro h; exact e0 (by rw [h]))
 try simp only [go_sem,seval,e0]
 repeat refine K ?_
 refine CA [] (eqIntS_ok x.view y.view h1) ?_
 try simp only [go_sem,seval]
 repeat refine K ?_
 by_cases e1:x.view=y.view
 case neg =>
  try simp only [go_sem,seval,e1]
  repeat refine K ?_
  refine fz ?_; simp [FinS,nilL,nilV,oneOr,-List.drop_one]
  try (intro h; exact e1 (by rw [h]))
 try simp only [go_sem,seval,e1]
 repeat refine K ?_
 refine fz ?_; simp [FinS,nilL,nilV,oneOr,-List.drop_one]
 cases x
 cases y
 simp_all
theorem eqWriteS_ok (xs ys:List Write) (hx:xs.length≤2^47) (hb1 :∀x∈xs,x.view.length≤2^47):CallOk Tryz.prog num 324 [.sl .bw 2 (writes .bw xs),.sl .bw 2 (writes .bw ys)] [] (.bool (decide (xs=ys))):=by
 refine EN m324 Tryz.func204 ?_
 unfold m324
 simp only [go_sem,seval]
 repeat refine K ?_
 refine qA1 (fun hc=>?_) (fun hc=>?_)
 ·have hne:xs≠ys:=fun he=>by subst he; simp at hc
  simp only [go_sem,seval]
  repeat refine K ?_
  refine fz ?_; simp [FinS,nilL,nilV,oneOr,-List.drop_one]
  exact hne
 ·have hl:xs.length=ys.length:=by simp at hc; omega
  simp only [go_sem,seval]
  repeat refine K ?_
  refine qA8 (ι:=Nat) (fun i=>.mk [(0,.sl .bw 2 (writes .bw xs)),(1,.sl .bw 2 (writes .bw ys)),(5,.int .i64 i)] [] 10) (fun i=>i≤xs.length∧xs.take i=ys.take i) (fun i=>xs.length-i) 0 (by simp) ?_ ?_
  ·refine Sub.shape [] id (by omega) ?_ ?_ ?_ ?_<;>simp [qA2]
  ·rintro i ⟨hi,hp⟩
   simp only [go_sem,seval]
   repeat refine K ?_
   refine qA1 (fun hc=>?_) (fun hc=>?_)
   ·simp only [decide_eq_true_eq] at hc
    have hil:i<xs.length:=by omega
    have hjl:i<ys.length:=by omega
    simp only [go_sem,seval,qCa .bw xs i hil,qCa .bw ys i hjl]
    repeat refine K ?_
    refine DA [] (eqWrite_ok (xs.getD i default) (ys.getD i default) (hb1 _ (qAd xs i default hil))) ?_
    try simp only [go_sem,seval]
    repeat refine K ?_
    by_cases he:xs.getD i default=ys.getD i default
    ·simp only [go_sem,seval,he,qA7 (i:=i) (by omega)]
     repeat refine K ?_
     refine qA6 (i+1) (Sub.shape [] id (by omega) ?_ ?_ ?_ ?_) ?_ ?_
     any_goals (first | omega | (simp [qA2]; done))
     refine ⟨hil,?_⟩
     rw [List.take_succ_eq_append_getElem hil,List.take_succ_eq_append_getElem hjl,hp]
     have he':xs[i]=ys[i]:=by simpa [List.getD_eq_getElem?_getD,hil,hjl] using he
     rw [he']
    ·simp only [go_sem,seval,he]
     repeat refine K ?_
     refine fz ?_; simp [FinS,nilL,nilV,oneOr,-List.drop_one]
     intro h
     subst h
     exact he rfl
   ·simp only [decide_eq_false_iff_not] at hc
    have he:xs=ys:=by
     have h1:i=xs.length:=by omega
     rw [h1,List.take_length,hl,List.take_length] at hp
     exact hp
    simp only [go_sem,seval]
    repeat refine K ?_
    refine fz ?_; simp [FinS,nilL,nilV,oneOr,-List.drop_one]
    exact he
theorem toCore_ok (x:Core) (h1:8*x.regs.length≤2^47) (h2:8*x.view.length≤2^47):CallOk Tryz.prog num 278 [.agg (coreC .bw x)] [] (.agg (coreC .own x)):=by
 refine EN m278 Tryz.func130 ?_
 unfold m278
 simp only [go_sem,seval]
 repeat refine K ?_
 refine CA [] (toIntS_ok x.regs h1) ?_
 try simp only [go_sem,seval]
 repeat refine K ?_
 refine CA [] (toIntS_ok x.view h2) ?_
 try simp only [go_sem,seval]
 repeat refine K ?_
 refine ⟨_,Sub.refl _,qAm ?_⟩; simp [-List.drop_one]
theorem nil_cores :∀(n:Nat),nilRs (List.replicate n [.int .i64 0,AV.nil,AV.nil,.int .i64 0]) (cores .own (List.replicate n ⟨0,[],[],0⟩))
 | 0=>by simp [cores]
 | n+1=>by
  have:=nil_cores n
  simp only [List.replicate_succ,cores,List.map_cons] at this⊢
  exact (qCs _ _ _ _).2 ⟨by simp [coreC,qB7],this⟩
theorem toCoreS_ok (l:List Core) (hl:64*l.length≤2^47) (hb1 :∀x∈l,8*x.regs.length≤2^47) (hb2 :∀x∈l,8*x.view.length≤2^47):CallOk Tryz.prog num 227 [.sl .bw 4 (cores .bw l)] [] (.sl .own 4 (cores .own l)):=by
 refine EN m227 Tryz.func58 ?_
 unfold m227
 simp only [go_sem,seval]
 repeat refine K ?_
 refine qA8 (ι:=Nat) (fun i=>.mk [(0,.sl .bw 4 (cores .bw l)),(3,.ns 10 0 l.length),(4,.int .i64 i)] [(10,4,cores .own (l.take i++List.replicate (l.length-i) ⟨0,[],[],0⟩))] 11) (fun i=>i≤l.length) (fun i=>l.length-i) 0 (by simp) ?_ ?_
 ·refine Sub.shape [] id (by omega) ?_ ?_ ?_ ?_<;>simp [qA2]
  right
  exact nil_cores _
 ·intro i hi
  simp only [go_sem,seval]
  refine qA1 (fun hc=>?_) (fun hc=>?_)
  ·simp only [decide_eq_true_eq] at hc
   have hl':i<l.length:=by omega
   have hm:=qCc l (⟨0,[],[],0⟩:Core) i hi
   simp only [go_sem,seval,qAv .bw l i hl',hm]
   repeat refine K ?_
   refine CA [] (toCore_ok (l.getD i default) (hb1 _ (qAd l i default hl')) (hb2 _ (qAd l i default hl'))) ?_
   try simp only [go_sem,seval]
   repeat refine K ?_
   have hs:=fill_set l default (⟨0,[],[],0⟩:Core) i hl'
   try simp only [go_sem,seval,qAv .own _ i (hm▸hl'),hm,qA7 (i:=i) (by omega)]
   repeat refine K ?_
   refine qA6 (i+1) ?_ hl' (by omega)
   refine Sub.trans (Sub.foldAt 10 1 11 rfl (by simp [-gD]<;>omega) rfl (by decide) (by decide) rfl (by simp<;>omega)) ?_
   simp only [fS,fS2,qA,qC,qA3,hs]
   refine Sub.trans (Sub.foldAt 10 2 12 rfl (by simp [-gD]<;>omega) rfl (by decide) (by decide) rfl (by simp<;>omega)) ?_
   simp only [fS,fS2,qA,qC,qA3,hs]
   refine Sub.shape [] id (by omega) ?_ ?_ ?_ ?_<;>simp [qA2]
  ·simp only [decide_eq_false_iff_not] at hc
   have:i=l.length:=by omega
   subst this
   simp only [go_sem,seval]
   repeat refine K ?_
   refine fz ?_; simp [FinS,nilL,nilV,oneOr,-List.drop_one]
theorem szCore_ok (x:Core) (n:Int) (hx1:x.regs.length<2^63) (hx2:x.view.length<2^63) (h0:0≤n) (h1:n≤2^61):CallOk Tryz.prog num 275 [.agg (coreC .bw x),.int .i64 n] [] (.int .i64 (szL (x.regs.length+x.view.length) n)):=by
 rw [←szL_add _ _ _ h0]
 refine EN m275 Tryz.func120 ?_
 unfold m275
 simp only [go_sem,seval]
 repeat refine K ?_
 refine CA [] (szIntS_ok x.regs n hx1 h0 (by omega)) ?_
 try simp only [go_sem,seval]
 repeat refine K ?_
 refine qA1 (fun hk=>?_) (fun hk=>?_)
 ·simp only [decide_eq_true_eq] at hk
  rw [if_pos hk]
  simp only [go_sem,seval]
  repeat refine K ?_
  refine fz ?_; simp [FinS,nilL,nilV,oneOr,-List.drop_one]
 ·simp only [decide_eq_false_iff_not] at hk
  have hle:=szL_le (k:=x.regs.length) h0
  rw [if_neg hk]
  simp only [go_sem,seval]
  repeat refine K ?_
  refine CA [] (szIntS_ok x.view (szL x.regs.length n) hx2 (by omega) (by omega)) ?_
  try simp only [go_sem,seval]
  repeat refine K ?_
  refine qA1 (fun hk2=>?_) (fun hk2=>?_)
  ·simp only [decide_eq_true_eq] at hk2
   simp only [go_sem,seval]
   repeat refine K ?_
   refine fz ?_; simp [FinS,nilL,nilV,oneOr,-List.drop_one]
   rw [szL_neg hk2]
  ·simp only [go_sem,seval]
   repeat refine K ?_
   refine fz ?_; simp [FinS,nilL,nilV,oneOr,-List.drop_one]
theorem szCoreS_ok (l:List Core) (n:Int) (hl:l.length<2^63) (hb1 :∀x∈l,x.regs.length<2^63) (hb2 :∀x∈l,x.view.length<2^63) (h0:0≤n) (h1:n≤2^61):CallOk Tryz.prog num 222 [.sl .bw 4 (cores .bw l),.int .i64 n] [] (.int .i64 (szL (l.length+tots zCore l) n)):=by
 refine EN m222 Tryz.func50 ?_
 unfold m222
 have hw:IntKind.i64.wrap (n-l.length)=n-l.length:=qAg (by omega) (by omega)
 simp only [go_sem,seval,hw]
 repeat refine K ?_
 refine qA1 (fun hc=>?_) (fun hc=>?_)
 ·simp only [decide_eq_true_eq] at hc
  simp only [go_sem,seval]
  repeat refine K ?_
  refine fz ?_; simp [FinS,nilL,nilV,oneOr,-List.drop_one]
  rw [qD2 (by push_cast; omega)]
 ·simp only [decide_eq_false_iff_not] at hc
  simp only [go_sem,seval]
  repeat refine K ?_
  refine qA8 (ι:=Nat) (fun i=>.mk [(0,.sl .bw 4 (cores .bw l)),(1,.int .i64 (n-l.length-tots zCore (l.take i))),(5,.int .i64 i)] [] 10) (fun i=>i≤l.length∧(tots zCore (l.take i):Int)≤n-l.length) (fun i=>l.length-i) 0 ⟨by simp,by simp [tots]; omega⟩ ?_ ?_
  ·refine Sub.shape [] id (by omega) ?_ ?_ ?_ ?_<;>simp [qA2]
   all_goals simp [tots]
  ·rintro i ⟨hi,hs⟩
   simp only [go_sem,seval]
   refine qA1 (fun hc2=>?_) (fun hc2=>?_)
   ·simp only [decide_eq_true_eq] at hc2
    have hl':i<l.length:=by omega
    have ht:=tots_take zCore l default i hl'
    have hle:=qDz zCore l (i+1)
    have hz:zCore (l.getD i default)=(l.getD i default).regs.length+(l.getD i default).view.length:=rfl
    simp only [go_sem,seval,qAv .bw l i hl']
    repeat refine K ?_
    refine CA [] (szCore_ok (l.getD i default) (n-l.length-tots zCore (l.take i)) (hb1 _ (qAd l i default hl')) (hb2 _ (qAd l i default hl')) (by omega) (by omega)) ?_
    try simp only [go_sem,seval]
    repeat refine K ?_
    refine qA1 (fun hc3=>?_) (fun hc3=>?_)
    ·simp only [decide_eq_true_eq] at hc3
     have h3:n-l.length-tots zCore (l.take i)<(((l.getD i default).regs.length+(l.getD i default).view.length:Nat):Int):=by
      apply Int.lt_of_not_ge
      intro h
      rw [szL_big (by omega)] at hc3
      omega
     simp only [go_sem,seval]
     repeat refine K ?_
     refine fz ?_; simp [FinS,nilL,nilV,oneOr,-List.drop_one]
     rw [qD2 (by push_cast; push_cast at h3; omega)]
    ·simp only [decide_eq_false_iff_not] at hc3
     have h3:=qDj hc3
     rw [h3] at hc3
     have e3:n-l.length-(tots zCore (l.take i):Int)-(((l.getD i default).regs.length+(l.getD i default).view.length:Nat):Int)=n-l.length-tots zCore (l.take (i+1)):=by omega
     try simp only [go_sem,seval,h3,e3,qA7 (i:=i) (by omega)]
     repeat refine K ?_
     refine qA6 (i+1) (Sub.shape [] id (by omega) ?_ ?_ ?_ ?_) ?_ ?_
     any_goals (first | omega | (simp [qA2]; done))
   ·simp only [decide_eq_false_iff_not] at hc2
    have he:l.take i=l:=List.take_of_length_le (by omega)
    rw [he] at hs
    simp only [go_sem,seval,he]
    repeat refine K ?_
    refine fz ?_; simp [FinS,nilL,nilV,oneOr,-List.drop_one]
    rw [szL_big (by push_cast; omega)]
    try (push_cast; omega)
theorem eqCore_ok (x y:Core) (h1:x.regs.length≤2^47) (h2:x.view.length≤2^47):CallOk Tryz.prog num 281 [.agg (coreC .bw x),.agg (coreC .bw y)] [] (.bool (decide (x=y))):=by
 refine EN m281 Tryz.func147 ?_
 unfold m281
 simp only [go_sem,seval]
 repeat refine K ?_
 by_cases e0:x.at_=y.at_
 case neg =>
  try simp only [go_sem,seval,e0]
  repeat refine K ?_
  refine fz ?_; simp [FinS,nilL,nilV,oneOr,-List.drop_one]
  try (intro h; exact e0 (by rw [h]))
 try simp only [go_sem,seval,e0]
 repeat refine K ?_
 refine CA [] (eqIntS_ok x.regs y.regs h1) ?_
 try simp only [go_sem,seval]
 repeat refine K ?_
 by_cases e1:x.regs=y.regs
 case neg =>
  try simp only [go_sem,seval,e1]
  repeat refine K ?_
  refine fz ?_; simp [FinS,nilL,nilV,oneOr,-List.drop_one]
  try (intro h; exact e1 (by rw [h]))
 try simp only [go_sem,seval,e1]
 repeat refine K ?_
 refine CA [] (eqIntS_ok x.view y.view h2) ?_
 try simp only [go_sem,seval]
 repeat refine K ?_
 by_cases e2:x.view=y.view
 case neg =>
  try simp only [go_sem,seval,e2]
  repeat refine K ?_
  refine fz ?_; simp [FinS,nilL,nilV,oneOr,-List.drop_one]
  try (intro h; exact e2 (by rw [h]))
 try simp only [go_sem,seval,e2]
 repeat refine K ?_
 by_cases e3:x.st=y.st
 case neg =>
  try simp only [go_sem,seval,e3]
  repeat refine K ?_
  refine fz ?_; simp [FinS,nilL,nilV,oneOr,-List.drop_one]
  try (intro h; exact e3 (by rw [h]))
 try simp only [go_sem,seval,e3]
 repeat refine K ?_
 refine fz ?_; simp [FinS,nilL,nilV,oneOr,-List.drop_one]
 cases x
 cases y
 simp_all
theorem eqCoreS_ok (xs ys:List Core) (hx:xs.length≤2^47) (hb1 :∀x∈xs,x.regs.length≤2^47) (hb2 :∀x∈xs,x.view.length≤2^47):CallOk Tryz.prog num 231 [.sl .bw 4 (cores .bw xs),.sl .bw 4 (cores .bw ys)] [] (.bool (decide (xs=ys))):=by
 refine EN m231 Tryz.func66 ?_
 unfold m231
 simp only [go_sem,seval]
 repeat refine K ?_
 refine qA1 (fun hc=>?_) (fun hc=>?_)
 ·have hne:xs≠ys:=fun he=>by subst he; simp at hc
  simp only [go_sem,seval]
  repeat refine K ?_
  refine fz ?_; simp [FinS,nilL,nilV,oneOr,-List.drop_one]
  exact hne
 ·have hl:xs.length=ys.length:=by simp at hc; omega
  simp only [go_sem,seval]
  repeat refine K ?_
  refine qA8 (ι:=Nat) (fun i=>.mk [(0,.sl .bw 4 (cores .bw xs)),(1,.sl .bw 4 (cores .bw ys)),(5,.int .i64 i)] [] 10) (fun i=>i≤xs.length∧xs.take i=ys.take i) (fun i=>xs.length-i) 0 (by simp) ?_ ?_
  ·refine Sub.shape [] id (by omega) ?_ ?_ ?_ ?_<;>simp [qA2]
  ·rintro i ⟨hi,hp⟩
   simp only [go_sem,seval]
   repeat refine K ?_
   refine qA1 (fun hc=>?_) (fun hc=>?_)
   ·simp only [decide_eq_true_eq] at hc
    have hil:i<xs.length:=by omega
    have hjl:i<ys.length:=by omega
    simp only [go_sem,seval,qAv .bw xs i hil,qAv .bw ys i hjl]
    repeat refine K ?_
    refine DA [] (eqCore_ok (xs.getD i default) (ys.getD i default) (hb1 _ (qAd xs i default hil)) (hb2 _ (qAd xs i default hil))) ?_
    try simp only [go_sem,seval]
    repeat refine K ?_
    by_cases he:xs.getD i default=ys.getD i default
    ·simp only [go_sem,seval,he,qA7 (i:=i) (by omega)]
     repeat refine K ?_
     refine qA6 (i+1) (Sub.shape [] id (by omega) ?_ ?_ ?_ ?_) ?_ ?_
     any_goals (first | omega | (simp [qA2]; done))
     refine ⟨hil,?_⟩
     rw [List.take_succ_eq_append_getElem hil,List.take_succ_eq_append_getElem hjl,hp]
     have he':xs[i]=ys[i]:=by simpa [List.getD_eq_getElem?_getD,hil,hjl] using he
     rw [he']
    ·simp only [go_sem,seval,he]
     repeat refine K ?_
     refine fz ?_; simp [FinS,nilL,nilV,oneOr,-List.drop_one]
     intro h
     subst h
     exact he rfl
   ·simp only [decide_eq_false_iff_not] at hc
    have he:xs=ys:=by
     have h1:i=xs.length:=by omega
     rw [h1,List.take_length,hl,List.take_length] at hp
     exact hp
    simp only [go_sem,seval]
    repeat refine K ?_
    refine fz ?_; simp [FinS,nilL,nilV,oneOr,-List.drop_one]
    exact he
theorem nil_codes :∀(n:Nat),nilRs (List.replicate n [AV.nil]) (codes .own (List.replicate n []))
 | 0=>by simp [codes]
 | n+1=>by
  have:=nil_codes n
  simp only [List.replicate_succ,codes,List.map_cons] at this⊢
  exact (qCs _ _ _ _).2 ⟨by simp [steps],this⟩
theorem toStepSS_ok (l:List (List Step)) (hl:24*l.length≤2^47) (hb :∀b∈l,64*b.length≤2^47):CallOk Tryz.prog num 226 [.sl .bw 1 (codes .bw l)] [] (.sl .own 1 (codes .own l)):=by
 refine EN m226 Tryz.func57 ?_
 unfold m226
 simp only [go_sem,seval]
 repeat refine K ?_
 refine qA8 (ι:=Nat) (fun i=>.mk [(0,.sl .bw 1 (codes .bw l)),(3,.ns 10 0 l.length),(4,.int .i64 i)] [(10,1,codes .own (l.take i++List.replicate (l.length-i) []))] 11) (fun i=>i≤l.length) (fun i=>l.length-i) 0 (by simp) ?_ ?_
 ·refine Sub.shape [] id (by omega) ?_ ?_ ?_ ?_<;>simp [qA2]
  right
  exact nil_codes _
 ·intro i hi
  simp only [go_sem,seval]
  refine qA1 (fun hc=>?_) (fun hc=>?_)
  ·simp only [decide_eq_true_eq] at hc
   have hl':i<l.length:=by omega
   have hm:=qCc l ([]:List Step) i hi
   simp only [go_sem,seval,qBu .bw l i hl',hm]
   repeat refine K ?_
   refine CA [] (toStepS_ok (l.getD i []) (by have:=hb _ (qAd l i [] hl'); omega)) ?_
   try simp only [go_sem,seval]
   repeat refine K ?_
   have hs:=fill_set l [] ([]:List Step) i hl'
   try simp only [go_sem,seval,qBu .own _ i (hm▸hl'),hm,qA7 (i:=i) (by omega)]
   repeat refine K ?_
   refine qA6 (i+1) ?_ hl' (by omega)
   refine Sub.trans (Sub.foldAt 10 0 11 rfl (by simp [-gD]<;>omega) rfl (by decide) (by decide) rfl (by simp<;>omega)) ?_
   simp only [fS,fS2,qA,qC,codes_set,hs]
   refine Sub.shape [] id (by omega) ?_ ?_ ?_ ?_<;>simp [qA2]
  ·simp only [decide_eq_false_iff_not] at hc
   have:i=l.length:=by omega
   subst this
   simp only [go_sem,seval]
   repeat refine K ?_
   refine fz ?_; simp [FinS,nilL,nilV,oneOr,-List.drop_one]
theorem szStepSS_ok (l:List (List Step)) (n:Int) (hl:l.length<2^63) (hb :∀b∈l,b.length<2^63) (h0:0≤n) (h1:n≤2^61):CallOk Tryz.prog num 221 [.sl .bw 1 (codes .bw l),.int .i64 n] [] (.int .i64 (szL (l.length+tots zStepS l) n)):=by
 refine EN m221 Tryz.func49 ?_
 unfold m221
 have hw:IntKind.i64.wrap (n-l.length)=n-l.length:=qAg (by omega) (by omega)
 simp only [go_sem,seval,hw]
 repeat refine K ?_
 refine qA1 (fun hc=>?_) (fun hc=>?_)
 ·simp only [decide_eq_true_eq] at hc
  simp only [go_sem,seval]
  repeat refine K ?_
  refine fz ?_; simp [FinS,nilL,nilV,oneOr,-List.drop_one]
  rw [qD2 (by push_cast; omega)]
 ·simp only [decide_eq_false_iff_not] at hc
  simp only [go_sem,seval]
  repeat refine K ?_
  refine qA8 (ι:=Nat) (fun i=>.mk [(0,.sl .bw 1 (codes .bw l)),(1,.int .i64 (n-l.length-tots zStepS (l.take i))),(5,.int .i64 i)] [] 10) (fun i=>i≤l.length∧(tots zStepS (l.take i):Int)≤n-l.length) (fun i=>l.length-i) 0 ⟨by simp,by simp [tots]; omega⟩ ?_ ?_
  ·refine Sub.shape [] id (by omega) ?_ ?_ ?_ ?_<;>simp [qA2]
   all_goals simp [tots]
  ·rintro i ⟨hi,hs⟩
   simp only [go_sem,seval]
   refine qA1 (fun hc2=>?_) (fun hc2=>?_)
   ·simp only [decide_eq_true_eq] at hc2
    have hl':i<l.length:=by omega
    have hbl:=hb _ (qAd l i [] hl')
    have ht:=tots_take zStepS l [] i hl'
    have hle:=qDz zStepS l (i+1)
    have hz:zStepS (l.getD i [])=(l.getD i []).length:=rfl
    simp only [go_sem,seval,qBu .bw l i hl']
    repeat refine K ?_
    refine CA [] (szStepS_ok (l.getD i []) (n-l.length-tots zStepS (l.take i)) hbl  (by omega) (by omega)) ?_
    try simp only [go_sem,seval]
    repeat refine K ?_
    refine qA1 (fun hc3=>?_) (fun hc3=>?_)
    ·simp only [decide_eq_true_eq] at hc3
     have h3:n-l.length-tots zStepS (l.take i)<(((l.getD i []).length:Nat):Int):=by
      apply Int.lt_of_not_ge
      intro h
      rw [szL_big (by omega)] at hc3
      omega
     simp only [go_sem,seval]
     repeat refine K ?_
     refine fz ?_; simp [FinS,nilL,nilV,oneOr,-List.drop_one]
     rw [qD2 (by push_cast; push_cast at h3; omega)]
    ·simp only [decide_eq_false_iff_not] at hc3
     have h3:=qDj hc3
     rw [h3] at hc3
     have e3:n-l.length-(tots zStepS (l.take i):Int)-(((l.getD i []).length:Nat):Int)=n-l.length-tots zStepS (l.take (i+1)):=by omega
     try simp only [go_sem,seval,h3,e3,qA7 (i:=i) (by omega)]
     repeat refine K ?_
     refine qA6 (i+1) (Sub.shape [] id (by omega) ?_ ?_ ?_ ?_) ?_ ?_
     any_goals (first | omega | (simp [qA2]; done))
   ·simp only [decide_eq_false_iff_not] at hc2
    have he:l.take i=l:=List.take_of_length_le (by omega)
    rw [he] at hs
    simp only [go_sem,seval,he]
    repeat refine K ?_
    refine fz ?_; simp [FinS,nilL,nilV,oneOr,-List.drop_one]
    rw [szL_big (by push_cast; omega)]
    try (push_cast; omega)
theorem eqStepSS_ok (xs ys:List (List Step)) (hx:xs.length≤2^47) (hb :∀b∈xs,b.length≤2^47):CallOk Tryz.prog num 164 [.sl .bw 1 (codes .bw xs),.sl .bw 1 (codes .bw ys)] [] (.bool (decide (xs=ys))):=by
 refine EN m164 Tryz.func65 ?_
 unfold m164
 simp only [go_sem,seval]
 repeat refine K ?_
 refine qA1 (fun hc=>?_) (fun hc=>?_)
 ·have hne:xs≠ys:=fun he=>by subst he; simp at hc
  simp only [go_sem,seval]
  repeat refine K ?_
  refine fz ?_; simp [FinS,nilL,nilV,oneOr,-List.drop_one]
  exact hne
 ·have hl:xs.length=ys.length:=by simp at hc; omega
  simp only [go_sem,seval]
  repeat refine K ?_
  refine qA8 (ι:=Nat) (fun i=>.mk [(0,.sl .bw 1 (codes .bw xs)),(1,.sl .bw 1 (codes .bw ys)),(5,.int .i64 i)] [] 10) (fun i=>i≤xs.length∧xs.take i=ys.take i) (fun i=>xs.length-i) 0 (by simp) ?_ ?_
  ·refine Sub.shape [] id (by omega) ?_ ?_ ?_ ?_<;>simp [qA2]
  ·rintro i ⟨hi,hp⟩
   simp only [go_sem,seval]
   repeat refine K ?_
   refine qA1 (fun hc=>?_) (fun hc=>?_)
   ·simp only [decide_eq_true_eq] at hc
    have hil:i<xs.length:=by omega
    have hjl:i<ys.length:=by omega
    simp only [go_sem,seval,qBu .bw xs i hil,qBu .bw ys i hjl]
    repeat refine K ?_
    refine DA [] (eqStepS_ok (xs.getD i []) (ys.getD i []) (hb _ (qAd xs i [] hil))) ?_
    try simp only [go_sem,seval]
    repeat refine K ?_
    by_cases he:xs.getD i []=ys.getD i []
    ·simp only [go_sem,seval,he,qA7 (i:=i) (by omega)]
     repeat refine K ?_
     refine qA6 (i+1) (Sub.shape [] id (by omega) ?_ ?_ ?_ ?_) ?_ ?_
     any_goals (first | omega | (simp [qA2]; done))
     refine ⟨hil,?_⟩
     rw [List.take_succ_eq_append_getElem hil,List.take_succ_eq_append_getElem hjl,hp]
     have he':xs[i]=ys[i]:=by simpa [List.getD_eq_getElem?_getD,hil,hjl] using he
     rw [he']
    ·simp only [go_sem,seval,he]
     repeat refine K ?_
     refine fz ?_; simp [FinS,nilL,nilV,oneOr,-List.drop_one]
     intro h
     subst h
     exact he rfl
   ·simp only [decide_eq_false_iff_not] at hc
    have he:xs=ys:=by
     have h1:i=xs.length:=by omega
     rw [h1,List.take_length,hl,List.take_length] at hp
     exact hp
    simp only [go_sem,seval]
    repeat refine K ?_
    refine fz ?_; simp [FinS,nilL,nilV,oneOr,-List.drop_one]
    exact he
theorem nil_cels :∀(n:Nat),nilRs (List.replicate n [AV.nil]) (cels .own (List.replicate n []))
 | 0=>by simp [cels]
 | n+1=>by
  have:=nil_cels n
  simp only [List.replicate_succ,cels,List.map_cons] at this⊢
  exact (qCs _ _ _ _).2 ⟨by simp [writes],this⟩
theorem toWriteSS_ok (l:List (List Write)) (hl:24*l.length≤2^47) (hb :∀b∈l,64*b.length≤2^47) (hc0 :∀b∈l,∀x∈b,8*x.view.length≤2^47):CallOk Tryz.prog num 279 [.sl .bw 1 (cels .bw l)] [] (.sl .own 1 (cels .own l)):=by
 refine EN m279 Tryz.func131 ?_
 unfold m279
 simp only [go_sem,seval]
 repeat refine K ?_
 refine qA8 (ι:=Nat) (fun i=>.mk [(0,.sl .bw 1 (cels .bw l)),(3,.ns 10 0 l.length),(4,.int .i64 i)] [(10,1,cels .own (l.take i++List.replicate (l.length-i) []))] 11) (fun i=>i≤l.length) (fun i=>l.length-i) 0 (by simp) ?_ ?_
 ·refine Sub.shape [] id (by omega) ?_ ?_ ?_ ?_<;>simp [qA2]
  right
  exact nil_cels _
 ·intro i hi
  simp only [go_sem,seval]
  refine qA1 (fun hc=>?_) (fun hc=>?_)
  ·simp only [decide_eq_true_eq] at hc
   have hl':i<l.length:=by omega
   have hm:=qCc l ([]:List Write) i hi
   simp only [go_sem,seval,qAu .bw l i hl',hm]
   repeat refine K ?_
   refine CA [] (toWriteS_ok (l.getD i []) (by have:=hb _ (qAd l i [] hl'); omega) (hc0 _ (qAd l i [] hl'))) ?_
   try simp only [go_sem,seval]
   repeat refine K ?_
   have hs:=fill_set l [] ([]:List Write) i hl'
   try simp only [go_sem,seval,qAu .own _ i (hm▸hl'),hm,qA7 (i:=i) (by omega)]
   repeat refine K ?_
   refine qA6 (i+1) ?_ hl' (by omega)
   refine Sub.trans (Sub.foldAt 10 0 11 rfl (by simp [-gD]<;>omega) rfl (by decide) (by decide) rfl (by simp<;>omega)) ?_
   simp only [fS,fS2,qA,qC,qB8,hs]
   refine Sub.shape [] id (by omega) ?_ ?_ ?_ ?_<;>simp [qA2]
  ·simp only [decide_eq_false_iff_not] at hc
   have:i=l.length:=by omega
   subst this
   simp only [go_sem,seval]
   repeat refine K ?_
   refine fz ?_; simp [FinS,nilL,nilV,oneOr,-List.drop_one]
theorem szWriteSS_ok (l:List (List Write)) (n:Int) (hl:l.length<2^63) (hb :∀b∈l,b.length<2^63) (hc0 :∀b∈l,∀x∈b,x.view.length<2^63) (h0:0≤n) (h1:n≤2^61):CallOk Tryz.prog num 276 [.sl .bw 1 (cels .bw l),.int .i64 n] [] (.int .i64 (szL (l.length+tots zWriteS l) n)):=by
 refine EN m276 Tryz.func121 ?_
 unfold m276
 have hw:IntKind.i64.wrap (n-l.length)=n-l.length:=qAg (by omega) (by omega)
 simp only [go_sem,seval,hw]
 repeat refine K ?_
 refine qA1 (fun hc=>?_) (fun hc=>?_)
 ·simp only [decide_eq_true_eq] at hc
  simp only [go_sem,seval]
  repeat refine K ?_
  refine fz ?_; simp [FinS,nilL,nilV,oneOr,-List.drop_one]
  rw [qD2 (by push_cast; omega)]
 ·simp only [decide_eq_false_iff_not] at hc
  simp only [go_sem,seval]
  repeat refine K ?_
  refine qA8 (ι:=Nat) (fun i=>.mk [(0,.sl .bw 1 (cels .bw l)),(1,.int .i64 (n-l.length-tots zWriteS (l.take i))),(5,.int .i64 i)] [] 10) (fun i=>i≤l.length∧(tots zWriteS (l.take i):Int)≤n-l.length) (fun i=>l.length-i) 0 ⟨by simp,by simp [tots]; omega⟩ ?_ ?_
  ·refine Sub.shape [] id (by omega) ?_ ?_ ?_ ?_<;>simp [qA2]
   all_goals simp [tots]
  ·rintro i ⟨hi,hs⟩
   simp only [go_sem,seval]
   refine qA1 (fun hc2=>?_) (fun hc2=>?_)
   ·simp only [decide_eq_true_eq] at hc2
    have hl':i<l.length:=by omega
    have hbl:=hb _ (qAd l i [] hl')
    have ht:=tots_take zWriteS l [] i hl'
    have hle:=qDz zWriteS l (i+1)
    have hz:zWriteS (l.getD i [])=(l.getD i []).length+tots zWrite (l.getD i []):=rfl
    simp only [go_sem,seval,qAu .bw l i hl']
    repeat refine K ?_
    refine CA [] (szWriteS_ok (l.getD i []) (n-l.length-tots zWriteS (l.take i)) hbl (hc0 _ (qAd l i [] hl')) (by omega) (by omega)) ?_
    try simp only [go_sem,seval]
    repeat refine K ?_
    refine qA1 (fun hc3=>?_) (fun hc3=>?_)
    ·simp only [decide_eq_true_eq] at hc3
     have h3:n-l.length-tots zWriteS (l.take i)<(((l.getD i []).length+tots zWrite (l.getD i []):Nat):Int):=by
      apply Int.lt_of_not_ge
      intro h
      rw [szL_big (by omega)] at hc3
      omega
     simp only [go_sem,seval]
     repeat refine K ?_
     refine fz ?_; simp [FinS,nilL,nilV,oneOr,-List.drop_one]
     rw [qD2 (by push_cast; push_cast at h3; omega)]
    ·simp only [decide_eq_false_iff_not] at hc3
     have h3:=qDj hc3
     rw [h3] at hc3
     have e3:n-l.length-(tots zWriteS (l.take i):Int)-(((l.getD i []).length+tots zWrite (l.getD i []):Nat):Int)=n-l.length-tots zWriteS (l.take (i+1)):=by omega
     try simp only [go_sem,seval,h3,e3,qA7 (i:=i) (by omega)]
     repeat refine K ?_
     refine qA6 (i+1) (Sub.shape [] id (by omega) ?_ ?_ ?_ ?_) ?_ ?_
     any_goals (first | omega | (simp [qA2]; done))
   ·simp only [decide_eq_false_iff_not] at hc2
    have he:l.take i=l:=List.take_of_length_le (by omega)
    rw [he] at hs
    simp only [go_sem,seval,he]
    repeat refine K ?_
    refine fz ?_; simp [FinS,nilL,nilV,oneOr,-List.drop_one]
    rw [szL_big (by push_cast; omega)]
    try (push_cast; omega)
theorem eqWriteSS_ok (xs ys:List (List Write)) (hx:xs.length≤2^47) (hb :∀b∈xs,b.length≤2^47) (hc0 :∀b∈xs,∀x∈b,x.view.length≤2^47):CallOk Tryz.prog num 282 [.sl .bw 1 (cels .bw xs),.sl .bw 1 (cels .bw ys)] [] (.bool (decide (xs=ys))):=by
 refine EN m282 Tryz.func148 ?_
 unfold m282
 simp only [go_sem,seval]
 repeat refine K ?_
 refine qA1 (fun hc=>?_) (fun hc=>?_)
 ·have hne:xs≠ys:=fun he=>by subst he; simp at hc
  simp only [go_sem,seval]
  repeat refine K ?_
  refine fz ?_; simp [FinS,nilL,nilV,oneOr,-List.drop_one]
  exact hne
 ·have hl:xs.length=ys.length:=by simp at hc; omega
  simp only [go_sem,seval]
  repeat refine K ?_
  refine qA8 (ι:=Nat) (fun i=>.mk [(0,.sl .bw 1 (cels .bw xs)),(1,.sl .bw 1 (cels .bw ys)),(5,.int .i64 i)] [] 10) (fun i=>i≤xs.length∧xs.take i=ys.take i) (fun i=>xs.length-i) 0 (by simp) ?_ ?_
  ·refine Sub.shape [] id (by omega) ?_ ?_ ?_ ?_<;>simp [qA2]
  ·rintro i ⟨hi,hp⟩
   simp only [go_sem,seval]
   repeat refine K ?_
   refine qA1 (fun hc=>?_) (fun hc=>?_)
   ·simp only [decide_eq_true_eq] at hc
    have hil:i<xs.length:=by omega
    have hjl:i<ys.length:=by omega
    simp only [go_sem,seval,qAu .bw xs i hil,qAu .bw ys i hjl]
    repeat refine K ?_
    refine DA [] (eqWriteS_ok (xs.getD i []) (ys.getD i []) (hb _ (qAd xs i [] hil)) (hc0 _ (qAd xs i [] hil))) ?_
    try simp only [go_sem,seval]
    repeat refine K ?_
    by_cases he:xs.getD i []=ys.getD i []
    ·simp only [go_sem,seval,he,qA7 (i:=i) (by omega)]
     repeat refine K ?_
     refine qA6 (i+1) (Sub.shape [] id (by omega) ?_ ?_ ?_ ?_) ?_ ?_
     any_goals (first | omega | (simp [qA2]; done))
     refine ⟨hil,?_⟩
     rw [List.take_succ_eq_append_getElem hil,List.take_succ_eq_append_getElem hjl,hp]
     have he':xs[i]=ys[i]:=by simpa [List.getD_eq_getElem?_getD,hil,hjl] using he
     rw [he']
    ·simp only [go_sem,seval,he]
     repeat refine K ?_
     refine fz ?_; simp [FinS,nilL,nilV,oneOr,-List.drop_one]
     intro h
     subst h
     exact he rfl
   ·simp only [decide_eq_false_iff_not] at hc
    have he:xs=ys:=by
     have h1:i=xs.length:=by omega
     rw [h1,List.take_length,hl,List.take_length] at hp
     exact hp
    simp only [go_sem,seval]
    repeat refine K ?_
    refine fz ?_; simp [FinS,nilL,nilV,oneOr,-List.drop_one]
    exact he
structure LongM (m:Machine):Prop where
 codes:m.codes.length<2^63
 code :∀c∈m.codes,c.length<2^63
 cores:m.cores.length<2^63
 regs :∀k∈m.cores,k.regs.length<2^63
 views :∀k∈m.cores,k.view.length<2^63
 cells:m.mem.cells.length<2^63
 cell :∀c∈m.mem.cells,c.length<2^63
 view :∀c∈m.mem.cells,∀w∈c,w.view.length<2^63
 tr:m.tr.length<2^63
theorem toMemory_ok (cs:List (List Write)) (h:SmallC cs):CallOk Tryz.prog num 228 [.agg (memoryC .bw ⟨cs⟩)] [] (.agg (memoryC .own ⟨cs⟩)):=by
 refine EN m228 Tryz.func59 ?_
 unfold m228
 simp only [go_sem,seval]
 repeat refine K ?_
 refine CA [] (toWriteSS_ok cs (by have:=h.len; omega) (fun b hb=>by have:=h.cell b hb; omega) (fun b hb x hx=>by have:=h.view b hb x hx; omega)) ?_
 try simp only [go_sem,seval]
 repeat refine K ?_
 try simp only [go_sem,seval]
 repeat refine K ?_
 refine ⟨_,Sub.refl _,qAm ?_⟩; simp [-List.drop_one]
theorem szMemory_ok (cs:List (List Write)) (n:Int) (h1:cs.length<2^63) (h2 :∀c∈cs,c.length<2^63) (h3 :∀c∈cs,∀w∈c,w.view.length<2^63) (h0:0≤n) (hn:n≤2^61):CallOk Tryz.prog num 223 [.agg (memoryC .bw ⟨cs⟩),.int .i64 n] [] (.int .i64 (szL (zMem cs) n)):=by
 refine EN m223 Tryz.func51 ?_
 unfold m223 zMem
 simp only [go_sem,seval]
 repeat refine K ?_
 refine CA [] (szWriteSS_ok cs n h1 h2 h3 h0 hn) ?_
 try simp only [go_sem,seval]
 repeat refine K ?_
 refine qA1 (fun hk=>?_) (fun hk=>?_)
 ·simp only [decide_eq_true_eq] at hk
  simp only [go_sem,seval]
  repeat refine K ?_
  refine fz ?_; simp [FinS,nilL,nilV,oneOr,-List.drop_one]
  rw [szL_neg hk]
 ·simp only [go_sem,seval]
  repeat refine K ?_
  refine fz ?_; simp [FinS,nilL,nilV,oneOr,-List.drop_one]
theorem eqMemory_ok (cs ds:List (List Write)) (h1:cs.length≤2^47) (h2 :∀c∈cs,c.length≤2^47) (h3 :∀c∈cs,∀w∈c,w.view.length≤2^47):CallOk Tryz.prog num 232 [.agg (memoryC .bw ⟨cs⟩),.agg (memoryC .bw ⟨ds⟩)] [] (.bool (decide (cs=ds))):=by
 refine EN m232 Tryz.func67 ?_
 unfold m232
 simp only [go_sem,seval]
 repeat refine K ?_
 refine CA [] (eqWriteSS_ok cs ds h1 h2 h3) ?_
 try simp only [go_sem,seval]
 repeat refine K ?_
 by_cases e:cs=ds
 ·try simp only [go_sem,seval,e]
  repeat refine K ?_
  refine fz ?_; simp [FinS,nilL,nilV,oneOr,-List.drop_one]
 ·try simp only [go_sem,seval,e]
  repeat refine K ?_
  refine fz ?_; simp [FinS,nilL,nilV,oneOr,-List.drop_one]
theorem toMachine_ok (m:Machine) (h:SmallM m):CallOk Tryz.prog num 173 [.agg (machineC .bw m)] [] (.agg (machineC .own m)):=by
 obtain ⟨h1,h2,h3,h4,h5,h6,h7⟩:=h
 refine EN m173 Tryz.func15 ?_
 unfold m173
 simp only [go_sem,seval]
 repeat refine K ?_
 refine CA [] (toStepSS_ok m.codes (by omega) (fun b hb=>by have:=h2 b hb; omega)) ?_
 try simp only [go_sem,seval]
 repeat refine K ?_
 try simp only [go_sem,seval]
 repeat refine K ?_
 refine CA [] (toCoreS_ok m.cores (by omega) (fun b hb=>by have:=h4 b hb; omega) (fun b hb=>by have:=h5 b hb; omega)) ?_
 try simp only [go_sem,seval]
 repeat refine K ?_
 try simp only [go_sem,seval]
 repeat refine K ?_
 refine CA [] (toMemory_ok m.mem.cells h6) ?_
 try simp only [go_sem,seval]
 repeat refine K ?_
 try simp only [go_sem,seval]
 repeat refine K ?_
 refine CA [] (toNoteS_ok m.tr (by omega)) ?_
 try simp only [go_sem,seval]
 repeat refine K ?_
 try simp only [go_sem,seval]
 repeat refine K ?_
 refine ⟨_,Sub.refl _,qAm ?_⟩; simp [-List.drop_one]
theorem szMachine_ok (m:Machine) (n:Int) (h:LongM m) (h0:0≤n) (hn:n≤2^61):CallOk Tryz.prog num 172 [.agg (machineC .bw m),.int .i64 n] [] (.int .i64 (szL (zMachine m) n)):=by
 obtain ⟨h1,h2,h3,h4,h5,h6,h7,h8,h9⟩:=h
 refine EN m172 Tryz.func12 ?_
 unfold m172 zMachine
 rw [←szL_add _ _ _ h0]
 simp only [go_sem,seval]
 repeat refine K ?_
 refine CA [] (szStepSS_ok m.codes n h1 h2 h0 hn) ?_
 try simp only [go_sem,seval]
 repeat refine K ?_
 have l1:=szL_le (k:=m.codes.length+tots zStepS m.codes) h0
 generalize szL (m.codes.length+tots zStepS m.codes) n=n1 at *
 refine qA1 (fun hk=>?_) (fun hk=>?_)
 ·simp only [decide_eq_true_eq] at hk
  rw [if_pos hk]
  simp only [go_sem,seval]
  repeat refine K ?_
  refine fz ?_; simp [FinS,nilL,nilV,oneOr,-List.drop_one]
 simp only [decide_eq_false_iff_not] at hk
 rw [if_neg hk,←szL_add _ _ _ (by omega)]
 simp only [go_sem,seval]
 repeat refine K ?_
 refine CA [] (szCoreS_ok m.cores n1 h3 h4 h5 (by omega) (by omega)) ?_
 try simp only [go_sem,seval]
 repeat refine K ?_
 have l2:=szL_le (k:=m.cores.length+tots zCore m.cores) (n:=n1) (by omega)
 generalize szL (m.cores.length+tots zCore m.cores) n1=n2 at *
 refine qA1 (fun hk2=>?_) (fun hk2=>?_)
 ·simp only [decide_eq_true_eq] at hk2
  rw [if_pos hk2]
  simp only [go_sem,seval]
  repeat refine K ?_
  refine fz ?_; simp [FinS,nilL,nilV,oneOr,-List.drop_one]
 simp only [decide_eq_false_iff_not] at hk2
 rw [if_neg hk2,←szL_add _ _ _ (by omega)]
 simp only [go_sem,seval]
 repeat refine K ?_
 refine CA [] (szMemory_ok m.mem.cells n2 h6 h7 h8 (by omega) (by omega)) ?_
 try simp only [go_sem,seval]
 repeat refine K ?_
 have l3:=szL_le (k:=zMem m.mem.cells) (n:=n2) (by omega)
 generalize szL (zMem m.mem.cells) n2=n3 at *
 refine qA1 (fun hk3=>?_) (fun hk3=>?_)
 ·simp only [decide_eq_true_eq] at hk3
  rw [if_pos hk3]
  simp only [go_sem,seval]
  repeat refine K ?_
  refine fz ?_; simp [FinS,nilL,nilV,oneOr,-List.drop_one]
 simp only [decide_eq_false_iff_not] at hk3
 rw [if_neg hk3]
 simp only [go_sem,seval]
 repeat refine K ?_
 refine CA [] (szNoteS_ok m.tr n3 h9 (by omega) (by omega)) ?_
 try simp only [go_sem,seval]
 repeat refine K ?_
 refine qA1 (fun hk4=>?_) (fun hk4=>?_)
 ·simp only [decide_eq_true_eq] at hk4
  simp only [go_sem,seval]
  repeat refine K ?_
  refine fz ?_; simp [FinS,nilL,nilV,oneOr,-List.drop_one]
  rw [szL_neg hk4]
 ·simp only [go_sem,seval]
  repeat refine K ?_
  refine fz ?_; simp [FinS,nilL,nilV,oneOr,-List.drop_one]
theorem eqMachine_ok (m q:Machine) (h:SmallM m):CallOk Tryz.prog num 176 [.agg (machineC .bw m),.agg (machineC .bw q)] [] (.bool (decide (m=q))):=by
 obtain ⟨h1,h2,h3,h4,h5,⟨h6,h8,h9⟩,h7⟩:=h
 refine EN m176 Tryz.func18 ?_
 unfold m176
 simp only [go_sem,seval]
 repeat refine K ?_
 refine CA [] (eqStepSS_ok m.codes q.codes (by omega) (fun b hb=>by have:=h2 b hb; omega)) ?_
 try simp only [go_sem,seval]
 repeat refine K ?_
 by_cases e1:m.codes=q.codes
 case neg =>
  try simp only [go_sem,seval,e1]
  repeat refine K ?_
  refine fz ?_; simp [FinS,nilL,nilV,oneOr,-List.drop_one]
  intro h
  exact e1 (by rw [h])
 try simp only [go_sem,seval,e1]
 repeat refine K ?_
 refine CA [] (eqCoreS_ok m.cores q.cores (by omega) (fun b hb=>by have:=h4 b hb; omega) (fun b hb=>by have:=h5 b hb; omega)) ?_
 try simp only [go_sem,seval]
 repeat refine K ?_
 by_cases e2:m.cores=q.cores
 case neg =>
  try simp only [go_sem,seval,e2]
  repeat refine K ?_
  refine fz ?_; simp [FinS,nilL,nilV,oneOr,-List.drop_one]
  intro h
  exact e2 (by rw [h])
 try simp only [go_sem,seval,e2]
 repeat refine K ?_
 refine CA [] (eqMemory_ok m.mem.cells q.mem.cells (by omega) (fun b hb=>by have:=h8 b hb; omega) (fun b hb x hx=>by have:=h9 b hb x hx; omega)) ?_
 try simp only [go_sem,seval]
 repeat refine K ?_
 by_cases e3:m.mem.cells=q.mem.cells
 case neg =>
  try simp only [go_sem,seval,e3]
  repeat refine K ?_
  refine fz ?_; simp [FinS,nilL,nilV,oneOr,-List.drop_one]
  intro h
  exact e3 (by rw [h])
 try simp only [go_sem,seval,e3]
 repeat refine K ?_
 refine CA [] (eqNoteS_ok m.tr q.tr (by omega)) ?_
 try simp only [go_sem,seval]
 repeat refine K ?_
 by_cases e4:m.tr=q.tr
 case neg =>
  try simp only [go_sem,seval,e4]
  repeat refine K ?_
  refine fz ?_; simp [FinS,nilL,nilV,oneOr,-List.drop_one]
  intro h
  exact e4 (by rw [h])
 try simp only [go_sem,seval,e4]
 repeat refine K ?_
 refine fz ?_; simp [FinS,nilL,nilV,oneOr,-List.drop_one]
 obtain ⟨a,b,⟨c⟩,d⟩:=m
 obtain ⟨a',b',⟨c'⟩,d'⟩:=q
 simp_all
end Go.Sep
