/- Contracts of functions. -/
import Derived.Test.YtfecojefbnnknaaTxx10
open List renaming all_eq_true → wB2, drop_one → wAs, length_append → qZo, take_of_length_le → qZh
namespace Go.Sep
set_option maxHeartbeats 16000000
open Go.Proofs
set_option linter.unusedSimpArgs false
set_option linter.unusedVariables false
set_option maxRecDepth 100000
open Nat renaming reduceAdd → qA, reduceMul → qB, reduceEqDiff → qC, reduceBEq → qD
open Int renaming reduceToNat → qE, reduceEq → qF, reduceLT → qG, reduceLE → qH
open List renaming getD_eq_getElem?_getD → gD
def m19:MFn:=⟨6,[.t 2],kr [xF 2] (kR [xv 3 0,xe 4 3,bI 5 .gtr 4 1048576,xv 2 5])⟩
def m37:MFn:=⟨32,[.t 2],kr [xo 2 (.mv (.c (.nilp)))] (kr [xv 5 0,xe 6 5,xo 7 (.bin .add (xi 18813) (.t 6)),xv 3 7] (.seq (kr [xI 4 0] (.blk 0 (.loop (.seq (kr [xv 8 4,xv 9 0,xe 10 9,bT 11 .lss 8 10,xv 12 11,yv 13 4 12,yI 14 .lss 13 4000 12,xP 15 12 14] (kX 15 0)) (.seq (.blk 1 (xr [xv 18 3,bI 19 .mul 18 131,xv 20 0,xv 21 4,xD 22 1 20 21,xl 23 22,xo 24 (.cvi .i64 (.t 23)),bT 25 .add 19 24,bI 26 .add 25 7,bI 27 .«and» 26 1073741823,xv 3 27])) (xr [xv 16 4,bI 17 .add 16 1,xv 4 17])))))) (kR [xv 28 0,xv 29 3,xo 30 (.build [.nil,.int .i64 0,.int .i64 0] [(0,1,.t 28),(2,1,.t 29)]),xb 31 30,xv 2 31])))⟩
def m39:MFn:=⟨37,[.t 4],kr [xI 4 0] (.seq (kr [xv 9 1,bI 10 .leq 9 0] (kF 10 [xI 4 0])) (.seq (kr [xv 11 1,bI 12 .leq 11 256] (kF 12 [xv 13 0,xo 14 (.call 58 [true] [.t 13]),xv 15 1,bT 16 .rem 14 15,xv 4 16])) (kr [xv 17 0,xo 18 (.call 58 [true] [.t 17]),xv 5 18] (kr [xv 19 0,xo 20 (.call 58 [true] [.t 19]),xv 6 20] (kr [xv 21 0,xo 22 (.call 58 [true] [.t 21]),xv 7 22] (kr [xv 23 0,xo 24 (.call 58 [true] [.t 23]),xv 8 24] (kR [xv 25 5,bI 26 .mul 25 16777216,xv 27 6,bI 28 .mul 27 65536,bT 29 .add 26 28,xv 30 7,bI 31 .mul 30 256,bT 32 .add 29 31,xv 33 8,bT 34 .add 32 33,xv 35 1,bT 36 .rem 34 35,xv 4 36])))))))⟩
def m40:MFn:=⟨9,[.t 4],kr [xF 4] (kR [xv 5 0,xv 6 1,xo 7 (.call 39 [true,false] [.t 5,.t 6]),bI 8 .eql 7 0,xv 4 8])⟩
def m55:MFn:=⟨40,[.cell 2 2 true],kr [xo 2 (.alloc [.nil,.nil])] (kr [xo 7 (.build [.nil,.nil] []),xo 3 (.alloc [.nil,.nil]),xS 2 3 7] (kr [xv 8 0,xo 9 (.call 39 [true,false] [.t 8,xi 3]),xo 10 (.bin .add (xi 1) (.t 9)),xv 4 10] (.seq (kr [xI 5 0] (.blk 0 (.loop (.seq (kr [xv 11 5,xv 12 4,bT 13 .lss 11 12] (kX 13 0)) (.seq (.blk 1 (.dreg (.take 0 (xa 16 0 3) (.take 1 (xl 17 16) (.only 2 [] (xv 18 0) (.only 3 [] (xo 19 (.call 39 [true,false] [.t 18,xi 4])) (.only 4 [] (xo 20 (.bin .add (xi 1) (.t 19))) (.only 5 [] (xo 21 (.mkSl [xz] 1 [(0,.t 20)])) (.only 6 [1,0] (xA 22 1 8 17 21) (.only 7 [0,1] (xa 23 0 3) (.only 8 [0,1] (xS 1 23 22) (.done)))))))))))) (xr [xv 14 5,bI 15 .add 14 1,xv 5 15])))))) (.seq (kr [xI 6 0] (.blk 2 (.loop (.seq (kr [xv 24 6,xv 25 0,xo 26 (.call 39 [true,false] [.t 25,xi 4]),xo 27 (.bin .add (xi 1) (.t 26)),bT 28 .lss 24 27] (kX 28 2)) (.seq (.blk 3 (.dreg (.take 0 (xa 31 1 3) (.take 1 (xl 32 31) (.take 2 (xv 33 0) (.only 3 [] (xv 34 4) (.only 4 [2] (xo 35 (.call 77 [true,false] [.t 33,.t 34])) (.only 5 [4,2] (xo 36 (.mkSl [.nil] 1 [(0,.t 35)])) (.only 6 [1,4,0,2] (xA 37 1 24 32 36) (.only 7 [0,1,2] (xa 38 1 3) (.only 8 [0,1,2] (xS 1 38 37) (.done)))))))))))) (xr [xv 29 6,bI 30 .add 29 1,xv 6 30])))))) (kR [xm 39 2 3,xS 2 2 39])))))⟩
def m56:MFn:=⟨12,[.t 4],kr [xI 4 0] (kR [xv 5 1,xv 6 0,xv 7 1,xe 8 7,xo 9 (.call 39 [true,false] [.t 6,.t 8]),xD 10 1 5 9,xl 11 10,xv 4 11])⟩
def m58:MFn:=⟨58,[.t 2],kr [xI 2 0] (kr [xv 4 0,xv 5 0,xk 6 5,xa 7 2 6,xl 8 7,bI 9 .mul 8 6364136223846793005,bI 10 .add 9 1442695040888963407,xk 11 4,xa 12 2 11,xS 1 12 10] (.seq (.dreg (.take 0 (xv 13 0) (.take 1 (xk 14 13) (.take 2 (xa 15 2 14) (.take 3 (xl 16 15) (.take 4 (xo 17 (.bin .shr (.t 16) (.c (.int .u64 33)))) (.only 5 [] (xv 18 0) (.only 6 [] (xk 19 18) (.only 7 [] (xa 20 2 19) (.only 8 [] (xl 21 20) (.only 9 [] (xo 22 (.bin .shr (.t 21) (.c (.int .u64 45)))) (.only 10 [4,3,2,1,0] (bT 23 .xor 17 22) (.only 11 [10,4,3,2,1,0] (bI 24 .«and» 23 255) (.only 12 [0,1,2,3,4] (xv 3 24) (.done))))))))))))))) (.seq (.seq (.dreg (.take 0 (xv 25 0) (.take 1 (xk 26 25) (.take 2 (xa 27 1 26) (.take 3 (xl 28 27) (.only 4 [] (xv 29 0) (.only 5 [] (xk 30 29) (.only 6 [] (xa 31 0 30) (.only 7 [] (xl 32 31) (.only 8 [] (xe 33 32) (.only 9 [3,2,1,0] (bT 34 .lss 28 33) (.done)))))))))))) (.cond 34 (.seq (.dreg (.take 0 (xv 35 3) (.take 1 (xv 36 0) (.take 2 (xk 37 36) (.take 3 (xa 38 0 37) (.take 4 (xl 39 38) (.only 5 [] (xv 40 0) (.only 6 [] (xk 41 40) (.only 7 [] (xa 42 1 41) (.only 8 [] (xl 43 42) (.only 9 [4,3,2,1] (xD 44 1 39 43) (.only 10 [9,4,3,2,1] (xl 45 44) (.only 11 [10,9,4,3,2,1] (xo 46 (.cvi .i64 (.t 45))) (.only 12 [0,11,10,9,4,3,2,1] (bT 47 .add 35 46) (.only 13 [12,0,11,10,9,4,3,2,1] (bI 48 .«and» 47 255) (.only 14 [0,1,2,3,4] (xv 3 48) (.done))))))))))))))))) (xr [xv 49 0,xv 50 0,xk 51 50,xa 52 1 51,xl 53 52,bI 54 .add 53 1,xk 55 49,xa 56 1 55,xS 1 56 54])) (.skip))) (kR [xv 57 3,xv 2 57]))))⟩
def m77:MFn:=⟨83,[.t 4],kr [xo 4 (.mv (.c (.nil)))] (kr [xv 10 0,xv 11 1,xo 12 (.call 39 [true,false] [.t 10,.t 11]),xv 5 12] (kr [xv 13 0,xv 14 1,xo 15 (.call 39 [true,false] [.t 13,.t 14]),xv 6 15] (.seq (kr [xv 16 0,xo 17 (.call 39 [true,false] [.t 16,xi 5])] (.blk 0 (kr [bI 19 .eql 17 0,xv 18 19] (.cond 18 (kR [xo 20 (.build [xz,xz,xz,xz,xz] [(0,1,xi 1),(1,1,xi 0),(4,1,xi 3)]),xo 21 (.build [xz,xz,xz,xz,xz] [(0,1,xi 1),(1,1,xi 1),(4,1,xi 1)]),xv 22 5,xo 23 (.build [xz,xz,xz,xz,xz] [(0,1,xi 5),(2,1,xi 0),(4,1,.t 22)]),xo 24 (.build [xz,xz,xz,xz,xz] [(0,1,xi 3),(1,1,xi 0),(2,1,xi 0),(3,1,xi 1)]),xo 25 (.build [xz,xz,xz,xz,xz] [(0,1,xi 12),(2,1,xi 0),(4,1,xi 6)]),xo 26 (.build [xz,xz,xz,xz,xz] [(0,1,xi 11),(4,1,xi 2)]),xo 27 (.build [xz,xz,xz,xz,xz] [(0,1,xi 13)]),xo 28 (.mkSl [xz,xz,xz,xz,xz] 7 [(0,.t 20),(1,.t 21),(2,.t 23),(3,.t 24),(4,.t 25),(5,.t 26),(6,.t 27)]),xv 4 28]) (kr [bI 30 .eql 17 1,xv 29 30] (.cond 29 (kR [xv 31 5,xo 32 (.build [xz,xz,xz,xz,xz] [(0,1,xi 6),(1,1,xi 0),(3,1,xi 1),(4,1,.t 31)]),xo 33 (.build [xz,xz,xz,xz,xz] [(0,1,xi 12),(2,1,xi 1),(4,1,xi 4)]),xo 34 (.build [xz,xz,xz,xz,xz] [(0,1,xi 10),(2,1,xi 0)]),xo 35 (.build [xz,xz,xz,xz,xz] [(0,1,xi 11)]),xo 36 (.build [xz,xz,xz,xz,xz] [(0,1,xi 13)]),xo 37 (.mkSl [xz,xz,xz,xz,xz] 5 [(0,.t 32),(1,.t 33),(2,.t 34),(3,.t 35),(4,.t 36)]),xv 4 37]) (kr [bI 39 .eql 17 2,xv 38 39] (.cond 38 (kR [xv 40 5,xo 41 (.build [xz,xz,xz,xz,xz] [(0,1,xi 6),(1,1,xi 0),(3,1,xi 1),(4,1,.t 40)]),xo 42 (.build [xz,xz,xz,xz,xz] [(0,1,xi 2),(1,1,xi 0),(2,1,xi 0),(3,1,xi 1)]),xv 43 6,xo 44 (.build [xz,xz,xz,xz,xz] [(0,1,xi 5),(2,1,xi 0),(4,1,.t 43)]),xo 45 (.build [xz,xz,xz,xz,xz] [(0,1,xi 10),(2,1,xi 0)]),xo 46 (.build [xz,xz,xz,xz,xz] [(0,1,xi 11)]),xo 47 (.mkSl [xz,xz,xz,xz,xz] 5 [(0,.t 41),(1,.t 42),(2,.t 44),(3,.t 45),(4,.t 46)]),xv 4 47]) (kr [bI 49 .eql 17 3,xv 48 49] (kF 48 [xo 50 (.build [xz,xz,xz,xz,xz] [(0,1,xi 1),(1,1,xi 2),(4,1,xi 5)]),xv 51 5,xo 52 (.build [xz,xz,xz,xz,xz] [(0,1,xi 7),(1,1,xi 3),(2,1,xi 2),(4,1,.t 51)]),xv 53 6,xo 54 (.build [xz,xz,xz,xz,xz] [(0,1,xi 8),(1,1,xi 0),(3,1,xi 1),(4,1,.t 53)]),xo 55 (.build [xz,xz,xz,xz,xz] [(0,1,xi 10),(2,1,xi 1)]),xo 56 (.build [xz,xz,xz,xz,xz] [(0,1,xi 2),(1,1,xi 2),(2,1,xi 2),(3,1,xi 3)]),xo 57 (.build [xz,xz,xz,xz,xz] [(0,1,xi 11),(4,1,xi 1)]),xo 58 (.mkSl [xz,xz,xz,xz,xz] 6 [(0,.t 50),(1,.t 52),(2,.t 54),(3,.t 55),(4,.t 56),(5,.t 57)]),xv 4 58])))))))))) (kr [xv 59 0,xo 60 (.call 39 [true,false] [.t 59,xi 9]),xo 61 (.bin .add (xi 2) (.t 60)),xv 7 61] (kr [xo 62 (.mkSl [xz,xz,xz,xz,xz] 0 []),xv 8 62] (.seq (kr [xI 9 0] (.blk 1 (.loop (.seq (kr [xv 63 9,xv 64 7,bT 65 .lss 63 64] (kX 65 1)) (.seq (.blk 2 (xr [xv 68 8,xv 69 0,xv 70 7,bI 71 .add 70 1,xv 72 1,xo 73 (.call 91 [true,false,false] [.t 69,.t 71,.t 72]),xo 74 (.mkSl [xz,xz,xz,xz,xz] 1 [(0,.t 73)]),xA 75 5 40 68 74,xv 8 75])) (xr [xv 66 9,bI 67 .add 66 1,xv 9 67])))))) (kR [xv 76 8,xv 77 0,xo 78 (.mkSl [xz] 2 [(0,xi 13),(1,xi 11)]),xo 79 (.call 56 [true,false] [.t 77,.t 78]),xo 80 (.build [xz,xz,xz,xz,xz] [(0,1,.t 79)]),xo 81 (.mkSl [xz,xz,xz,xz,xz] 1 [(0,.t 80)]),xA 82 5 40 76 81,xv 4 82])))))))⟩
def m91:MFn:=⟨91,[.cell 6 5 true],kr [xo 6 (.alloc [xz,xz,xz,xz,xz])] (kr [xv 11 0,xo 12 (.call 39 [true,false] [.t 11,xi 4]),xv 13 0,xo 14 (.call 39 [true,false] [.t 13,xi 4]),xv 15 0,xo 16 (.call 39 [true,false] [.t 15,xi 4]),xv 7 12,xv 8 14,xv 9 16] (kr [xv 17 0,xv 18 2,xc2 19 98 (.t 18) (xi 1),xo 20 (.call 39 [true,false] [.t 17,.t 19]),xv 10 20] (.seq (kr [xv 21 0,xo 22 (.call 39 [true,false] [.t 21,xi 16])] (.blk 0 (.seq (kr [bI 24 .eql 22 0,xv 23 24] (.cond 23 (.skip) (xr [bI 25 .eql 22 1,xv 23 25]))) (.cond 23 (kR [xv 26 7,xv 27 0,xo 28 (.call 39 [true,false] [.t 27,xi 9]),bI 29 .sub 28 2,xo 30 (.build [xz,xz,xz,xz,xz] [(0,1,xi 1),(1,1,.t 26),(4,1,.t 29)]),xS 5 6 30]) (.seq (kr [bI 32 .eql 22 2,xv 31 32] (.cond 31 (.skip) (xr [bI 33 .eql 22 3,xv 31 33]))) (.cond 31 (kR [xv 34 0,xo 35 (.call 39 [true,false] [.t 34,xi 3]),xo 36 (.bin .add (xi 2) (.t 35)),xv 37 7,xv 38 8,xv 39 9,xo 40 (.build [xz,xz,xz,xz,xz] [(0,1,.t 36),(1,1,.t 37),(2,1,.t 38),(3,1,.t 39)]),xS 5 6 40]) (.seq (kr [bI 42 .eql 22 4,xv 41 42] (.cond 41 (.skip) (kr [bI 43 .eql 22 5,xv 41 43] (.cond 41 (.skip) (xr [bI 44 .eql 22 6,xv 41 44]))))) (.cond 41 (kR [xv 45 8,xv 46 10,xo 47 (.build [xz,xz,xz,xz,xz] [(0,1,xi 5),(2,1,.t 45),(4,1,.t 46)]),xS 5 6 47]) (.seq (kr [bI 49 .eql 22 7,xv 48 49] (.cond 48 (.skip) (kr [bI 50 .eql 22 8,xv 48 50] (.cond 48 (.skip) (xr [bI 51 .eql 22 9,xv 48 51]))))) (.cond 48 (kR [xv 52 7,xv 53 7,bI 54 .add 53 1,bI 55 .rem 54 4,xv 56 10,xo 57 (.build [xz,xz,xz,xz,xz] [(0,1,xi 6),(1,1,.t 52),(3,1,.t 55),(4,1,.t 56)]),xS 5 6 57]) (kr [bI 59 .eql 22 10,xv 58 59] (.cond 58 (kR [xv 60 7,xv 61 8,xv 62 10,xo 63 (.build [xz,xz,xz,xz,xz] [(0,1,xi 7),(1,1,.t 60),(2,1,.t 61),(4,1,.t 62)]),xS 5 6 63]) (kr [bI 65 .eql 22 11,xv 64 65] (.cond 64 (kR [xv 66 7,xv 67 7,bI 68 .add 67 1,bI 69 .rem 68 4,xv 70 10,xo 71 (.build [xz,xz,xz,xz,xz] [(0,1,xi 8),(1,1,.t 66),(3,1,.t 69),(4,1,.t 70)]),xS 5 6 71]) (kr [bI 73 .eql 22 12,xv 72 73] (.cond 72 (.seq (kr [xv 74 0,xo 75 (.call 40 [true,false] [.t 74,xi 3])] (kF 75 [xv 76 10,xo 77 (.build [xz,xz,xz,xz,xz] [(0,1,xi 9),(4,1,.t 76)]),xS 5 6 77])) (kR [xv 78 0,xv 79 1,xo 80 (.call 39 [true,false] [.t 78,.t 79]),xo 81 (.build [xz,xz,xz,xz,xz] [(0,1,xi 11),(4,1,.t 80)]),xS 5 6 81])) (kr [bI 83 .eql 22 13,xv 82 83] (kF 82 [xv 84 8,xv 85 0,xv 86 1,xo 87 (.call 39 [true,false] [.t 85,.t 86]),xo 88 (.build [xz,xz,xz,xz,xz] [(0,1,xi 12),(2,1,.t 84),(4,1,.t 87)]),xS 5 6 88])))))))))))))))))) (kR [xv 89 8,xo 90 (.build [xz,xz,xz,xz,xz] [(0,1,xi 10),(2,1,.t 89)]),xS 5 6 90]))))⟩
def m213:MFn:=⟨18,[.t 6],kr [xI 6 0] (kr [xv 8 1,xv 9 0,xe 10 9,bI 11 .quo 10 4,bT 12 .add 8 11,xv 7 12] (.seq (kr [xv 13 7,xv 14 2,bT 15 .gtr 13 14] (kF 15 [xv 16 2,xv 6 16])) (kR [xv 17 7,xv 6 17])))⟩
def qHe (h:Int):Int:=IntKind.i64.wrap (IntKind.i64.wrap (h*6364136223846793005)+1442695040888963407)
def qPg (h:Int):Int:=qMf .i64 (qY1 .i64 (qMe .i64 h 33) (qMe .i64 h 45)) 255
def jH (code:List Int) (c:Cur):Int×Cur :=
 if (c.i:Int)<code.length then (qMf .i64 (IntKind.i64.wrap (qPg (qHe c.h)+IntKind.i64.wrap (code.getD c.i 0))) 255,⟨c.i+1,qHe c.h⟩) else (qPg (qHe c.h),⟨c.i,qHe c.h⟩)
theorem qVb (a:Int):0≤qMf .i64 a 255∧qMf .i64 a 255≤255:=by
 unfold qMf
 have h:(BitVec.ofInt IntKind.i64.bits a &&& BitVec.ofInt IntKind.i64.bits 255).toNat≤255:=by
  rw [BitVec.toNat_and]
  have:(BitVec.ofInt IntKind.i64.bits 255).toNat=255:=by decide
  rw [this]
  exact Nat.and_le_right
 rw [yQ (by omega) (by omega)]
 omega
theorem nW (code:List Int) (c:Cur):0≤(jH code c).1∧(jH code c).1≤255:=by
 unfold jH
 split
 ·exact qVb _
 ·exact qVb _
theorem kA (code:List Int) (c:Cur) (hb:code.length<2^62):wB Try.prog num 58 [.ptr 0 0 0] [(0,some (3,[iL code c]),some (3,[iL code (jH code c).2]))] (.int .i64 (jH code c).1):=by
 refine EH m58 Try.func47 ?_
 unfold m58
 simp only [go_sem,seval,iL,qDh,reduceCtorEq]
 repeat refine K ?_
 refine qZ (fun hc=>?_) (fun hc=>?_)
 ·simp only [decide_eq_true_eq] at hc
  have hl:c.i<code.length:=by omega
  simp only [go_sem,seval,qDh,reduceCtorEq,qM6 code c.i hl,wD (i:=c.i) (by omega)]
  repeat refine K ?_
  apply wP
  ·exact Sub.refl _
  ·simp [-wAs,-gD,jH,hc,qPg,qHe]<;>(first | rfl | exact ⟨rfl,rfl⟩ | exact ⟨rfl,rfl,rfl⟩ | skip)
 ·simp only [decide_eq_false_iff_not] at hc
  simp only [go_sem,seval]
  apply wP
  ·exact Sub.refl _
  ·simp [-wAs,-gD,jH,hc,qPg,qHe]<;>(first | rfl | exact ⟨rfl,rfl⟩ | exact ⟨rfl,rfl,rfl⟩ | skip)
def b1 (code:List Int) (c:Cur):Int×Cur:=jH code c
def qR (code:List Int) (c:Cur) (n:Int):Int×Cur :=
 if n≤0 then (0,c) else if n≤256 then ((jH code c).1.tmod n,(jH code c).2) else
 ((IntKind.i64.wrap (IntKind.i64.wrap (IntKind.i64.wrap (IntKind.i64.wrap ((jH code c).1*16777216)+IntKind.i64.wrap ((jH code (jH code c).2).1*65536))+IntKind.i64.wrap ((jH code (jH code (jH code c).2).2).1*256))+(jH code (jH code (jH code (jH code c).2).2).2).1)).tmod n,(jH code (jH code (jH code (jH code c).2).2).2).2)
theorem yZ (code:List Int) (c:Cur) (n:Int) (h:0<n):0≤(qR code c n).1∧(qR code c n).1<n:=by
 unfold qR
 rw [if_neg (by omega)]
 split
 ·have:=nW code c
  exact ⟨Int.tmod_nonneg _ (by omega),Int.tmod_lt_of_pos _ h⟩
 ·have h1:=nW code c
  have h2:=nW code (jH code c).2
  have h3:=nW code (jH code (jH code c).2).2
  have h4:=nW code (jH code (jH code (jH code c).2).2).2
  refine ⟨Int.tmod_nonneg _ ?_,Int.tmod_lt_of_pos _ h⟩
  rw [yQ (n:=(jH code c).1*16777216) (by omega) (by omega),yQ (n:=(jH code (jH code c).2).1*65536) (by omega) (by omega),yQ (n:=(jH code (jH code (jH code c).2).2).1*256) (by omega) (by omega)]
  rw [yQ (n:=(jH code c).1*16777216+(jH code (jH code c).2).1*65536) (by omega) (by omega)]
  rw [yQ (n:=(jH code c).1*16777216+(jH code (jH code c).2).1*65536+(jH code (jH code (jH code c).2).2).1*256) (by omega) (by omega)]
  rw [yQ (by omega) (by omega)]
  omega
theorem yS (code:List Int) (c:Cur) (n:Int) (hb:code.length<2^62):wB Try.prog num 39 [.ptr 0 0 0,.int .i64 n] [(0,some (3,[iL code c]),some (3,[iL code (qR code c n).2]))] (.int .i64 (qR code c n).1):=by
 refine EH m39 Try.func23 ?_
 unfold m39
 by_cases h0:n≤0
 ·simp only [go_sem,seval,h0]
  apply wP
  ·exact Sub.refl _
  ·simp [-wAs,-gD,qR,h0]<;>(first | rfl | exact ⟨rfl,rfl⟩ | exact ⟨rfl,rfl,rfl⟩ | skip)
 have hn :¬n=0:=by omega
 by_cases h1:n≤256
 ·simp only [go_sem,seval,h0,h1]
  refine CA [(0,0)] (kA code c hb) ?_
  try simp only [go_sem,seval]
  repeat refine K ?_
  apply wP
  ·exact Sub.refl _
  ·simp [-wAs,-gD,qR,h0,h1]<;>(first | rfl | exact ⟨rfl,rfl⟩ | exact ⟨rfl,rfl,rfl⟩ | skip)
 simp only [go_sem,seval,h0,h1]
 refine CA [(0,0)] (kA code c hb) ?_
 try simp only [go_sem,seval]
 refine CA [(0,0)] (kA code (jH code c).2 hb) ?_
 try simp only [go_sem,seval]
 refine CA [(0,0)] (kA code (jH code (jH code c).2).2 hb) ?_
 try simp only [go_sem,seval]
 refine CA [(0,0)] (kA code (jH code (jH code (jH code c).2).2).2 hb) ?_
 try simp only [go_sem,seval]
 repeat refine K ?_
 apply wP
 ·exact Sub.refl _
 ·simp [-wAs,-gD,qR,h0,h1]<;>(first | rfl | exact ⟨rfl,rfl⟩ | exact ⟨rfl,rfl,rfl⟩ | skip)
def mY (code:List Int) (c:Cur) (n:Int):Bool×Cur:=(decide ((qR code c n).1=0),(qR code c n).2)
theorem qRe (code:List Int) (c:Cur) (n:Int) (hb:code.length<2^62):wB Try.prog num 40 [.ptr 0 0 0,.int .i64 n] [(0,some (3,[iL code c]),some (3,[iL code (mY code c n).2]))] (.bool (mY code c n).1):=by
 refine EH m40 Try.func98 ?_
 unfold m40
 simp only [go_sem,seval]
 refine CA [(0,0)] (yS code c n hb) ?_
 try simp only [go_sem,seval]
 refine fz ?_; simp [jE,wL,wN,yF,-wAs]
 simp [mY]
def sG (code:List Int) (c:Cur) (l:List Int):Int×Cur:=(l.getD (qR code c l.length).1.toNat 0,(qR code c l.length).2)
theorem qJ1 (code:List Int) (c:Cur) (l:List Int) (hb:code.length<2^62) (hl:0<l.length):wB Try.prog num 56 [.ptr 0 0 0,.sl .bw 1 (wK l)] [(0,some (3,[iL code c]),some (3,[iL code (sG code c l).2]))] (.int .i64 (sG code c l).1):=by
 refine EH m56 Try.func74 ?_
 unfold m56
 simp only [go_sem,seval]
 refine CA [(0,0)] (yS code c l.length hb) ?_
 try simp only [go_sem,seval]
 have h:=yZ code c l.length (by omega)
 have h2:(qR code c l.length).1.toNat<l.length:=by omega
 try simp only [go_sem,seval,qJ l _ h2]
 repeat refine K ?_
 refine fz ?_; simp [jE,wL,wN,yF,-wAs]
 simp [sG]
theorem qU1 (a b:Int):wB Try.prog num 98 [.int .i64 a,.int .i64 b] [] (.int .i64 (if b<a then a else b)):=by
 have h:=qRf a b
 have e:max a b=if b<a then a else b:=by split<;>omega
 rw [e] at h
 exact h
def qUb (h x:Int):Int:=qMf .i64 (IntKind.i64.wrap (IntKind.i64.wrap (IntKind.i64.wrap (h*131)+IntKind.i64.wrap x)+7)) 1073741823
def lK (code:List Int) (i:Nat):Int:=(code.take i).foldl qUb (IntKind.i64.wrap (18813+code.length))
def qAi (code:List Int):Cur:=⟨0,lK code 4000⟩
theorem qLm (code:List Int) (i:Nat) (h:i<code.length):lK code (i+1)=qUb (lK code i) (code.getD i 0):=by
 unfold lK
 rw [gJ code 0 i h,List.foldl_append]
 rfl
theorem qU0 (code:List Int) (hb:code.length<2^62):wB Try.prog num 37 [.sl .fz 1 (bys code)] [(10,none,some (3,[iL code (qAi code)]))] (.ptr 10 0 0):=by
 refine EH m37 Try.func21 ?_
 unfold m37
 simp only [go_sem,seval]
 refine wR (ι:=Nat) (fun i=>.mk [(0,.sl .fz 1 (bys code)),(3,.int .i64 (lK code i)),(4,.int .i64 i)] [] 10) (fun i=>i≤code.length∧i≤4000) (fun i=>code.length-i) 0 (by simp) ?_ ?_
 ·refine Sub.shape [] id (by omega) ?_ ?_ ?_ ?_<;>simp [qU]
  simp [lK]
 ·rintro i ⟨hi,hi2⟩
  have hfin :¬(i:Int)<4000∨¬(i:Int)<code.length→lK code i=lK code 4000:=by
   rintro (h | h)
   ·have:i=4000:=by omega
    rw [this]
   ·unfold lK
    rw [qZh (by omega),qZh (by omega)]
  by_cases h1:(i:Int)<code.length
  ·have h1':i<code.length:=by omega
   by_cases h2:(i:Int)<4000
   ·have hs:=qLm code i h1'
    unfold qUb at hs
    simp only [go_sem,seval,h1,h2,qM6 code i h1',←hs,wD (i:=i) (by omega)]
    repeat refine K ?_
    refine wC (i+1) ?_ ⟨h1',by omega⟩ (by omega)
    refine Sub.shape [] id (by omega) ?_ ?_ ?_ ?_<;>simp [qU]
   ·have he:=hfin (.inl h2)
    simp only [go_sem,seval,h1,h2,he]
    apply wP
    ·exact Sub.refl _
    ·simp [-wAs,-gD,qAi]<;>(first | rfl | exact ⟨rfl,rfl⟩ | exact ⟨rfl,rfl,rfl⟩ | skip)
  ·have he:=hfin (.inr h1)
   simp only [go_sem,seval,h1,he]
   apply wP
   ·exact Sub.refl _
   ·simp [-wAs,-gD,qAi]<;>(first | rfl | exact ⟨rfl,rfl⟩ | exact ⟨rfl,rfl,rfl⟩ | skip)
def qPm (code:List Int) (places r a b n k:Int) (c:Cur):Ins×Cur :=
 if k=0∨k=1 then (⟨1,r,0,0,IntKind.i64.wrap ((qR code c 9).1-2)⟩,(qR code c 9).2)
 else if k=2∨k=3 then (⟨IntKind.i64.wrap (2+(qR code c 3).1),r,a,b,0⟩,(qR code c 3).2)
 else if k=4∨k=5∨k=6 then (⟨5,0,a,0,n⟩,c)
 else if k=7∨k=8∨k=9 then (⟨6,r,0,(IntKind.i64.wrap (r+1)).tmod 4,n⟩,c)
 else if k=10 then (⟨7,r,a,0,n⟩,c)
 else if k=11 then (⟨8,r,0,(IntKind.i64.wrap (r+1)).tmod 4,n⟩,c)
 else if k=12 then (if (mY code c 3).1 then (⟨9,0,0,0,n⟩,(mY code c 3).2) else (⟨11,0,0,0,(qR code (mY code c 3).2 places).1⟩,(qR code (mY code c 3).2 places).2))
 else if k=13 then (⟨12,0,a,0,(qR code c places).1⟩,(qR code c places).2)
 else (⟨10,0,a,0,0⟩,c)
def qU9 (code:List Int) (places wA:Int) (r a b:Int) (c:Cur):Ins×Cur :=
 qPm code places r a b (qR code c (if 1<wA then wA else 1)).1 (qR code (qR code c (if 1<wA then wA else 1)).2 16).1 (qR code (qR code c (if 1<wA then wA else 1)).2 16).2
def sV (code:List Int) (c:Cur) (places wA:Int):Ins×Cur :=
 qU9 code places wA (qR code c 4).1 (qR code (qR code c 4).2 4).1 (qR code (qR code (qR code c 4).2 4).2 4).1 (qR code (qR code (qR code c 4).2 4).2 4).2
theorem qJ2 (code:List Int) (c:Cur) (places wA:Int) (hb:code.length<2^62):wB Try.prog num 91 [.ptr 0 0 0,.int .i64 places,.int .i64 wA] [(0,some (3,[iL code c]),some (3,[iL code (sV code c places wA).2]))] (.agg (dZ (sV code c places wA).1)):=by
 refine EH m91 Try.func73 ?_
 unfold m91 sV
 simp only [go_sem,seval]
 refine CA [(0,0)] (yS code c 4 hb) ?_
 try simp only [go_sem,seval]
 generalize qR code c 4=r
 refine CA [(0,0)] (yS code r.2 4 hb) ?_
 try simp only [go_sem,seval]
 generalize qR code r.2 4=a
 refine CA [(0,0)] (yS code a.2 4 hb) ?_
 try simp only [go_sem,seval]
 generalize qR code a.2 4=b
 unfold qU9
 refine CA [] (qU1 wA 1) ?_
 try simp only [go_sem,seval]
 refine CA [(0,0)] (yS code b.2 (if 1<wA then wA else 1) hb) ?_
 try simp only [go_sem,seval]
 generalize qR code b.2 (if 1<wA then wA else 1)=n
 refine CA [(0,0)] (yS code n.2 16 hb) ?_
 try simp only [go_sem,seval]
 generalize qR code n.2 16=k
 obtain ⟨k,d⟩:=k
 simp only
 unfold qPm
 by_cases h0:k=0
 ·subst h0
  try simp only [go_sem,seval,reduceCtorEq]
  refine CA [(0,0)] (yS code d 9 hb) ?_
  try simp only [go_sem,seval]
  apply wP
  ·exact Sub.refl _
  ·simp [-wAs,-gD,dZ]<;>(first | rfl | exact ⟨rfl,rfl⟩ | exact ⟨rfl,rfl,rfl⟩ | skip)
 by_cases h1:k=1
 ·subst h1
  try simp only [go_sem,seval,reduceCtorEq]
  refine CA [(0,0)] (yS code d 9 hb) ?_
  try simp only [go_sem,seval]
  apply wP
  ·exact Sub.refl _
  ·simp [-wAs,-gD,dZ]<;>(first | rfl | exact ⟨rfl,rfl⟩ | exact ⟨rfl,rfl,rfl⟩ | skip)
 by_cases h2:k=2
 ·subst h2
  try simp only [go_sem,seval,reduceCtorEq]
  refine CA [(0,0)] (yS code d 3 hb) ?_
  try simp only [go_sem,seval]
  apply wP
  ·exact Sub.refl _
  ·simp [-wAs,-gD,dZ]<;>(first | rfl | exact ⟨rfl,rfl⟩ | exact ⟨rfl,rfl,rfl⟩ | skip)
 by_cases h3:k=3
 ·subst h3
  try simp only [go_sem,seval,reduceCtorEq]
  refine CA [(0,0)] (yS code d 3 hb) ?_
  try simp only [go_sem,seval]
  apply wP
  ·exact Sub.refl _
  ·simp [-wAs,-gD,dZ]<;>(first | rfl | exact ⟨rfl,rfl⟩ | exact ⟨rfl,rfl,rfl⟩ | skip)
 by_cases h4:k=4
 ·subst h4
  try simp only [go_sem,seval,reduceCtorEq]
  apply wP
  ·exact Sub.refl _
  ·simp [-wAs,-gD,dZ]<;>(first | rfl | exact ⟨rfl,rfl⟩ | exact ⟨rfl,rfl,rfl⟩ | skip)
 by_cases h5:k=5
 ·subst h5
  try simp only [go_sem,seval,reduceCtorEq]
  apply wP
  ·exact Sub.refl _
  ·simp [-wAs,-gD,dZ]<;>(first | rfl | exact ⟨rfl,rfl⟩ | exact ⟨rfl,rfl,rfl⟩ | skip)
 by_cases h6:k=6
 ·subst h6
  try simp only [go_sem,seval,reduceCtorEq]
  apply wP
  ·exact Sub.refl _
  ·simp [-wAs,-gD,dZ]<;>(first | rfl | exact ⟨rfl,rfl⟩ | exact ⟨rfl,rfl,rfl⟩ | skip)
 by_cases h7:k=7
 ·subst h7
  try simp only [go_sem,seval,reduceCtorEq]
  apply wP
  ·exact Sub.refl _
  ·simp [-wAs,-gD,dZ]<;>(first | rfl | exact ⟨rfl,rfl⟩ | exact ⟨rfl,rfl,rfl⟩ | skip)
 by_cases h8:k=8
 ·subst h8
  try simp only [go_sem,seval,reduceCtorEq]
  apply wP
  ·exact Sub.refl _
  ·simp [-wAs,-gD,dZ]<;>(first | rfl | exact ⟨rfl,rfl⟩ | exact ⟨rfl,rfl,rfl⟩ | skip)
 by_cases h9:k=9
 ·subst h9
  try simp only [go_sem,seval,reduceCtorEq]
  apply wP
  ·exact Sub.refl _
  ·simp [-wAs,-gD,dZ]<;>(first | rfl | exact ⟨rfl,rfl⟩ | exact ⟨rfl,rfl,rfl⟩ | skip)
 by_cases h10:k=10
 ·subst h10
  try simp only [go_sem,seval,reduceCtorEq]
  apply wP
  ·exact Sub.refl _
  ·simp [-wAs,-gD,dZ]<;>(first | rfl | exact ⟨rfl,rfl⟩ | exact ⟨rfl,rfl,rfl⟩ | skip)
 by_cases h11:k=11
 ·subst h11
  try simp only [go_sem,seval,reduceCtorEq]
  apply wP
  ·exact Sub.refl _
  ·simp [-wAs,-gD,dZ]<;>(first | rfl | exact ⟨rfl,rfl⟩ | exact ⟨rfl,rfl,rfl⟩ | skip)
 by_cases h12:k=12
 ·subst h12
  try simp only [go_sem,seval,reduceCtorEq]
  refine CA [(0,0)] (qRe code d 3 hb) ?_
  try simp only [go_sem,seval]
  cases ho:(mY code d 3).1
  ·try simp only [go_sem,seval,ho]
   refine CA [(0,0)] (yS code (mY code d 3).2 places hb) ?_
   try simp only [go_sem,seval]
   apply wP
   ·exact Sub.refl _
   ·simp [-wAs,-gD,ho]<;>(first | rfl | exact ⟨rfl,rfl⟩ | exact ⟨rfl,rfl,rfl⟩ | skip)
  ·try simp only [go_sem,seval,ho]
   apply wP
   ·exact Sub.refl _
   ·simp [-wAs,-gD,ho]<;>(first | rfl | exact ⟨rfl,rfl⟩ | exact ⟨rfl,rfl,rfl⟩ | skip)
 by_cases h13:k=13
 ·subst h13
  try simp only [go_sem,seval,reduceCtorEq]
  refine CA [(0,0)] (yS code d places hb) ?_
  try simp only [go_sem,seval]
  apply wP
  ·exact Sub.refl _
  ·simp [-wAs,-gD,dZ]<;>(first | rfl | exact ⟨rfl,rfl⟩ | exact ⟨rfl,rfl,rfl⟩ | skip)
 try simp only [go_sem,seval,h0,h1,h2,h3,h4,h5,h6,h7,h8,h9,h10,h11,h12,h13]
 apply wP
 ·exact Sub.refl _
 ·simp [-wAs,-gD,dZ,h0,h1,h2,h3,h4,h5,h6,h7,h8,h9,h10,h11,h12,h13]<;>(first | rfl | exact ⟨rfl,rfl⟩ | exact ⟨rfl,rfl,rfl⟩ | skip)
def xK {β:Type} (step:Cur→β×Cur):Nat→Cur→List β×Cur
 | 0,c=>([],c)
 | n+1,c=>((xK step n c).1++[(step (xK step n c).2).1],(step (xK step n c).2).2)
@[simp] theorem cA {β:Type} (step:Cur→β×Cur) (c:Cur) :∀(n:Nat),(xK step n c).1.length=n
 | 0=>rfl
 | n+1=>by simp [xK,cA step c n]
def qJv (code:List Int) (wA n m k:Int) (c:Cur):List Ins×Cur :=
 if k=0 then ([⟨1,0,0,0,3⟩,⟨1,1,0,0,1⟩,⟨5,0,0,0,n⟩,⟨3,0,0,1,0⟩,⟨12,0,0,0,6⟩,⟨11,0,0,0,2⟩,⟨13,0,0,0,0⟩],c)
 else if k=1 then ([⟨6,0,0,1,n⟩,⟨12,0,1,0,4⟩,⟨10,0,0,0,0⟩,⟨11,0,0,0,0⟩,⟨13,0,0,0,0⟩],c)
 else if k=2 then ([⟨6,0,0,1,n⟩,⟨2,0,0,1,0⟩,⟨5,0,0,0,m⟩,⟨10,0,0,0,0⟩,⟨11,0,0,0,0⟩],c)
 else if k=3 then ([⟨1,2,0,0,5⟩,⟨7,3,2,0,n⟩,⟨8,0,0,1,m⟩,⟨10,0,1,0,0⟩,⟨2,2,2,3,0⟩,⟨11,0,0,0,1⟩],c)
 else
  ((xK (fun d=>sV code d (2+(qR code c 9).1+1) wA) (2+(qR code c 9).1).toNat (qR code c 9).2).1++[⟨(sG code (xK (fun d=>sV code d (2+(qR code c 9).1+1) wA) (2+(qR code c 9).1).toNat (qR code c 9).2).2 [13,11]).1,0,0,0,0⟩],
   (sG code (xK (fun d=>sV code d (2+(qR code c 9).1+1) wA) (2+(qR code c 9).1).toNat (qR code c 9).2).2 [13,11]).2)
def qJu (code:List Int) (wA n m:Int) (c:Cur):List Ins×Cur:=qJv code wA n m (qR code c 5).1 (qR code c 5).2
def fF (code:List Int) (c:Cur) (wA:Int):List Ins×Cur :=
 qJu code wA (qR code c wA).1 (qR code (qR code c wA).2 wA).1 (qR code (qR code c wA).2 wA).2
theorem qJt (code:List Int) (c:Cur) (wA:Int):1≤(fF code c wA).1.length∧(fF code c wA).1.length≤24:=by
 unfold fF qJu
 generalize qR code (qR code (qR code c wA).2 wA).2 5=k
 unfold qJv
 have h:=yZ code k.2 9 (by omega)
 repeat' split
 all_goals first | (simp; done) | (simp; omega)
theorem qFx (code:List Int) (c:Cur) (wA:Int) (hb:code.length<2^62):wB Try.prog num 77 [.ptr 0 0 0,.int .i64 wA] [(0,some (3,[iL code c]),some (3,[iL code (fF code c wA).2]))] (.sl .own 5 (vC (fF code c wA).1)):=by
 refine EH m77 Try.func46 ?_
 unfold m77 fF
 simp only [go_sem,seval]
 refine CA [(0,0)] (yS code c wA hb) ?_
 try simp only [go_sem,seval]
 generalize qR code c wA=n
 refine CA [(0,0)] (yS code n.2 wA hb) ?_
 try simp only [go_sem,seval]
 generalize qR code n.2 wA=m
 unfold qJu
 refine CA [(0,0)] (yS code m.2 5 hb) ?_
 try simp only [go_sem,seval]
 generalize qR code m.2 5=k
 obtain ⟨k,d⟩:=k
 simp only
 unfold qJv
 by_cases h0:k=0
 ·subst h0
  try simp only [go_sem,seval,reduceCtorEq]
  apply wP
  ·exact Sub.refl _
  ·simp [-wAs,-gD,vC,dZ]<;>(first | rfl | exact ⟨rfl,rfl⟩ | exact ⟨rfl,rfl,rfl⟩ | skip)
 by_cases h1:k=1
 ·subst h1
  try simp only [go_sem,seval,reduceCtorEq]
  apply wP
  ·exact Sub.refl _
  ·simp [-wAs,-gD,vC,dZ]<;>(first | rfl | exact ⟨rfl,rfl⟩ | exact ⟨rfl,rfl,rfl⟩ | skip)
 by_cases h2:k=2
 ·subst h2
  try simp only [go_sem,seval,reduceCtorEq]
  apply wP
  ·exact Sub.refl _
  ·simp [-wAs,-gD,vC,dZ]<;>(first | rfl | exact ⟨rfl,rfl⟩ | exact ⟨rfl,rfl,rfl⟩ | skip)
 by_cases h3:k=3
 ·subst h3
  try simp only [go_sem,seval,reduceCtorEq]
  apply wP
  ·exact Sub.refl _
  ·simp [-wAs,-gD,vC,dZ]<;>(first | rfl | exact ⟨rfl,rfl⟩ | exact ⟨rfl,rfl,rfl⟩ | skip)
 simp only [if_neg h0,if_neg h1,if_neg h2,if_neg h3]
 try simp only [go_sem,seval,h0,h1,h2,h3]
 refine CA [(0,0)] (yS code d 9 hb) ?_
 try simp only [go_sem,seval]
 have hr:=yZ code d 9 (by omega)
 generalize qR code d 9=r at hr
 obtain ⟨r,e⟩:=r
 simp only at hr⊢
 have w1:IntKind.i64.wrap (2+r)=2+r:=yQ (by omega) (by omega)
 have w2:IntKind.i64.wrap (2+r+1)=2+r+1:=yQ (by omega) (by omega)
 try simp only [go_sem,seval,w1]
 refine wR (ι:=Nat) (fun i=>.mk [(0,.ptr 0 0 0),(1,.int .i64 wA),(7,.int .i64 (2+r)),(8,.ns 10 0 i),(9,.int .i64 i)] [(0,3,[iL code (xK (fun d=>sV code d (2+r+1) wA) i e).2]),(10,5,vC (xK (fun d=>sV code d (2+r+1) wA) i e).1)] 11) (fun i=>i≤(2+r).toNat) (fun i=>(2+r).toNat-i) 0 (by simp) ?_ ?_
 ·refine Sub.shape [] id (by omega) ?_ ?_ ?_ ?_<;>simp [qU]
  all_goals simp [xK,vC]
 ·intro i hi
  simp only [go_sem,seval]
  refine qZ (fun hc=>?_) (fun hc=>?_)
  ·simp only [decide_eq_true_eq] at hc
   simp only [go_sem,seval,w2,wD (i:=i) (by omega)]
   refine CA [(0,0)] (qJ2 code (xK (fun d=>sV code d (2+r+1) wA) i e).2 (2+r+1) wA hb) ?_
   try simp only [go_sem,seval]
   repeat refine K ?_
   try simp only [go_sem,seval,wD (i:=i) (by omega),cA]
   refine wC (i+1) ?_ (by omega) (by omega)
   simp only [xK]
   refine Sub.shape [] (fun n=>if n=10 then 12 else n) (by omega) ?_ ?_ ?_ ?_<;>simp [qU]
   exact .inl (by simp [vC,dZ])
  ·simp only [decide_eq_false_iff_not] at hc
   have hie:i=(2+r).toNat:=by omega
   subst hie
   have hl:wK [13,11]=[[AV.int .i64 13],[.int .i64 11]]:=rfl
   simp only [go_sem,seval,←hl]
   refine CA [(0,0)] (qJ1 code (xK (fun d=>sV code d (2+r+1) wA) (2+r).toNat e).2 [13,11] hb (by decide)) ?_
   try simp only [go_sem,seval]
   repeat refine K ?_
   apply wP
   ·exact Sub.refl _
   ·simp [-wAs,-gD,dZ,vC]<;>(first | rfl | exact ⟨rfl,rfl⟩ | exact ⟨rfl,rfl,rfl⟩ | skip)
def dE {β:Type} (code:List Int) (base m:Int) (step:Cur→β×Cur):Nat→Nat→Cur→List β→List β×Cur
 | 0,_,c,acc=>(acc,(qR code c m).2)
 | f+1,i,c,acc=>if (i:Int)<base+(qR code c m).1 then dE code base m step f (i+1) (step (qR code c m).2).2 (acc++[(step (qR code c m).2).1]) else (acc,(qR code c m).2)
theorem qHk {β:Type} {code:List Int} {base m:Int} {step:Cur→β×Cur} {N i:Nat} {c:Cur} {acc:List β} (hi:i<N) (h:(i:Int)<base+(qR code c m).1) :
  dE code base m step (N-i) i c acc=dE code base m step (N-(i+1)) (i+1) (step (qR code c m).2).2 (acc++[(step (qR code c m).2).1]):=by
 have:N-i=(N-(i+1))+1:=by omega
 rw [this]
 simp only [dE,if_pos h]
theorem qBq {β:Type} {code:List Int} {base m:Int} {step:Cur→β×Cur} {f i:Nat} {c:Cur} {acc:List β} (h :¬(i:Int)<base+(qR code c m).1) :
  dE code base m step f i c acc=(acc,(qR code c m).2):=by
 cases f with
 | zero=>rfl
 | succ f=>simp only [dE,if_neg h]
theorem eB {β:Type} {code:List Int} {base m:Int} {step:Cur→β×Cur} :∀(f i:Nat) (c:Cur) (acc:List β),acc.length≤(dE code base m step f i c acc).1.length∧(dE code base m step f i c acc).1.length≤acc.length+f
 | 0,_,_,acc=>by simp [dE]
 | f+1,i,c,acc=>by
  simp only [dE]
  split
  ·have:=eB (code:=code) (base:=base) (m:=m) (step:=step) f (i+1) (step (qR code c m).2).2 (acc++[(step (qR code c m).2).1])
   simp only [qZo,List.length_cons,List.length_nil] at this
   omega
  ·simp
theorem qNs {β:Type} {code:List Int} {base m:Int} {step:Cur→β×Cur} (f:Nat) (c:Cur) (hb:0<base) (hm:0<m):1≤(dE code base m step (f+1) 0 c []).1.length:=by
 have:=yZ code c m hm
 simp only [dE]
 rw [if_pos (by omega)]
 have h2:=(eB (code:=code) (base:=base) (m:=m) (step:=step) f (0+1) (step (qR code c m).2).2 ([]++[(step (qR code c m).2).1])).1
 simpa using h2
theorem lN {β:Type} {code:List Int} {base m:Int} {step:Cur→β×Cur} {Q:β→Prop} (hs :∀c,Q (step c).1) :∀(f i:Nat) (c:Cur) (acc:List β),(∀x∈acc,Q x)→∀x∈(dE code base m step f i c acc).1,Q x
 | 0,_,_,acc,h=>h
 | f+1,i,c,acc,h=>by
  simp only [dE]
  split
  ·refine lN hs f (i+1) _ _ fun x hx=>?_
   rcases List.mem_append.1 hx with hx | hx
   ·exact h x hx
   ·rw [List.mem_singleton.1 hx]
    exact hs _
  ·exact h
def eM (code:List Int) (n:Nat) (c:Cur):List Int×Cur:=xK (fun d=>(IntKind.i64.wrap (1+(qR code d 4).1),(qR code d 4).2)) n c
def qCn (code:List Int) (n:Int) (c:Cur):wT×Cur :=
 (⟨(eM code n.toNat c).1,(dE code 1 4 (fun d=>fF code d n) 4 0 (eM code n.toNat c).2 []).1⟩,(dE code 1 4 (fun d=>fF code d n) 4 0 (eM code n.toNat c).2 []).2)
def dY (code:List Int) (c:Cur):wT×Cur:=qCn code (1+(qR code c 3).1) (qR code c 3).2
theorem lT (code:List Int) (n:Nat) (c:Cur):(eM code n c).1.length=n:=cA _ _ _
theorem qMa (l:List (List Ins)) (b:List Ins):yO .own l++[[.sl .own 5 (vC b)]]=yO .own (l++[b]):=by simp [yO]
theorem qEd (code:List Int) (c:Cur) (hb:code.length<2^62):wB Try.prog num 55 [.ptr 0 0 0] [(0,some (3,[iL code c]),some (3,[iL code (dY code c).2]))] (.agg (gY .own (dY code c).1)):=by
 refine EH m55 Try.func22 ?_
 unfold m55 dY
 simp only [go_sem,seval]
 refine CA [(0,0)] (yS code c 3 hb) ?_
 try simp only [go_sem,seval]
 have hn:=yZ code c 3 (by omega)
 generalize qR code c 3=r at hn
 obtain ⟨r,d⟩:=r
 simp only at hn⊢
 have w1:IntKind.i64.wrap (1+r)=1+r:=yQ (by omega) (by omega)
 try simp only [go_sem,seval,w1]
 obtain ⟨n,hn2⟩:=Int.eq_ofNat_of_zero_le (show 0≤1+r by omega)
 rw [hn2]
 unfold qCn
 refine wR (ι:=Nat) (fun i=>.mk [(0,.ptr 0 0 0),(2,.ptr 10 0 0),(3,.ptr 11 0 0),(4,.int .i64 n),(5,.int .i64 i)] [(0,3,[iL code (eM code i d).2]),(10,2,[[.nil,.nil]]),(11,2,[[.sl .own 1 (wK (eM code i d).1),.nil]])] 12) (fun i=>i≤n) (fun i=>n-i) 0 (by simp) ?_ ?_
 ·refine Sub.shape [] id (by omega) ?_ ?_ ?_ ?_<;>simp [qU]
  all_goals simp [eM,xK,sU]
 ·intro i hi
  have hcl:=lT code i d
  simp only [go_sem,seval]
  refine qZ (fun hc=>?_) (fun hc=>?_)
  ·simp only [decide_eq_true_eq] at hc
   simp only [go_sem,seval,wD (i:=i) (by omega),hcl]
   repeat refine K ?_
   refine DA [(0,0)] (yS code (eM code i d).2 4 hb) ?_
   try simp only [go_sem,seval]
   repeat refine K ?_
   try simp only [go_sem,seval,wD (i:=i) (by omega),hcl]
   refine wC (i+1) ?_ (by omega) (by omega)
   have hs:eM code (i+1) d=((eM code i d).1++[IntKind.i64.wrap (1+(qR code (eM code i d).2 4).1)],(qR code (eM code i d).2 4).2):=rfl
   refine Sub.trans (Sub.fold1 11 0 14 rfl (by simp [-gD]<;>omega) rfl (by decide) (by decide) rfl) ?_
   simp only [fS,qA,qC,oP,hcl]
   rw [hs]
   refine Sub.shape [] id (by omega) ?_ ?_ ?_ ?_<;>simp [qU]
  ·simp only [decide_eq_false_iff_not] at hc
   have hie:i=n:=by omega
   subst hie
   simp only [go_sem,seval]
   obtain ⟨p,hp⟩ :∃p,eM code i d=p:=⟨_,rfl⟩
   obtain ⟨cs,e⟩:=p
   rw [hp] at hcl⊢
   simp only at hcl⊢
   refine wR (ι:=Nat×Cur×List (List Ins)) (fun s=>.mk [(0,.ptr 0 0 0),(2,.ptr 10 0 0),(3,.ptr 11 0 0),(4,.int .i64 i),(6,.int .i64 s.1)] [(0,3,[iL code s.2.1]),(10,2,[[.nil,.nil]]),(11,2,[[.sl .own 1 (wK cs),.sl .own 1 (yO .own s.2.2)]])] 12) (fun s=>s.1≤4∧s.2.2.length=s.1∧dE code 1 4 (fun d=>fF code d i) (4-s.1) s.1 s.2.1 s.2.2=dE code 1 4 (fun d=>fF code d i) 4 0 e []) (fun s=>4-s.1) (0,e,[]) ⟨by simp,rfl,rfl⟩ ?_ ?_
   ·refine Sub.shape [] id (by omega) ?_ ?_ ?_ ?_<;>simp [qU]
   ·rintro ⟨j,f,acc⟩ ⟨hj,hl,hd⟩
    simp only at hj hl hd⊢
    simp only [go_sem,seval]
    refine CA [(0,0)] (yS code f 4 hb) ?_
    try simp only [go_sem,seval]
    have hr:=yZ code f 4 (by omega)
    have w2:IntKind.i64.wrap (1+(qR code f 4).1)=1+(qR code f 4).1:=yQ (by omega) (by omega)
    try simp only [go_sem,seval,w2]
    refine qZ (fun hc=>?_) (fun hc=>?_)
    ·simp only [decide_eq_true_eq] at hc
     have hg:=qHk (code:=code) (base:=1) (m:=4) (step:=fun d=>fF code d i) (N:=4) (i:=j) (c:=f) (acc:=acc) (by omega) hc
     rw [hg] at hd
     try simp only at hd
     simp only [go_sem,seval,wD (i:=j) (by omega),hl]
     repeat refine K ?_
     refine DA [(0,0)] (qFx code (qR code f 4).2 i hb) ?_
     try simp only [go_sem,seval]
     repeat refine K ?_
     try simp only [go_sem,seval,wD (i:=j) (by omega),hl]
     refine wC (j+1,(fF code (qR code f 4).2 i).2,acc++[(fF code (qR code f 4).2 i).1]) ?_ ⟨by simp only; omega,by simp only [qZo,hl]; rfl,hd⟩ (by simp only; omega)
     refine Sub.trans (Sub.foldLast 15 0 13 rfl (by simp [-gD]<;>omega) rfl (by decide) (by decide) rfl) ?_
     simp only [fS,qA,qC,qMa]
     refine Sub.trans (Sub.fold1 11 1 15 rfl (by simp [-gD]<;>omega) rfl (by decide) (by decide) rfl) ?_
     simp only [fS,qA,qC,hl]
     refine Sub.shape [] id (by omega) ?_ ?_ ?_ ?_<;>simp [qU]
    ·simp only [decide_eq_false_iff_not] at hc
     rw [qBq hc] at hd
     simp only [go_sem,seval]
     rw [←hd]
     apply wP
     ·exact Sub.refl _
     ·simp [-wAs,-gD,]<;>(first | rfl | exact ⟨rfl,rfl⟩ | exact ⟨rfl,rfl,rfl⟩ | skip)
theorem qGp (code:List Int) (c:Cur):1≤(dY code c).1.caps.length∧(dY code c).1.caps.length≤3∧1≤(dY code c).1.bods.length∧(dY code c).1.bods.length≤4∧∀b∈(dY code c).1.bods,1≤b.length∧b.length≤24:=by
 unfold dY
 have hn:=yZ code c 3 (by omega)
 generalize qR code c 3=r at hn
 obtain ⟨r,d⟩:=r
 simp only at hn⊢
 unfold qCn
 have h1:=lT code (1+r).toNat d
 generalize eM code (1+r).toNat d=p at h1
 obtain ⟨cs,e⟩:=p
 simp only at h1⊢
 refine ⟨by omega,by omega,qNs 3 e (by omega) (by omega),?_,lN (Q:=fun (b:List Ins)=>1≤b.length∧b.length≤24) (fun c=>qJt code c (1+r)) 4 0 e [] (by simp)⟩
 exact (eB 4 0 e []).2
theorem qUa (code:List Int) (places r a b n k wA:Int) (c:Cur) (hp:1≤places) (hr:0≤r∧r<4) (ha:0≤a∧a<4) (hb:0≤b∧b<4) (hn:0≤n∧n<wA) (hc:wA≤3):jR (qPm code places r a b n k c).1 places wA=true:=by
 have h9:=yZ code c 9 (by omega)
 have h3:=yZ code c 3 (by omega)
 have hq:=yZ code c places (by omega)
 have hq2:=yZ code (mY code c 3).2 places (by omega)
 have w1:IntKind.i64.wrap ((qR code c 9).1-2)=(qR code c 9).1-2:=yQ (by omega) (by omega)
 have w2:IntKind.i64.wrap (2+(qR code c 3).1)=2+(qR code c 3).1:=yQ (by omega) (by omega)
 have hb4:0≤(IntKind.i64.wrap (r+1)).tmod 4∧(IntKind.i64.wrap (r+1)).tmod 4<4∧r≠(IntKind.i64.wrap (r+1)).tmod 4:=by
  obtain rfl | rfl | rfl | rfl:r=0∨r=1∨r=2∨r=3:=by omega
  all_goals decide
 unfold qPm
 rw [w1,w2]
 generalize (IntKind.i64.wrap (r+1)).tmod 4=b4 at hb4
 generalize qR code (mY code c 3).2 places=z2 at *
 generalize qR code c places=z1 at *
 generalize qR code c 9=z9 at *
 generalize qR code c 3=z3 at *
 clear w1 w2
 split
 ·simp [jR,qK]
  omega
 ·split
  ·obtain e | e | e:z3.1=0∨z3.1=1∨z3.1=2:=by omega
   all_goals
    simp [jR,qK,e]
    omega
  ·split
   ·simp [jR,qK]
    omega
   ·split
    ·simp [jR,qK]
     omega
    ·split
     ·simp [jR,qK]
      omega
     ·split
      ·simp [jR,qK]
       omega
      ·split
       ·split
        ·simp [jR,qK]
         omega
        ·simp [jR,qK]
         omega
       ·split
        ·simp [jR,qK]
         omega
        ·simp [jR,qK]
         omega
theorem qWo (code:List Int) (c:Cur) (places wA:Int) (hp:1≤places) (h1:1≤wA) (h3:wA≤3):jR (sV code c places wA).1 places wA=true:=by
 have r1:=yZ code c 4 (by omega)
 have r2:=yZ code (qR code c 4).2 4 (by omega)
 have r3:=yZ code (qR code (qR code c 4).2 4).2 4 (by omega)
 have hm:(if 1<wA then wA else 1)=wA:=by split<;>omega
 unfold sV qU9
 rw [hm]
 have r4:=yZ code (qR code (qR code (qR code c 4).2 4).2 4).2 wA (by omega)
 exact qUa _ _ _ _ _ _ _ _ _ hp r1 r2 r3 r4 h3
theorem qAm {β:Type} {step:Cur→β×Cur} {Q:β→Prop} (h :∀c,Q (step c).1) :∀(n:Nat) (c:Cur),∀x∈(xK step n c).1,Q x
 | 0,c,x,hx=>by simp [xK] at hx
 | n+1,c,x,hx=>by
  simp only [xK] at hx
  rcases List.mem_append.1 hx with hx | hx
  ·exact qAm h n c x hx
  ·rw [List.mem_singleton.1 hx]
   exact h _
theorem qV8 (code:List Int) (c:Cur) (wA:Int) (h1:1≤wA) (h3:wA≤3):wJ (fF code c wA).1 wA=true:=by
 have hn:=yZ code c wA (by omega)
 have hm:=yZ code (qR code c wA).2 wA (by omega)
 unfold fF qJu
 generalize (qR code (qR code c wA).2 wA).1=m at hm
 generalize (qR code (qR code (qR code c wA).2 wA).2 5)=k
 generalize (qR code c wA).1=n at hn
 unfold qJv
 split
 ·simp [wJ,jR,qK,aD]
  omega
 ·split
  ·simp [wJ,jR,qK,aD]
   omega
  ·split
   ·simp [wJ,jR,qK,aD]
    omega
   ·split
    ·simp [wJ,jR,qK,aD]
     omega
    ·have h9:=yZ code k.2 9 (by omega)
     generalize qR code k.2 9=z at h9
     have hl:=cA (fun d=>sV code d (2+z.1+1) wA) z.2 (2+z.1).toNat
     have ha:=qAm (Q:=fun x=>jR x (2+z.1+1) wA=true) (fun c=>qWo code c (2+z.1+1) wA (by omega) h1 h3) (2+z.1).toNat z.2
     generalize xK (fun d=>sV code d (2+z.1+1) wA) (2+z.1).toNat z.2=w at hl ha
     have hpk:(sG code w.2 [13,11]).1=13∨(sG code w.2 [13,11]).1=11:=by
      unfold sG
      have hb:=yZ code w.2 (([13,11]:List Int).length:Int) (by simp)
      simp only [List.length_cons,List.length_nil] at hb⊢
      obtain e | e:(qR code w.2 ((0+1+1:Nat):Int)).1=0∨(qR code w.2 ((0+1+1:Nat):Int)).1=1:=by omega
      ·rw [e]; exact .inl rfl
      ·rw [e]; exact .inr rfl
     generalize (sG code w.2 [13,11]).1=o at hpk
     have hlen:((w.1++[(⟨o,0,0,0,0⟩:Ins)]).length:Int)=2+z.1+1:=by
      rw [qZo,hl]
      simp
      omega
     simp only [wJ,hlen]
     simp only [Bool.and_eq_true,Bool.or_eq_true,decide_eq_true_eq,qK,List.all_append,wB2,List.mem_singleton,forall_eq]
     have hlo:aD (w.1++[(⟨o,0,0,0,0⟩:Ins)])=o:=by
      unfold aD
      simp [List.getD_eq_getElem?_getD]
     refine ⟨⟨⟨⟨by omega,h3⟩,by omega,by omega⟩,ha,?_⟩,by rw [hlo]; exact hpk⟩
     rcases hpk with rfl | rfl
     ·simp [jR,qK]
      omega
     ·simp [jR,qK]
      omega
theorem qV4 (code:List Int) (n:Nat) (c:Cur):zA (eM code n c).1=true:=by
 unfold zA eM
 rw [wB2]
 refine qAm (Q:=fun x=>qT x 1 4=true) (fun c=>?_) n c
 have h:=yZ code c 4 (by omega)
 simp only
 rw [yQ (by omega) (by omega),qK]
 omega
theorem qFu (code:List Int) (c:Cur):jF (dY code c).1=true:=by
 have hs:=qGp code c
 unfold dY at hs⊢
 have hn:=yZ code c 3 (by omega)
 generalize qR code c 3=r at hn hs
 obtain ⟨r,d⟩:=r
 simp only at hn hs⊢
 unfold qCn at hs⊢
 have h1:=lT code (1+r).toNat d
 have h2:=qV4 code (1+r).toNat d
 generalize eM code (1+r).toNat d=p at h1 h2 hs
 obtain ⟨cs,e⟩:=p
 simp only at h1 h2 hs⊢
 have hl:(cs.length:Int)=1+r:=by omega
 unfold jF
 simp only [Bool.and_eq_true,decide_eq_true_eq,qK,wB2]
 refine ⟨⟨⟨?_,by omega⟩,h2⟩,by omega⟩
 rw [hl]
 exact lN (Q:=fun (b:List Ins)=>wJ b (1+r)=true) (fun c=>qV8 code c (1+r) (by omega) (by omega)) 4 0 e [] (by simp)
def sO (n:Nat) (least most:Int):Int:=if most<least+(n:Int)/4 then most else least+(n:Int)/4
theorem qRg (code:List Int) (least most:Int) (hb:code.length<2^62) (h0:0≤least∧least<2^40):wB Try.prog num 213 [.sl .bw 1 (bys code),.int .i64 least,.int .i64 most] [] (.int .i64 (sO code.length least most)):=by
 have q0:Int.tdiv (code.length:Int) 4=(code.length:Int)/4:=Int.tdiv_eq_ediv_of_nonneg (by omega)
 have q1:IntKind.i64.wrap ((code.length:Int)/4)=(code.length:Int)/4:=yQ (by omega) (by omega)
 have q2:IntKind.i64.wrap (least+(code.length:Int)/4)=least+(code.length:Int)/4:=yQ (by omega) (by omega)
 refine EN m213 Try.func24 ?_
 unfold m213
 simp only [go_sem,seval,q0,q1,q2]
 by_cases h:most<least+(code.length:Int)/4
 ·try simp only [go_sem,seval,h,q0,q1,q2]
  refine fz ?_; simp [jE,wL,wN,yF,-wAs]
  simp [sO,h]
 ·try simp only [go_sem,seval,h,q0,q1,q2]
  refine fz ?_; simp [jE,wL,wN,yF,-wAs]
  simp [sO,h]
theorem qTt (n:Nat) {least most:Int} (h:least≤most):least≤sO n least most∧sO n least most≤most:=by
 unfold sO
 split<;>omega
theorem qXz (code:List Int):wB Try.prog num 19 [.sl .bw 1 (bys code)] [] (.bool (decide ((1048576:Int)<code.length))):=by
 refine EN m19 Try.func6 ?_
 unfold m19
 simp only [go_sem,seval]
 refine fz ?_; simp [jE,wL,wN,yF,-wAs]
end Go.Sep
