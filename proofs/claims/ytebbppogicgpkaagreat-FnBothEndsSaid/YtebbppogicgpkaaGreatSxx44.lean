/- Contracts of functions. -/
import Derived.Test.YtebbppogicgpkaaGreatSxx1
import Derived.Test.YtebbppogicgpkaaGreatSxx42
namespace Go.Sep
set_option maxHeartbeats 16000000
open Go.Proofs
set_option linter.unusedSimpArgs false
set_option linter.unusedVariables false
set_option maxRecDepth 100000
open Nat renaming reduceAdd → qA, reduceMul → qB, reduceEqDiff → qC, reduceBEq → qD
open Int renaming reduceToNat → qE, reduceEq → qF, reduceLT → qG, reduceLE → qH
open List renaming getD_eq_getElem?_getD → gD
def m19:MFn:=⟨6,[.t 2],kr [xF 2] (kR [xv 3 0,xe 4 3,bI 5 .gtr 4 1048576,xv 2 5])⟩
def m37:MFn:=⟨32,[.t 2],kr [xo 2 (.mv (.c (.nilp)))] (kr [xv 5 0,xe 6 5,xo 7 (.bin .add (xi 18813) (.t 6)),xv 3 7] (.seq (kr [xI 4 0] (.blk 0 (.loop (.seq (kr [xv 8 4,xv 9 0,xe 10 9,bT 11 .lss 8 10,xv 12 11,yv 13 4 12,yI 14 .lss 13 4000 12,xP 15 12 14] (kX 15 0)) (.seq (.blk 1 (xr [xv 18 3,bI 19 .mul 18 131,xv 20 0,xv 21 4,xD 22 1 20 21,xl 23 22,xo 24 (.cvi .i64 (.t 23)),bT 25 .add 19 24,bI 26 .add 25 7,bI 27 .«and» 26 1073741823,xv 3 27])) (xr [xv 16 4,bI 17 .add 16 1,xv 4 17])))))) (kR [xv 28 0,xv 29 3,xo 30 (.build [.nil,.int .i64 0,.int .i64 0] [(0,1,.t 28),(2,1,.t 29)]),xb 31 30,xv 2 31])))⟩
def m39:MFn:=⟨37,[.t 4],kr [xI 4 0] (.seq (kr [xv 9 1,bI 10 .leq 9 0] (kF 10 [xI 4 0])) (.seq (kr [xv 11 1,bI 12 .leq 11 256] (kF 12 [xv 13 0,xo 14 (.call 58 [true] [.t 13]),xv 15 1,bT 16 .rem 14 15,xv 4 16])) (kr [xv 17 0,xo 18 (.call 58 [true] [.t 17]),xv 5 18] (kr [xv 19 0,xo 20 (.call 58 [true] [.t 19]),xv 6 20] (kr [xv 21 0,xo 22 (.call 58 [true] [.t 21]),xv 7 22] (kr [xv 23 0,xo 24 (.call 58 [true] [.t 23]),xv 8 24] (kR [xv 25 5,bI 26 .mul 25 16777216,xv 27 6,bI 28 .mul 27 65536,bT 29 .add 26 28,xv 30 7,bI 31 .mul 30 256,bT 32 .add 29 31,xv 33 8,bT 34 .add 32 33,xv 35 1,bT 36 .rem 34 35,xv 4 36])))))))⟩
def m40:MFn:=⟨9,[.t 4],kr [xF 4] (kR [xv 5 0,xv 6 1,xo 7 (.call 39 [true,false] [.t 5,.t 6]),bI 8 .eql 7 0,xv 4 8])⟩
def m55:MFn:=⟨40,[.cell 2 2 true],kr [xo 2 (.alloc [.nil,.nil])] (kr [xo 7 (.build [.nil,.nil] []),xo 3 (.alloc [.nil,.nil]),xS 2 3 7] (kr [xv 8 0,xo 9 (.call 39 [true,false] [.t 8,xi 3]),xo 10 (.bin .add (xi 1) (.t 9)),xv 4 10] (.seq (kr [xI 5 0] (.blk 0 (.loop (.seq (kr [xv 11 5,xv 12 4,bT 13 .lss 11 12] (kX 13 0)) (.seq (.blk 1 (.dreg (.take 0 (xa 16 0 3) (.take 1 (xl 17 16) (.only 2 [] (xv 18 0) (.only 3 [] (xo 19 (.call 39 [true,false] [.t 18,xi 4])) (.only 4 [] (xo 20 (.bin .add (xi 1) (.t 19))) (.only 5 [] (xo 21 (.mkSl [xz] 1 [(0,.t 20)])) (.only 6 [1,0] (xA 22 1 8 17 21) (.only 7 [0,1] (xa 23 0 3) (.only 8 [0,1] (xS 1 23 22) (.done)))))))))))) (xr [xv 14 5,bI 15 .add 14 1,xv 5 15])))))) (.seq (kr [xI 6 0] (.blk 2 (.loop (.seq (kr [xv 24 6,xv 25 0,xo 26 (.call 39 [true,false] [.t 25,xi 4]),xo 27 (.bin .add (xi 1) (.t 26)),bT 28 .lss 24 27] (kX 28 2)) (.seq (.blk 3 (.dreg (.take 0 (xa 31 1 3) (.take 1 (xl 32 31) (.take 2 (xv 33 0) (.only 3 [] (xv 34 4) (.only 4 [2] (xo 35 (.call 77 [true,false] [.t 33,.t 34])) (.only 5 [4,2] (xo 36 (.mkSl [.nil] 1 [(0,.t 35)])) (.only 6 [1,4,0,2] (xA 37 1 24 32 36) (.only 7 [0,1,2] (xa 38 1 3) (.only 8 [0,1,2] (xS 1 38 37) (.done)))))))))))) (xr [xv 29 6,bI 30 .add 29 1,xv 6 30])))))) (kR [xm 39 2 3,xS 2 2 39])))))⟩
def m56:MFn:=⟨12,[.t 4],kr [xI 4 0] (kR [xv 5 1,xv 6 0,xv 7 1,xe 8 7,xo 9 (.call 39 [true,false] [.t 6,.t 8]),xD 10 1 5 9,xl 11 10,xv 4 11])⟩
def m58:MFn:=⟨58,[.t 2],kr [xI 2 0] (kr [xv 4 0,xv 5 0,xk 6 5,xa 7 2 6,xl 8 7,bI 9 .mul 8 6364136223846793005,bI 10 .add 9 1442695040888963407,xk 11 4,xa 12 2 11,xS 1 12 10] (.seq (.dreg (.take 0 (xv 13 0) (.take 1 (xk 14 13) (.take 2 (xa 15 2 14) (.take 3 (xl 16 15) (.take 4 (xo 17 (.bin .shr (.t 16) (.c (.int .u64 33)))) (.only 5 [] (xv 18 0) (.only 6 [] (xk 19 18) (.only 7 [] (xa 20 2 19) (.only 8 [] (xl 21 20) (.only 9 [] (xo 22 (.bin .shr (.t 21) (.c (.int .u64 45)))) (.only 10 [4,3,2,1,0] (bT 23 .xor 17 22) (.only 11 [10,4,3,2,1,0] (bI 24 .«and» 23 255) (.only 12 [0,1,2,3,4] (xv 3 24) (.done))))))))))))))) (.seq (.seq (.dreg (.take 0 (xv 25 0) (.take 1 (xk 26 25) (.take 2 (xa 27 1 26) (.take 3 (xl 28 27) (.only 4 [] (xv 29 0) (.only 5 [] (xk 30 29) (.only 6 [] (xa 31 0 30) (.only 7 [] (xl 32 31) (.only 8 [] (xe 33 32) (.only 9 [3,2,1,0] (bT 34 .lss 28 33) (.done)))))))))))) (.cond 34 (.seq (.dreg (.take 0 (xv 35 3) (.take 1 (xv 36 0) (.take 2 (xk 37 36) (.take 3 (xa 38 0 37) (.take 4 (xl 39 38) (.only 5 [] (xv 40 0) (.only 6 [] (xk 41 40) (.only 7 [] (xa 42 1 41) (.only 8 [] (xl 43 42) (.only 9 [4,3,2,1] (xD 44 1 39 43) (.only 10 [9,4,3,2,1] (xl 45 44) (.only 11 [10,9,4,3,2,1] (xo 46 (.cvi .i64 (.t 45))) (.only 12 [0,11,10,9,4,3,2,1] (bT 47 .add 35 46) (.only 13 [12,0,11,10,9,4,3,2,1] (bI 48 .«and» 47 255) (.only 14 [0,1,2,3,4] (xv 3 48) (.done))))))))))))))))) (xr [xv 49 0,xv 50 0,xk 51 50,xa 52 1 51,xl 53 52,bI 54 .add 53 1,xk 55 49,xa 56 1 55,xS 1 56 54])) (.skip))) (kR [xv 57 3,xv 2 57]))))⟩
def m77:MFn:=⟨83,[.t 4],kr [xo 4 (.mv (.c (.nil)))] (kr [xv 10 0,xv 11 1,xo 12 (.call 39 [true,false] [.t 10,.t 11]),xv 5 12] (kr [xv 13 0,xv 14 1,xo 15 (.call 39 [true,false] [.t 13,.t 14]),xv 6 15] (.seq (kr [xv 16 0,xo 17 (.call 39 [true,false] [.t 16,xi 5])] (.blk 0 (kr [bI 19 .eql 17 0,xv 18 19] (.cond 18 (kR [xo 20 (.build [xz,xz,xz,xz,xz] [(0,1,xi 1),(1,1,xi 0),(4,1,xi 3)]),xo 21 (.build [xz,xz,xz,xz,xz] [(0,1,xi 1),(1,1,xi 1),(4,1,xi 1)]),xv 22 5,xo 23 (.build [xz,xz,xz,xz,xz] [(0,1,xi 5),(2,1,xi 0),(4,1,.t 22)]),xo 24 (.build [xz,xz,xz,xz,xz] [(0,1,xi 3),(1,1,xi 0),(2,1,xi 0),(3,1,xi 1)]),xo 25 (.build [xz,xz,xz,xz,xz] [(0,1,xi 12),(2,1,xi 0),(4,1,xi 6)]),xo 26 (.build [xz,xz,xz,xz,xz] [(0,1,xi 11),(4,1,xi 2)]),xo 27 (.build [xz,xz,xz,xz,xz] [(0,1,xi 13)]),xo 28 (.mkSl [xz,xz,xz,xz,xz] 7 [(0,.t 20),(1,.t 21),(2,.t 23),(3,.t 24),(4,.t 25),(5,.t 26),(6,.t 27)]),xv 4 28]) (kr [bI 30 .eql 17 1,xv 29 30] (.cond 29 (kR [xv 31 5,xo 32 (.build [xz,xz,xz,xz,xz] [(0,1,xi 6),(1,1,xi 0),(3,1,xi 1),(4,1,.t 31)]),xo 33 (.build [xz,xz,xz,xz,xz] [(0,1,xi 12),(2,1,xi 1),(4,1,xi 4)]),xo 34 (.build [xz,xz,xz,xz,xz] [(0,1,xi 10),(2,1,xi 0)]),xo 35 (.build [xz,xz,xz,xz,xz] [(0,1,xi 11)]),xo 36 (.build [xz,xz,xz,xz,xz] [(0,1,xi 13)]),xo 37 (.mkSl [xz,xz,xz,xz,xz] 5 [(0,.t 32),(1,.t 33),(2,.t 34),(3,.t 35),(4,.t 36)]),xv 4 37]) (kr [bI 39 .eql 17 2,xv 38 39] (.cond 38 (kR [xv 40 5,xo 41 (.build [xz,xz,xz,xz,xz] [(0,1,xi 6),(1,1,xi 0),(3,1,xi 1),(4,1,.t 40)]),xo 42 (.build [xz,xz,xz,xz,xz] [(0,1,xi 2),(1,1,xi 0),(2,1,xi 0),(3,1,xi 1)]),xv 43 6,xo 44 (.build [xz,xz,xz,xz,xz] [(0,1,xi 5),(2,1,xi 0),(4,1,.t 43)]),xo 45 (.build [xz,xz,xz,xz,xz] [(0,1,xi 10),(2,1,xi 0)]),xo 46 (.build [xz,xz,xz,xz,xz] [(0,1,xi 11)]),xo 47 (.mkSl [xz,xz,xz,xz,xz] 5 [(0,.t 41),(1,.t 42),(2,.t 44),(3,.t 45),(4,.t 46)]),xv 4 47]) (kr [bI 49 .eql 17 3,xv 48 49] (kF 48 [xo 50 (.build [xz,xz,xz,xz,xz] [(0,1,xi 1),(1,1,xi 2),(4,1,xi 5)]),xv 51 5,xo 52 (.build [xz,xz,xz,xz,xz] [(0,1,xi 7),(1,1,xi 3),(2,1,xi 2),(4,1,.t 51)]),xv 53 6,xo 54 (.build [xz,xz,xz,xz,xz] [(0,1,xi 8),(1,1,xi 0),(3,1,xi 1),(4,1,.t 53)]),xo 55 (.build [xz,xz,xz,xz,xz] [(0,1,xi 10),(2,1,xi 1)]),xo 56 (.build [xz,xz,xz,xz,xz] [(0,1,xi 2),(1,1,xi 2),(2,1,xi 2),(3,1,xi 3)]),xo 57 (.build [xz,xz,xz,xz,xz] [(0,1,xi 11),(4,1,xi 1)]),xo 58 (.mkSl [xz,xz,xz,xz,xz] 6 [(0,.t 50),(1,.t 52),(2,.t 54),(3,.t 55),(4,.t 56),(5,.t 57)]),xv 4 58])))))))))) (kr [xv 59 0,xo 60 (.call 39 [true,false] [.t 59,xi 9]),xo 61 (.bin .add (xi 2) (.t 60)),xv 7 61] (kr [xo 62 (.mkSl [xz,xz,xz,xz,xz] 0 []),xv 8 62] (.seq (kr [xI 9 0] (.blk 1 (.loop (.seq (kr [xv 63 9,xv 64 7,bT 65 .lss 63 64] (kX 65 1)) (.seq (.blk 2 (xr [xv 68 8,xv 69 0,xv 70 7,bI 71 .add 70 1,xv 72 1,xo 73 (.call 91 [true,false,false] [.t 69,.t 71,.t 72]),xo 74 (.mkSl [xz,xz,xz,xz,xz] 1 [(0,.t 73)]),xA 75 5 40 68 74,xv 8 75])) (xr [xv 66 9,bI 67 .add 66 1,xv 9 67])))))) (kR [xv 76 8,xv 77 0,xo 78 (.mkSl [xz] 2 [(0,xi 13),(1,xi 11)]),xo 79 (.call 56 [true,false] [.t 77,.t 78]),xo 80 (.build [xz,xz,xz,xz,xz] [(0,1,.t 79)]),xo 81 (.mkSl [xz,xz,xz,xz,xz] 1 [(0,.t 80)]),xA 82 5 40 76 81,xv 4 82])))))))⟩
def m91:MFn:=⟨91,[.cell 6 5 true],kr [xo 6 (.alloc [xz,xz,xz,xz,xz])] (kr [xv 11 0,xo 12 (.call 39 [true,false] [.t 11,xi 4]),xv 13 0,xo 14 (.call 39 [true,false] [.t 13,xi 4]),xv 15 0,xo 16 (.call 39 [true,false] [.t 15,xi 4]),xv 7 12,xv 8 14,xv 9 16] (kr [xv 17 0,xv 18 2,xc2 19 98 (.t 18) (xi 1),xo 20 (.call 39 [true,false] [.t 17,.t 19]),xv 10 20] (.seq (kr [xv 21 0,xo 22 (.call 39 [true,false] [.t 21,xi 16])] (.blk 0 (.seq (kr [bI 24 .eql 22 0,xv 23 24] (.cond 23 (.skip) (xr [bI 25 .eql 22 1,xv 23 25]))) (.cond 23 (kR [xv 26 7,xv 27 0,xo 28 (.call 39 [true,false] [.t 27,xi 9]),bI 29 .sub 28 2,xo 30 (.build [xz,xz,xz,xz,xz] [(0,1,xi 1),(1,1,.t 26),(4,1,.t 29)]),xS 5 6 30]) (.seq (kr [bI 32 .eql 22 2,xv 31 32] (.cond 31 (.skip) (xr [bI 33 .eql 22 3,xv 31 33]))) (.cond 31 (kR [xv 34 0,xo 35 (.call 39 [true,false] [.t 34,xi 3]),xo 36 (.bin .add (xi 2) (.t 35)),xv 37 7,xv 38 8,xv 39 9,xo 40 (.build [xz,xz,xz,xz,xz] [(0,1,.t 36),(1,1,.t 37),(2,1,.t 38),(3,1,.t 39)]),xS 5 6 40]) (.seq (kr [bI 42 .eql 22 4,xv 41 42] (.cond 41 (.skip) (kr [bI 43 .eql 22 5,xv 41 43] (.cond 41 (.skip) (xr [bI 44 .eql 22 6,xv 41 44]))))) (.cond 41 (kR [xv 45 8,xv 46 10,xo 47 (.build [xz,xz,xz,xz,xz] [(0,1,xi 5),(2,1,.t 45),(4,1,.t 46)]),xS 5 6 47]) (.seq (kr [bI 49 .eql 22 7,xv 48 49] (.cond 48 (.skip) (kr [bI 50 .eql 22 8,xv 48 50] (.cond 48 (.skip) (xr [bI 51 .eql 22 9,xv 48 51]))))) (.cond 48 (kR [xv 52 7,xv 53 7,bI 54 .add 53 1,bI 55 .rem 54 4,xv 56 10,xo 57 (.build [xz,xz,xz,xz,xz] [(0,1,xi 6),(1,1,.t 52),(3,1,.t 55),(4,1,.t 56)]),xS 5 6 57]) (kr [bI 59 .eql 22 10,xv 58 59] (.cond 58 (kR [xv 60 7,xv 61 8,xv 62 10,xo 63 (.build [xz,xz,xz,xz,xz] [(0,1,xi 7),(1,1,.t 60),(2,1,.t 61),(4,1,.t 62)]),xS 5 6 63]) (kr [bI 65 .eql 22 11,xv 64 65] (.cond 64 (kR [xv 66 7,xv 67 7,bI 68 .add 67 1,bI 69 .rem 68 4,xv 70 10,xo 71 (.build [xz,xz,xz,xz,xz] [(0,1,xi 8),(1,1,.t 66),(3,1,.t 69),(4,1,.t 70)]),xS 5 6 71]) (kr [bI 73 .eql 22 12,xv 72 73] (.cond 72 (.seq (kr [xv 74 0,xo 75 (.call 40 [true,false] [.t 74,xi 3])] (kF 75 [xv 76 10,xo 77 (.build [xz,xz,xz,xz,xz] [(0,1,xi 9),(4,1,.t 76)]),xS 5 6 77])) (kR [xv 78 0,xv 79 1,xo 80 (.call 39 [true,false] [.t 78,.t 79]),xo 81 (.build [xz,xz,xz,xz,xz] [(0,1,xi 11),(4,1,.t 80)]),xS 5 6 81])) (kr [bI 83 .eql 22 13,xv 82 83] (kF 82 [xv 84 8,xv 85 0,xv 86 1,xo 87 (.call 39 [true,false] [.t 85,.t 86]),xo 88 (.build [xz,xz,xz,xz,xz] [(0,1,xi 12),(2,1,.t 84),(4,1,.t 87)]),xS 5 6 88])))))))))))))))))) (kR [xv 89 8,xo 90 (.build [xz,xz,xz,xz,xz] [(0,1,xi 10),(2,1,.t 89)]),xS 5 6 90]))))⟩
def m213:MFn:=⟨18,[.t 6],kr [xI 6 0] (kr [xv 8 1,xv 9 0,xe 10 9,bI 11 .quo 10 4,bT 12 .add 8 11,xv 7 12] (.seq (kr [xv 13 7,xv 14 2,bT 15 .gtr 13 14] (kF 15 [xv 16 2,xv 6 16])) (kR [xv 17 7,xv 6 17])))⟩
theorem qZp (a:Int):0≤qS4 .i64 a 255∧qS4 .i64 a 255≤255:=by
 unfold qS4
 have h:(BitVec.ofInt IntKind.i64.bits a &&& BitVec.ofInt IntKind.i64.bits 255).toNat≤255:=by
  rw [BitVec.toNat_and]
  have:(BitVec.ofInt IntKind.i64.bits 255).toNat=255:=by decide
  rw [this]
  exact Nat.and_le_right
 rw [wJ (by omega) (by omega)]
 omega
theorem qAn (code:List Int) (c:Cur):0≤(uC code c).1∧(uC code c).1≤255:=by
 unfold uC
 split
 ·exact qZp _
 ·exact qZp _
theorem pS (code:List Int) (c:Cur) (hb:code.length<2^62):qW Tryz.prog num 58 [.ptr 0 0 0] [(0,some (3,[iR code c]),some (3,[iR code (uC code c).2]))] (.int .i64 (uC code c).1):=by
 refine EH m58 Tryz.func151 ?_
 unfold m58
 simp only [go_sem,seval,iR,qId,reduceCtorEq]
 repeat refine K ?_
 refine qL (fun hc=>?_) (fun hc=>?_)
 ·simp only [decide_eq_true_eq] at hc
  have hl:c.i<code.length:=by omega
  simp only [go_sem,seval,qId,reduceCtorEq,qKx code c.i hl,qS (i:=c.i) (by omega)]
  repeat refine K ?_
  apply wE
  ·exact Sub.refl _
  ·simp [-List.drop_one,-gD,uC,hc,qV6,qN7]<;>(first | rfl | exact ⟨rfl,rfl⟩ | exact ⟨rfl,rfl,rfl⟩ | skip)
 ·simp only [decide_eq_false_iff_not] at hc
  simp only [go_sem,seval]
  repeat refine K ?_
  apply wE
  ·exact Sub.refl _
  ·simp [-List.drop_one,-gD,uC,hc,qV6,qN7]<;>(first | rfl | exact ⟨rfl,rfl⟩ | exact ⟨rfl,rfl,rfl⟩ | skip)
def wD (code:List Int) (c:Cur) (n:Int):Int×Cur :=
 if n≤0 then (0,c) else if n≤256 then ((uC code c).1.tmod n,(uC code c).2) else
 ((IntKind.i64.wrap (IntKind.i64.wrap (IntKind.i64.wrap (IntKind.i64.wrap ((uC code c).1*16777216)+IntKind.i64.wrap ((uC code (uC code c).2).1*65536))+IntKind.i64.wrap ((uC code (uC code (uC code c).2).2).1*256))+(uC code (uC code (uC code (uC code c).2).2).2).1)).tmod n,(uC code (uC code (uC code (uC code c).2).2).2).2)
theorem vA (code:List Int) (c:Cur) (n:Int) (h:0<n):0≤(wD code c n).1∧(wD code c n).1<n:=by
 unfold wD
 rw [if_neg (by omega)]
 split
 ·have:=qAn code c
  exact ⟨Int.tmod_nonneg _ (by omega),Int.tmod_lt_of_pos _ h⟩
 ·have h1:=qAn code c
  have h2:=qAn code (uC code c).2
  have h3:=qAn code (uC code (uC code c).2).2
  have h4:=qAn code (uC code (uC code (uC code c).2).2).2
  refine ⟨Int.tmod_nonneg _ ?_,Int.tmod_lt_of_pos _ h⟩
  rw [wJ (n:=(uC code c).1*16777216) (by omega) (by omega),wJ (n:=(uC code (uC code c).2).1*65536) (by omega) (by omega),wJ (n:=(uC code (uC code (uC code c).2).2).1*256) (by omega) (by omega)]
  rw [wJ (n:=(uC code c).1*16777216+(uC code (uC code c).2).1*65536) (by omega) (by omega)]
  rw [wJ (n:=(uC code c).1*16777216+(uC code (uC code c).2).1*65536+(uC code (uC code (uC code c).2).2).1*256) (by omega) (by omega)]
  rw [wJ (by omega) (by omega)]
  omega
theorem yS (code:List Int) (c:Cur) (n:Int) (hb:code.length<2^62):qW Tryz.prog num 39 [.ptr 0 0 0,.int .i64 n] [(0,some (3,[iR code c]),some (3,[iR code (wD code c n).2]))] (.int .i64 (wD code c n).1):=by
 refine EH m39 Tryz.func97 ?_
 unfold m39
 by_cases h0:n≤0
 ·simp only [go_sem,seval,h0]
  repeat refine K ?_
  apply wE
  ·exact Sub.refl _
  ·simp [-List.drop_one,-gD,wD,h0]<;>(first | rfl | exact ⟨rfl,rfl⟩ | exact ⟨rfl,rfl,rfl⟩ | skip)
 have hn :¬n=0:=by omega
 by_cases h1:n≤256
 ·simp only [go_sem,seval,h0,h1]
  repeat refine K ?_
  refine CA [(0,0)] (pS code c hb) ?_
  try simp only [go_sem,seval]
  repeat refine K ?_
  try simp only [go_sem,seval,hn]
  repeat refine K ?_
  apply wE
  ·exact Sub.refl _
  ·simp [-List.drop_one,-gD,wD,h0,h1]<;>(first | rfl | exact ⟨rfl,rfl⟩ | exact ⟨rfl,rfl,rfl⟩ | skip)
 simp only [go_sem,seval,h0,h1]
 repeat refine K ?_
 refine CA [(0,0)] (pS code c hb) ?_
 try simp only [go_sem,seval]
 repeat refine K ?_
 try simp only [go_sem,seval,hn]
 repeat refine K ?_
 refine CA [(0,0)] (pS code (uC code c).2 hb) ?_
 try simp only [go_sem,seval]
 repeat refine K ?_
 try simp only [go_sem,seval,hn]
 repeat refine K ?_
 refine CA [(0,0)] (pS code (uC code (uC code c).2).2 hb) ?_
 try simp only [go_sem,seval]
 repeat refine K ?_
 try simp only [go_sem,seval,hn]
 repeat refine K ?_
 refine CA [(0,0)] (pS code (uC code (uC code (uC code c).2).2).2 hb) ?_
 try simp only [go_sem,seval]
 repeat refine K ?_
 try simp only [go_sem,seval,hn]
 repeat refine K ?_
 apply wE
 ·exact Sub.refl _
 ·simp [-List.drop_one,-gD,wD,h0,h1]<;>(first | rfl | exact ⟨rfl,rfl⟩ | exact ⟨rfl,rfl,rfl⟩ | skip)
def mW (code:List Int) (c:Cur) (n:Int):Bool×Cur:=(decide ((wD code c n).1=0),(wD code c n).2)
theorem qN3 (code:List Int) (c:Cur) (n:Int) (hb:code.length<2^62):qW Tryz.prog num 40 [.ptr 0 0 0,.int .i64 n] [(0,some (3,[iR code c]),some (3,[iR code (mW code c n).2]))] (.bool (mW code c n).1):=by
 refine EH m40 Tryz.func150 ?_
 unfold m40
 simp only [go_sem,seval]
 repeat refine K ?_
 refine CA [(0,0)] (yS code c n hb) ?_
 try simp only [go_sem,seval]
 repeat refine K ?_
 refine fz ?_; simp [qZ,qU,qV,qQ,-List.drop_one]
 simp [mW]
def pK (code:List Int) (c:Cur) (l:List Int):Int×Cur:=(l.getD (wD code c l.length).1.toNat 0,(wD code c l.length).2)
theorem sE (code:List Int) (c:Cur) (l:List Int) (hb:code.length<2^62) (hl:0<l.length):qW Tryz.prog num 56 [.ptr 0 0 0,.sl .bw 1 (wN l)] [(0,some (3,[iR code c]),some (3,[iR code (pK code c l).2]))] (.int .i64 (pK code c l).1):=by
 refine EH m56 Tryz.func152 ?_
 unfold m56
 simp only [go_sem,seval]
 repeat refine K ?_
 refine CA [(0,0)] (yS code c l.length hb) ?_
 try simp only [go_sem,seval]
 repeat refine K ?_
 have h:=vA code c l.length (by omega)
 have h2:(wD code c l.length).1.toNat<l.length:=by omega
 try simp only [go_sem,seval,qI l _ h2]
 repeat refine K ?_
 refine fz ?_; simp [qZ,qU,qV,qQ,-List.drop_one]
 simp [pK]
theorem qR2 (a b:Int):qW Tryz.prog num 98 [.int .i64 a,.int .i64 b] [] (.int .i64 (if b<a then a else b)):=by
 have h:=qB5 a b
 have e:max a b=if b<a then a else b:=by split<;>omega
 rw [e] at h
 exact h
def qZ6 (h x:Int):Int:=qS4 .i64 (IntKind.i64.wrap (IntKind.i64.wrap (IntKind.i64.wrap (h*131)+IntKind.i64.wrap x)+7)) 1073741823
def sH (code:List Int) (i:Nat):Int:=(code.take i).foldl qZ6 (IntKind.i64.wrap (18813+code.length))
def oW (code:List Int):Cur:=⟨0,sH code 4000⟩
theorem qRf (code:List Int) (i:Nat) (h:i<code.length):sH code (i+1)=qZ6 (sH code i) (code.getD i 0):=by
 unfold sH
 rw [bO code 0 i h,List.foldl_append]
 rfl
theorem qR1 (code:List Int) (hb:code.length<2^62):qW Tryz.prog num 37 [.sl .fz 1 (bys code)] [(10,none,some (3,[iR code (oW code)]))] (.ptr 10 0 0):=by
 refine EH m37 Tryz.func63 ?_
 unfold m37
 simp only [go_sem,seval]
 repeat refine K ?_
 refine qX (ι:=Nat) (fun i=>.mk [(0,.sl .fz 1 (bys code)),(3,.int .i64 (sH code i)),(4,.int .i64 i)] [] 10) (fun i=>i≤code.length∧i≤4000) (fun i=>code.length-i) 0 (by simp) ?_ ?_
 ·refine Sub.shape [] id (by omega) ?_ ?_ ?_ ?_<;>simp [qK]
  simp [sH]
 ·rintro i ⟨hi,hi2⟩
  have hfin :¬(i:Int)<4000∨¬(i:Int)<code.length→sH code i=sH code 4000:=by
   rintro (h | h)
   ·have:i=4000:=by omega
    rw [this]
   ·unfold sH
    rw [List.take_of_length_le (by omega),List.take_of_length_le (by omega)]
  by_cases h1:(i:Int)<code.length
  ·have h1':i<code.length:=by omega
   by_cases h2:(i:Int)<4000
   ·have hs:=qRf code i h1'
    unfold qZ6 at hs
    simp only [go_sem,seval,h1,h2,qKx code i h1',←hs,qS (i:=i) (by omega)]
    repeat refine K ?_
    refine qT (i+1) ?_ ⟨h1',by omega⟩ (by omega)
    refine Sub.shape [] id (by omega) ?_ ?_ ?_ ?_<;>simp [qK]
   ·have he:=hfin (.inl h2)
    simp only [go_sem,seval,h1,h2,he]
    repeat refine K ?_
    apply wE
    ·exact Sub.refl _
    ·simp [-List.drop_one,-gD,oW]<;>(first | rfl | exact ⟨rfl,rfl⟩ | exact ⟨rfl,rfl,rfl⟩ | skip)
  ·have he:=hfin (.inr h1)
   simp only [go_sem,seval,h1,he]
   repeat refine K ?_
   apply wE
   ·exact Sub.refl _
   ·simp [-List.drop_one,-gD,oW]<;>(first | rfl | exact ⟨rfl,rfl⟩ | exact ⟨rfl,rfl,rfl⟩ | skip)
def qV8 (code:List Int) (places r a b n k:Int) (c:Cur):Ins×Cur :=
 if k=0∨k=1 then (⟨1,r,0,0,IntKind.i64.wrap ((wD code c 9).1-2)⟩,(wD code c 9).2)
 else if k=2∨k=3 then (⟨IntKind.i64.wrap (2+(wD code c 3).1),r,a,b,0⟩,(wD code c 3).2)
 else if k=4∨k=5∨k=6 then (⟨5,0,a,0,n⟩,c)
 else if k=7∨k=8∨k=9 then (⟨6,r,0,(IntKind.i64.wrap (r+1)).tmod 4,n⟩,c)
 else if k=10 then (⟨7,r,a,0,n⟩,c)
 else if k=11 then (⟨8,r,0,(IntKind.i64.wrap (r+1)).tmod 4,n⟩,c)
 else if k=12 then (if (mW code c 3).1 then (⟨9,0,0,0,n⟩,(mW code c 3).2) else (⟨11,0,0,0,(wD code (mW code c 3).2 places).1⟩,(wD code (mW code c 3).2 places).2))
 else if k=13 then (⟨12,0,a,0,(wD code c places).1⟩,(wD code c places).2)
 else (⟨10,0,a,0,0⟩,c)
def qZ4 (code:List Int) (places wW:Int) (r a b:Int) (c:Cur):Ins×Cur :=
 qV8 code places r a b (wD code c (if 1<wW then wW else 1)).1 (wD code (wD code c (if 1<wW then wW else 1)).2 16).1 (wD code (wD code c (if 1<wW then wW else 1)).2 16).2
def qDv (code:List Int) (c:Cur) (places wW:Int):Ins×Cur :=
 qZ4 code places wW (wD code c 4).1 (wD code (wD code c 4).2 4).1 (wD code (wD code (wD code c 4).2 4).2 4).1 (wD code (wD code (wD code c 4).2 4).2 4).2
theorem qOw (code:List Int) (c:Cur) (places wW:Int) (hb:code.length<2^62):qW Tryz.prog num 91 [.ptr 0 0 0,.int .i64 places,.int .i64 wW] [(0,some (3,[iR code c]),some (3,[iR code (qDv code c places wW).2]))] (.agg (bU (qDv code c places wW).1)):=by
 refine EH m91 Tryz.func174 ?_
 unfold m91 qDv
 simp only [go_sem,seval]
 repeat refine K ?_
 refine CA [(0,0)] (yS code c 4 hb) ?_
 try simp only [go_sem,seval]
 repeat refine K ?_
 generalize wD code c 4=r
 try simp only [go_sem,seval]
 repeat refine K ?_
 refine CA [(0,0)] (yS code r.2 4 hb) ?_
 try simp only [go_sem,seval]
 repeat refine K ?_
 generalize wD code r.2 4=a
 try simp only [go_sem,seval]
 repeat refine K ?_
 refine CA [(0,0)] (yS code a.2 4 hb) ?_
 try simp only [go_sem,seval]
 repeat refine K ?_
 generalize wD code a.2 4=b
 unfold qZ4
 try simp only [go_sem,seval]
 repeat refine K ?_
 refine CA [] (qR2 wW 1) ?_
 try simp only [go_sem,seval]
 repeat refine K ?_
 try simp only [go_sem,seval]
 repeat refine K ?_
 refine CA [(0,0)] (yS code b.2 (if 1<wW then wW else 1) hb) ?_
 try simp only [go_sem,seval]
 repeat refine K ?_
 generalize wD code b.2 (if 1<wW then wW else 1)=n
 try simp only [go_sem,seval]
 repeat refine K ?_
 refine CA [(0,0)] (yS code n.2 16 hb) ?_
 try simp only [go_sem,seval]
 repeat refine K ?_
 generalize wD code n.2 16=k
 try simp only [go_sem,seval]
 repeat refine K ?_
 obtain ⟨k,d⟩:=k
 simp only
 unfold qV8
 by_cases h0:k=0
 ·subst h0
  try simp only [go_sem,seval,reduceCtorEq]
  repeat refine K ?_
  refine CA [(0,0)] (yS code d 9 hb) ?_
  try simp only [go_sem,seval]
  repeat refine K ?_
  try simp only [go_sem,seval]
  repeat refine K ?_
  apply wE
  ·exact Sub.refl _
  ·simp [-List.drop_one,-gD,bU]<;>(first | rfl | exact ⟨rfl,rfl⟩ | exact ⟨rfl,rfl,rfl⟩ | skip)
 by_cases h1:k=1
 ·subst h1
  try simp only [go_sem,seval,reduceCtorEq]
  repeat refine K ?_
  refine CA [(0,0)] (yS code d 9 hb) ?_
  try simp only [go_sem,seval]
  repeat refine K ?_
  try simp only [go_sem,seval]
  repeat refine K ?_
  apply wE
  ·exact Sub.refl _
  ·simp [-List.drop_one,-gD,bU]<;>(first | rfl | exact ⟨rfl,rfl⟩ | exact ⟨rfl,rfl,rfl⟩ | skip)
 by_cases h2:k=2
 ·subst h2
  try simp only [go_sem,seval,reduceCtorEq]
  repeat refine K ?_
  refine CA [(0,0)] (yS code d 3 hb) ?_
  try simp only [go_sem,seval]
  repeat refine K ?_
  try simp only [go_sem,seval]
  repeat refine K ?_
  apply wE
  ·exact Sub.refl _
  ·simp [-List.drop_one,-gD,bU]<;>(first | rfl | exact ⟨rfl,rfl⟩ | exact ⟨rfl,rfl,rfl⟩ | skip)
 by_cases h3:k=3
 ·subst h3
  try simp only [go_sem,seval,reduceCtorEq]
  repeat refine K ?_
  refine CA [(0,0)] (yS code d 3 hb) ?_
  try simp only [go_sem,seval]
  repeat refine K ?_
  try simp only [go_sem,seval]
  repeat refine K ?_
  apply wE
  ·exact Sub.refl _
  ·simp [-List.drop_one,-gD,bU]<;>(first | rfl | exact ⟨rfl,rfl⟩ | exact ⟨rfl,rfl,rfl⟩ | skip)
 by_cases h4:k=4
 ·subst h4
  try simp only [go_sem,seval,reduceCtorEq]
  repeat refine K ?_
  apply wE
  ·exact Sub.refl _
  ·simp [-List.drop_one,-gD,bU]<;>(first | rfl | exact ⟨rfl,rfl⟩ | exact ⟨rfl,rfl,rfl⟩ | skip)
 by_cases h5:k=5
 ·subst h5
  try simp only [go_sem,seval,reduceCtorEq]
  repeat refine K ?_
  apply wE
  ·exact Sub.refl _
  ·simp [-List.drop_one,-gD,bU]<;>(first | rfl | exact ⟨rfl,rfl⟩ | exact ⟨rfl,rfl,rfl⟩ | skip)
 by_cases h6:k=6
 ·subst h6
  try simp only [go_sem,seval,reduceCtorEq]
  repeat refine K ?_
  apply wE
  ·exact Sub.refl _
  ·simp [-List.drop_one,-gD,bU]<;>(first | rfl | exact ⟨rfl,rfl⟩ | exact ⟨rfl,rfl,rfl⟩ | skip)
 by_cases h7:k=7
 ·subst h7
  try simp only [go_sem,seval,reduceCtorEq]
  repeat refine K ?_
  apply wE
  ·exact Sub.refl _
  ·simp [-List.drop_one,-gD,bU]<;>(first | rfl | exact ⟨rfl,rfl⟩ | exact ⟨rfl,rfl,rfl⟩ | skip)
 by_cases h8:k=8
 ·subst h8
  try simp only [go_sem,seval,reduceCtorEq]
  repeat refine K ?_
  apply wE
  ·exact Sub.refl _
  ·simp [-List.drop_one,-gD,bU]<;>(first | rfl | exact ⟨rfl,rfl⟩ | exact ⟨rfl,rfl,rfl⟩ | skip)
 by_cases h9:k=9
 ·subst h9
  try simp only [go_sem,seval,reduceCtorEq]
  repeat refine K ?_
  apply wE
  ·exact Sub.refl _
  ·simp [-List.drop_one,-gD,bU]<;>(first | rfl | exact ⟨rfl,rfl⟩ | exact ⟨rfl,rfl,rfl⟩ | skip)
 by_cases h10:k=10
 ·subst h10
  try simp only [go_sem,seval,reduceCtorEq]
  repeat refine K ?_
  apply wE
  ·exact Sub.refl _
  ·simp [-List.drop_one,-gD,bU]<;>(first | rfl | exact ⟨rfl,rfl⟩ | exact ⟨rfl,rfl,rfl⟩ | skip)
 by_cases h11:k=11
 ·subst h11
  try simp only [go_sem,seval,reduceCtorEq]
  repeat refine K ?_
  apply wE
  ·exact Sub.refl _
  ·simp [-List.drop_one,-gD,bU]<;>(first | rfl | exact ⟨rfl,rfl⟩ | exact ⟨rfl,rfl,rfl⟩ | skip)
 by_cases h12:k=12
 ·subst h12
  try simp only [go_sem,seval,reduceCtorEq]
  repeat refine K ?_
  refine CA [(0,0)] (qN3 code d 3 hb) ?_
  try simp only [go_sem,seval]
  repeat refine K ?_
  cases ho:(mW code d 3).1
  ·try simp only [go_sem,seval,ho]
   repeat refine K ?_
   refine CA [(0,0)] (yS code (mW code d 3).2 places hb) ?_
   try simp only [go_sem,seval]
   repeat refine K ?_
   try simp only [go_sem,seval]
   repeat refine K ?_
   apply wE
   ·exact Sub.refl _
   ·simp [-List.drop_one,-gD,ho]<;>(first | rfl | exact ⟨rfl,rfl⟩ | exact ⟨rfl,rfl,rfl⟩ | skip)
  ·try simp only [go_sem,seval,ho]
   repeat refine K ?_
   apply wE
   ·exact Sub.refl _
   ·simp [-List.drop_one,-gD,ho]<;>(first | rfl | exact ⟨rfl,rfl⟩ | exact ⟨rfl,rfl,rfl⟩ | skip)
 by_cases h13:k=13
 ·subst h13
  try simp only [go_sem,seval,reduceCtorEq]
  repeat refine K ?_
  refine CA [(0,0)] (yS code d places hb) ?_
  try simp only [go_sem,seval]
  repeat refine K ?_
  try simp only [go_sem,seval]
  repeat refine K ?_
  apply wE
  ·exact Sub.refl _
  ·simp [-List.drop_one,-gD,bU]<;>(first | rfl | exact ⟨rfl,rfl⟩ | exact ⟨rfl,rfl,rfl⟩ | skip)
 try simp only [go_sem,seval,h0,h1,h2,h3,h4,h5,h6,h7,h8,h9,h10,h11,h12,h13]
 repeat refine K ?_
 apply wE
 ·exact Sub.refl _
 ·simp [-List.drop_one,-gD,bU,h0,h1,h2,h3,h4,h5,h6,h7,h8,h9,h10,h11,h12,h13]<;>(first | rfl | exact ⟨rfl,rfl⟩ | exact ⟨rfl,rfl,rfl⟩ | skip)
def hP {β:Type} (step:Cur→β×Cur):Nat→Cur→List β×Cur
 | 0,c=>([],c)
 | n+1,c=>((hP step n c).1++[(step (hP step n c).2).1],(step (hP step n c).2).2)
@[simp] theorem iF {β:Type} (step:Cur→β×Cur) (c:Cur) :∀(n:Nat),(hP step n c).1.length=n
 | 0=>rfl
 | n+1=>by simp [hP,iF step c n]
def qPi (code:List Int) (wW n m k:Int) (c:Cur):List Ins×Cur :=
 if k=0 then ([⟨1,0,0,0,3⟩,⟨1,1,0,0,1⟩,⟨5,0,0,0,n⟩,⟨3,0,0,1,0⟩,⟨12,0,0,0,6⟩,⟨11,0,0,0,2⟩,⟨13,0,0,0,0⟩],c)
 else if k=1 then ([⟨6,0,0,1,n⟩,⟨12,0,1,0,4⟩,⟨10,0,0,0,0⟩,⟨11,0,0,0,0⟩,⟨13,0,0,0,0⟩],c)
 else if k=2 then ([⟨6,0,0,1,n⟩,⟨2,0,0,1,0⟩,⟨5,0,0,0,m⟩,⟨10,0,0,0,0⟩,⟨11,0,0,0,0⟩],c)
 else if k=3 then ([⟨1,2,0,0,5⟩,⟨7,3,2,0,n⟩,⟨8,0,0,1,m⟩,⟨10,0,1,0,0⟩,⟨2,2,2,3,0⟩,⟨11,0,0,0,1⟩],c)
 else
  ((hP (fun d=>qDv code d (2+(wD code c 9).1+1) wW) (2+(wD code c 9).1).toNat (wD code c 9).2).1++[⟨(pK code (hP (fun d=>qDv code d (2+(wD code c 9).1+1) wW) (2+(wD code c 9).1).toNat (wD code c 9).2).2 [13,11]).1,0,0,0,0⟩],
   (pK code (hP (fun d=>qDv code d (2+(wD code c 9).1+1) wW) (2+(wD code c 9).1).toNat (wD code c 9).2).2 [13,11]).2)
def qPh (code:List Int) (wW n m:Int) (c:Cur):List Ins×Cur:=qPi code wW n m (wD code c 5).1 (wD code c 5).2
def nK (code:List Int) (c:Cur) (wW:Int):List Ins×Cur :=
 qPh code wW (wD code c wW).1 (wD code (wD code c wW).2 wW).1 (wD code (wD code c wW).2 wW).2
theorem qPg (code:List Int) (c:Cur) (wW:Int):1≤(nK code c wW).1.length∧(nK code c wW).1.length≤24:=by
 unfold nK qPh
 generalize wD code (wD code (wD code c wW).2 wW).2 5=k
 unfold qPi
 have h:=vA code k.2 9 (by omega)
 repeat' split
 all_goals first | (simp; done) | (simp; omega)
theorem qLt (code:List Int) (c:Cur) (wW:Int) (hb:code.length<2^62):qW Tryz.prog num 77 [.ptr 0 0 0,.int .i64 wW] [(0,some (3,[iR code c]),some (3,[iR code (nK code c wW).2]))] (.sl .own 5 (bL (nK code c wW).1)):=by
 refine EH m77 Tryz.func132 ?_
 unfold m77 nK
 simp only [go_sem,seval]
 repeat refine K ?_
 refine CA [(0,0)] (yS code c wW hb) ?_
 try simp only [go_sem,seval]
 repeat refine K ?_
 generalize wD code c wW=n
 try simp only [go_sem,seval]
 repeat refine K ?_
 refine CA [(0,0)] (yS code n.2 wW hb) ?_
 try simp only [go_sem,seval]
 repeat refine K ?_
 generalize wD code n.2 wW=m
 try simp only [go_sem,seval]
 repeat refine K ?_
 unfold qPh
 refine CA [(0,0)] (yS code m.2 5 hb) ?_
 try simp only [go_sem,seval]
 repeat refine K ?_
 generalize wD code m.2 5=k
 try simp only [go_sem,seval]
 repeat refine K ?_
 obtain ⟨k,d⟩:=k
 simp only
 unfold qPi
 by_cases h0:k=0
 ·subst h0
  try simp only [go_sem,seval,reduceCtorEq]
  repeat refine K ?_
  apply wE
  ·exact Sub.refl _
  ·simp [-List.drop_one,-gD,bL,bU]<;>(first | rfl | exact ⟨rfl,rfl⟩ | exact ⟨rfl,rfl,rfl⟩ | skip)
 by_cases h1:k=1
 ·subst h1
  try simp only [go_sem,seval,reduceCtorEq]
  repeat refine K ?_
  apply wE
  ·exact Sub.refl _
  ·simp [-List.drop_one,-gD,bL,bU]<;>(first | rfl | exact ⟨rfl,rfl⟩ | exact ⟨rfl,rfl,rfl⟩ | skip)
 by_cases h2:k=2
 ·subst h2
  try simp only [go_sem,seval,reduceCtorEq]
  repeat refine K ?_
  apply wE
  ·exact Sub.refl _
  ·simp [-List.drop_one,-gD,bL,bU]<;>(first | rfl | exact ⟨rfl,rfl⟩ | exact ⟨rfl,rfl,rfl⟩ | skip)
 by_cases h3:k=3
 ·subst h3
  try simp only [go_sem,seval,reduceCtorEq]
  repeat refine K ?_
  apply wE
  ·exact Sub.refl _
  ·simp [-List.drop_one,-gD,bL,bU]<;>(first | rfl | exact ⟨rfl,rfl⟩ | exact ⟨rfl,rfl,rfl⟩ | skip)
 simp only [if_neg h0,if_neg h1,if_neg h2,if_neg h3]
 try simp only [go_sem,seval,h0,h1,h2,h3]
 repeat refine K ?_
 refine CA [(0,0)] (yS code d 9 hb) ?_
 try simp only [go_sem,seval]
 repeat refine K ?_
 have hr:=vA code d 9 (by omega)
 generalize wD code d 9=r at hr
 obtain ⟨r,e⟩:=r
 simp only at hr⊢
 have w1:IntKind.i64.wrap (2+r)=2+r:=wJ (by omega) (by omega)
 have w2:IntKind.i64.wrap (2+r+1)=2+r+1:=wJ (by omega) (by omega)
 try simp only [go_sem,seval,w1]
 repeat refine K ?_
 refine qX (ι:=Nat) (fun i=>.mk [(0,.ptr 0 0 0),(1,.int .i64 wW),(7,.int .i64 (2+r)),(8,.ns 10 0 i),(9,.int .i64 i)] [(0,3,[iR code (hP (fun d=>qDv code d (2+r+1) wW) i e).2]),(10,5,bL (hP (fun d=>qDv code d (2+r+1) wW) i e).1)] 11) (fun i=>i≤(2+r).toNat) (fun i=>(2+r).toNat-i) 0 (by simp) ?_ ?_
 ·refine Sub.shape [] id (by omega) ?_ ?_ ?_ ?_<;>simp [qK]
  all_goals simp [hP,bL]
 ·intro i hi
  simp only [go_sem,seval]
  refine qL (fun hc=>?_) (fun hc=>?_)
  ·simp only [decide_eq_true_eq] at hc
   simp only [go_sem,seval,w2,qS (i:=i) (by omega)]
   repeat refine K ?_
   refine CA [(0,0)] (qOw code (hP (fun d=>qDv code d (2+r+1) wW) i e).2 (2+r+1) wW hb) ?_
   try simp only [go_sem,seval]
   repeat refine K ?_
   try simp only [go_sem,seval,qS (i:=i) (by omega),iF]
   repeat refine K ?_
   refine qT (i+1) ?_ (by omega) (by omega)
   simp only [hP]
   refine Sub.shape [] (fun n=>if n=10 then 12 else n) (by omega) ?_ ?_ ?_ ?_<;>simp [qK]
   exact .inl (by simp [bL,bU])
  ·simp only [decide_eq_false_iff_not] at hc
   have hie:i=(2+r).toNat:=by omega
   subst hie
   have hl:wN [13,11]=[[AV.int .i64 13],[.int .i64 11]]:=rfl
   simp only [go_sem,seval,←hl]
   repeat refine K ?_
   refine CA [(0,0)] (sE code (hP (fun d=>qDv code d (2+r+1) wW) (2+r).toNat e).2 [13,11] hb (by decide)) ?_
   try simp only [go_sem,seval]
   repeat refine K ?_
   try simp only [go_sem,seval,iF]
   repeat refine K ?_
   apply wE
   ·exact Sub.refl _
   ·simp [-List.drop_one,-gD,bU,bL]<;>(first | rfl | exact ⟨rfl,rfl⟩ | exact ⟨rfl,rfl,rfl⟩ | skip)
def aI {β:Type} (code:List Int) (base m:Int) (step:Cur→β×Cur):Nat→Nat→Cur→List β→List β×Cur
 | 0,_,c,acc=>(acc,(wD code c m).2)
 | f+1,i,c,acc=>if (i:Int)<base+(wD code c m).1 then aI code base m step f (i+1) (step (wD code c m).2).2 (acc++[(step (wD code c m).2).1]) else (acc,(wD code c m).2)
theorem qNb {β:Type} {code:List Int} {base m:Int} {step:Cur→β×Cur} {N i:Nat} {c:Cur} {acc:List β} (hi:i<N) (h:(i:Int)<base+(wD code c m).1) :
  aI code base m step (N-i) i c acc=aI code base m step (N-(i+1)) (i+1) (step (wD code c m).2).2 (acc++[(step (wD code c m).2).1]):=by
 have:N-i=(N-(i+1))+1:=by omega
 rw [this]
 simp only [aI,if_pos h]
theorem qGv {β:Type} {code:List Int} {base m:Int} {step:Cur→β×Cur} {f i:Nat} {c:Cur} {acc:List β} (h :¬(i:Int)<base+(wD code c m).1) :
  aI code base m step f i c acc=(acc,(wD code c m).2):=by
 cases f with
 | zero=>rfl
 | succ f=>simp only [aI,if_neg h]
theorem kS {β:Type} {code:List Int} {base m:Int} {step:Cur→β×Cur} :∀(f i:Nat) (c:Cur) (acc:List β),acc.length≤(aI code base m step f i c acc).1.length∧(aI code base m step f i c acc).1.length≤acc.length+f
 | 0,_,_,acc=>by simp [aI]
 | f+1,i,c,acc=>by
  simp only [aI]
  split
  ·have:=kS (code:=code) (base:=base) (m:=m) (step:=step) f (i+1) (step (wD code c m).2).2 (acc++[(step (wD code c m).2).1])
   simp only [List.length_append,List.length_cons,List.length_nil] at this
   omega
  ·simp
theorem qTl {β:Type} {code:List Int} {base m:Int} {step:Cur→β×Cur} (f:Nat) (c:Cur) (hb:0<base) (hm:0<m):1≤(aI code base m step (f+1) 0 c []).1.length:=by
 have:=vA code c m hm
 simp only [aI]
 rw [if_pos (by omega)]
 have h2:=(kS (code:=code) (base:=base) (m:=m) (step:=step) f (0+1) (step (wD code c m).2).2 ([]++[(step (wD code c m).2).1])).1
 simpa using h2
theorem sK {β:Type} {code:List Int} {base m:Int} {step:Cur→β×Cur} {Q:β→Prop} (hs :∀c,Q (step c).1) :∀(f i:Nat) (c:Cur) (acc:List β),(∀x∈acc,Q x)→∀x∈(aI code base m step f i c acc).1,Q x
 | 0,_,_,acc,h=>h
 | f+1,i,c,acc,h=>by
  simp only [aI]
  split
  ·refine sK hs f (i+1) _ _ fun x hx=>?_
   rcases List.mem_append.1 hx with hx | hx
   ·exact h x hx
   ·rw [List.mem_singleton.1 hx]
    exact hs _
  ·exact h
def lK (code:List Int) (n:Nat) (c:Cur):List Int×Cur:=hP (fun d=>(IntKind.i64.wrap (1+(wD code d 4).1),(wD code d 4).2)) n c
def qHg (code:List Int) (n:Int) (c:Cur):wM×Cur :=
 (⟨(lK code n.toNat c).1,(aI code 1 4 (fun d=>nK code d n) 4 0 (lK code n.toNat c).2 []).1⟩,(aI code 1 4 (fun d=>nK code d n) 4 0 (lK code n.toNat c).2 []).2)
def bS (code:List Int) (c:Cur):wM×Cur:=qHg code (1+(wD code c 3).1) (wD code c 3).2
theorem sT (code:List Int) (n:Nat) (c:Cur):(lK code n c).1.length=n:=iF _ _ _
theorem qS0 (l:List (List Ins)) (b:List Ins):jZ .own l++[[.sl .own 5 (bL b)]]=jZ .own (l++[b]):=by simp [jZ]
theorem nC (code:List Int) (c:Cur) (hb:code.length<2^62):qW Tryz.prog num 55 [.ptr 0 0 0] [(0,some (3,[iR code c]),some (3,[iR code (bS code c).2]))] (.agg (jF .own (bS code c).1)):=by
 refine EH m55 Tryz.func64 ?_
 unfold m55 bS
 simp only [go_sem,seval]
 repeat refine K ?_
 refine CA [(0,0)] (yS code c 3 hb) ?_
 try simp only [go_sem,seval]
 repeat refine K ?_
 have hn:=vA code c 3 (by omega)
 generalize wD code c 3=r at hn
 obtain ⟨r,d⟩:=r
 simp only at hn⊢
 have w1:IntKind.i64.wrap (1+r)=1+r:=wJ (by omega) (by omega)
 try simp only [go_sem,seval,w1]
 repeat refine K ?_
 obtain ⟨n,hn2⟩:=Int.eq_ofNat_of_zero_le (show 0≤1+r by omega)
 rw [hn2]
 unfold qHg
 refine qX (ι:=Nat) (fun i=>.mk [(0,.ptr 0 0 0),(2,.ptr 10 0 0),(3,.ptr 11 0 0),(4,.int .i64 n),(5,.int .i64 i)] [(0,3,[iR code (lK code i d).2]),(10,2,[[.nil,.nil]]),(11,2,[[.sl .own 1 (wN (lK code i d).1),.nil]])] 12) (fun i=>i≤n) (fun i=>n-i) 0 (by simp) ?_ ?_
 ·refine Sub.shape [] id (by omega) ?_ ?_ ?_ ?_<;>simp [qK]
  all_goals simp [lK,hP,gU]
 ·intro i hi
  have hcl:=sT code i d
  simp only [go_sem,seval]
  refine qL (fun hc=>?_) (fun hc=>?_)
  ·simp only [decide_eq_true_eq] at hc
   simp only [go_sem,seval,qS (i:=i) (by omega),hcl]
   repeat refine K ?_
   refine DA [(0,0)] (yS code (lK code i d).2 4 hb) ?_
   try simp only [go_sem,seval]
   repeat refine K ?_
   try simp only [go_sem,seval,qS (i:=i) (by omega),hcl]
   repeat refine K ?_
   refine qT (i+1) ?_ (by omega) (by omega)
   have hs:lK code (i+1) d=((lK code i d).1++[IntKind.i64.wrap (1+(wD code (lK code i d).2 4).1)],(wD code (lK code i d).2 4).2):=rfl
   refine Sub.trans (Sub.fold1 11 0 14 rfl (by simp [-gD]<;>omega) rfl (by decide) (by decide) rfl) ?_
   simp only [fS,qA,qC,qFq,hcl]
   rw [hs]
   refine Sub.shape [] id (by omega) ?_ ?_ ?_ ?_<;>simp [qK]
  ·simp only [decide_eq_false_iff_not] at hc
   have hie:i=n:=by omega
   subst hie
   simp only [go_sem,seval]
   repeat refine K ?_
   try simp only [Int.toNat_natCast]
   obtain ⟨p,hp⟩ :∃p,lK code i d=p:=⟨_,rfl⟩
   obtain ⟨cs,e⟩:=p
   rw [hp] at hcl⊢
   simp only at hcl⊢
   refine qX (ι:=Nat×Cur×List (List Ins)) (fun s=>.mk [(0,.ptr 0 0 0),(2,.ptr 10 0 0),(3,.ptr 11 0 0),(4,.int .i64 i),(6,.int .i64 s.1)] [(0,3,[iR code s.2.1]),(10,2,[[.nil,.nil]]),(11,2,[[.sl .own 1 (wN cs),.sl .own 1 (jZ .own s.2.2)]])] 12) (fun s=>s.1≤4∧s.2.2.length=s.1∧aI code 1 4 (fun d=>nK code d i) (4-s.1) s.1 s.2.1 s.2.2=aI code 1 4 (fun d=>nK code d i) 4 0 e []) (fun s=>4-s.1) (0,e,[]) ⟨by simp,rfl,rfl⟩ ?_ ?_
   ·refine Sub.shape [] id (by omega) ?_ ?_ ?_ ?_<;>simp [qK]
   ·rintro ⟨j,f,acc⟩ ⟨hj,hl,hd⟩
    simp only at hj hl hd⊢
    simp only [go_sem,seval]
    refine CA [(0,0)] (yS code f 4 hb) ?_
    try simp only [go_sem,seval]
    repeat refine K ?_
    have hr:=vA code f 4 (by omega)
    have w2:IntKind.i64.wrap (1+(wD code f 4).1)=1+(wD code f 4).1:=wJ (by omega) (by omega)
    try simp only [go_sem,seval,w2]
    repeat refine K ?_
    refine qL (fun hc=>?_) (fun hc=>?_)
    ·simp only [decide_eq_true_eq] at hc
     have hg:=qNb (code:=code) (base:=1) (m:=4) (step:=fun d=>nK code d i) (N:=4) (i:=j) (c:=f) (acc:=acc) (by omega) hc
     rw [hg] at hd
     try simp only at hd
     simp only [go_sem,seval,qS (i:=j) (by omega),hl]
     repeat refine K ?_
     refine DA [(0,0)] (qLt code (wD code f 4).2 i hb) ?_
     try simp only [go_sem,seval]
     repeat refine K ?_
     try simp only [go_sem,seval,qS (i:=j) (by omega),hl]
     repeat refine K ?_
     refine qT (j+1,(nK code (wD code f 4).2 i).2,acc++[(nK code (wD code f 4).2 i).1]) ?_ ⟨by simp only; omega,by simp only [List.length_append,hl]; rfl,hd⟩ (by simp only; omega)
     refine Sub.trans (Sub.foldLast 15 0 13 rfl (by simp [-gD]<;>omega) rfl (by decide) (by decide) rfl) ?_
     simp only [fS,qA,qC,qS0]
     refine Sub.trans (Sub.fold1 11 1 15 rfl (by simp [-gD]<;>omega) rfl (by decide) (by decide) rfl) ?_
     simp only [fS,qA,qC,hl]
     refine Sub.shape [] id (by omega) ?_ ?_ ?_ ?_<;>simp [qK]
    ·simp only [decide_eq_false_iff_not] at hc
     rw [qGv hc] at hd
     simp only [go_sem,seval]
     repeat refine K ?_
     rw [←hd]
     apply wE
     ·exact Sub.refl _
     ·simp [-List.drop_one,-gD,]<;>(first | rfl | exact ⟨rfl,rfl⟩ | exact ⟨rfl,rfl,rfl⟩ | skip)
theorem qAy (code:List Int) (c:Cur):1≤(bS code c).1.caps.length∧(bS code c).1.caps.length≤3∧1≤(bS code c).1.bods.length∧(bS code c).1.bods.length≤4∧∀b∈(bS code c).1.bods,1≤b.length∧b.length≤24:=by
 unfold bS
 have hn:=vA code c 3 (by omega)
 generalize wD code c 3=r at hn
 obtain ⟨r,d⟩:=r
 simp only at hn⊢
 unfold qHg
 have h1:=sT code (1+r).toNat d
 generalize lK code (1+r).toNat d=p at h1
 obtain ⟨cs,e⟩:=p
 simp only at h1⊢
 refine ⟨by omega,by omega,qTl 3 e (by omega) (by omega),?_,sK (Q:=fun (b:List Ins)=>1≤b.length∧b.length≤24) (fun c=>qPg code c (1+r)) 4 0 e [] (by simp)⟩
 exact (kS 4 0 e []).2
def pR (n:Nat) (fA most:Int):Int:=if most<fA+(n:Int)/4 then most else fA+(n:Int)/4
theorem qFo (code:List Int) (fA most:Int) (hb:code.length<2^62) (h0:0≤fA∧fA<2^40):qW Tryz.prog num 213 [.sl .bw 1 (bys code),.int .i64 fA,.int .i64 most] [] (.int .i64 (pR code.length fA most)):=by
 have q0:Int.tdiv (code.length:Int) 4=(code.length:Int)/4:=Int.tdiv_eq_ediv_of_nonneg (by omega)
 have q1:IntKind.i64.wrap ((code.length:Int)/4)=(code.length:Int)/4:=wJ (by omega) (by omega)
 have q2:IntKind.i64.wrap (fA+(code.length:Int)/4)=fA+(code.length:Int)/4:=wJ (by omega) (by omega)
 refine EN m213 Tryz.func66 ?_
 unfold m213
 simp only [go_sem,seval,q0,q1,q2]
 repeat refine K ?_
 by_cases h:most<fA+(code.length:Int)/4
 ·try simp only [go_sem,seval,h,q0,q1,q2]
  repeat refine K ?_
  refine fz ?_; simp [qZ,qU,qV,qQ,-List.drop_one]
  simp [pR,h]
 ·try simp only [go_sem,seval,h,q0,q1,q2]
  repeat refine K ?_
  refine fz ?_; simp [qZ,qU,qV,qQ,-List.drop_one]
  simp [pR,h]
theorem qDo (n:Nat) {fA most:Int} (h:fA≤most):fA≤pR n fA most∧pR n fA most≤most:=by
 unfold pR
 split<;>omega
theorem qU8 (code:List Int):qW Tryz.prog num 19 [.sl .bw 1 (bys code)] [] (.bool (decide ((1048576:Int)<code.length))):=by
 refine EN m19 Tryz.func14 ?_
 unfold m19
 simp only [go_sem,seval]
 repeat refine K ?_
 refine fz ?_; simp [qZ,qU,qV,qQ,-List.drop_one]
end Go.Sep
