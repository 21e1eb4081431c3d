/- Contracts of functions. -/
import Derived.Test.YtebbppogicgpkaaGreatRxx31
namespace Go.Sep
set_option maxHeartbeats 16000000
open Go.Proofs
set_option linter.unusedSimpArgs false
set_option linter.unusedVariables false
set_option maxRecDepth 100000
open Nat renaming reduceAdd → qA, reduceMul → qB, reduceEqDiff → qC, reduceBEq → qD
open Int renaming reduceToNat → qE, reduceEq → qF, reduceLT → qG, reduceLE → qH
open List renaming getD_eq_getElem?_getD → gD
def m450:MFn:=⟨26,[.cell 2 2 true,.cell 3 4 true],kr [xo 2 (.alloc [.nil,.nil]),xo 3 (.alloc [.nil,.nil,.nil,.nil])] (kr [xv 7 0,xo 8 (.call 37 [true] [.t 7]),xv 4 8] (kr [xv 10 4,xo 11 (.call 467 [true] [.t 10]),xv 9 11,xX 12 9 0,xX 13 9 1,xo 5 (.alloc [.nil,.nil]),xo 6 (.alloc [.nil,.nil,.nil,.nil]),xS 2 5 12,xS 4 6 13] (.seq (kr [xv 14 4,xo 15 (.call 39 [true,false] [.t 14,xi 15])] (.blk 0 (kr [bI 17 .eql 15 0,xv 16 17] (.cond 16 (xr [xv 18 4,xo 19 (.call 38 [true] [.t 18]),xS 2 5 19]) (kr [bI 21 .eql 15 1,xv 20 21] (.cond 20 (xr [xv 22 4,xo 23 (.call 468 [true] [.t 22]),xS 4 6 23]) (.skip))))))) (.seq (.dreg (.take 0 (xm 24 2 5) (.take 1 (xm 25 4 6) (.only 2 [0] (xS 2 2 24) (.only 3 [0,1] (xS 4 3 25) (.done)))))) (.ret)))))⟩
def m451:MFn:=⟨18,[.cell 2 2 true,.cell 3 4 true,.t 4],kr [xo 2 (.alloc [.nil,.nil]),xo 3 (.alloc [.nil,.nil,.nil,.nil]),xI 4 0] (kr [xv 8 0,xo 9 (.call 450 [true] [.t 8]),xv 7 9,xX 10 7 0,xX 11 7 1,xo 5 (.alloc [.nil,.nil]),xo 6 (.alloc [.nil,.nil,.nil,.nil]),xS 2 5 10,xS 4 6 11] (.seq (.dreg (.take 0 (xm 12 2 5) (.take 1 (xm 13 4 6) (.only 2 [] (xv 14 0) (.only 3 [] (xo 15 (.call 37 [true] [.t 14])) (.only 4 [] (xo 16 (.call 39 [true,false] [.t 15,xi 9])) (.take 5 (bI 17 .sub 16 1) (.only 6 [0] (xS 2 2 12) (.only 7 [0,1] (xS 4 3 13) (.only 8 [0,1,5] (xv 4 17) (.done))))))))))) (.ret)))⟩
def m467:MFn:=⟨32,[.cell 2 2 true,.cell 3 4 true],kr [xo 2 (.alloc [.nil,.nil]),xo 3 (.alloc [.nil,.nil,.nil,.nil])] (kr [xv 8 0,xo 9 (.call 55 [true] [.t 8]),xo 4 (.alloc [.nil,.nil]),xS 2 4 9] (.seq (.dreg (.take 0 (xm 11 2 4) (.take 1 (xv 12 0) (.take 2 (xa 13 1 4) (.take 3 (xl 14 13) (.take 4 (xe 15 14) (.both 5 [1,4,3,2] (xo 16 (.call 463 [true,false,false] [.t 12,.t 15,xi 30])) (.both 6 [0,5,1,4,3,2] (xc2 17 406 (.t 11) (.t 16)) (.take 7 (xv 10 17) (.take 8 (xX 18 10 0) (.take 9 (xX 19 10 1) (.take 10 (xX 20 10 2) (.only 11 [] (xo 6 (.alloc [.nil,.nil,.nil,.nil])) (.only 12 [0,1,2,3,4,7,8] (xv 5 18) (.only 13 [0,1,2,3,4,7,8,9] (xS 4 6 19) (.only 14 [0,1,2,3,4,7,8,9,10] (xv 7 20) (.done))))))))) 11 [] (xo 6 (.alloc [.nil,.nil,.nil,.nil])) (.only 6 [0,5,1,4,3,2] (xc2 17 406 (.t 11) (.t 16)) (.only 7 [6,0,5,1,4,3,2] (xv 10 17) (.take 8 (xX 18 10 0) (.take 9 (xX 19 10 1) (.take 10 (xX 20 10 2) (.only 12 [0,1,2,3,4,8] (xv 5 18) (.only 13 [0,1,2,3,4,8,9] (xS 4 6 19) (.only 14 [0,1,2,3,4,8,9,10] (xv 7 20) (.done)))))))))) 11 [] (xo 6 (.alloc [.nil,.nil,.nil,.nil])) (.only 5 [1,4,3,2] (xo 16 (.call 463 [true,false,false] [.t 12,.t 15,xi 30])) (.only 6 [0,5,1,4,3,2] (xc2 17 406 (.t 11) (.t 16)) (.only 7 [6,0,5,1,4,3,2] (xv 10 17) (.take 8 (xX 18 10 0) (.take 9 (xX 19 10 1) (.take 10 (xX 20 10 2) (.only 12 [0,1,2,3,4,8] (xv 5 18) (.only 13 [0,1,2,3,4,8,9] (xS 4 6 19) (.only 14 [0,1,2,3,4,8,9,10] (xv 7 20) (.done))))))))))))))))) (.seq (kr [xv 21 7,xN 22 21] (.cond 22 (xr [xo 24 (.build [xz,xz,xz,xz,xz] [(0,1,xi 12)]),xo 25 (.mkSl [xz,xz,xz,xz,xz] 1 [(0,.t 24)]),xo 26 (.mkSl [.nil] 1 [(0,.t 25)]),xc1 27 415 (.t 26),xv 23 27,xX 28 23 0,xX 29 23 1,xS 4 6 28]) (.skip))) (.seq (.dreg (.take 0 (xm 30 2 4) (.take 1 (xm 31 4 6) (.only 2 [0] (xS 2 2 30) (.only 3 [0,1] (xS 4 3 31) (.done)))))) (.ret)))))⟩
def m468:MFn:=⟨62,[.cell 2 4 true],kr [xo 2 (.alloc [.nil,.nil,.nil,.nil])] (kr [xv 4 0,xo 5 (.call 471 [true] [.t 4]),xo 3 (.alloc [.nil,.nil,.nil,.nil]),xS 4 3 5] (.seq (kr [xv 6 0,xo 7 (.call 39 [true,false] [.t 6,xi 20])] (.blk 0 (kr [bI 9 .eql 7 0,xv 8 9] (.cond 8 (.dreg (.take 0 (xa 10 1 3) (.take 1 (xl 11 10) (.take 2 (xv 12 0) (.only 3 [] (xo 13 (.mkSl [xz] 2 [(0,.c (.int .i64 (-1))),(1,xi 50)])) (.only 4 [2] (xo 14 (.call 56 [true,false] [.t 12,.t 13])) (.only 5 [0,1,2] (xo 15 (.iad 4 (.t 11) (xi 0))) (.only 6 [0,1,2] (xa 16 0 15) (.only 7 [0,1,2] (xS 1 16 14) (.done)))))))))) (kr [bI 18 .eql 7 1,xv 17 18] (.cond 17 (.dreg (.take 0 (xa 19 1 3) (.take 1 (xl 20 19) (.take 2 (xo 21 (.iad 4 (.t 20) (xi 0))) (.take 3 (xa 22 2 21) (.take 4 (xl 23 22) (.take 5 (xv 24 0) (.only 6 [] (xo 25 (.mkSl [xz] 2 [(0,.c (.int .i64 (-1))),(1,xi 99)])) (.only 7 [5] (xo 26 (.call 56 [true,false] [.t 24,.t 25])) (.only 8 [0,1,2,3,4,5] (xo 27 (.iad 1 (.t 23) (xi 1))) (.only 9 [0,1,2,3,4,5] (xS 1 27 26) (.done)))))))))))) (kr [bI 29 .eql 7 2,xv 28 29] (.cond 28 (.dreg (.take 0 (xa 30 0 3) (.take 1 (xl 31 30) (.only 2 [] (xa 32 0 3) (.only 3 [] (xl 33 32) (.only 4 [] (xo 34 (.iad 1 (.t 33) (xi 0))) (.only 5 [] (xl 35 34) (.only 6 [] (xo 36 (.cut 5 (.t 35) (some (xi 1)) none)) (.only 7 [0,1] (xo 37 (.iad 1 (.t 31) (xi 0))) (.only 8 [0,1] (xS 1 37 36) (.done))))))))))) (kr [bI 39 .eql 7 3,xv 38 39] (.cond 38 (.dreg (.take 0 (xa 40 3 3) (.take 1 (xl 41 40) (.only 2 [] (xv 42 0) (.only 3 [] (xo 43 (.call 39 [true,false] [.t 42,xi 5])) (.only 4 [] (xo 44 (.build [xz,xz] [(0,1,.t 43)])) (.only 5 [] (xo 45 (.mkSl [xz,xz] 1 [(0,.t 44)])) (.only 6 [1,0] (xA 46 2 16 41 45) (.only 7 [0,1] (xa 47 3 3) (.only 8 [0,1] (xS 1 47 46) (.done))))))))))) (kr [bI 49 .eql 7 4,xv 48 49] (.cond 48 (.dreg (.take 0 (xa 50 1 3) (.take 1 (xl 51 50) (.take 2 (xo 52 (.iad 4 (.t 51) (xi 0))) (.take 3 (xa 53 1 52) (.take 4 (xl 54 53) (.take 5 (xv 55 0) (.take 7 (xv 57 0) (.both 6 [5] (xo 56 (.call 39 [true,false] [.t 55,xi 8])) (.only 8 [] (xo 58 (.mkSl [xz] 3 [(0,.c (.int .i64 (-9223372036854775807))),(1,xi 24),(2,xi 9223372036854775807)])) (.only 9 [6,7,5] (xo 59 (.call 56 [true,false] [.t 57,.t 58])) (.only 10 [0,1,2,3,4,5,7] (xD 60 1 54 56) (.only 11 [0,1,2,3,4,5,7] (xS 1 60 59) (.done))))) 8 [] (xo 58 (.mkSl [xz] 3 [(0,.c (.int .i64 (-9223372036854775807))),(1,xi 24),(2,xi 9223372036854775807)])) (.only 6 [5] (xo 56 (.call 39 [true,false] [.t 55,xi 8])) (.only 9 [6,7,5] (xo 59 (.call 56 [true,false] [.t 57,.t 58])) (.only 10 [0,1,2,3,4,5,7] (xD 60 1 54 56) (.only 11 [0,1,2,3,4,5,7] (xS 1 60 59) (.done)))))))))))))) (.skip))))))))))))) (kR [xm 61 4 3,xS 4 2 61])))⟩
def m471:MFn:=⟨35,[.cell 2 4 true],kr [xo 2 (.alloc [.nil,.nil,.nil,.nil])] (kr [xo 7 (.mkSl [.nil] 0 []),xv 3 7] (.seq (kr [xI 4 0] (.blk 0 (.loop (.seq (kr [xv 8 4,xv 9 0,xo 10 (.call 39 [true,false] [.t 9,xi 3]),xo 11 (.bin .add (xi 1) (.t 10)),bT 12 .lss 8 11] (kX 12 0)) (.seq (.blk 1 (xr [xv 15 3,xv 16 0,xo 17 (.call 472 [true] [.t 16]),xo 18 (.mkSl [.nil] 1 [(0,.t 17)]),xA 19 1 24 15 18,xv 3 19])) (xr [xv 13 4,bI 14 .add 13 1,xv 4 14])))))) (kr [xv 21 3,xc1 22 415 (.t 21),xv 20 22,xX 23 20 0,xX 24 20 1,xo 5 (.alloc [.nil,.nil,.nil,.nil]),xS 4 5 23,xv 6 24] (.seq (.dreg (.take 0 (xm 26 4 5) (.take 1 (xv 27 0) (.only 2 [] (xv 28 3) (.only 3 [] (xe 29 28) (.only 4 [1] (xo 30 (.call 463 [true,false,false] [.t 27,.t 29,xi 12])) (.only 5 [0,4,1] (xc2 31 386 (.t 26) (.t 30)) (.only 6 [5,0,4,1] (xv 25 31) (.take 7 (xX 32 25 0) (.take 8 (xX 33 25 1) (.only 9 [0,1,7] (xS 4 5 32) (.done)))))))))))) (kR [xm 34 4 5,xS 4 2 34])))))⟩
def m472:MFn:=⟨29,[.t 2],kr [xo 2 (.mv (.c (.nil)))] (kr [xv 6 0,xo 7 (.call 39 [true,false] [.t 6,xi 14]),xo 8 (.bin .add (xi 2) (.t 7)),xv 3 8] (kr [xo 9 (.mkSl [xz,xz,xz,xz,xz] 0 []),xv 4 9] (.seq (kr [xI 5 0] (.blk 0 (.loop (.seq (kr [xv 10 5,xv 11 3,bI 12 .sub 11 1,bT 13 .lss 10 12] (kX 13 0)) (.seq (.blk 1 (xr [xv 16 4,xv 17 0,xv 18 3,xo 19 (.call 473 [true,false] [.t 17,.t 18]),xo 20 (.mkSl [xz,xz,xz,xz,xz] 1 [(0,.t 19)]),xA 21 5 40 16 20,xv 4 21])) (xr [xv 14 5,bI 15 .add 14 1,xv 5 15])))))) (kR [xv 22 4,xv 23 0,xo 24 (.mkSl [xz] 2 [(0,xi 12),(1,xi 10)]),xo 25 (.call 56 [true,false] [.t 23,.t 24]),xo 26 (.build [xz,xz,xz,xz,xz] [(0,1,.t 25)]),xo 27 (.mkSl [xz,xz,xz,xz,xz] 1 [(0,.t 26)]),xA 28 5 40 22 27,xv 2 28]))))⟩
def m473:MFn:=⟨93,[.cell 4 5 true],kr [xo 4 (.alloc [xz,xz,xz,xz,xz])] (kr [xv 10 0,xo 11 (.call 39 [true,false] [.t 10,xi 13]),xo 12 (.bin .add (xi 1) (.t 11)),xo 13 (.build [xz,xz,xz,xz,xz] [(0,1,.t 12)]),xo 5 (.alloc [xz,xz,xz,xz,xz]),xS 5 5 13] (kr [xv 14 0,xo 15 (.call 39 [true,false] [.t 14,xi 8]),xv 16 0,xo 17 (.call 39 [true,false] [.t 16,xi 8]),xv 18 0,xo 19 (.call 39 [true,false] [.t 18,xi 8]),xv 20 0,xo 21 (.mkSl [xz] 5 [(0,xi 0),(1,xi 1),(2,xi 2),(3,xi 5),(4,xi 23)]),xo 22 (.call 56 [true,false] [.t 20,.t 21]),xv 6 15,xv 7 17,xv 8 19,xv 9 22] (.seq (kr [xa 23 0 5,xl 24 23] (.blk 0 (kr [bI 26 .eql 24 1,xv 25 26] (.cond 25 (kr [xv 27 6,xa 28 1 5,xS 1 28 27] (xr [xv 29 0,xo 30 (.call 39 [true,false] [.t 29,xi 20]),bI 31 .sub 30 5,xa 32 4 5,xS 1 32 31])) (.seq (kr [bI 34 .eql 24 2,xv 33 34] (.cond 33 (.skip) (kr [bI 35 .eql 24 3,xv 33 35] (.cond 33 (.skip) (xr [bI 36 .eql 24 4,xv 33 36]))))) (.cond 33 (kr [xv 37 6,xa 38 1 5,xS 1 38 37] (kr [xv 39 7,xa 40 2 5,xS 1 40 39] (xr [xv 41 8,xa 42 3 5,xS 1 42 41]))) (kr [bI 44 .eql 24 5,xv 43 44] (.cond 43 (kr [xv 45 6,xa 46 1 5,xS 1 46 45] (kr [xv 47 0,xv 48 7,xo 49 (.mkSl [xz] 3 [(0,.c (.int .i64 (-1))),(1,.c (.int .i64 (-1))),(2,.t 48)]),xo 50 (.call 56 [true,false] [.t 47,.t 49]),xa 51 2 5,xS 1 51 50] (xr [xv 52 9,xa 53 4 5,xS 1 53 52]))) (.seq (kr [bI 55 .eql 24 6,xv 54 55] (.cond 54 (.skip) (xr [bI 56 .eql 24 7,xv 54 56]))) (.cond 54 (kr [xv 57 8,xa 58 3 5,xS 1 58 57] (kr [xv 59 0,xv 60 7,xo 61 (.mkSl [xz] 3 [(0,.c (.int .i64 (-1))),(1,.c (.int .i64 (-1))),(2,.t 60)]),xo 62 (.call 56 [true,false] [.t 59,.t 61]),xa 63 2 5,xS 1 63 62] (xr [xv 64 9,xa 65 4 5,xS 1 65 64]))) (kr [bI 67 .eql 24 8,xv 66 67] (.cond 66 (kr [xv 68 6,xa 69 1 5,xS 1 69 68] (kr [xv 70 8,xa 71 3 5,xS 1 71 70] (xr [xv 72 9,xa 73 4 5,xS 1 73 72]))) (kr [bI 75 .eql 24 9,xv 74 75] (.cond 74 (xr [xv 76 7,xa 77 2 5,xS 1 77 76]) (kr [bI 79 .eql 24 10,xv 78 79] (.cond 78 (xr [xv 80 0,xv 81 1,xo 82 (.call 39 [true,false] [.t 80,.t 81]),xa 83 4 5,xS 1 83 82]) (kr [bI 85 .eql 24 11,xv 84 85] (.cond 84 (kr [xv 86 7,xa 87 2 5,xS 1 87 86] (xr [xv 88 0,xv 89 1,xo 90 (.call 39 [true,false] [.t 88,.t 89]),xa 91 4 5,xS 1 91 90])) (.skip))))))))))))))))))) (kR [xm 92 5 5,xS 5 4 92]))))⟩
theorem sF (code:List Int) (c:Cur) {l:List Int} (hl:0<l.length):(gY code c l).1∈l:=by
 have h:=yB code c l.length (by omega)
 unfold gY
 simp only
 rw [List.getD_eq_getElem?_getD,List.getElem?_eq_getElem (by omega)]
 exact List.getElem_mem _
def qFd (code:List Int) (places op r a b n:Int) (c:Cur):yC×Cur :=
 if op=1 then (⟨1,r,0,0,(qQ code c 20).1-5⟩,(qQ code c 20).2)
 else if op=2∨op=3∨op=4 then (⟨op,r,a,b,0⟩,c)
 else if op=5 then (⟨5,r,(gY code c [-1,-1,a]).1,0,n⟩,(gY code c [-1,-1,a]).2)
 else if op=6∨op=7 then (⟨op,0,(gY code c [-1,-1,a]).1,b,n⟩,(gY code c [-1,-1,a]).2)
 else if op=8 then (⟨8,r,0,b,n⟩,c)
 else if op=9 then (⟨9,0,a,0,0⟩,c)
 else if op=10 then (⟨10,0,0,0,(qQ code c places).1⟩,(qQ code c places).2)
 else if op=11 then (⟨11,0,a,0,(qQ code c places).1⟩,(qQ code c places).2)
 else (⟨op,0,0,0,0⟩,c)
def qM9 (code:List Int) (places op r a b:Int) (c:Cur):yC×Cur:=qFd code places op r a b (gY code c [0,1,2,5,23]).1 (gY code c [0,1,2,5,23]).2
def qMa (code:List Int) (places op r a:Int) (c:Cur):yC×Cur:=qM9 code places op r a (qQ code c 8).1 (qQ code c 8).2
def qMb (code:List Int) (places op r:Int) (c:Cur):yC×Cur:=qMa code places op r (qQ code c 8).1 (qQ code c 8).2
def qMc (code:List Int) (places op:Int) (c:Cur):yC×Cur:=qMb code places op (qQ code c 8).1 (qQ code c 8).2
def iO (code:List Int) (places:Int) (c:Cur):yC×Cur:=qMc code places (1+(qQ code c 13).1) (qQ code c 13).2
theorem qQl {code:List Int} {places op r a b n:Int} {c:Cur} (h0:0<places) (h1:1≤op∧op≤13) (h2:0≤r∧r<8) (h3:0≤a∧a<8) (h4:0≤b∧b<8) (h5:0≤n∧n≤23):yE (qFd code places op r a b n c).1 places=true:=by
 have g1:=yB code c 20 (by omega)
 have g2:=yB code c places h0
 have g3:(gY code c [-1,-1,a]).1=-1∨(gY code c [-1,-1,a]).1=a:=by
  have:=sF code c (l:=[-1,-1,a]) (by simp)
  simpa using this
 unfold qFd
 obtain rfl | rfl | rfl | rfl | rfl | rfl | rfl | rfl | rfl | rfl | rfl | rfl | rfl:op=1∨op=2∨op=3∨op=4∨op=5∨op=6∨op=7∨op=8∨op=9∨op=10∨op=11∨op=12∨op=13:=by omega
 all_goals (simp [yE,fG]; try omega)
theorem qU0 (code:List Int) {places:Int} (c:Cur) (h0:0<places):yE (iO code places c).1 places=true:=by
 have h1:=yB code c 13 (by omega)
 unfold iO qMc qMb qMa qM9
 refine qQl h0 (by omega) (yB code _ 8 (by omega)) (yB code _ 8 (by omega)) (yB code _ 8 (by omega)) ?_
 have:=sF code (qQ code (qQ code (qQ code (qQ code c 13).2 8).2 8).2 8).2 (l:=[0,1,2,5,23]) (by simp)
 simp at this
 omega
def qC2 (code:List Int) (n:Int) (q:List yC×Cur):List yC×Cur:=(q.1++[⟨(gY code q.2 [12,10]).1,0,0,0,0⟩],(gY code q.2 [12,10]).2)
def zU (code:List Int) (c:Cur):List yC×Cur:=qC2 code (2+(qQ code c 14).1) (zL (iO code (2+(qQ code c 14).1)) (1+(qQ code c 14).1).toNat (qQ code c 14).2)
theorem tT (code:List Int) (c:Cur):2≤(zU code c).1.length∧(zU code c).1.length≤16∧(zU code c).1.length=(2+(qQ code c 14).1).toNat:=by
 have h:=yB code c 14 (by omega)
 unfold zU qC2
 simp only [List.length_append,zK,List.length_singleton]
 omega
theorem qU1 (code:List Int) (c:Cur):uB (zU code c).1=true:=by
 have h:=yB code c 14 (by omega)
 obtain ⟨l1,l2,l3⟩:=tT code c
 have hp:((zU code c).1.length:Int)=2+(qQ code c 14).1:=by omega
 have hlast:iN (zU code c).1=12∨iN (zU code c).1=10:=by
  unfold iN zU qC2
  simp only [List.length_append,List.length_singleton,Nat.add_sub_cancel]
  rw [List.getD_eq_getElem?_getD,List.getElem?_append_right (Nat.le_refl _),Nat.sub_self]
  have:=sF code (zL (iO code (2+(qQ code c 14).1)) (1+(qQ code c 14).1).toNat (qQ code c 14).2).2 (l:=[12,10]) (by simp)
  simpa using this
 have hall :∀x∈(zU code c).1,yE x (2+(qQ code c 14).1)=true:=by
  intro x hx
  unfold zU qC2 at hx
  simp only at hx
  rcases List.mem_append.1 hx with hx | hx
  ·exact sL (Q:=fun x=>yE x (2+(qQ code c 14).1)=true) (fun d=>qU0 code d (by omega)) _ _ x hx
  ·rw [List.mem_singleton.1 hx]
   have:=sF code (zL (iO code (2+(qQ code c 14).1)) (1+(qQ code c 14).1).toNat (qQ code c 14).2).2 (l:=[12,10]) (by simp)
   simp only [List.mem_cons,List.not_mem_nil,or_false] at this
   rcases this with e | e<;>rw [e]<;>simp [yE,fG]
   omega
 unfold uB
 rw [hp]
 simp only [Bool.and_eq_true,Bool.or_eq_true,decide_eq_true_eq,qM,List.all_eq_true]
 exact ⟨⟨by omega,hall⟩,by omega⟩
theorem qWo:gR qQ6 z24=true:=by decide
theorem qTg:uZ qQ6=true:=by decide +kernel
theorem oF {l:List (List yC)} (h1:1≤l.length) (h2:l.length≤4) (h3 :∀c∈l,uB c=true):qX (bM l)=true:=by
 unfold qX bM
 simp only [List.length_replicate,Bool.and_eq_true,decide_eq_true_eq,qM,nC]
 refine ⟨⟨⟨⟨by omega,trivial⟩,qTg⟩,by simp [uY]⟩,fun i hi=>?_⟩
 have hc:=h3 _ (wX l i [] hi)
 have hn:1≤(l.getD i []).length:=by
  unfold uB at hc
  simp only [Bool.and_eq_true,qM] at hc
  omega
 have hk:(List.replicate l.length k00).getD i default=k00:=by
  rw [List.getD_eq_getElem?_getD,List.getElem?_replicate,if_pos hi]
  rfl
 unfold iP
 simp only [hk,hc,Bool.and_eq_true,decide_eq_true_eq,qM,Bool.true_and]
 refine ⟨⟨⟨rfl,?_⟩,?_⟩,qWo⟩
 ·show (0:Int)≤0∧(0:Int)≤_
  omega
 ·show (0:Int)≤0∧(0:Int)≤2
  omega
def xB (code:List Int) (c:Cur):List (List yC)×Cur:=gW code 1 3 (zU code) 3 0 c []
theorem qAh (code:List Int) (c:Cur):1≤(xB code c).1.length∧(xB code c).1.length≤3∧∀x∈(xB code c).1,uB x=true∧x.length≤16:=by
 refine ⟨qHc 2 c (by omega) (by omega),?_,lG (Q:=fun x=>uB x=true∧x.length≤16) (fun d=>⟨qU1 code d,(tT code d).2.1⟩) 3 0 c [] (by simp)⟩
 have:=(cA (code:=code) (base:=1) (m:=3) (step:=zU code) 3 0 c []).2
 simpa [xB] using this
def qNm (code:List Int) (q:List (List yC)×Cur):qK×Cur:=(eJ (bM q.1) (gE code q.2 q.1.length 12).1,(gE code q.2 q.1.length 12).2)
def nS (code:List Int) (c:Cur):qK×Cur:=qNm code (xB code c)
theorem qG4 (code:List Int) (c:Cur):qX (nS code c).1=true:=by
 obtain ⟨h1,h2,h3⟩:=qAh code c
 exact qBh _ (oF h1 (by omega) fun x hx=>(h3 x hx).1)
theorem qNl (code:List Int) (c:Cur):xL (xB code c).1=(bM (xB code c).1,true)∧(cX (bM (xB code c).1) (gE code (xB code c).2 (xB code c).1.length 12).1).1=(nS code c).1:=by
 obtain ⟨h1,h2,h3⟩:=qAh code c
 have hm:=oF h1 (by omega) fun x hx=>(h3 x hx).1
 have hl:(gE code (xB code c).2 (xB code c).1.length 12).1.length≤6*12:=oG code (xB code c).2 (xB code c).1.length (most:=12)
 refine ⟨by rw [xL,if_pos hm],?_⟩
 unfold cX
 rw [hm,decide_eq_false (by omega)]
 rfl
theorem qIu (code:List Int) (c:Cur) (places:Int) (hb:code.length<2^62):qZ Tryz.prog num 473 [.ptr 0 0 0,.int .i64 places] [(0,some (3,[xV code c]),some (3,[xV code (iO code places c).2]))] (.agg (jZ (iO code places c).1)):=by
 refine EH m473 Tryz.func217 ?_
 unfold m473 iO
 simp only [go_sem,seval]
 repeat refine K ?_
 refine CA [(0,0)] (wP code c 13 hb) ?_
 try simp only [go_sem,seval]
 repeat refine K ?_
 have ho:=yB code c 13 (by omega)
 generalize qQ code c 13=o at ho
 obtain ⟨o,c1⟩:=o
 simp only at ho⊢
 have w1:IntKind.i64.wrap (1+o)=1+o:=wM (by omega) (by omega)
 unfold qMc
 try simp only [go_sem,seval,w1]
 repeat refine K ?_
 refine CA [(0,0)] (wP code c1 8 hb) ?_
 try simp only [go_sem,seval]
 repeat refine K ?_
 generalize qQ code c1 8=r
 unfold qMb
 try simp only [go_sem,seval]
 repeat refine K ?_
 refine CA [(0,0)] (wP code r.2 8 hb) ?_
 try simp only [go_sem,seval]
 repeat refine K ?_
 generalize qQ code r.2 8=a
 unfold qMa
 try simp only [go_sem,seval]
 repeat refine K ?_
 refine CA [(0,0)] (wP code a.2 8 hb) ?_
 try simp only [go_sem,seval]
 repeat refine K ?_
 generalize qQ code a.2 8=b
 unfold qM9
 have hl:wK [0,1,2,5,23]=[[AV.int .i64 0],[.int .i64 1],[.int .i64 2],[.int .i64 5],[.int .i64 23]]:=rfl
 try simp only [go_sem,seval,←hl]
 repeat refine K ?_
 refine CA [(0,0)] (uS code b.2 [0,1,2,5,23] hb (by decide)) ?_
 try simp only [go_sem,seval]
 repeat refine K ?_
 generalize gY code b.2 [0,1,2,5,23]=n
 try simp only [go_sem,seval]
 repeat refine K ?_
 obtain ⟨n,d⟩:=n
 simp only
 generalize 1+o=op at *
 have hl3:wK [-1,-1,a.1]=[[AV.int .i64 (-1)],[.int .i64 (-1)],[.int .i64 a.1]]:=rfl
 unfold qFd
 by_cases h1:op=1
 ·subst h1
  have w2:IntKind.i64.wrap ((qQ code d 20).1-5)=(qQ code d 20).1-5:=by
   have:=yB code d 20 (by omega)
   exact wM (by omega) (by omega)
  try simp only [go_sem,seval,reduceCtorEq]
  repeat refine K ?_
  refine CA [(0,0)] (wP code d 20 hb) ?_
  try simp only [go_sem,seval]
  repeat refine K ?_
  try simp only [go_sem,seval,w2]
  repeat refine K ?_
  apply wD
  ·exact Sub.refl _
  ·simp [-List.drop_one,-gD,jZ]<;>(first | rfl | exact ⟨rfl,rfl⟩ | exact ⟨rfl,rfl,rfl⟩ | skip)
 by_cases h2:op=2
 ·subst h2
  try simp only [go_sem,seval,reduceCtorEq]
  repeat refine K ?_
  apply wD
  ·exact Sub.refl _
  ·simp [-List.drop_one,-gD,jZ]<;>(first | rfl | exact ⟨rfl,rfl⟩ | exact ⟨rfl,rfl,rfl⟩ | skip)
 by_cases h3:op=3
 ·subst h3
  try simp only [go_sem,seval,reduceCtorEq]
  repeat refine K ?_
  apply wD
  ·exact Sub.refl _
  ·simp [-List.drop_one,-gD,jZ]<;>(first | rfl | exact ⟨rfl,rfl⟩ | exact ⟨rfl,rfl,rfl⟩ | skip)
 by_cases h4:op=4
 ·subst h4
  try simp only [go_sem,seval,reduceCtorEq]
  repeat refine K ?_
  apply wD
  ·exact Sub.refl _
  ·simp [-List.drop_one,-gD,jZ]<;>(first | rfl | exact ⟨rfl,rfl⟩ | exact ⟨rfl,rfl,rfl⟩ | skip)
 by_cases h5:op=5
 ·subst h5
  try simp only [go_sem,seval,reduceCtorEq,←hl3]
  repeat refine K ?_
  refine CA [(0,0)] (uS code d [-1,-1,a.1] hb (by simp)) ?_
  try simp only [go_sem,seval]
  repeat refine K ?_
  try simp only [go_sem,seval]
  repeat refine K ?_
  apply wD
  ·exact Sub.refl _
  ·simp [-List.drop_one,-gD,jZ]<;>(first | rfl | exact ⟨rfl,rfl⟩ | exact ⟨rfl,rfl,rfl⟩ | skip)
 by_cases h6:op=6
 ·subst h6
  try simp only [go_sem,seval,reduceCtorEq,←hl3]
  repeat refine K ?_
  refine CA [(0,0)] (uS code d [-1,-1,a.1] hb (by simp)) ?_
  try simp only [go_sem,seval]
  repeat refine K ?_
  try simp only [go_sem,seval]
  repeat refine K ?_
  apply wD
  ·exact Sub.refl _
  ·simp [-List.drop_one,-gD,jZ]<;>(first | rfl | exact ⟨rfl,rfl⟩ | exact ⟨rfl,rfl,rfl⟩ | skip)
 by_cases h7:op=7
 ·subst h7
  try simp only [go_sem,seval,reduceCtorEq,←hl3]
  repeat refine K ?_
  refine CA [(0,0)] (uS code d [-1,-1,a.1] hb (by simp)) ?_
  try simp only [go_sem,seval]
  repeat refine K ?_
  try simp only [go_sem,seval]
  repeat refine K ?_
  apply wD
  ·exact Sub.refl _
  ·simp [-List.drop_one,-gD,jZ]<;>(first | rfl | exact ⟨rfl,rfl⟩ | exact ⟨rfl,rfl,rfl⟩ | skip)
 by_cases h8:op=8
 ·subst h8
  try simp only [go_sem,seval,reduceCtorEq]
  repeat refine K ?_
  apply wD
  ·exact Sub.refl _
  ·simp [-List.drop_one,-gD,jZ]<;>(first | rfl | exact ⟨rfl,rfl⟩ | exact ⟨rfl,rfl,rfl⟩ | skip)
 by_cases h9:op=9
 ·subst h9
  try simp only [go_sem,seval,reduceCtorEq]
  repeat refine K ?_
  apply wD
  ·exact Sub.refl _
  ·simp [-List.drop_one,-gD,jZ]<;>(first | rfl | exact ⟨rfl,rfl⟩ | exact ⟨rfl,rfl,rfl⟩ | skip)
 by_cases h10:op=10
 ·subst h10
  try simp only [go_sem,seval,reduceCtorEq]
  repeat refine K ?_
  refine CA [(0,0)] (wP code d places hb) ?_
  try simp only [go_sem,seval]
  repeat refine K ?_
  try simp only [go_sem,seval]
  repeat refine K ?_
  apply wD
  ·exact Sub.refl _
  ·simp [-List.drop_one,-gD,jZ]<;>(first | rfl | exact ⟨rfl,rfl⟩ | exact ⟨rfl,rfl,rfl⟩ | skip)
 by_cases h11:op=11
 ·subst h11
  try simp only [go_sem,seval,reduceCtorEq]
  repeat refine K ?_
  refine CA [(0,0)] (wP code d places hb) ?_
  try simp only [go_sem,seval]
  repeat refine K ?_
  try simp only [go_sem,seval]
  repeat refine K ?_
  apply wD
  ·exact Sub.refl _
  ·simp [-List.drop_one,-gD,jZ]<;>(first | rfl | exact ⟨rfl,rfl⟩ | exact ⟨rfl,rfl,rfl⟩ | skip)
 try simp only [go_sem,seval,h1,h2,h3,h4,h5,h6,h7,h8,h9,h10,h11]
 repeat refine K ?_
 apply wD
 ·exact Sub.refl _
 ·simp [-List.drop_one,-gD,jZ,h1,h2,h3,h4,h5,h6,h7,h8,h9,h10,h11]<;>(first | rfl | exact ⟨rfl,rfl⟩ | exact ⟨rfl,rfl,rfl⟩ | skip)
theorem qIv (code:List Int) (c:Cur) (hb:code.length<2^62):qZ Tryz.prog num 472 [.ptr 0 0 0] [(0,some (3,[xV code c]),some (3,[xV code (zU code c).2]))] (.sl .own 5 (wQ (zU code c).1)):=by
 refine EH m472 Tryz.func191 ?_
 unfold m472 zU
 simp only [go_sem,seval]
 repeat refine K ?_
 refine CA [(0,0)] (wP code c 14 hb) ?_
 try simp only [go_sem,seval]
 repeat refine K ?_
 have hr:=yB code c 14 (by omega)
 generalize qQ code c 14=r at hr
 obtain ⟨r,e⟩:=r
 simp only at hr⊢
 have w1:IntKind.i64.wrap (2+r)=2+r:=wM (by omega) (by omega)
 have w2:IntKind.i64.wrap (2+r-1)=1+r:=by rw [wM (by omega) (by omega)]; omega
 try simp only [go_sem,seval,w1]
 repeat refine K ?_
 refine wC (ι:=Nat) (fun i=>.mk [(0,.ptr 0 0 0),(3,.int .i64 (2+r)),(4,.ns 10 0 i),(5,.int .i64 i)] [(0,3,[xV code (zL (iO code (2+r)) i e).2]),(10,5,wQ (zL (iO code (2+r)) i e).1)] 11) (fun i=>i≤(1+r).toNat) (fun i=>(1+r).toNat-i) 0 (by simp) ?_ ?_
 ·refine Sub.shape [] id (by omega) ?_ ?_ ?_ ?_<;>simp [qP]
  all_goals simp [zL,wQ]
 ·intro i hi
  simp only [go_sem,seval,w2]
  refine qS (fun hc=>?_) (fun hc=>?_)
  ·simp only [decide_eq_true_eq] at hc
   simp only [go_sem,seval,w2,qR (i:=i) (by omega)]
   repeat refine K ?_
   refine CA [(0,0)] (qIu code (zL (iO code (2+r)) i e).2 (2+r) hb) ?_
   try simp only [go_sem,seval]
   repeat refine K ?_
   try simp only [go_sem,seval,qR (i:=i) (by omega),zK]
   repeat refine K ?_
   refine qT (i+1) ?_ (by omega) (by omega)
   simp only [zL]
   refine Sub.shape [] (fun n=>if n=10 then 12 else n) (by omega) ?_ ?_ ?_ ?_<;>simp [qP]
   exact .inl (by simp [wQ,jZ])
  ·simp only [decide_eq_false_iff_not] at hc
   have hie:i=(1+r).toNat:=by omega
   subst hie
   have hl:wK [12,10]=[[AV.int .i64 12],[.int .i64 10]]:=rfl
   simp only [go_sem,seval,←hl]
   repeat refine K ?_
   refine CA [(0,0)] (uS code (zL (iO code (2+r)) (1+r).toNat e).2 [12,10] hb (by decide)) ?_
   try simp only [go_sem,seval]
   repeat refine K ?_
   try simp only [go_sem,seval,zK]
   repeat refine K ?_
   apply wD
   ·exact Sub.refl _
   ·simp [-List.drop_one,-gD,qC2,jZ,wQ]<;>(first | rfl | exact ⟨rfl,rfl⟩ | exact ⟨rfl,rfl,rfl⟩ | skip)
theorem qGy (code:List Int) (c:Cur) (hb:code.length<2^62):qZ Tryz.prog num 471 [.ptr 0 0 0] [(0,some (3,[xV code c]),some (3,[xV code (nS code c).2]))] (.agg (qN .own (nS code c).1)):=by
 refine EH m471 Tryz.func154 ?_
 unfold m471
 simp only [go_sem,seval]
 repeat refine K ?_
 obtain ⟨k1,k2,k3⟩:=qAh code c
 obtain ⟨r1,r2⟩:=qNl code c
 unfold nS at r2⊢
 obtain ⟨w,hw⟩ :∃w,xB code c=w:=⟨_,rfl⟩
 rw [hw] at k1 k2 k3 r1 r2⊢
 unfold xB at hw
 refine wC (ι:=Nat×Cur×List (List yC)) (fun s=>.mk [(0,.ptr 0 0 0),(2,.ptr 10 0 0),(3,.ns 11 0 s.1),(4,.int .i64 s.1)] [(0,3,[xV code s.2.1]),(10,4,[[.nil,.nil,.nil,.nil]]),(11,1,codes .own s.2.2)] 12) (fun s=>s.1≤3∧s.2.2.length=s.1∧gW code 1 3 (zU code) (3-s.1) s.1 s.2.1 s.2.2=gW code 1 3 (zU code) 3 0 c []) (fun s=>3-s.1) (0,c,[]) ⟨by simp,rfl,rfl⟩ ?_ ?_
 ·refine Sub.shape [] id (by omega) ?_ ?_ ?_ ?_<;>simp [qP]
 ·rintro ⟨j,f,acc⟩ ⟨hj,hl,hd⟩
  simp only at hj hl hd⊢
  simp only [go_sem,seval]
  refine CA [(0,0)] (wP code f 3 hb) ?_
  try simp only [go_sem,seval]
  repeat refine K ?_
  have hr:=yB code f 3 (by omega)
  have w2:IntKind.i64.wrap (1+(qQ code f 3).1)=1+(qQ code f 3).1:=wM (by omega) (by omega)
  try simp only [go_sem,seval,w2]
  repeat refine K ?_
  refine qS (fun hc=>?_) (fun hc=>?_)
  ·simp only [decide_eq_true_eq] at hc
   have hg:=qDe (code:=code) (base:=1) (m:=3) (step:=zU code) (N:=3) (i:=j) (c:=f) (acc:=acc) (by omega) hc
   rw [hg] at hd
   simp only [go_sem,seval,qR (i:=j) (by omega),hl]
   repeat refine K ?_
   refine CA [(0,0)] (qIv code (qQ code f 3).2 hb) ?_
   try simp only [go_sem,seval]
   repeat refine K ?_
   try simp only [go_sem,seval,qR (i:=j) (by omega),hl]
   repeat refine K ?_
   refine qT (j+1,(zU code (qQ code f 3).2).2,acc++[(zU code (qQ code f 3).2).1]) ?_ ⟨by simp only; omega,by simp only [List.length_append,hl]; rfl,hd⟩ (by simp only; omega)
   refine Sub.trans (Sub.foldLast 14 0 12 rfl (by simp [-gD]<;>omega) rfl (by decide) (by decide) rfl) ?_
   simp only [fS,fS2,qA,qC,qHj]
   refine Sub.shape [] (fun n=>if n=11 then 14 else n) (by omega) ?_ ?_ ?_ ?_<;>simp [qP]
   all_goals (first | exact .inl rfl | (trace_state; sorry))
  ·simp only [decide_eq_false_iff_not] at hc
   rw [rO hc] at hd
   obtain rfl:w=(acc,(qQ code f 3).2):=by rw [←hw,←hd]
   clear hd hw hr w2 hc
   simp only at k1 k2 k3 r1 r2⊢
   subst hl
   generalize (qQ code f 3).2=d at *
   have hl2:(gE code d acc.length 12).1.length≤6*12:=oG code d acc.length (most:=12)
   have hx:=qBn (code:=code) (c:=d) (cores:=acc.length) (most:=12)
   have hsm:=tQ (l:=acc) (by omega) (fun x hx=>by have:=(k3 x hx).2; omega)
   have cn:=cV acc (by omega) (fun x hx=>by have:=(k3 x hx).2; omega)
   rw [r1] at cn
   have cp:=rA code d acc.length 12 hb (by omega)
   have cr:=qAv (bM acc) (gE code d acc.length 12).1 hsm (by omega) hx
   unfold qNm at r2⊢
   simp only at r2⊢
   generalize gE code d acc.length 12=q at *
   obtain ⟨l,e⟩:=q
   simp only at cn cp cr r2 hl2⊢
   clear r1 hsm
   generalize eJ (bM acc) l=m2 at *
   generalize bM acc=m0 at *
   generalize cX m0 l=R at *
   obtain ⟨R1,R2⟩:=R
   simp only at r2 cr
   subst r2
   simp only [go_sem,seval]
   repeat refine K ?_
   refine CA [] (cn) ?_
   try simp only [go_sem,seval]
   repeat refine K ?_
   try simp only [go_sem,seval]
   repeat refine K ?_
   refine DA [(0,0)] (cp) ?_
   try simp only [go_sem,seval]
   repeat refine K ?_
   refine DA [] (cr) ?_
   try simp only [go_sem,seval]
   repeat refine K ?_
   try simp only [go_sem,seval]
   repeat refine K ?_
   apply wD
   ·exact Sub.refl _
   ·simp [-List.drop_one,-gD,]<;>(first | rfl | exact ⟨rfl,rfl⟩ | exact ⟨rfl,rfl,rfl⟩ | skip)
def qFe (code:List Int) (k:Int) (c:Cur) (m:qK):qK×Cur :=
 if k=0 then (yU m 0 {qJ m 0 with at_:=(gY code c [-1,50]).1},(gY code c [-1,50]).2)
 else if k=1 then (yU m 0 {qJ m 0 with view:=(qJ m 0).view.set 1 (gY code c [-1,99]).1},(gY code c [-1,99]).2)
 else if k=2 then ({m with codes:=m.codes.set 0 ((m.codes.getD 0 []).drop 1)},c)
 else if k=3 then ({m with tr:=m.tr++[⟨(qQ code c 5).1,0⟩]},(qQ code c 5).2)
 else if k=4 then (yU m 0 (iJ (qJ m 0) (qQ code c 8).1 (gY code (qQ code c 8).2 [-9223372036854775807,24,9223372036854775807]).1),(gY code (qQ code c 8).2 [-9223372036854775807,24,9223372036854775807]).2)
 else (m,c)
def qSc (code:List Int) (q:qK×Cur):qK×Cur:=qFe code (qQ code q.2 20).1 (qQ code q.2 20).2 q.1
def qMd (code:List Int) (c:Cur):qK×Cur:=qSc code (nS code c)
theorem qA1 {m:qK} {k:uE} (h:aG m) (h1:k.regs.length<2^40) (h2:k.view.length<2^40):aG (yU m 0 k):=by
 refine ⟨h.codes,h.code,by simpa [yU] using h.cores,fun x hx=>?_,fun x hx=>?_,h.mem,h.tr⟩
 ·rcases List.mem_or_eq_of_mem_set hx with hx | rfl
  ·exact h.regs x hx
  ·exact h1
 ·rcases List.mem_or_eq_of_mem_set hx with hx | rfl
  ·exact h.views x hx
  ·exact h2
theorem qJ8 {code:List Int} {k:Int} {c:Cur} {m:qK} (h:qX m=true):aG (qFe code k c m).1:=by
 have hs:=qJp h
 have hM:=(wT m).1 h
 have h0:0<m.cores.length:=by have:=hM.n1; have:=hM.cores; omega
 have hr:=hs.regs _ (wX m.cores 0 default h0)
 have hv:=hs.views _ (wX m.cores 0 default h0)
 have hc:=hs.code _ (wX m.codes 0 [] (by have:=hM.n1; omega))
 have htr:m.tr.length≤4000:=by
  have:=hM.tr
  simp only [uY,Bool.and_eq_true,decide_eq_true_eq] at this
  omega
 unfold qFe
 repeat' split
 ·exact qA1 hs hr hv
 ·exact qA1 hs hr (by simpa [qJ] using hv)
 ·refine ⟨by simpa using hs.codes,fun x hx=>?_,hs.cores,hs.regs,hs.views,hs.mem,hs.tr⟩
  rcases List.mem_or_eq_of_mem_set hx with hx | rfl
  ·exact hs.code x hx
  ·rw [List.length_drop]; omega
 ·exact ⟨hs.codes,hs.code,hs.cores,hs.regs,hs.views,hs.mem,by simp; omega⟩
 ·exact qA1 hs (by simpa [iJ,qJ] using hr) hv
 ·exact hs
def qXe:qK:=bM [[⟨12,0,0,0,0⟩]]
theorem qVv:xL [[⟨12,0,0,0,0⟩]]=(qXe,true):=by
 rw [xL,if_pos (oF (by simp) (by simp) (fun c hc=>by rw [List.mem_singleton.1 hc]; decide))]
 rfl
theorem qXd:qX qXe=true:=oF (by simp) (by simp) (fun c hc=>by rw [List.mem_singleton.1 hc]; decide)
def qLg (code:List Int) (p:wV) (q:List bB×Cur):(wV×qK)×Cur:=((p,if (zD p q.1).2.2 then (zD p q.1).2.1 else qXe),q.2)
def iK (code:List Int) (c:Cur):(wV×qK)×Cur:=qLg code (aU code c).1 (gE code (aU code c).2 (aU code c).1.bods.length 30)
theorem qSx (code:List Int) (c:Cur):uA (iK code c).1.1=true∧qX (iK code c).1.2=true:=by
 refine ⟨tL code c,?_⟩
 unfold iK qLg
 simp only
 split
 ·rename_i h
  exact (qIh h).2.2.1
 ·exact qXd
def qLj (code:List Int) (k:Int) (c:Cur) (q:wV×qK):wV×qK:=if k=0 then ((qEk code c).1,q.2) else if k=1 then (q.1,(qMd code c).1) else q
def tM (code:List Int):wV×qK:=qLj code (qQ code (iK code (qA9 code)).2 15).1 (qQ code (iK code (qA9 code)).2 15).2 (iK code (qA9 code)).1
theorem qNp (code:List Int):zX (tM code).1∧aG (tM code).2:=by
 obtain ⟨h1,h2⟩:=qSx code (qA9 code)
 have hs:=qJo h1
 have hm:=qJp h2
 unfold tM qLj
 split
 ·obtain ⟨g1,g2,g3⟩:=qOv code (qQ code (iK code (qA9 code)).2 15).2
  exact ⟨⟨by simp only; omega,by simp only; omega,fun b hb=>by have:=g3 b hb; omega⟩,hm⟩
 ·split
  ·exact ⟨hs,qJ8 (qG4 code _)⟩
  ·exact ⟨hs,hm⟩
theorem qTo (code:List Int) (c:Cur) (hb:code.length<2^62):qZ Tryz.prog num 468 [.ptr 0 0 0] [(0,some (3,[xV code c]),some (3,[xV code (qMd code c).2]))] (.agg (qN .own (qMd code c).1)):=by
 refine EH m468 Tryz.func99 ?_
 unfold m468 qMd
 simp only [go_sem,seval]
 repeat refine K ?_
 refine CA [(0,0)] (qGy code c hb) ?_
 try simp only [go_sem,seval]
 repeat refine K ?_
 have hok:=qG4 code c
 generalize nS code c=r at hok
 obtain ⟨m,d⟩:=r
 simp only at hok⊢
 unfold qSc
 have hM:=(wT m).1 hok
 have h0:0<m.cores.length:=by have:=hM.n1; have:=hM.cores; omega
 have hcd:0<m.codes.length:=by have:=hM.n1; omega
 have hgk:=yL .own m.cores 0 h0
 have gks :∀r,((cores .own m.cores).set 0 r).getD 0 []=r:=fun r=>wE _ _ _ _ (by rw [yY]; omega)
 have hC:=hM.core 0 h0
 have hvl:(m.cores.getD 0 default).view.length=24:=by have h:(qJ m 0).view.length=_:=hC.view.1; show (qJ m 0).view.length=24; have:=hM.mem.len; omega
 have hrl:(m.cores.getD 0 default).regs.length=8:=hC.regs
 have hv1:1<(m.cores.getD 0 default).view.length:=by omega
 have hv2:(1:Int)<((m.cores.getD 0 default).view.length:Nat):=by omega
 have htr:m.tr.length≤4000:=by
  have:=hM.tr
  simp only [uY,Bool.and_eq_true,decide_eq_true_eq] at this
  omega
 have ht1:16*(m.tr.length+1)≤140737488355328:=by omega
 have ht2:m.tr.length≤140737488355327:=by omega
 have hvg:=qI (m.cores.getD 0 default).view 1 (by omega)
 have hgc:=zV .own m.codes 0 hcd
 have gcs :∀r,((codes .own m.codes).set 0 r).getD 0 []=r:=fun r=>wE _ _ _ _ (by rw [uT]; omega)
 have hcl:1≤(m.codes.getD 0 []).length:=by
  have:=hC.code
  unfold uB at this
  simp only [Bool.and_eq_true,qM] at this
  omega
 try simp only [go_sem,seval]
 repeat refine K ?_
 refine CA [(0,0)] (wP code d 20 hb) ?_
 try simp only [go_sem,seval]
 repeat refine K ?_
 try simp only [go_sem,seval]
 repeat refine K ?_
 generalize qQ code d 20=k
 obtain ⟨k,d⟩:=k
 simp only
 unfold qFe
 by_cases k0:k=0
 ·subst k0
  have hl:wK [-1,50]=[[AV.int .i64 (-1)],[.int .i64 50]]:=rfl
  try simp only [go_sem,seval,reduceCtorEq,←hl]
  repeat refine K ?_
  refine DA [(0,0)] (uS code d [-1,50] hb (by decide)) ?_
  try simp only [go_sem,seval]
  repeat refine K ?_
  try simp only [go_sem,seval,hgk]
  repeat refine K ?_
  apply wD
  ·exact Sub.refl _
  ·simp [-List.drop_one,-gD,qJ,yU]<;>(first | rfl | exact ⟨rfl,rfl⟩ | exact ⟨rfl,rfl,rfl⟩ | skip)
 by_cases k1:k=1
 ·subst k1
  have hl:wK [-1,99]=[[AV.int .i64 (-1)],[.int .i64 99]]:=rfl
  try simp only [go_sem,seval,reduceCtorEq,←hl,hgk]
  repeat refine K ?_
  refine DA [(0,0)] (uS code d [-1,99] hb (by decide)) ?_
  try simp only [go_sem,seval]
  repeat refine K ?_
  try simp only [go_sem,seval,hgk,gks,hv1,hv2,hvg]
  repeat refine K ?_
  apply wD
  ·refine Sub.trans (Sub.foldAt 12 2 16 rfl (by simp [-gD]<;>omega) rfl (by decide) (by decide) rfl (by simp<;>omega)) ?_
   simp only [fS,fS2,qA,qC,qL]
   exact Sub.refl _
  ·simp [-List.drop_one,-gD,qJ,yU]<;>(first | rfl | exact ⟨rfl,rfl⟩ | exact ⟨rfl,rfl,rfl⟩ | skip)
 by_cases k2:k=2
 ·subst k2
  have hp:bV 1 ((m.codes.getD 0 []).length-1) (wQ (m.codes.getD 0 []))=wQ ((m.codes.getD 0 []).drop 1):=by
   rw [qGh,tZ,List.take_of_length_le (by rw [iX,List.length_drop]; omega)]
  try simp only [go_sem,seval,reduceCtorEq,hgc,gcs,hcl]
  repeat refine K ?_
  apply wD
  ·refine Sub.trans (Sub.foldAt 11 0 16 rfl (by simp [-gD]<;>omega) rfl (by decide) (by decide) rfl (by simp<;>omega)) ?_
   simp only [fS,fS2,qA,qC,hp,qDg]
   exact Sub.refl _
  ·simp [-List.drop_one,-gD,qDg]<;>(first | rfl | exact ⟨rfl,rfl⟩ | exact ⟨rfl,rfl,rfl⟩ | skip)
 by_cases k3:k=3
 ·subst k3
  try simp only [go_sem,seval,reduceCtorEq]
  repeat refine K ?_
  refine DA [(0,0)] (wP code d 5 hb) ?_
  try simp only [go_sem,seval]
  repeat refine K ?_
  try simp only [go_sem,seval,ht1,ht2]
  repeat refine K ?_
  apply wD
  ·exact Sub.refl _
  ·simp [-List.drop_one,-gD,jG,tN]<;>(first | rfl | exact ⟨rfl,rfl⟩ | exact ⟨rfl,rfl,rfl⟩ | skip)
 by_cases k4:k=4
 ·subst k4
  have hl:wK [-9223372036854775807,24,9223372036854775807]=[[AV.int .i64 (-9223372036854775807)],[.int .i64 24],[.int .i64 9223372036854775807]]:=rfl
  have hr:=yB code d 8 (by omega)
  have hpk:=wP code d 8 hb
  generalize qQ code d 8=x at *
  obtain ⟨x,e⟩:=x
  simp only at hr hpk⊢
  have hx0:0≤x:=hr.1
  have hx1:x<((m.cores.getD 0 default).regs.length:Nat):=by omega
  have hx2:x.toNat<(m.cores.getD 0 default).regs.length:=by omega
  have hrg:=qI (m.cores.getD 0 default).regs x.toNat hx2
  try simp only [go_sem,seval,reduceCtorEq,←hl,hgk,gks]
  repeat refine K ?_
  refine ⟨?_,?_⟩
  ·refine DA [(0,0)] (hpk) ?_
   try simp only [go_sem,seval]
   repeat refine K ?_
   try simp only [go_sem,seval,←hl]
   repeat refine K ?_
   refine DA [(0,0)] (uS code e [-9223372036854775807,24,9223372036854775807] hb (by decide)) ?_
   try simp only [go_sem,seval]
   repeat refine K ?_
   try simp only [go_sem,seval,hgk,gks,hx0,hx1,hx2,hrg]
   repeat refine K ?_
   apply wD
   ·refine Sub.trans (Sub.foldAt 12 1 16 rfl (by simp [-gD]<;>omega) rfl (by decide) (by decide) rfl (by simp<;>omega)) ?_
    simp only [fS,fS2,qA,qC,qL]
    exact Sub.refl _
   ·simp [-List.drop_one,-gD,qJ,yU,iJ]<;>(first | rfl | exact ⟨rfl,rfl⟩ | exact ⟨rfl,rfl,rfl⟩ | skip)
  ·try simp only [go_sem,seval,←hl]
   repeat refine K ?_
   refine DA [(0,0)] (hpk) ?_
   try simp only [go_sem,seval]
   repeat refine K ?_
   try simp only [go_sem,seval,←hl]
   repeat refine K ?_
   refine DA [(0,0)] (uS code e [-9223372036854775807,24,9223372036854775807] hb (by decide)) ?_
   try simp only [go_sem,seval]
   repeat refine K ?_
   try simp only [go_sem,seval,hgk,gks,hx0,hx1,hx2,hrg]
   repeat refine K ?_
   apply wD
   ·refine Sub.trans (Sub.foldAt 12 1 16 rfl (by simp [-gD]<;>omega) rfl (by decide) (by decide) rfl (by simp<;>omega)) ?_
    simp only [fS,fS2,qA,qC,qL]
    exact Sub.refl _
   ·simp [-List.drop_one,-gD,qJ,yU,iJ]<;>(first | rfl | exact ⟨rfl,rfl⟩ | exact ⟨rfl,rfl,rfl⟩ | skip)
 try simp only [go_sem,seval,k0,k1,k2,k3,k4]
 repeat refine K ?_
 apply wD
 ·exact Sub.refl _
 ·simp [-List.drop_one,-gD,k0,k1,k2,k3,k4]<;>(first | rfl | exact ⟨rfl,rfl⟩ | exact ⟨rfl,rfl,rfl⟩ | skip)
theorem qIx (code:List Int) (c:Cur) (hb:code.length<2^62):qZ Tryz.prog num 467 [.ptr 0 0 0] [(0,some (3,[xV code c]),some (3,[xV code (iK code c).2]))] (.tup [.agg (vC .own (iK code c).1.1),.agg (qN .own (iK code c).1.2)]):=by
 refine EH m467 Tryz.func96 ?_
 unfold m467
 simp only [go_sem,seval]
 repeat refine K ?_
 refine CA [(0,0)] (rB code c hb) ?_
 try simp only [go_sem,seval]
 repeat refine K ?_
 have hp:=tL code c
 unfold iK
 generalize aU code c=r at hp
 obtain ⟨p,d⟩:=r
 simp only at hp⊢
 have hpp:=qJo hp
 have hl:(gE code d p.bods.length 30).1.length≤6*30:=oG code d p.bods.length (most:=30)
 have hx:=qBn (code:=code) (c:=d) (cores:=p.bods.length) (most:=30)
 have cp:=rA code d p.bods.length 30 hb (by omega)
 generalize gE code d p.bods.length 30=q at *
 obtain ⟨l,e⟩:=q
 simp only at hl hx cp⊢
 have cw:=qFu p l hpp (by omega) hx
 have cn:=cV [[⟨12,0,0,0,0⟩]] (by simp) (by simp)
 rw [qVv] at cn
 have hco:[[AV.sl .own 5 [[AV.int .i64 12,.int .i64 0,.int .i64 0,.int .i64 0,.int .i64 0]]]]=codes .own [[⟨12,0,0,0,0⟩]]:=rfl
 generalize [(⟨12,0,0,0,0⟩:yC)]=L at *
 unfold qLg
 generalize qXe=me at *
 generalize zD p l=W at *
 obtain ⟨o,m,b⟩:=W
 simp only at cw⊢
 try simp only [go_sem,seval]
 repeat refine K ?_
 refine ⟨?_,?_⟩
 ·refine DA [(0,0)] (cp) ?_
  try simp only [go_sem,seval]
  repeat refine K ?_
  try simp only [go_sem,seval]
  repeat refine K ?_
  refine ⟨?_,?_⟩
  ·refine DA [] (cw) ?_
   try simp only [go_sem,seval]
   repeat refine K ?_
   try simp only [go_sem,seval]
   repeat refine K ?_
   cases b
   ·try simp only [go_sem,seval]
    repeat refine K ?_
    apply xM
    ·refine Sub.trans (Sub.fold1 23 0 22 rfl (by simp [-gD]<;>omega) rfl (by decide) (by decide) rfl) ?_
     simp only [fS,fS2,qA,qC,hco]
     exact Sub.refl _
    refine CA [] (cn) ?_
    try simp only [go_sem,seval]
    repeat refine K ?_
    try simp only [go_sem,seval]
    repeat refine K ?_
    apply wN (by simp)
    ·exact Sub.refl _
    ·simp [-List.drop_one,-gD,]<;>(first | rfl | exact ⟨rfl,rfl⟩ | exact ⟨rfl,rfl,rfl⟩ | skip)
   ·try simp only [go_sem,seval]
    repeat refine K ?_
    apply wN (by simp)
    ·exact Sub.refl _
    ·simp [-List.drop_one,-gD,]<;>(first | rfl | exact ⟨rfl,rfl⟩ | exact ⟨rfl,rfl,rfl⟩ | skip)
  ·try simp only [go_sem,seval]
   repeat refine K ?_
   refine DA [] (cw) ?_
   try simp only [go_sem,seval]
   repeat refine K ?_
   try simp only [go_sem,seval]
   repeat refine K ?_
   cases b
   ·try simp only [go_sem,seval]
    repeat refine K ?_
    apply xM
    ·refine Sub.trans (Sub.fold1 23 0 22 rfl (by simp [-gD]<;>omega) rfl (by decide) (by decide) rfl) ?_
     simp only [fS,fS2,qA,qC,hco]
     exact Sub.refl _
    refine CA [] (cn) ?_
    try simp only [go_sem,seval]
    repeat refine K ?_
    try simp only [go_sem,seval]
    repeat refine K ?_
    apply wN (by simp)
    ·exact Sub.refl _
    ·simp [-List.drop_one,-gD,]<;>(first | rfl | exact ⟨rfl,rfl⟩ | exact ⟨rfl,rfl,rfl⟩ | skip)
   ·try simp only [go_sem,seval]
    repeat refine K ?_
    apply wN (by simp)
    ·exact Sub.refl _
    ·simp [-List.drop_one,-gD,]<;>(first | rfl | exact ⟨rfl,rfl⟩ | exact ⟨rfl,rfl,rfl⟩ | skip)
 ·try simp only [go_sem,seval]
  repeat refine K ?_
  refine DA [(0,0)] (cp) ?_
  try simp only [go_sem,seval]
  repeat refine K ?_
  refine DA [] (cw) ?_
  try simp only [go_sem,seval]
  repeat refine K ?_
  try simp only [go_sem,seval]
  repeat refine K ?_
  cases b
  ·try simp only [go_sem,seval]
   repeat refine K ?_
   apply xM
   ·refine Sub.trans (Sub.fold1 23 0 22 rfl (by simp [-gD]<;>omega) rfl (by decide) (by decide) rfl) ?_
    simp only [fS,fS2,qA,qC,hco]
    exact Sub.refl _
   refine CA [] (cn) ?_
   try simp only [go_sem,seval]
   repeat refine K ?_
   try simp only [go_sem,seval]
   repeat refine K ?_
   apply wN (by simp)
   ·exact Sub.refl _
   ·simp [-List.drop_one,-gD,]<;>(first | rfl | exact ⟨rfl,rfl⟩ | exact ⟨rfl,rfl,rfl⟩ | skip)
  ·try simp only [go_sem,seval]
   repeat refine K ?_
   apply wN (by simp)
   ·exact Sub.refl _
   ·simp [-List.drop_one,-gD,]<;>(first | rfl | exact ⟨rfl,rfl⟩ | exact ⟨rfl,rfl,rfl⟩ | skip)
theorem qEj (code:List Int) (hb:code.length<2^62):qZ Tryz.prog num 450 [.sl .fz 1 (bys code)] [] (.tup [.agg (vC .own (tM code).1),.agg (qN .own (tM code).2)]):=by
 refine EN m450 Tryz.func36 ?_
 unfold m450 tM
 simp only [go_sem,seval]
 repeat refine K ?_
 refine mE (qMm (n1:=13) [(10,12)] (qOg code hb) ?_ ?_ ?_ ?_ ?_ ?_ ?_) ?_
 any_goals (first | omega | (simp [wA,wB]; done) | (simp [wA,wB, *]; done))
 try simp only [go_sem,seval]
 repeat refine K ?_
 refine CA [(0,12)] (qIx code (qA9 code) hb) ?_
 try simp only [go_sem,seval]
 repeat refine K ?_
 generalize iK code (qA9 code)=r
 obtain ⟨⟨p,m⟩,d⟩:=r
 simp only
 try simp only [go_sem,seval]
 repeat refine K ?_
 refine CA [(0,12)] (wP code d 15 hb) ?_
 try simp only [go_sem,seval]
 repeat refine K ?_
 generalize qQ code d 15=k
 obtain ⟨k,e⟩:=k
 simp only
 unfold qLj
 by_cases k0:k=0
 ·subst k0
  try simp only [go_sem,seval,reduceCtorEq]
  repeat refine K ?_
  refine CA [(0,12)] (qTs code e hb) ?_
  try simp only [go_sem,seval]
  repeat refine K ?_
  try simp only [go_sem,seval]
  repeat refine K ?_
  apply wN (by simp)
  ·exact Sub.refl _
  ·simp [-List.drop_one,-gD,]<;>(first | rfl | exact ⟨rfl,rfl⟩ | exact ⟨rfl,rfl,rfl⟩ | skip)
 by_cases k1:k=1
 ·subst k1
  try simp only [go_sem,seval,reduceCtorEq]
  repeat refine K ?_
  refine CA [(0,12)] (qTo code e hb) ?_
  try simp only [go_sem,seval]
  repeat refine K ?_
  try simp only [go_sem,seval]
  repeat refine K ?_
  apply wN (by simp)
  ·exact Sub.refl _
  ·simp [-List.drop_one,-gD,]<;>(first | rfl | exact ⟨rfl,rfl⟩ | exact ⟨rfl,rfl,rfl⟩ | skip)
 try simp only [go_sem,seval,k0,k1]
 repeat refine K ?_
 apply wN (by simp)
 ·exact Sub.refl _
 ·simp [-List.drop_one,-gD,k0,k1]<;>(first | rfl | exact ⟨rfl,rfl⟩ | exact ⟨rfl,rfl,rfl⟩ | skip)
def qLi (code:List Int):Int:=(qQ code (qA9 code) 9).1-1
theorem qJ7 (code:List Int) (hb:code.length<2^62):qZ Tryz.prog num 451 [.sl .fz 1 (bys code)] [] (.tup [.agg (vC .own (tM code).1),.agg (qN .own (tM code).2),.int .i64 (qLi code)]):=by
 have hr:=yB code (qA9 code) 9 (by omega)
 have w1:IntKind.i64.wrap ((qQ code (qA9 code) 9).1-1)=(qQ code (qA9 code) 9).1-1:=wM (by omega) (by omega)
 refine EN m451 Tryz.func38 ?_
 unfold m451 qLi
 simp only [go_sem,seval]
 repeat refine K ?_
 refine CA [] (qEj code hb) ?_
 try simp only [go_sem,seval]
 repeat refine K ?_
 generalize tM code=r
 obtain ⟨p,m⟩:=r
 simp only
 try simp only [go_sem,seval]
 repeat refine K ?_
 refine mB (qMm (n1:=21) [(10,20)] (qOg code hb) ?_ ?_ ?_ ?_ ?_ ?_ ?_) ?_ ?_
 any_goals (first | omega | (simp [wA,wB]; done) | (simp [wA,wB, *]; done))
 try simp only [go_sem,seval]
 repeat refine K ?_
 refine DA [(0,20)] (wP code (qA9 code) 9 hb) ?_
 try simp only [go_sem,seval]
 repeat refine K ?_
 try simp only [go_sem,seval,w1]
 repeat refine K ?_
 apply wN (by simp)
 ·exact Sub.refl _
 ·simp [-List.drop_one,-gD,]<;>(first | rfl | exact ⟨rfl,rfl⟩ | exact ⟨rfl,rfl,rfl⟩ | skip)
end Go.Sep
