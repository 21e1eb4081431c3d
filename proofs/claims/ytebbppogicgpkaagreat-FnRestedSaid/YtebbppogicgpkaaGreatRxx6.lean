/- Contracts of functions. -/
import Derived.Test.YtebbppogicgpkaaGreatRxx5
namespace Go.Sep
set_option maxHeartbeats 16000000
open Go.Proofs
set_option linter.unusedSimpArgs false
set_option linter.unusedVariables false
set_option maxRecDepth 100000
def m253:MFn:=⟨8,[.cell 4 5 true],kr [xo 4 (.alloc [xz,xz,xz,xz,xz])] (kR [xv 5 0,xv 6 1,xo 7 (.build [xz,xz,xz,xz,xz] [(0,1,xi 1),(1,1,.t 5),(4,1,.t 6)]),xS 5 4 7])⟩
def m254:MFn:=⟨14,[.cell 8 5 true],kr [xo 8 (.alloc [xz,xz,xz,xz,xz])] (kR [xv 9 0,xv 10 1,xv 11 2,xv 12 3,xo 13 (.build [xz,xz,xz,xz,xz] [(0,1,.t 9),(1,1,.t 10),(2,1,.t 11),(3,1,.t 12)]),xS 5 8 13])⟩
def m255:MFn:=⟨5,[.cell 2 5 true],kr [xo 2 (.alloc [xz,xz,xz,xz,xz])] (kR [xv 3 0,xo 4 (.build [xz,xz,xz,xz,xz] [(0,1,xi 10),(4,1,.t 3)]),xS 5 2 4])⟩
def m256:MFn:=⟨8,[.cell 4 5 true],kr [xo 4 (.alloc [xz,xz,xz,xz,xz])] (kR [xv 5 0,xv 6 1,xo 7 (.build [xz,xz,xz,xz,xz] [(0,1,xi 11),(2,1,.t 5),(4,1,.t 6)]),xS 5 4 7])⟩
def m258:MFn:=⟨110,[.t 8],kr [xb 4 0,xo 8 (.mv (.c (.nil)))] (kr [xa 13 0 4,xl 14 13,bI 15 .eql 14 7,xv 9 15] (kr [xv 16 3,bI 17 .add 16 26,xv 18 9,xc1 19 85 (.t 18),bT 20 .add 17 19,xv 10 20] (kr [xv 21 3,xm 22 5 4,xc1 23 285 (.t 22),bT 24 .add 21 23,xv 11 24] (kr [xv 25 1,xv 26 3,xc2 27 296 (.t 25) (.t 26),xv 28 1,xv 29 3,xc2 30 297 (.t 28) (.t 29),xA 31 5 40 27 30,xv 12 31] (kr [xv 32 12,xv 33 1,bI 34 .add 33 2,xc2 35 298 (xi 5) (.t 34),xv 36 2,xc2 37 253 (xi 7) (.t 36),xo 38 (.call 254 [false,false,false,false] [xi 4,xi 6,xi 5,xi 7]),xv 39 10,xc2 40 256 (xi 6) (.t 39),xo 41 (.mkSl [xz,xz,xz,xz,xz] 4 [(0,.t 35),(1,.t 37),(2,.t 38),(3,.t 40)]),xA 42 5 40 32 41,xv 12 42] (kr [xv 43 12,xv 44 1,bI 45 .add 44 1,xc2 46 298 (xi 4) (.t 45),xo 47 (.call 254 [false,false,false,false] [xi 2,xi 4,xi 4,xi 5]),xo 48 (.call 254 [false,false,false,false] [xi 4,xi 6,xi 4,xi 7]),xv 49 3,bI 50 .add 49 18,xc2 51 256 (xi 6) (.t 50),xv 52 3,bI 53 .add 52 19,xc1 54 255 (.t 53),xo 55 (.call 254 [false,false,false,false] [xi 3,xi 4,xi 4,xi 7]),xo 56 (.mkSl [xz,xz,xz,xz,xz] 6 [(0,.t 46),(1,.t 47),(2,.t 48),(3,.t 51),(4,.t 54),(5,.t 55)]),xA 57 5 40 43 56,xv 12 57] (.seq (.dreg (.take 0 (xv 58 12) (.take 1 (xa 59 2 4) (.take 2 (xl 60 59) (.take 3 (xv 61 1) (.take 4 (bI 62 .add 61 4) (.take 5 (xo 63 (.build [xz,xz,xz,xz,xz] [(0,1,xi 6),(2,1,xi 4),(3,1,.t 60),(4,1,.t 62)])) (.take 8 (xv 66 1) (.take 9 (bI 67 .add 66 2) (.only 6 [] (xc2 64 253 (xi 7) (xi 1)) (.only 7 [] (xo 65 (.call 254 [false,false,false,false] [xi 2,xi 5,xi 5,xi 7])) (.only 10 [9,8] (xc2 68 299 (.t 67) (xi 5)) (.only 11 [5,10,2,4,9,1,3,8] (xo 69 (.mkSl [xz,xz,xz,xz,xz] 4 [(0,.t 63),(1,.t 64),(2,.t 65),(3,.t 68)])) (.only 12 [0,10,11,9,5,8,2,4,1,3] (xA 70 5 40 58 69) (.only 13 [0,1,2,3,4,5,8,9] (xv 12 70) (.done)))))))))))))))) (kr [xv 71 12,xv 72 1,xc1 73 300 (.t 72),xA 74 5 40 71 73,xv 12 74] (.seq (kr [xv 75 9] (.cond 75 (kr [xv 76 12,xa 77 1 4,xl 78 77,xc2 79 253 (.t 78) (xi 1),xv 80 11,xc1 81 255 (.t 80),xo 82 (.mkSl [xz,xz,xz,xz,xz] 2 [(0,.t 79),(1,.t 81)]),xA 83 5 40 76 82,xv 12 83] (kr [xv 84 12,xv 85 1,xc1 86 300 (.t 85),xA 87 5 40 84 86,xv 12 87] (kR [xv 88 12,xa 89 1 4,xl 90 89,xc2 91 253 (.t 90) (xi 0),xv 92 11,xc1 93 255 (.t 92),xo 94 (.mkSl [xz,xz,xz,xz,xz] 2 [(0,.t 91),(1,.t 93)]),xA 95 5 40 88 94,xv 8 95]))) (.skip))) (kr [xv 96 12,xv 97 11,xc1 98 255 (.t 97),xo 99 (.mkSl [xz,xz,xz,xz,xz] 1 [(0,.t 98)]),xA 100 5 40 96 99,xv 12 100] (kr [xv 101 12,xv 102 1,xc1 103 300 (.t 102),xA 104 5 40 101 103,xv 12 104] (kR [xv 105 12,xv 106 3,xc1 107 255 (.t 106),xo 108 (.mkSl [xz,xz,xz,xz,xz] 1 [(0,.t 107)]),xA 109 5 40 105 108,xv 8 109]))))))))))))⟩
def m259:MFn:=⟨116,[.t 8],kr [xb 4 0,xo 8 (.mv (.c (.nil)))] (kr [xv 11 3,xm 12 5 4,xc1 13 285 (.t 12),bT 14 .add 11 13,xv 9 14] (.seq (.dreg (.take 0 (xv 15 1) (.take 1 (xv 16 3) (.take 3 (xv 18 1) (.take 4 (bI 19 .add 18 2) (.take 6 (xv 21 3) (.take 7 (bI 22 .add 21 22) (.take 9 (xv 24 1) (.take 10 (bI 25 .add 24 1) (.take 12 (xa 27 1 4) (.take 13 (xl 28 27) (.take 14 (xv 29 1) (.take 15 (bI 30 .add 29 4) (.take 16 (xo 31 (.build [xz,xz,xz,xz,xz] [(0,1,xi 5),(1,1,.t 28),(2,1,xi 4),(4,1,.t 30)])) (.only 2 [0,1] (xc2 17 296 (.t 15) (.t 16)) (.only 5 [2,4,0,1,3] (xc2 20 298 (xi 5) (.t 19)) (.only 8 [5,7,2,4,6,0,1,3] (xc2 23 256 (xi 5) (.t 22)) (.only 11 [8,10,5,7,9,2,4,6,0,1,3] (xc2 26 298 (xi 4) (.t 25)) (.only 17 [5,8,11,16,2,4,7,10,13,15,0,1,3,6,9,12,14] (xo 32 (.mkSl [xz,xz,xz,xz,xz] 4 [(0,.t 20),(1,.t 23),(2,.t 26),(3,.t 31)])) (.only 18 [2,11,17,0,1,8,10,5,16,7,9,4,13,15,6,3,12,14] (xA 33 5 40 17 32) (.only 19 [0,1,3,4,6,7,9,10,12,13,14,15,16] (xv 10 33) (.done)))))))))))))))))))))) (kr [xv 34 10,xc2 35 253 (xi 7) (xi 1),xo 36 (.call 254 [false,false,false,false] [xi 2,xi 4,xi 4,xi 7]),xo 37 (.call 254 [false,false,false,false] [xi 3,xi 5,xi 5,xi 7]),xv 38 2,xc2 39 253 (xi 7) (.t 38),xo 40 (.call 254 [false,false,false,false] [xi 4,xi 6,xi 4,xi 7]),xv 41 3,bI 42 .add 41 15,xc2 43 256 (xi 6) (.t 42),xv 44 3,bI 45 .add 44 16,xc1 46 255 (.t 45),xc2 47 253 (xi 4) (xi 0),xo 48 (.mkSl [xz,xz,xz,xz,xz] 8 [(0,.t 35),(1,.t 36),(2,.t 37),(3,.t 39),(4,.t 40),(5,.t 43),(6,.t 46),(7,.t 47)]),xA 49 5 40 34 48,xv 10 49] (kr [xv 50 10,xv 51 1,bI 52 .add 51 1,xc2 53 299 (.t 52) (xi 4),xv 54 1,bI 55 .add 54 2,xc2 56 299 (.t 55) (xi 5),xo 57 (.mkSl [xz,xz,xz,xz,xz] 2 [(0,.t 53),(1,.t 56)]),xA 58 5 40 50 57,xv 10 58] (kr [xv 59 10,xv 60 1,xc1 61 300 (.t 60),xA 62 5 40 59 61,xv 10 62] (kr [xv 63 10,xa 64 3 4,xl 65 64,xc2 66 253 (.t 65) (xi 1),xv 67 9,xc1 68 255 (.t 67),xv 69 1,bI 70 .add 69 3,xc2 71 298 (xi 4) (.t 70),xo 72 (.mkSl [xz,xz,xz,xz,xz] 3 [(0,.t 66),(1,.t 68),(2,.t 71)]),xA 73 5 40 63 72,xv 10 73] (kr [xv 74 10,xv 75 1,xc1 76 300 (.t 75),xA 77 5 40 74 76,xv 10 77] (.seq (.dreg (.take 0 (xv 78 10) (.take 1 (xv 79 3) (.take 2 (bI 80 .add 79 29) (.take 4 (xa 82 1 4) (.take 5 (xl 83 82) (.only 3 [2,1] (xc2 81 256 (xi 4) (.t 80)) (.only 6 [3,5,2,4,1] (xc2 84 253 (.t 83) (xi 0)) (.only 7 [3,6,2,5,1,4] (xo 85 (.mkSl [xz,xz,xz,xz,xz] 2 [(0,.t 81),(1,.t 84)])) (.only 8 [0,6,3,5,2,4,1] (xA 86 5 40 78 85) (.only 9 [0,1,2,4,5] (xv 10 86) (.done)))))))))))) (.seq (kr [xa 87 0 4,xl 88 87,bI 89 .eql 88 6] (kF 89 [xv 90 10,xa 91 3 4,xl 92 91,xc2 93 253 (.t 92) (xi 0),xv 94 9,xc1 95 255 (.t 94),xv 96 3,xc1 97 255 (.t 96),xo 98 (.mkSl [xz,xz,xz,xz,xz] 3 [(0,.t 93),(1,.t 95),(2,.t 97)]),xA 99 5 40 90 98,xv 8 99])) (.seq (.dreg (.take 0 (xv 100 10) (.take 1 (xa 101 3 4) (.take 2 (xl 102 101) (.take 4 (xv 104 9) (.take 6 (xa 106 1 4) (.take 7 (xl 107 106) (.take 9 (xa 109 3 4) (.take 10 (xl 110 109) (.take 12 (xv 112 9) (.only 3 [2,1] (xc2 103 253 (.t 102) (xi 2)) (.only 5 [3,4,2,1] (xc1 105 255 (.t 104)) (.only 8 [5,7,3,4,6,2,1] (xc2 108 253 (.t 107) (xi 0)) (.only 11 [8,10,5,7,9,3,4,6,2,1] (xc2 111 253 (.t 110) (xi 0)) (.only 13 [11,12,8,10,5,7,9,3,4,6,2,1] (xc1 113 255 (.t 112)) (.only 14 [3,5,8,11,13,2,4,7,10,12,1,6,9] (xo 114 (.mkSl [xz,xz,xz,xz,xz] 5 [(0,.t 103),(1,.t 105),(2,.t 108),(3,.t 111),(4,.t 113)])) (.only 15 [0,13,14,11,12,3,5,8,10,2,4,7,9,1,6] (xA 115 5 40 100 114) (.only 16 [0,1,2,4,6,7,9,10,12] (xv 8 115) (.done))))))))))))))))))) (.ret)))))))))))⟩
def m260:MFn:=⟨24,[.t 4],kr [xo 4 (.mv (.c (.nil)))] (kr [xv 6 0,xv 7 1,xc2 8 296 (.t 6) (.t 7),xv 9 0,xv 10 1,xc2 11 297 (.t 9) (.t 10),xA 12 5 40 8 11,xv 5 12] (kr [xv 13 5,xc2 14 253 (xi 7) (xi 1),xv 15 0,bI 16 .add 15 3,xc2 17 299 (.t 16) (xi 7),xo 18 (.mkSl [xz,xz,xz,xz,xz] 2 [(0,.t 14),(1,.t 17)]),xA 19 5 40 13 18,xv 5 19] (kR [xv 20 5,xv 21 0,xc1 22 300 (.t 21),xA 23 5 40 20 22,xv 4 23])))⟩
def m262:MFn:=⟨19,[.t 2],kr [xb 1 0,xI 2 0] (.seq (kr [xa 3 0 1,xl 4 3] (.blk 0 (kr [bI 6 .eql 4 5,xv 5 6] (.cond 5 (kR [xI 2 29]) (kr [bI 8 .eql 4 7,xv 7 8] (.cond 7 (kR [xI 2 31]) (kr [bI 10 .eql 4 6,xv 9 10] (.cond 9 (kR [xI 2 30]) (kr [bI 12 .eql 4 8,xv 11 12] (.cond 11 (kR [xI 2 32]) (kr [bI 14 .eql 4 9,xv 13 14] (kF 13 [xI 2 13])))))))))))) (kR [xa 15 0 1,xl 16 15,xc3 17 59 (.t 16) (xi 1) (xi 13),xc1 18 78 (.t 17),xv 2 18]))⟩
def m285:MFn:=⟨19,[.t 2],kr [xb 1 0,xI 2 0] (.seq (kr [xa 3 0 1,xl 4 3] (.blk 0 (kr [bI 6 .eql 4 5,xv 5 6] (.cond 5 (kR [xI 2 29]) (kr [bI 8 .eql 4 7,xv 7 8] (.cond 7 (kR [xI 2 31]) (kr [bI 10 .eql 4 6,xv 9 10] (.cond 9 (kR [xI 2 30]) (kr [bI 12 .eql 4 8,xv 11 12] (.cond 11 (kR [xI 2 32]) (kr [bI 14 .eql 4 9,xv 13 14] (kF 13 [xI 2 13])))))))))))) (kR [xa 15 0 1,xl 16 15,xc3 17 64 (.t 16) (xi 1) (xi 13),xc1 18 85 (.t 17),xv 2 18]))⟩
def m296:MFn:=⟨14,[.t 4],kr [xo 4 (.mv (.c (.nil)))] (kR [xc2 5 253 (xi 7) (xi 1),xv 6 0,xo 7 (.build [xz,xz,xz,xz,xz] [(0,1,xi 8),(1,1,xi 6),(3,1,xi 7),(4,1,.t 6)]),xv 8 1,bI 9 .add 8 4,xc2 10 256 (xi 6) (.t 9),xv 11 1,xc1 12 255 (.t 11),xo 13 (.mkSl [xz,xz,xz,xz,xz] 4 [(0,.t 5),(1,.t 7),(2,.t 10),(3,.t 12)]),xv 4 13])⟩
def m297:MFn:=⟨20,[.t 4],kr [xo 4 (.mv (.c (.nil)))] (kr [xv 6 0,bI 7 .add 6 3,xc2 8 298 (xi 4) (.t 7),xv 9 1,bI 10 .add 9 9,xc2 11 256 (xi 4) (.t 10),xo 12 (.mkSl [xz,xz,xz,xz,xz] 2 [(0,.t 8),(1,.t 11)]),xv 5 12] (kR [xv 13 5,xv 14 0,xc1 15 300 (.t 14),xA 16 5 40 13 15,xo 17 (.build [xz,xz,xz,xz,xz] [(0,1,xi 13)]),xo 18 (.mkSl [xz,xz,xz,xz,xz] 1 [(0,.t 17)]),xA 19 5 40 16 18,xv 4 19]))⟩
def m298:MFn:=⟨8,[.cell 4 5 true],kr [xo 4 (.alloc [xz,xz,xz,xz,xz])] (kR [xv 5 0,xv 6 1,xo 7 (.build [xz,xz,xz,xz,xz] [(0,1,xi 5),(1,1,.t 5),(2,1,.c (.int .i64 (-1))),(4,1,.t 6)]),xS 5 4 7])⟩
def m299:MFn:=⟨8,[.cell 4 5 true],kr [xo 4 (.alloc [xz,xz,xz,xz,xz])] (kR [xv 5 1,xv 6 0,xo 7 (.build [xz,xz,xz,xz,xz] [(0,1,xi 6),(2,1,.c (.int .i64 (-1))),(3,1,.t 5),(4,1,.t 6)]),xS 5 4 7])⟩
def m300:MFn:=⟨7,[.t 2],kr [xo 2 (.mv (.c (.nil)))] (kR [xc2 3 253 (xi 7) (xi 0),xv 4 0,xo 5 (.build [xz,xz,xz,xz,xz] [(0,1,xi 7),(2,1,.c (.int .i64 (-1))),(3,1,xi 7),(4,1,.t 4)]),xo 6 (.mkSl [xz,xz,xz,xz,xz] 2 [(0,.t 3),(1,.t 5)]),xv 2 6])⟩
attribute [local go_sem] qYl
def kA (b:Int):List yC:=[⟨1,7,0,0,0⟩,⟨7,0,-1,7,b⟩]
def zM (f b:Int):List yC:=[⟨1,7,0,0,1⟩,⟨8,6,0,7,b⟩,⟨11,0,6,0,f+4⟩,⟨10,0,0,0,f+0⟩]
def hX (f b:Int):List yC:=[⟨5,4,-1,0,b+3⟩,⟨11,0,4,0,f+9⟩]++kA b++[⟨13,0,0,0,0⟩]
@[simp] theorem qOe (b:Int):(kA b).length=2:=rfl
@[simp] theorem qLw (f b:Int):(zM f b).length=4:=rfl
@[simp] theorem qLc (f b:Int):(hX f b).length=5:=rfl
def kT (f b c:Int) (x:Ins):List yC :=
 hX f b++[⟨5,5,-1,0,b+2⟩,⟨1,7,0,0,c⟩,⟨4,6,5,7,0⟩,⟨11,0,6,0,f+(26+vQ (decide (x.op=7)))⟩,⟨5,4,-1,0,b+1⟩,⟨2,4,4,5,0⟩,⟨4,6,4,7,0⟩,⟨11,0,6,0,f+18⟩,⟨10,0,0,0,f+19⟩,⟨3,4,4,7,0⟩,⟨6,0,4,x.a,b+4⟩,⟨1,7,0,0,1⟩,⟨2,5,5,7,0⟩,⟨6,0,-1,5,b+2⟩]++kA b ++
 (if x.op=7 then [⟨1,x.r,0,0,1⟩,⟨10,0,0,0,f+31⟩]++kA b++[⟨1,x.r,0,0,0⟩,⟨10,0,0,0,f+31⟩] else [⟨10,0,0,0,f+29⟩]++kA b++[⟨10,0,0,0,f+0⟩])
def kP (f b c:Int) (x:Ins):List yC :=
 [⟨5,5,-1,0,b+2⟩,⟨11,0,5,0,f+22⟩,⟨5,4,-1,0,b+1⟩,⟨5,x.r,4,0,b+4⟩,⟨1,7,0,0,1⟩,⟨2,4,4,7,0⟩,⟨3,5,5,7,0⟩,⟨1,7,0,0,c⟩,⟨4,6,4,7,0⟩,⟨11,0,6,0,f+15⟩,⟨10,0,0,0,f+16⟩,⟨1,4,0,0,0⟩,⟨6,0,-1,4,b+1⟩,⟨6,0,-1,5,b+2⟩]++kA b++[⟨1,x.b,0,0,1⟩,⟨10,0,0,0,f+(if x.op=8 then 32 else 30)⟩,⟨5,4,-1,0,b+3⟩]++kA b++[⟨11,0,4,0,f+29⟩,⟨1,x.r,0,0,0⟩] ++
 (if x.op=8 then [⟨1,x.b,0,0,2⟩,⟨10,0,0,0,f+32⟩,⟨1,x.r,0,0,0⟩,⟨1,x.b,0,0,0⟩,⟨10,0,0,0,f+32⟩] else [⟨1,x.b,0,0,0⟩,⟨10,0,0,0,f+30⟩,⟨10,0,0,0,f+0⟩])
def fR (f b:Int):List yC:=hX f b++[⟨1,7,0,0,1⟩,⟨6,0,-1,7,b+3⟩]++kA b
def wF (x:Ins):Int:=if x.op=5 then 29 else if x.op=7 then 31 else if x.op=6 then 30 else if x.op=8 then 32 else if x.op=9 then 13 else vQ (qO x.op 1 13)
theorem aK (x:Ins):qZ Tryz.prog num 262 [.agg (gU x)] [] (.int .i64 (wF x)):=by
 refine EN m262 Tryz.func179 ?_
 unfold m262
 repeat' (first
  | (simp only [go_sem,seval])
  | (refine qS (fun hc=>?_) (fun hc=>?_)<;>((try simp only [Bool.not_eq_true',Bool.not_eq_false',ne_eq,Bool.not_eq_true,Bool.not_eq_false] at hc)<;>(try simp only [hc])))
  | (refine dA (fun hc=>?_) (fun hc=>?_)<;>((try simp only [Bool.not_eq_true',Bool.not_eq_false',ne_eq,Bool.not_eq_true,Bool.not_eq_false] at hc)<;>(try simp only [hc])))
  | (refine bY (fun hc=>?_) (fun hc=>?_)<;>((try simp only [Bool.not_eq_true',Bool.not_eq_false',ne_eq,Bool.not_eq_true,Bool.not_eq_false] at hc)<;>(try simp only [hc])))
  | (refine bS (yO x.op 1 13) rfl rfl rfl rfl ?_)
  | (refine uN (yO x.op 1 13) rfl rfl rfl rfl ?_)
  | (refine bS (qD0 (qO x.op 1 13)) rfl rfl rfl rfl ?_)
  | (refine uN (qD0 (qO x.op 1 13)) rfl rfl rfl rfl ?_)
  | (refine ⟨by first | omega | (simp; done),?_⟩)
  | fail)
 all_goals (refine fz ?_; simp [wJ,wA,wB,qY,-List.drop_one])
 all_goals (simp_all [wF]; done)
theorem zA (x:Ins):qZ Tryz.prog num 285 [.agg (gU x)] [] (.int .i64 (wF x)):=by
 refine EN m285 Tryz.func139 ?_
 unfold m285
 repeat' (first
  | (simp only [go_sem,seval])
  | (refine qS (fun hc=>?_) (fun hc=>?_)<;>((try simp only [Bool.not_eq_true',Bool.not_eq_false',ne_eq,Bool.not_eq_true,Bool.not_eq_false] at hc)<;>(try simp only [hc])))
  | (refine dA (fun hc=>?_) (fun hc=>?_)<;>((try simp only [Bool.not_eq_true',Bool.not_eq_false',ne_eq,Bool.not_eq_true,Bool.not_eq_false] at hc)<;>(try simp only [hc])))
  | (refine bY (fun hc=>?_) (fun hc=>?_)<;>((try simp only [Bool.not_eq_true',Bool.not_eq_false',ne_eq,Bool.not_eq_true,Bool.not_eq_false] at hc)<;>(try simp only [hc])))
  | (refine bS (jA x.op 1 13) rfl rfl rfl rfl ?_)
  | (refine uN (jA x.op 1 13) rfl rfl rfl rfl ?_)
  | (refine bS (lB (qO x.op 1 13)) rfl rfl rfl rfl ?_)
  | (refine uN (lB (qO x.op 1 13)) rfl rfl rfl rfl ?_)
  | (refine ⟨by first | omega | (simp; done),?_⟩)
  | fail)
 all_goals (refine fz ?_; simp [wJ,wA,wB,qY,-List.drop_one])
 all_goals (simp_all [wF]; done)
theorem dL (r v:Int):qZ Tryz.prog num 298 [.int .i64 r,.int .i64 v] [] (.agg (jZ ⟨5,r,-1,0,v⟩)):=by
 refine EN m298 Tryz.func231 ?_
 unfold m298
 simp only [go_sem,seval]
 refine fz ?_; simp [wJ,wA,wB,qY,-List.drop_one]
theorem eG (v k:Int):qZ Tryz.prog num 299 [.int .i64 v,.int .i64 k] [] (.agg (jZ ⟨6,0,-1,k,v⟩)):=by
 refine EN m299 Tryz.func232 ?_
 unfold m299
 simp only [go_sem,seval]
 refine fz ?_; simp [wJ,wA,wB,qY,-List.drop_one]
theorem jV (r n:Int):qZ Tryz.prog num 253 [.int .i64 r,.int .i64 n] [] (.agg (jZ ⟨1,r,0,0,n⟩)):=by
 refine EN m253 Tryz.func207 ?_
 unfold m253
 simp only [go_sem,seval]
 refine fz ?_; simp [wJ,wA,wB,qY,-List.drop_one]
theorem bQ (a n:Int):qZ Tryz.prog num 256 [.int .i64 a,.int .i64 n] [] (.agg (jZ ⟨11,0,a,0,n⟩)):=by
 refine EN m256 Tryz.func210 ?_
 unfold m256
 simp only [go_sem,seval]
 refine fz ?_; simp [wJ,wA,wB,qY,-List.drop_one]
theorem uJ (n:Int):qZ Tryz.prog num 255 [.int .i64 n] [] (.agg (jZ ⟨10,0,0,0,n⟩)):=by
 refine EN m255 Tryz.func209 ?_
 unfold m255
 simp only [go_sem,seval]
 refine fz ?_; simp [wJ,wA,wB,qY,-List.drop_one]
theorem jS (op r a b:Int):qZ Tryz.prog num 254 [.int .i64 op,.int .i64 r,.int .i64 a,.int .i64 b] [] (.agg (jZ ⟨op,r,a,b,0⟩)):=by
 refine EN m254 Tryz.func208 ?_
 unfold m254
 simp only [go_sem,seval]
 refine fz ?_; simp [wJ,wA,wB,qY,-List.drop_one]
theorem qTn (b:Int):(kA b).take 2=kA b:=rfl
theorem qQb (f b:Int):(zM f b).take 4=zM f b:=rfl
theorem qPr (f b:Int):(hX f b).take 5=hX f b:=rfl
attribute [local go_sem] qTn qQb qPr qOe qLw qLc
theorem aS (b:Int):qZ Tryz.prog num 300 [.int .i64 b] [] (.sl .own 5 (wQ (kA b))):=by
 refine EN m300 Tryz.func233 ?_
 unfold m300
 simp only [go_sem,seval]
 refine CA [] (jV 7 0) ?_
 try simp only [go_sem,seval]
 refine ⟨_,Sub.refl _,yJ ?_⟩; simp [-List.drop_one]
 simp [wQ,kA,jZ]
theorem lC (b f:Int) (hf:0≤f∧f<2^40):qZ Tryz.prog num 296 [.int .i64 b,.int .i64 f] [] (.sl .own 5 (wQ (zM f b))):=by
 have w1:IntKind.i64.wrap (f+4)=f+4:=wM (by omega) (by omega)
 refine EN m296 Tryz.func229 ?_
 unfold m296
 simp only [go_sem,seval]
 refine CA [] (jV 7 1) ?_
 try simp only [go_sem,seval]
 try simp only [go_sem,seval,w1]
 refine CA [] (bQ 6 (f+4)) ?_
 try simp only [go_sem,seval]
 refine CA [] (uJ f) ?_
 try simp only [go_sem,seval]
 refine ⟨_,Sub.refl _,yJ ?_⟩; simp [-List.drop_one]
 simp [wQ,zM,jZ]
theorem qAc (b f:Int) (hb:0≤b∧b<2^40) (hf:0≤f∧f<2^40):qZ Tryz.prog num 297 [.int .i64 b,.int .i64 f] [] (.sl .own 5 (wQ (hX f b))):=by
 have w1:IntKind.i64.wrap (f+9)=f+9:=wM (by omega) (by omega)
 have w2:IntKind.i64.wrap (b+3)=b+3:=wM (by omega) (by omega)
 refine EN m297 Tryz.func230 ?_
 unfold m297
 simp only [go_sem,seval,w2]
 refine CA [] (dL 4 (b+3)) ?_
 try simp only [go_sem,seval]
 try simp only [go_sem,seval,w1]
 refine CA [] (bQ 4 (f+9)) ?_
 try simp only [go_sem,seval]
 refine CA [] (aS b) ?_
 try simp only [go_sem,seval]
 repeat refine K ?_
 refine ⟨_,Sub.refl _,yJ ?_⟩; simp [-List.drop_one]
 simp [wQ,hX,jZ]
theorem qOj (b f:Int) (hb:0≤b∧b<2^40) (hf:0≤f∧f<2^40):qZ Tryz.prog num 260 [.int .i64 b,.int .i64 f] [] (.sl .own 5 (wQ (zM f b++fR f b))):=by
 have hf' :∀v:Int,0≤v→v<2^20→IntKind.i64.wrap (f+v)=f+v:=fun v h1 h2=>wM (by omega) (by omega)
 have hb' :∀v:Int,0≤v→v<2^20→IntKind.i64.wrap (b+v)=b+v:=fun v h1 h2=>wM (by omega) (by omega)
 have b3:=hb' 3 (by decide) (by decide)
 refine EN m260 Tryz.func213 ?_
 unfold m260
 simp only [go_sem,seval,b3]
 refine CA [] (lC b f hf) ?_
 try simp only [go_sem,seval]
 refine CA [] (qAc b f hb hf) ?_
 try simp only [go_sem,seval]
 repeat refine K ?_
 refine CA [] (jV 7 1) ?_
 try simp only [go_sem,seval]
 try simp only [go_sem,seval,b3]
 refine CA [] (eG (b+3) 7) ?_
 try simp only [go_sem,seval]
 repeat refine K ?_
 refine CA [] (aS b) ?_
 try simp only [go_sem,seval]
 repeat refine K ?_
 refine ⟨_,Sub.refl _,yJ ?_⟩; simp [-List.drop_one]
 simp [wQ,jZ,zM,hX,kA,fR]
theorem qQf (x:Ins) (c:Int) (b f:Int) (hx:x.op=5) (hb:0≤b∧b<2^40) (hf:0≤f∧f<2^40):qZ Tryz.prog num 258 [.agg (gU x),.int .i64 b,.int .i64 c,.int .i64 f] [] (.sl .own 5 (wQ (zM f b++kT f b c x))):=by
 have hf' :∀v:Int,0≤v→v<2^20→IntKind.i64.wrap (f+v)=f+v:=fun v h1 h2=>wM (by omega) (by omega)
 have hb' :∀v:Int,0≤v→v<2^20→IntKind.i64.wrap (b+v)=b+v:=fun v h1 h2=>wM (by omega) (by omega)
 have f18:=hf' 18 (by decide) (by decide)
 have f19:=hf' 19 (by decide) (by decide)
 have f26:=hf' 26 (by decide) (by decide)
 have f29:=hf' 29 (by decide) (by decide)
 have b1:=hb' 1 (by decide) (by decide)
 have b2:=hb' 2 (by decide) (by decide)
 have b4:=hb' 4 (by decide) (by decide)
 have hz:wF x=29:=by simp [wF,hx]
 have hn:IntKind.i64.wrap (f+26+vQ false)=f+26:=by rw [wM (by simp [vQ]<;>omega) (by simp [vQ]<;>omega)]; simp [vQ]<;>omega
 refine EN m258 Tryz.func211 ?_
 unfold m258
 simp only [go_sem,seval,hx]
 refine CA [] (lB false) ?_
 try simp only [go_sem,seval]
 try simp only [go_sem,seval,f18,f19,f26,f29,b1,b2,b4,hz,hn]
 refine CA [] (zA x) ?_
 try simp only [go_sem,seval]
 try simp only [go_sem,seval,f18,f19,f26,f29,b1,b2,b4,hz,hn]
 refine CA [] (lC b f hf) ?_
 try simp only [go_sem,seval]
 refine CA [] (qAc b f hb hf) ?_
 try simp only [go_sem,seval]
 repeat refine K ?_
 try simp only [go_sem,seval,f18,f19,f26,f29,b1,b2,b4,hz,hn]
 refine CA [] (dL 5 (b+2)) ?_
 try simp only [go_sem,seval]
 refine CA [] (jV 7 c) ?_
 try simp only [go_sem,seval]
 refine CA [] (jS 4 6 5 7) ?_
 try simp only [go_sem,seval]
 refine CA [] (bQ 6 (f+26)) ?_
 try simp only [go_sem,seval]
 repeat refine K ?_
 try simp only [go_sem,seval,f18,f19,f26,f29,b1,b2,b4,hz,hn]
 refine CA [] (dL 4 (b+1)) ?_
 try simp only [go_sem,seval]
 refine CA [] (jS 2 4 4 5) ?_
 try simp only [go_sem,seval]
 refine CA [] (jS 4 6 4 7) ?_
 try simp only [go_sem,seval]
 try simp only [go_sem,seval,f18,f19,f26,f29,b1,b2,b4,hz,hn]
 refine CA [] (bQ 6 (f+18)) ?_
 try simp only [go_sem,seval]
 try simp only [go_sem,seval,f18,f19,f26,f29,b1,b2,b4,hz,hn]
 refine CA [] (uJ (f+19)) ?_
 try simp only [go_sem,seval]
 refine CA [] (jS 3 4 4 7) ?_
 try simp only [go_sem,seval]
 repeat refine K ?_
 try simp only [go_sem,seval,f18,f19,f26,f29,b1,b2,b4,hz,hn]
 refine DA [] (jV 7 1) ?_
 try simp only [go_sem,seval]
 refine DA [] (jS 2 5 5 7) ?_
 try simp only [go_sem,seval]
 refine DA [] (eG (b+2) 5) ?_
 try simp only [go_sem,seval]
 repeat refine K ?_
 refine CA [] (aS b) ?_
 try simp only [go_sem,seval]
 repeat refine K ?_
 refine CA [] (uJ (f+29)) ?_
 try simp only [go_sem,seval]
 repeat refine K ?_
 refine CA [] (aS b) ?_
 try simp only [go_sem,seval]
 repeat refine K ?_
 refine CA [] (uJ f) ?_
 try simp only [go_sem,seval]
 repeat refine K ?_
 refine ⟨_,Sub.refl _,yJ ?_⟩; simp [-List.drop_one]
 simp [wQ,jZ,zM,kT,hX,kA,hx,vQ]
theorem qIz (x:Ins) (c:Int) (b f:Int) (hx:x.op=7) (hb:0≤b∧b<2^40) (hf:0≤f∧f<2^40):qZ Tryz.prog num 258 [.agg (gU x),.int .i64 b,.int .i64 c,.int .i64 f] [] (.sl .own 5 (wQ (zM f b++kT f b c x))):=by
 have hf' :∀v:Int,0≤v→v<2^20→IntKind.i64.wrap (f+v)=f+v:=fun v h1 h2=>wM (by omega) (by omega)
 have hb' :∀v:Int,0≤v→v<2^20→IntKind.i64.wrap (b+v)=b+v:=fun v h1 h2=>wM (by omega) (by omega)
 have f18:=hf' 18 (by decide) (by decide)
 have f19:=hf' 19 (by decide) (by decide)
 have f26:=hf' 26 (by decide) (by decide)
 have f27:=hf' 27 (by decide) (by decide)
 have f31:=hf' 31 (by decide) (by decide)
 have b1:=hb' 1 (by decide) (by decide)
 have b2:=hb' 2 (by decide) (by decide)
 have b4:=hb' 4 (by decide) (by decide)
 have hz:wF x=31:=by simp [wF,hx]
 have hn:IntKind.i64.wrap (f+26+vQ true)=f+27:=by rw [wM (by simp [vQ]<;>omega) (by simp [vQ]<;>omega)]; simp [vQ]<;>omega
 refine EN m258 Tryz.func211 ?_
 unfold m258
 simp only [go_sem,seval,hx]
 refine CA [] (lB true) ?_
 try simp only [go_sem,seval]
 try simp only [go_sem,seval,f18,f19,f26,f27,f31,b1,b2,b4,hz,hn]
 refine CA [] (zA x) ?_
 try simp only [go_sem,seval]
 try simp only [go_sem,seval,f18,f19,f26,f27,f31,b1,b2,b4,hz,hn]
 refine CA [] (lC b f hf) ?_
 try simp only [go_sem,seval]
 refine CA [] (qAc b f hb hf) ?_
 try simp only [go_sem,seval]
 repeat refine K ?_
 try simp only [go_sem,seval,f18,f19,f26,f27,f31,b1,b2,b4,hz,hn]
 refine CA [] (dL 5 (b+2)) ?_
 try simp only [go_sem,seval]
 refine CA [] (jV 7 c) ?_
 try simp only [go_sem,seval]
 refine CA [] (jS 4 6 5 7) ?_
 try simp only [go_sem,seval]
 refine CA [] (bQ 6 (f+27)) ?_
 try simp only [go_sem,seval]
 repeat refine K ?_
 try simp only [go_sem,seval,f18,f19,f26,f27,f31,b1,b2,b4,hz,hn]
 refine CA [] (dL 4 (b+1)) ?_
 try simp only [go_sem,seval]
 refine CA [] (jS 2 4 4 5) ?_
 try simp only [go_sem,seval]
 refine CA [] (jS 4 6 4 7) ?_
 try simp only [go_sem,seval]
 try simp only [go_sem,seval,f18,f19,f26,f27,f31,b1,b2,b4,hz,hn]
 refine CA [] (bQ 6 (f+18)) ?_
 try simp only [go_sem,seval]
 try simp only [go_sem,seval,f18,f19,f26,f27,f31,b1,b2,b4,hz,hn]
 refine CA [] (uJ (f+19)) ?_
 try simp only [go_sem,seval]
 refine CA [] (jS 3 4 4 7) ?_
 try simp only [go_sem,seval]
 repeat refine K ?_
 try simp only [go_sem,seval,f18,f19,f26,f27,f31,b1,b2,b4,hz,hn]
 refine DA [] (jV 7 1) ?_
 try simp only [go_sem,seval]
 refine DA [] (jS 2 5 5 7) ?_
 try simp only [go_sem,seval]
 refine DA [] (eG (b+2) 5) ?_
 try simp only [go_sem,seval]
 repeat refine K ?_
 refine CA [] (aS b) ?_
 try simp only [go_sem,seval]
 repeat refine K ?_
 refine CA [] (jV x.r 1) ?_
 try simp only [go_sem,seval]
 refine CA [] (uJ (f+31)) ?_
 try simp only [go_sem,seval]
 repeat refine K ?_
 refine CA [] (aS b) ?_
 try simp only [go_sem,seval]
 repeat refine K ?_
 refine CA [] (jV x.r 0) ?_
 try simp only [go_sem,seval]
 refine CA [] (uJ (f+31)) ?_
 try simp only [go_sem,seval]
 repeat refine K ?_
 refine ⟨_,Sub.refl _,yJ ?_⟩; simp [-List.drop_one]
 simp [wQ,jZ,zM,kT,hX,kA,hx,vQ]
theorem qQe (x:Ins) (c:Int) (b f:Int) (hx:x.op=6) (hb:0≤b∧b<2^40) (hf:0≤f∧f<2^40):qZ Tryz.prog num 259 [.agg (gU x),.int .i64 b,.int .i64 c,.int .i64 f] [] (.sl .own 5 (wQ (zM f b++kP f b c x))):=by
 have hf' :∀v:Int,0≤v→v<2^20→IntKind.i64.wrap (f+v)=f+v:=fun v h1 h2=>wM (by omega) (by omega)
 have hb' :∀v:Int,0≤v→v<2^20→IntKind.i64.wrap (b+v)=b+v:=fun v h1 h2=>wM (by omega) (by omega)
 have f15:=hf' 15 (by decide) (by decide)
 have f16:=hf' 16 (by decide) (by decide)
 have f22:=hf' 22 (by decide) (by decide)
 have f29:=hf' 29 (by decide) (by decide)
 have f30:=hf' 30 (by decide) (by decide)
 have b1:=hb' 1 (by decide) (by decide)
 have b2:=hb' 2 (by decide) (by decide)
 have b3:=hb' 3 (by decide) (by decide)
 have b4:=hb' 4 (by decide) (by decide)
 have hz:wF x=30:=by simp [wF,hx]
 refine EN m259 Tryz.func212 ?_
 unfold m259
 simp only [go_sem,seval,hx]
 refine CA [] (zA x) ?_
 try simp only [go_sem,seval]
 repeat refine K ?_
 try simp only [go_sem,seval,f15,f16,f22,f29,f30,b1,b2,b3,b4,hz]
 refine DA [] (lC b f hf) ?_
 try simp only [go_sem,seval]
 refine DA [] (dL 5 (b+2)) ?_
 try simp only [go_sem,seval]
 refine DA [] (bQ 5 (f+22)) ?_
 try simp only [go_sem,seval]
 refine DA [] (dL 4 (b+1)) ?_
 try simp only [go_sem,seval]
 repeat refine K ?_
 refine CA [] (jV 7 1) ?_
 try simp only [go_sem,seval]
 refine CA [] (jS 2 4 4 7) ?_
 try simp only [go_sem,seval]
 refine CA [] (jS 3 5 5 7) ?_
 try simp only [go_sem,seval]
 refine CA [] (jV 7 c) ?_
 try simp only [go_sem,seval]
 refine CA [] (jS 4 6 4 7) ?_
 try simp only [go_sem,seval]
 try simp only [go_sem,seval,f15,f16,f22,f29,f30,b1,b2,b3,b4,hz]
 refine CA [] (bQ 6 (f+15)) ?_
 try simp only [go_sem,seval]
 try simp only [go_sem,seval,f15,f16,f22,f29,f30,b1,b2,b3,b4,hz]
 refine CA [] (uJ (f+16)) ?_
 try simp only [go_sem,seval]
 refine CA [] (jV 4 0) ?_
 try simp only [go_sem,seval]
 repeat refine K ?_
 try simp only [go_sem,seval,f15,f16,f22,f29,f30,b1,b2,b3,b4,hz]
 refine CA [] (eG (b+1) 4) ?_
 try simp only [go_sem,seval]
 try simp only [go_sem,seval,f15,f16,f22,f29,f30,b1,b2,b3,b4,hz]
 refine CA [] (eG (b+2) 5) ?_
 try simp only [go_sem,seval]
 repeat refine K ?_
 refine CA [] (aS b) ?_
 try simp only [go_sem,seval]
 repeat refine K ?_
 refine CA [] (jV x.b 1) ?_
 try simp only [go_sem,seval]
 refine CA [] (uJ (f+30)) ?_
 try simp only [go_sem,seval]
 try simp only [go_sem,seval,f15,f16,f22,f29,f30,b1,b2,b3,b4,hz]
 refine CA [] (dL 4 (b+3)) ?_
 try simp only [go_sem,seval]
 repeat refine K ?_
 refine CA [] (aS b) ?_
 try simp only [go_sem,seval]
 repeat refine K ?_
 try simp only [go_sem,seval,f15,f16,f22,f29,f30,b1,b2,b3,b4,hz]
 refine DA [] (bQ 4 (f+29)) ?_
 try simp only [go_sem,seval]
 refine DA [] (jV x.r 0) ?_
 try simp only [go_sem,seval]
 repeat refine K ?_
 refine CA [] (jV x.b 0) ?_
 try simp only [go_sem,seval]
 refine CA [] (uJ (f+30)) ?_
 try simp only [go_sem,seval]
 refine CA [] (uJ f) ?_
 try simp only [go_sem,seval]
 repeat refine K ?_
 refine ⟨_,Sub.refl _,yJ ?_⟩; simp [-List.drop_one]
 simp [wQ,jZ,zM,kP,kA,hx,vQ]
theorem qIy (x:Ins) (c:Int) (b f:Int) (hx:x.op=8) (hb:0≤b∧b<2^40) (hf:0≤f∧f<2^40):qZ Tryz.prog num 259 [.agg (gU x),.int .i64 b,.int .i64 c,.int .i64 f] [] (.sl .own 5 (wQ (zM f b++kP f b c x))):=by
 have hf' :∀v:Int,0≤v→v<2^20→IntKind.i64.wrap (f+v)=f+v:=fun v h1 h2=>wM (by omega) (by omega)
 have hb' :∀v:Int,0≤v→v<2^20→IntKind.i64.wrap (b+v)=b+v:=fun v h1 h2=>wM (by omega) (by omega)
 have f15:=hf' 15 (by decide) (by decide)
 have f16:=hf' 16 (by decide) (by decide)
 have f22:=hf' 22 (by decide) (by decide)
 have f29:=hf' 29 (by decide) (by decide)
 have f32:=hf' 32 (by decide) (by decide)
 have b1:=hb' 1 (by decide) (by decide)
 have b2:=hb' 2 (by decide) (by decide)
 have b3:=hb' 3 (by decide) (by decide)
 have b4:=hb' 4 (by decide) (by decide)
 have hz:wF x=32:=by simp [wF,hx]
 refine EN m259 Tryz.func212 ?_
 unfold m259
 simp only [go_sem,seval,hx]
 refine CA [] (zA x) ?_
 try simp only [go_sem,seval]
 repeat refine K ?_
 try simp only [go_sem,seval,f15,f16,f22,f29,f32,b1,b2,b3,b4,hz]
 refine DA [] (lC b f hf) ?_
 try simp only [go_sem,seval]
 refine DA [] (dL 5 (b+2)) ?_
 try simp only [go_sem,seval]
 refine DA [] (bQ 5 (f+22)) ?_
 try simp only [go_sem,seval]
 refine DA [] (dL 4 (b+1)) ?_
 try simp only [go_sem,seval]
 repeat refine K ?_
 refine CA [] (jV 7 1) ?_
 try simp only [go_sem,seval]
 refine CA [] (jS 2 4 4 7) ?_
 try simp only [go_sem,seval]
 refine CA [] (jS 3 5 5 7) ?_
 try simp only [go_sem,seval]
 refine CA [] (jV 7 c) ?_
 try simp only [go_sem,seval]
 refine CA [] (jS 4 6 4 7) ?_
 try simp only [go_sem,seval]
 try simp only [go_sem,seval,f15,f16,f22,f29,f32,b1,b2,b3,b4,hz]
 refine CA [] (bQ 6 (f+15)) ?_
 try simp only [go_sem,seval]
 try simp only [go_sem,seval,f15,f16,f22,f29,f32,b1,b2,b3,b4,hz]
 refine CA [] (uJ (f+16)) ?_
 try simp only [go_sem,seval]
 refine CA [] (jV 4 0) ?_
 try simp only [go_sem,seval]
 repeat refine K ?_
 try simp only [go_sem,seval,f15,f16,f22,f29,f32,b1,b2,b3,b4,hz]
 refine CA [] (eG (b+1) 4) ?_
 try simp only [go_sem,seval]
 try simp only [go_sem,seval,f15,f16,f22,f29,f32,b1,b2,b3,b4,hz]
 refine CA [] (eG (b+2) 5) ?_
 try simp only [go_sem,seval]
 repeat refine K ?_
 refine CA [] (aS b) ?_
 try simp only [go_sem,seval]
 repeat refine K ?_
 refine CA [] (jV x.b 1) ?_
 try simp only [go_sem,seval]
 refine CA [] (uJ (f+32)) ?_
 try simp only [go_sem,seval]
 try simp only [go_sem,seval,f15,f16,f22,f29,f32,b1,b2,b3,b4,hz]
 refine CA [] (dL 4 (b+3)) ?_
 try simp only [go_sem,seval]
 repeat refine K ?_
 refine CA [] (aS b) ?_
 try simp only [go_sem,seval]
 repeat refine K ?_
 try simp only [go_sem,seval,f15,f16,f22,f29,f32,b1,b2,b3,b4,hz]
 refine DA [] (bQ 4 (f+29)) ?_
 try simp only [go_sem,seval]
 refine DA [] (jV x.r 0) ?_
 try simp only [go_sem,seval]
 repeat refine K ?_
 refine DA [] (jV x.b 2) ?_
 try simp only [go_sem,seval]
 refine DA [] (uJ (f+32)) ?_
 try simp only [go_sem,seval]
 refine DA [] (jV x.r 0) ?_
 try simp only [go_sem,seval]
 refine DA [] (jV x.b 0) ?_
 try simp only [go_sem,seval]
 refine DA [] (uJ (f+32)) ?_
 try simp only [go_sem,seval]
 repeat refine K ?_
 refine ⟨_,Sub.refl _,yJ ?_⟩; simp [-List.drop_one]
 simp [wQ,jZ,zM,kP,kA,hx,vQ]
end Go.Sep
