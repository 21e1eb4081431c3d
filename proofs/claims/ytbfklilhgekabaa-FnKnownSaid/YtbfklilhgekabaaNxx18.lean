/- Contracts of functions. -/
import Derived.Test.YtbfklilhgekabaaNxx15
open List renaming drop_one → qYt
namespace Go.Sep
set_option maxHeartbeats 16000000
open Go.Proofs
set_option linter.unusedSimpArgs false
set_option linter.unusedVariables false
set_option maxRecDepth 100000
def m216:MFn:=⟨34,[.t 4],kr [xo 4 (.mv (.c (.nil)))] (kr [xv 7 0,xv 8 1,xD 9 5 7 8,xm 10 5 9,xo 5 (.alloc [xz,xz,xz,xz,xz]),xS 5 5 10] (.seq (kr [xa 11 0 5,xl 12 11] (.blk 0 (kr [bI 14 .eql 12 13,xv 13 14] (.cond 13 (kR [xo 4 (.mv (.c (.nil)))]) (kr [bI 16 .eql 12 11,xv 15 16] (.cond 15 (kR [xa 17 4 5,xl 18 17,xo 19 (.mkSl [xz] 1 [(0,.t 18)]),xv 4 19]) (kr [bI 21 .eql 12 12,xv 20 21] (.cond 20 (kr [xv 22 1,bI 23 .add 22 1,xa 24 4 5,xl 25 24,xo 26 (.mkSl [xz] 2 [(0,.t 23),(1,.t 25)]),xv 6 26] (kr [xv 27 6,xo 28 (.call 219 [true] [.t 27])] (kR [xv 29 6,xo 30 (.call 220 [true] [.t 29]),xv 4 30]))) (.skip))))))))) (kR [xv 31 1,bI 32 .add 31 1,xo 33 (.mkSl [xz] 1 [(0,.t 32)]),xv 4 33])))⟩
def m219:MFn:=⟨11,[],kr [xv 3 0,xe 4 3,xv 2 4] (xr [xv 5 0,xv 6 2,xv 7 2,xo 8 (.cvi .u64 (.t 7)),xc1 9 272 (.t 8),xo 10 (.call 273 [true,false,false,false] [.t 5,xi 0,.t 6,.t 9])])⟩
def m220:MFn:=⟨61,[.t 2],kr [xo 2 (.mv (.c (.nil)))] (.seq (kr [xv 6 0,xe 7 6,bI 8 .lss 7 2] (kF 8 [xv 9 0,xv 2 9])) (.seq (kr [xI 3 1] (.blk 0 (.loop (.seq (kr [xv 10 3,xv 11 0,xe 12 11,bT 13 .lss 10 12] (kX 13 0)) (.seq (.blk 1 (.seq (.dreg (.take 0 (xv 16 0) (.take 1 (xv 17 3) (.take 2 (xD 18 1 16 17) (.take 3 (xl 19 18) (.take 4 (xv 20 0) (.only 5 [] (xv 21 3) (.only 6 [] (bI 22 .sub 21 1) (.only 7 [4] (xD 23 1 20 22) (.only 8 [7,4] (xl 24 23) (.only 9 [3,8,2,7,0,1,4] (bT 25 .eql 19 24) (.done)))))))))))) (.cond 25 (kr [xv 26 0,xv 27 3,xo 28 (.cut 1 (.t 26) (some (.t 27)) none),xv 4 28] (.seq (kr [xI 5 1] (.blk 2 (.loop (.seq (kr [xv 29 5,xv 30 4,xe 31 30,bT 32 .lss 29 31] (kX 32 2)) (.seq (.blk 3 (.seq (.dreg (.take 0 (xv 35 4) (.take 1 (xv 36 5) (.take 2 (xD 37 1 35 36) (.take 3 (xl 38 37) (.take 4 (xv 39 4) (.only 5 [] (xv 40 5) (.only 6 [] (bI 41 .sub 40 1) (.only 7 [4] (xD 42 1 39 41) (.only 8 [7,4] (xl 43 42) (.only 9 [3,8,2,7,0,1,4] (bT 44 .neq 38 43) (.done)))))))))))) (.cond 44 (kr [xv 45 0,xv 46 3,xv 47 4,xv 48 5,xD 49 1 47 48,xl 50 49,xD 51 1 45 46,xS 1 51 50] (xr [xv 52 3,bI 53 .add 52 1,xv 3 53])) (.skip)))) (xr [xv 33 5,bI 34 .add 33 1,xv 5 34])))))) (kr [xv 54 0,xv 55 3,xo 56 (.cut 1 (.t 54) (some (.t 55)) none),⟨none,.clr [xz] (.t 56),none⟩] (kR [xv 57 0,xv 58 3,xo 59 (.cut 1 (.t 57) none (some (.t 58))),xv 2 59])))) (.skip)))) (xr [xv 14 3,bI 15 .add 14 1,xv 3 15])))))) (kR [xv 60 0,xv 2 60])))⟩
def m272:MFn:=⟨8,[.t 2],kr [xI 2 0] (.seq (.skip) (kR [xv 6 0,xc1 7 340 (.t 6),xv 2 7]))⟩
def m273:MFn:=⟨134,[],kr [xT 8] (kr [xT 9] (.blk 0 (.loop (.blk 1 (kr [xv 19 2,xv 20 1,bT 21 .sub 19 20,xv 10 21] (.seq (kr [xv 22 10,bI 23 .leq 22 12] (kF 23 [xv 24 0,xv 25 1,xv 26 2,xo 27 (.call 312 [true,false,false] [.t 24,.t 25,.t 26])])) (.seq (kr [xv 28 3,bI 29 .eql 28 0] (kF 29 [xv 30 0,xv 31 1,xv 32 2,xc3 33 313 (.t 30) (.t 31) (.t 32)])) (.seq (kr [xv 34 8,xN 35 34] (.cond 35 (kr [xv 36 0,xv 37 1,xv 38 2,xc3 39 314 (.t 36) (.t 37) (.t 38)] (xr [xv 40 3,bI 41 .sub 40 1,xv 3 41])) (.skip))) (kr [xv 43 0,xv 44 1,xv 45 2,xc3 46 315 (.t 43) (.t 44) (.t 45),xv 42 46,xX 47 42 0,xX 48 42 1,xv 11 47,xv 12 48] (.seq (kr [xv 49 12,bI 50 .eql 49 2] (.cond 50 (kr [xv 51 0,xv 52 1,xv 53 2,xc3 54 316 (.t 51) (.t 52) (.t 53)] (kr [xv 55 2,bI 56 .sub 55 1,xv 57 11,xv 58 1,bT 59 .sub 57 58,bT 60 .sub 56 59,xv 11 60] (xr [xI 12 1]))) (.skip))) (.seq (kr [xv 61 8,xv 62 61,yv 63 9 62,xP 64 62 63,xv 65 64,yv 66 12 65,yI 67 .eql 66 1 65,xP 68 65 67] (.cond 68 (kr [xv 69 0,xv 70 1,xv 71 2,xc3 72 317 (.t 69) (.t 70) (.t 71)] (.cond 72 (.ret) (.skip))) (.skip))) (.seq (.seq (.dreg (.only 0 [] (xv 73 1) (.only 1 [] (bI 74 .gtr 73 0) (.only 2 [] (xv 75 74) (.take 3 (yv 76 0 75) (.take 4 (yv 77 1 75) (.take 5 (yI 78 .sub 77 1 75) (.take 6 (xg 79 (.iad 1 (.t 76) (.t 78)) 75 true) (.take 7 (yl 80 1 79 75) (.take 8 (yv 81 0 75) (.only 9 [] (yv 82 11 75) (.only 10 [8] (xg 83 (.iad 1 (.t 81) (.t 82)) 75 true) (.only 11 [10,8] (yl 84 1 83 75) (.only 12 [7,11,6,10,3,5,8,4] (xg 85 (.call 318 [false,false] [.t 80,.t 84]) 75 true) (.only 13 [12,7,11,6,10,3,5,8,4] (yN 86 85 75) (.only 14 [13,12,7,11,6,10,3,5,8,4] (xP 87 75 86) (.done))))))))))))))))) (.cond 87 (kr [xv 88 0,xv 89 1,xv 90 2,xv 91 11,xo 92 (.call 319 [false,false,false,false] [.t 88,.t 89,.t 90,.t 91]),xv 13 92] (kr [xv 93 13,xv 1 93] (.exit 1))) (.skip))) (kr [xv 95 0,xv 96 1,xv 97 2,xv 98 11,xo 99 (.call 320 [false,false,false,false] [.t 95,.t 96,.t 97,.t 98]),xv 94 99,xX 100 94 0,xX 101 94 1,xv 14 100,xv 15 101] (kr [xv 102 15,xv 9 102] (kr [xv 103 14,xv 104 1,bT 105 .sub 103 104,xv 106 2,xv 107 14,bT 108 .sub 106 107,xv 16 105,xv 17 108] (kr [xv 109 10,bI 110 .quo 109 8,xv 18 110] (kr [xv 111 16,xv 112 17,bT 113 .lss 111 112] (.cond 113 (kr [xv 114 16,xv 115 18,bT 116 .geq 114 115,xv 8 116] (kr [xv 117 0,xv 118 1,xv 119 14,xv 120 3,xo 121 (.call 273 [true,false,false,false] [.t 117,.t 118,.t 119,.t 120])] (xr [xv 122 14,bI 123 .add 122 1,xv 1 123]))) (kr [xv 124 17,xv 125 18,bT 126 .geq 124 125,xv 8 126] (kr [xv 127 0,xv 128 14,bI 129 .add 128 1,xv 130 2,xv 131 3,xo 132 (.call 273 [true,false,false,false] [.t 127,.t 129,.t 130,.t 131])] (xr [xv 133 14,xv 2 133])))))))))))))))))))))⟩
def m312:MFn:=⟨49,[],kr [xv 8 1,bI 9 .add 8 1,xv 6 9] (.blk 0 (.loop (.seq (kr [xv 10 6,xv 11 2,bT 12 .lss 10 11] (kX 12 0)) (.seq (.blk 1 (kr [xv 15 6,xv 7 15] (.blk 2 (.loop (.seq (.seq (.dreg (.take 0 (xv 16 7) (.only 1 [] (xv 17 1) (.only 2 [0] (bT 18 .gtr 16 17) (.only 3 [2,0] (xv 19 18) (.take 4 (yv 20 0 19) (.take 5 (yv 21 7 19) (.take 6 (xg 22 (.iad 1 (.t 20) (.t 21)) 19 true) (.take 7 (yl 23 1 22 19) (.take 8 (yv 24 0 19) (.only 9 [3,2,0] (yv 25 7 19) (.only 10 [3,2,0] (yI 26 .sub 25 1 19) (.only 11 [3,8,2,0] (xg 27 (.iad 1 (.t 24) (.t 26)) 19 true) (.only 12 [3,11,2,8,0] (yl 28 1 27 19) (.only 13 [3,7,12,2,6,11,0,4,5,8] (xg 29 (.call 318 [false,false] [.t 23,.t 28]) 19 true) (.only 14 [3,13,2,7,12,0,6,11,4,5,8] (xP 30 19 29) (.done))))))))))))))))) (kX 30 2)) (.seq (.blk 3 (.dreg (.take 0 (xv 33 0) (.take 1 (xv 34 7) (.take 2 (xv 35 0) (.take 3 (xv 36 7) (.take 4 (bI 37 .sub 36 1) (.take 5 (xv 38 0) (.take 6 (xv 39 7) (.take 7 (bI 40 .sub 39 1) (.take 8 (xD 41 1 38 40) (.take 9 (xl 42 41) (.take 10 (xv 43 0) (.only 11 [] (xv 44 7) (.only 12 [10] (xD 45 1 43 44) (.only 13 [12,10] (xl 46 45) (.only 14 [0,1,5,6,7,8,9,13,12,10] (xD 47 1 33 34) (.only 15 [0,1,5,6,7,8,9,13,12,10] (xS 1 47 42) (.only 16 [0,1,2,3,4,5,6,7,8,9,10] (xD 48 1 35 37) (.only 17 [0,1,2,3,4,5,6,7,8,9,10] (xS 1 48 46) (.done))))))))))))))))))))) (xr [xv 31 7,bI 32 .sub 31 1,xv 7 32]))))))) (xr [xv 13 6,bI 14 .add 13 1,xv 6 14])))))⟩
def m318:MFn:=⟨17,[.t 4],kr [xF 4] (kR [xv 5 0,xc1 6 338 (.t 5),xv 7 6,yv 8 1 7,xg 9 (.call 338 [false] [.t 8]) 7 true,yN 10 9 7,xP 11 7 10,xv 12 11,zv 13 0 12,zv 14 1 12,xg 15 (.bin .lss (.t 13) (.t 14)) 12 false,xQ 16 12 15,xv 4 16])⟩
def m338:MFn:=⟨6,[.t 2],kr [xF 2] (kR [xv 3 0,xv 4 0,bT 5 .neq 3 4,xv 2 5])⟩
def m340:MFn:=⟨25,[.t 2],kr [xI 2 0] (.seq (kr [xv 3 0,xo 4 (.bin .geq (.t 3) (.c (.int .u64 4294967296)))] (.cond 4 (kr [xv 5 0,xo 6 (.bin .shr (.t 5) (.c (.int .u64 32))),xv 0 6] (xr [xI 2 32])) (.skip))) (.seq (kr [xv 7 0,xo 8 (.bin .geq (.t 7) (.c (.int .u64 65536)))] (.cond 8 (kr [xv 9 0,xo 10 (.bin .shr (.t 9) (.c (.int .u64 16))),xv 0 10] (xr [xv 11 2,bI 12 .add 11 16,xv 2 12])) (.skip))) (.seq (kr [xv 13 0,xo 14 (.bin .geq (.t 13) (.c (.int .u64 256)))] (.cond 14 (kr [xv 15 0,xo 16 (.bin .shr (.t 15) (.c (.int .u64 8))),xv 0 16] (xr [xv 17 2,bI 18 .add 17 8,xv 2 18])) (.skip))) (kR [xv 19 2,xv 20 0,xo 21 (.cvi .u8 (.t 20)),⟨(some 22),.idx (.c (.str ⟨#[0,1,2,2,3,3,3,3,4,4,4,4,4,4,4,4,5,5,5,5,5,5,5,5,5,5,5,5,5,5,5,5,6,6,6,6,6,6,6,6,6,6,6,6,6,6,6,6,6,6,6,6,6,6,6,6,6,6,6,6,6,6,6,6,7,7,7,7,7,7,7,7,7,7,7,7,7,7,7,7,7,7,7,7,7,7,7,7,7,7,7,7,7,7,7,7,7,7,7,7,7,7,7,7,7,7,7,7,7,7,7,7,7,7,7,7,7,7,7,7,7,7,7,7,7,7,7,7,8,8,8,8,8,8,8,8,8,8,8,8,8,8,8,8,8,8,8,8,8,8,8,8,8,8,8,8,8,8,8,8,8,8,8,8,8,8,8,8,8,8,8,8,8,8,8,8,8,8,8,8,8,8,8,8,8,8,8,8,8,8,8,8,8,8,8,8,8,8,8,8,8,8,8,8,8,8,8,8,8,8,8,8,8,8,8,8,8,8,8,8,8,8,8,8,8,8,8,8,8,8,8,8,8,8,8,8,8,8,8,8,8,8,8,8,8,8,8,8,8,8,8,8,8,8,8,8]⟩)) (.t 21),none⟩,xo 23 (.cvi .i64 (.t 22)),bT 24 .add 19 23,xv 2 24]))))⟩
attribute [local go_sem] qTd
theorem qSr (x:Int):wJ Try.prog num 338 [.int .i64 x] [] (.bool false):=by
 refine EN m338 Try.func111 ?_
 unfold m338
 simp only [go_sem,seval]
 repeat refine K ?_
 refine ⟨_,Sub.refl _,wL ?_⟩; simp [-qYt]
theorem qUs (x y:Int):wJ Try.prog num 318 [.int .i64 x,.int .i64 y] [] (.bool (decide (x<y))):=by
 refine EN m318 Try.func101 ?_
 unfold m318
 simp only [go_sem,seval]
 repeat refine K ?_
 refine CA [] (qSr x) ?_
 try simp only [go_sem,seval]
 repeat refine K ?_
 try simp only [go_sem,seval]
 repeat refine K ?_
 by_cases h:x<y
 ·try simp only [go_sem,seval,h]
  repeat refine K ?_
  refine ⟨_,Sub.refl _,wL ?_⟩; simp [-qYt]
  all_goals (try simp [h])
 ·try simp only [go_sem,seval,h]
  repeat refine K ?_
  refine ⟨_,Sub.refl _,wL ?_⟩; simp [-qYt]
  all_goals (try simp [h])
def pD (a b:Int):List Int:=if b<a then [b,a] else [a,b]
theorem qKz (a b:Int):wJ Try.prog num 312 [.ns 0 0 2,.int .i64 0,.int .i64 2] [(0,some (1,wT [a,b]),some (1,wT (pD a b)))] (.tup []):=by
 refine EH m312 Try.func95 (hh:=by refine bV _ _ _ _ ((dT _).2 trivial) (by decide) ?_<;>simp [jB]) ?_
 unfold m312
 have w0:IntKind.i64.wrap 0=0:=by decide
 have w1:IntKind.i64.wrap 1=1:=by decide
 have w2:IntKind.i64.wrap 2=2:=by decide
 have w3:IntKind.i64.wrap (1-1)=0:=by decide
 have w4:IntKind.i64.wrap (1+1)=2:=by decide
 have w5:IntKind.i64.wrap (0+1)=1:=by decide
 have g0:(wT [a,b]).getD 0 []=[.int .i64 a]:=rfl
 have g1:(wT [a,b]).getD 1 []=[.int .i64 b]:=rfl
 simp only [go_sem,seval,w1]
 repeat refine K ?_
 refine wM (ι:=Bool) (fun q=>.mk [(0,.ns 0 0 2),(1,.int .i64 0),(2,.int .i64 2),(6,.int .i64 (if q then 2 else 1))] [(0,1,wT (if q then pD a b else [a,b]))] 10) (fun _=>True) (fun q=>if q then 0 else 1) false trivial ?_ ?_
 ·refine Sub.shape [] id (by omega) ?_ ?_ ?_ ?_<;>simp [qR]
  all_goals (exact w5)
 ·rintro (_ | _) _
  ·simp only [go_sem,seval,w1]
   repeat refine K ?_
   refine wM (ι:=Bool) (fun q=>.mk [(0,.ns 0 0 2),(1,.int .i64 0),(2,.int .i64 2),(6,.int .i64 1),(7,.int .i64 (if q then 0 else 1))] [(0,1,wT (if q then [b,a] else [a,b]))] 10) (fun q=>q=true→b<a) (fun q=>if q then 0 else 1) false (by simp) ?_ ?_
   ·refine Sub.shape [] id (by omega) ?_ ?_ ?_ ?_<;>simp [qR]
   ·rintro (_ | _) hq
    ·simp only [go_sem,seval,w0,w1,w2,w3,w4,g0,g1]
     repeat refine K ?_
     refine DA [] (qUs b a) ?_
     try simp only [go_sem,seval]
     repeat refine K ?_
     by_cases h:b<a
     ·have g2:(wT [a,a]).getD 0 []=[.int .i64 a]:=rfl
      try simp only [go_sem,seval,h,w0,w1,w2,w3,w4,g0,g1,g2,qE6]
      repeat refine K ?_
      refine qT true (Sub.shape [] id (by omega) ?_ ?_ ?_ ?_) trivial (by simp)<;>simp [qR]
     ·try simp only [go_sem,seval,h,w0,w1,w2,w3,w4,g0,g1]
      repeat refine K ?_
      refine qT true (Sub.shape [] id (by omega) ?_ ?_ ?_ ?_) trivial (by simp)<;>simp [qR]
      all_goals (try simp [pD,h])
    ·have h:=hq rfl
     simp only [go_sem,seval,w0,w1,w2,w3,w4]
     repeat refine K ?_
     refine qT true (Sub.shape [] id (by omega) ?_ ?_ ?_ ?_) trivial (by simp)<;>simp [qR]
     all_goals (try simp [pD,h])
  ·simp only [go_sem,seval]
   repeat refine K ?_
   refine fz ?_; simp [jD,wN,wP,yA,-qYt]
theorem qUj (a b k:Int):wJ Try.prog num 273 [.ns 0 0 2,.int .i64 0,.int .i64 2,.int .i64 k] [(0,some (1,wT [a,b]),some (1,wT (pD a b)))] (.tup []):=by
 refine EH m273 Try.func92 (hh:=by refine bV _ _ _ _ ((dT _).2 trivial) (by decide) ?_<;>simp [jB]) ?_
 have w2:IntKind.i64.wrap (2-0)=2:=by decide
 have w2b:IntKind.i64.wrap 2=2:=by decide
 unfold m273
 simp only [go_sem,seval]
 repeat refine K ?_
 refine wM (ι:=Unit) (fun _=>.mk [(0,.ns 0 0 2),(1,.int .i64 0),(2,.int .i64 2)] [(0,1,wT [a,b])] 10) (fun _=>True) (fun _=>0) () trivial ?_ ?_
 ·refine Sub.shape [] id (by omega) ?_ ?_ ?_ ?_<;>simp [qR]
 ·rintro _ _
  simp only [go_sem,seval,w2,w2b]
  repeat refine K ?_
  refine CA [] (qKz a b) ?_
  try simp only [go_sem,seval]
  repeat refine K ?_
  try simp only [go_sem,seval]
  repeat refine K ?_
  refine fz ?_; simp [jD,wN,wP,yA,-qYt]
theorem qMv:wJ Try.prog num 340 [.int .u64 2] [] (.int .i64 2):=by
 refine EN m340 Try.func105 ?_
 unfold m340
 have hu:IntKind.u8.wrap 2=2:=by decide
 simp only [go_sem,seval,hu]
 repeat refine K ?_
 refine ⟨by decide,?_⟩
 refine ⟨_,Sub.refl _,wL ?_⟩
 simp [-qYt,hu]
 decide
theorem qUt:wJ Try.prog num 272 [.int .u64 2] [] (.int .i64 2):=by
 refine EN m272 Try.func93 ?_
 unfold m272
 simp only [go_sem,seval]
 repeat refine K ?_
 refine CA [] (qMv) ?_
 try simp only [go_sem,seval]
 repeat refine K ?_
 try simp only [go_sem,seval]
 repeat refine K ?_
 refine ⟨_,Sub.refl _,wL ?_⟩; simp [-qYt]
theorem qRt (a b:Int):wJ Try.prog num 219 [.ns 0 0 2] [(0,some (1,wT [a,b]),some (1,wT (pD a b)))] (.tup []):=by
 refine EH m219 Try.func79 (hh:=by refine bV _ _ _ _ ((dT _).2 trivial) (by decide) ?_<;>simp [jB]) ?_
 unfold m219
 have w2:IntKind.u64.wrap 2=2:=by decide
 simp only [go_sem,seval,w2]
 repeat refine K ?_
 refine CA [] (qUt) ?_
 try simp only [go_sem,seval]
 repeat refine K ?_
 try simp only [go_sem,seval]
 repeat refine K ?_
 refine CA [] (qUj a b 2) ?_
 try simp only [go_sem,seval]
 repeat refine K ?_
 try simp only [go_sem,seval]
 repeat refine K ?_
 refine fz ?_; simp [jD,wN,wP,yA,-qYt]
attribute [local go_sem] qTd
def rP (a b:Int):List Int:=if a=b then [a] else [a,b]
theorem qBp (a b:Int):wJ Try.prog num 220 [.ns 0 0 2] [(0,some (1,wT [a,b]),none)] (.sl .own 1 (wT (rP a b))):=by
 refine EH m220 Try.func80 (hh:=by refine bV _ _ _ _ ((dT _).2 trivial) (by decide) ?_<;>simp [jB]) ?_
 have w3:IntKind.i64.wrap (1-1)=0:=by decide
 have w4:IntKind.i64.wrap (1+1)=2:=by decide
 have w30:IntKind.i64.wrap 0=0:=by decide
 have w40:IntKind.i64.wrap 2=2:=by decide
 have g0:(wT [a,b]).getD 0 []=[.int .i64 a]:=rfl
 have g1:(wT [a,b]).getD 1 []=[.int .i64 b]:=rfl
 have n2:((2:Nat):Int)=2:=rfl
 have n1:((1:Nat):Int)=1:=rfl
 have d1:decide ((2:Int)<2)=false:=by decide
 have d2:decide ((1:Int)<2)=true:=by decide
 have d3:decide ((1:Int)<1)=false:=by decide
 unfold m220
 simp only [go_sem,seval,n2,d1]
 repeat refine K ?_
 refine wM (ι:=Bool) (fun q=>.mk [(0,.ns 0 0 2),(3,.int .i64 (if q then 2 else 1))] [(0,1,wT [a,b])] 10) (fun q=>q=true→a≠b) (fun q=>if q then 0 else 1) false (by simp) ?_ ?_
 ·refine Sub.shape [] id (by omega) ?_ ?_ ?_ ?_<;>simp [qR]
 ·rintro (_ | _) hq
  ·simp only [go_sem,seval,w3,w4,w30,w40,g0,g1,n2,d2]
   repeat refine K ?_
   by_cases h:b=a
   ·try simp only [go_sem,seval,h,n1,n2,d3]
    repeat refine K ?_
    refine wM (ι:=Unit) (fun _=>.mk [(0,.ns 0 0 2),(3,.int .i64 1),(4,.ns 0 1 1),(5,.int .i64 1)] [(0,1,wT [a,a])] 10) (fun _=>True) (fun _=>0) () trivial ?_ ?_
    ·refine Sub.shape [] id (by omega) ?_ ?_ ?_ ?_<;>simp [qR]
    ·rintro _ _
     simp only [go_sem,seval,n1,n2,d3]
     repeat refine K ?_
     refine fz ?_; simp [jD,wN,wP,yA,-qYt]
     all_goals (try simp [rP,wT])
   ·try simp only [go_sem,seval,h,w3,w4,w30,w40,g0,g1]
    repeat refine K ?_
    refine qT true (Sub.shape [] id (by omega) ?_ ?_ ?_ ?_) (fun _ e=>h e.symm) (by simp)<;>simp [qR]
  ·have h:=hq rfl
   simp only [go_sem,seval,n2,d1]
   repeat refine K ?_
   refine fz ?_; simp [jD,wN,wP,yA,-qYt]
   all_goals (try simp [rP,h])
theorem qFu (l:List Ins) (a:Nat) (hb:wV l 3=true) (ha:a<l.length):wJ Try.prog num 216 [.sl .bw 5 (vO l),.int .i64 a] [] (.sl .own 1 (wT (yF l a))):=by
 obtain ⟨hl1,hl2⟩:=kH hb
 have hg:=gF l a ha
 have hw1:IntKind.i64.wrap ((a:Int)+1)=(a:Int)+1:=jF (by omega) (by omega)
 refine EN m216 Try.func44 ?_
 unfold m216
 simp only [go_sem,seval,hg]
 repeat refine K ?_
 unfold yF
 generalize l.getD a default=x at hg
 simp only
 by_cases h13:x.op=13
 ·try simp only [go_sem,seval,h13]
  repeat refine K ?_
  refine ⟨_,Sub.refl _,wL ?_⟩; simp [-qYt]
  all_goals (try simp [h13,wT])
 by_cases h11:x.op=11
 ·try simp only [go_sem,seval,h13,h11]
  repeat refine K ?_
  refine ⟨_,Sub.refl _,wL ?_⟩; simp [-qYt]
  all_goals (try simp [h13,h11,wT])
 by_cases h12:x.op=12
 ·have hs:=qRt ((a:Int)+1) x.n
  have hrow:[[AV.int IntKind.i64 ((a:Int)+1)],[AV.int IntKind.i64 x.n]]=wT [(a:Int)+1,x.n]:=rfl
  try simp only [go_sem,seval,h13,h11,h12,hw1,hrow]
  repeat refine K ?_
  by_cases h1:x.n<(a:Int)+1
  ·have e:pD ((a:Int)+1) x.n=[x.n,(a:Int)+1]:=by simp [pD,h1]
   have e2:rP x.n ((a:Int)+1)=[x.n,(a:Int)+1]:=by
    unfold rP
    rw [if_neg (by omega)]
   rw [e] at hs
   have hc:=qBp x.n ((a:Int)+1)
   rw [e2] at hc
   refine CA [(0,11)] (hs) ?_
   try simp only [go_sem,seval]
   repeat refine K ?_
   try simp only [go_sem,seval]
   repeat refine K ?_
   refine CA [(0,11)] (hc) ?_
   try simp only [go_sem,seval]
   repeat refine K ?_
   try simp only [go_sem,seval]
   repeat refine K ?_
   refine ⟨_,Sub.refl _,wL ?_⟩; simp [-qYt]
   all_goals (try simp [h1])
  ·have e:pD ((a:Int)+1) x.n=[(a:Int)+1,x.n]:=by simp [pD,h1]
   rw [e] at hs
   have hc:=qBp ((a:Int)+1) x.n
   by_cases h2:(a:Int)+1<x.n
   ·have e2:rP ((a:Int)+1) x.n=[(a:Int)+1,x.n]:=by
     unfold rP
     rw [if_neg (by omega)]
    rw [e2] at hc
    refine CA [(0,11)] (hs) ?_
    try simp only [go_sem,seval]
    repeat refine K ?_
    try simp only [go_sem,seval]
    repeat refine K ?_
    refine CA [(0,11)] (hc) ?_
    try simp only [go_sem,seval]
    repeat refine K ?_
    try simp only [go_sem,seval]
    repeat refine K ?_
    refine ⟨_,Sub.refl _,wL ?_⟩; simp [-qYt]
    all_goals (try simp [h1,h2])
   ·have e2:rP ((a:Int)+1) x.n=[(a:Int)+1]:=by
     unfold rP
     rw [if_pos (by omega)]
    rw [e2] at hc
    refine CA [(0,11)] (hs) ?_
    try simp only [go_sem,seval]
    repeat refine K ?_
    try simp only [go_sem,seval]
    repeat refine K ?_
    refine CA [(0,11)] (hc) ?_
    try simp only [go_sem,seval]
    repeat refine K ?_
    try simp only [go_sem,seval]
    repeat refine K ?_
    refine ⟨_,Sub.refl _,wL ?_⟩; simp [-qYt]
    all_goals (try simp [h1,h2])
 try simp only [go_sem,seval,h13,h11,h12,hw1]
 repeat refine K ?_
 refine ⟨_,Sub.refl _,wL ?_⟩; simp [-qYt]
 all_goals (try simp [h13,h11,h12,wT])
end Go.Sep
