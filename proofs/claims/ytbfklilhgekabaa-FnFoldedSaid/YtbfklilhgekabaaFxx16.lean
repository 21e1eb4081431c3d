/- Contracts of functions. -/
import Derived.Test.YtbfklilhgekabaaFxx15
open Bool renaming or_false → wBa
open List renaming append_nil → wAg, drop_eq_nil_of_le → wBb, drop_one → wAu, getD_cons_succ → wB8, getD_eq_getElem?_getD → qZc, length_take → qZ3, take_of_length_le → qZj, take_succ_cons → wB9
namespace Go.Sep
set_option maxHeartbeats 16000000
open Go.Proofs
set_option linter.unusedSimpArgs false
set_option linter.unusedVariables false
set_option maxRecDepth 100000
def m217:MFn:=⟨22,[.t 2],kr [xb 1 0,xo 2 (.mv (.c (.nil)))] (.seq (kr [xa 3 0 1,xl 4 3] (.blk 0 (.seq (kr [bI 6 .eql 4 1,xv 5 6] (.cond 5 (.skip) (kr [bI 7 .eql 4 2,xv 5 7] (.cond 5 (.skip) (kr [bI 8 .eql 4 3,xv 5 8] (.cond 5 (.skip) (kr [bI 9 .eql 4 4,xv 5 9] (.cond 5 (.skip) (xr [bI 10 .eql 4 7,xv 5 10]))))))))) (.cond 5 (kR [xa 11 1 1,xl 12 11,xo 13 (.mkSl [xz] 1 [(0,.t 12)]),xv 2 13]) (.seq (kr [bI 15 .eql 4 6,xv 14 15] (.cond 14 (.skip) (xr [bI 16 .eql 4 8,xv 14 16]))) (kF 14 [xa 17 1 1,xl 18 17,xa 19 3 1,xl 20 19,xo 21 (.mkSl [xz] 2 [(0,.t 18),(1,.t 20)]),xv 2 21])))))) (kR [xo 2 (.mv (.c (.nil)))]))⟩
def m290:MFn:=⟨88,[.cell 6 5 true],kr [xb 3 0,xo 6 (.alloc [xz,xz,xz,xz,xz])] (.seq (kr [xv 8 1,xe 9 8,bI 10 .neq 9 4,xv 11 10,za 12 2 3 11,zl 13 1 12 11,xg 14 (.call 64 [false,false,false] [.t 13,xi 0,xi 3]) 11 false,zN 15 14 11,xQ 16 11 15,xv 17 16,za 18 3 3 17,zl 19 1 18 17,xg 20 (.call 64 [false,false,false] [.t 19,xi 0,xi 3]) 17 false,zN 21 20 17,xQ 22 17 21] (kF 22 [xm 23 5 3,xS 5 6 23])) (.seq (kr [xa 24 0 3,xl 25 24,xc1 26 328 (.t 25),xv 27 26,yv 28 1 27,ya 29 2 3 27,yl 30 1 29 27,xg 31 (.iad 2 (.t 28) (.t 30)) 27 true,ya 32 0 31 27,yl 33 1 32 27,xP 34 27 33,xv 35 34,yv 36 1 35,ya 37 3 3 35,yl 38 1 37 35,xg 39 (.iad 2 (.t 36) (.t 38)) 35 true,ya 40 0 39 35,yl 41 1 40 35,xP 42 35 41] (.cond 42 (.seq (.dreg (.take 0 (xa 43 0 3) (.take 1 (xl 44 43) (.take 2 (xv 45 1) (.take 3 (xa 46 2 3) (.take 4 (xl 47 46) (.take 5 (xD 48 2 45 47) (.take 6 (xa 49 1 48) (.take 7 (xl 50 49) (.take 8 (xv 51 1) (.only 9 [] (xa 52 3 3) (.only 10 [] (xl 53 52) (.only 11 [8] (xD 54 2 51 53) (.only 12 [11,8] (xa 55 1 54) (.only 13 [12,11,8] (xl 56 55) (.only 14 [1,7,13,0,6,12,5,11,2,4,8,3] (xc3 57 329 (.t 44) (.t 50) (.t 56)) (.only 15 [0,1,2,3,4,5,6,7,8] (xv 7 57) (.done)))))))))))))))))) (kr [xv 58 7,xc3 59 64 (.t 58) (.c (.int .i64 (-1000000000))) (xi 1000000000)] (kF 59 [xa 60 1 3,xl 61 60,xv 62 7,xo 63 (.build [xz,xz,xz,xz,xz] [(0,1,xi 1),(1,1,.t 61),(4,1,.t 62)]),xS 5 6 63]))) (.skip))) (.seq (kr [xa 64 0 3,xl 65 64,bI 66 .eql 65 12,xv 67 66,yv 68 1 67,ya 69 2 3 67,yl 70 1 69 67,xg 71 (.iad 2 (.t 68) (.t 70)) 67 true,ya 72 0 71 67,yl 73 1 72 67,xP 74 67 73] (.cond 74 (.seq (kr [xv 75 1,xa 76 2 3,xl 77 76,xD 78 2 75 77,xa 79 1 78,xl 80 79,bI 81 .eql 80 0] (kF 81 [xa 82 4 3,xl 83 82,xo 84 (.build [xz,xz,xz,xz,xz] [(0,1,xi 11),(4,1,.t 83)]),xS 5 6 84])) (kR [xv 85 2,xo 86 (.build [xz,xz,xz,xz,xz] [(0,1,xi 11),(4,1,.t 85)]),xS 5 6 86])) (.skip))) (kR [xm 87 5 3,xS 5 6 87]))))⟩
def m292:MFn:=⟨79,[.cell 6 5 true],kr [xb 3 0,xo 6 (.alloc [xz,xz,xz,xz,xz])] (.seq (kr [xv 10 1,xe 11 10,bI 12 .neq 11 4,xv 13 12,za 14 2 3 13,zl 15 1 14 13,xg 16 (.call 97 [false] [.t 15]) 13 false,zN 17 16 13,xQ 18 13 17,xv 19 18,za 20 3 3 19,zl 21 1 20 19,xg 22 (.call 97 [false] [.t 21]) 19 false,zN 23 22 19,xQ 24 19 23,xv 25 24,zv 26 1 25,za 27 2 3 25,zl 28 1 27 25,xg 29 (.iad 2 (.t 26) (.t 28)) 25 false,za 30 0 29 25,zl 31 1 30 25,zN 32 31 25,xQ 33 25 32] (kF 33 [xm 34 5 3,xS 5 6 34])) (.seq (.dreg (.take 0 (xv 35 1) (.take 1 (xa 36 2 3) (.take 2 (xl 37 36) (.take 3 (xD 38 2 35 37) (.take 4 (xm 39 2 38) (.take 5 (xv 40 1) (.take 6 (xa 41 3 3) (.take 7 (xl 42 41) (.take 8 (xD 43 2 40 42) (.take 9 (xm 44 2 43) (.both 10 [] (xo 7 (.alloc [.bool false,.int .i64 0])) (.only 11 [] (xo 8 (.alloc [.bool false,.int .i64 0])) (.only 12 [0,1,2,3,4] (xS 2 7 39) (.only 13 [0,1,2,3,4,5,6,7,8,9] (xS 2 8 44) (.done)))) 11 [] (xo 8 (.alloc [.bool false,.int .i64 0])) (.only 10 [] (xo 7 (.alloc [.bool false,.int .i64 0])) (.only 12 [0,1,2,3,4] (xS 2 7 39) (.only 13 [0,1,2,3,4,5,6,7,8,9] (xS 2 8 44) (.done)))))))))))))))) (.seq (kr [xa 45 0 3,xl 46 45] (.blk 0 (.seq (kr [bI 48 .eql 46 2,xv 47 48] (.cond 47 (.skip) (kr [bI 49 .eql 46 3,xv 47 49] (.cond 47 (.skip) (xr [bI 50 .eql 46 4,xv 47 50]))))) (.cond 47 (kr [xa 51 0 3,xl 52 51,xa 53 1 7,xl 54 53,xa 55 1 8,xl 56 55,xc3 57 60 (.t 52) (.t 54) (.t 56),xv 9 57] (kr [xa 58 0 8,xl 59 58,xv 60 59,yv 61 9 60,xg 62 (.call 59 [false,false,false] [.t 61,.c (.int .i64 (-1000000000)),xi 1000000000]) 60 true,xP 63 60 62] (kF 63 [xa 64 1 3,xl 65 64,xv 66 9,xo 67 (.build [xz,xz,xz,xz,xz] [(0,1,xi 1),(1,1,.t 65),(4,1,.t 66)]),xS 5 6 67]))) (kr [bI 69 .eql 46 12,xv 68 69] (.cond 68 (.seq (kr [xa 70 1 7,xl 71 70,bI 72 .eql 71 0] (kF 72 [xa 73 4 3,xl 74 73,xo 75 (.build [xz,xz,xz,xz,xz] [(0,1,xi 11),(4,1,.t 74)]),xS 5 6 75])) (kR [xv 76 2,xo 77 (.build [xz,xz,xz,xz,xz] [(0,1,xi 11),(4,1,.t 76)]),xS 5 6 77])) (.skip))))))) (kR [xm 78 5 3,xS 5 6 78]))))⟩
def m325:MFn:=⟨76,[.t 4],kr [xb 2 0,xo 4 (.mv (.c (.nil)))] (kr [xo 8 (.mkSl [.bool false,.int .i64 0] 0 []),xv 9 1,xA 10 2 16 8 9,xv 5 10] (kr [xm 11 5 2,xc1 12 344 (.t 11),xv 6 12] (.seq (kr [xI 7 0] (.blk 0 (.loop (.seq (kr [xv 13 7,xv 14 6,xe 15 14,bT 16 .lss 13 15] (kX 16 0)) (.seq (.blk 1 (xr [xv 19 5,xv 20 6,xv 21 7,xD 22 1 20 21,xl 23 22,xo 24 (.build [.bool false,.int .i64 0] []),xD 25 2 19 23,xS 2 25 24])) (xr [xv 17 7,bI 18 .add 17 1,xv 7 18])))))) (.seq (kr [xa 26 0 2,xl 27 26,bI 28 .eql 27 1] (.cond 28 (xr [xv 29 5,xa 30 1 2,xl 31 30,xa 32 4 2,xl 33 32,xo 34 (.build [.bool false,.int .i64 0] [(0,1,.c (.bool true)),(1,1,.t 33)]),xD 35 2 29 31,xS 2 35 34]) (.skip))) (.seq (kr [xa 36 0 2,xl 37 36,xc1 38 328 (.t 37),xv 39 38,yv 40 1 39,ya 41 2 2 39,yl 42 1 41 39,xg 43 (.iad 2 (.t 40) (.t 42)) 39 true,ya 44 0 43 39,yl 45 1 44 39,xP 46 39 45,xv 47 46,yv 48 1 47,ya 49 3 2 47,yl 50 1 49 47,xg 51 (.iad 2 (.t 48) (.t 50)) 47 true,ya 52 0 51 47,yl 53 1 52 47,xP 54 47 53] (.cond 54 (.dreg (.take 0 (xv 55 5) (.take 1 (xa 56 1 2) (.take 2 (xl 57 56) (.take 3 (xa 58 0 2) (.take 4 (xl 59 58) (.take 5 (xv 60 1) (.take 6 (xa 61 2 2) (.take 7 (xl 62 61) (.take 8 (xD 63 2 60 62) (.take 9 (xa 64 1 63) (.take 10 (xl 65 64) (.take 11 (xv 66 1) (.only 12 [] (xa 67 3 2) (.only 13 [] (xl 68 67) (.only 14 [11] (xD 69 2 66 68) (.only 15 [14,11] (xa 70 1 69) (.only 16 [15,14,11] (xl 71 70) (.only 17 [4,10,16,3,9,15,8,14,5,7,11,6] (xc3 72 329 (.t 59) (.t 65) (.t 71)) (.only 18 [17,4,10,16,3,9,15,8,14,5,7,11,6] (xo 73 (.build [.bool false,.int .i64 0] [(0,1,.c (.bool true)),(1,1,.t 72)])) (.only 19 [0,1,2,3,4,5,6,7,8,9,10,11] (xD 74 2 55 57) (.only 20 [0,1,2,3,4,5,6,7,8,9,10,11] (xS 2 74 73) (.done))))))))))))))))))))))) (.skip))) (kR [xv 75 5,xv 4 75]))))))⟩
def m327:MFn:=⟨40,[.t 4,.t 5],kr [xo 4 (.mv (.c (.nil))),xF 5] (kr [xo 9 (.mkSl [.bool false,.int .i64 0] 0 []),xv 10 0,xA 11 2 16 9 10,xv 6 11] (kr [xF 7] (.seq (kr [xI 8 0] (.blk 0 (.loop (.seq (kr [xv 12 8,xv 13 0,xe 14 13,bT 15 .lss 12 14] (kX 15 0)) (.seq (.blk 1 (.seq (.dreg (.take 0 (xv 18 0) (.only 1 [] (xv 19 8) (.only 2 [0] (xD 20 2 18 19) (.only 3 [2,0] (xa 21 0 20) (.only 4 [3,2,0] (xl 22 21) (.only 5 [4,3,2,0] (xv 23 22) (.take 6 (yv 24 0 23) (.take 7 (yv 25 8 23) (.take 8 (xg 26 (.iad 2 (.t 24) (.t 25)) 23 true) (.take 9 (xg 27 (.load 2 true (.t 26)) 23 true) (.take 10 (yv 28 1 23) (.only 11 [5,4,3,2,0] (yv 29 8 23) (.only 12 [5,10,4,3,2,0] (xg 30 (.iad 2 (.t 28) (.t 29)) 23 true) (.only 13 [5,12,4,10,3,2,0] (xg 31 (.load 2 true (.t 30)) 23 true) (.only 14 [5,9,13,4,8,12,3,6,7,10,2,0] (xg 32 (.eqS true [false,true] (.t 27) (.t 31)) 23 true) (.only 15 [5,14,4,9,13,3,8,12,2,6,7,10,0] (xP 33 23 32) (.done)))))))))))))))))) (.cond 33 (kr [xv 34 6,xv 35 8,xo 36 (.build [.bool false,.int .i64 0] []),xD 37 2 34 35,xS 2 37 36] (xr [xT 7])) (.skip)))) (xr [xv 16 8,bI 17 .add 16 1,xv 8 17])))))) (kR [xv 38 6,xv 39 7,xv 4 38,xv 5 39]))))⟩
def m328:MFn:=⟨13,[.t 2],kr [xF 2] (kR [xv 3 0,bI 4 .eql 3 2,xv 5 4,zv 6 0 5,zI 7 .eql 6 3 5,xQ 8 5 7,xv 9 8,zv 10 0 9,zI 11 .eql 10 4 9,xQ 12 9 11,xv 2 12])⟩
def m329:MFn:=⟨22,[.t 6],kr [xI 6 0] (.seq (kr [xv 7 0] (.blk 0 (kr [bI 9 .eql 7 2,xv 8 9] (.cond 8 (kR [xv 10 1,xv 11 2,bT 12 .add 10 11,xv 6 12]) (kr [bI 14 .eql 7 3,xv 13 14] (kF 13 [xv 15 1,xv 16 2,bT 17 .sub 15 16,xv 6 17])))))) (kR [xv 18 1,xv 19 2,bT 20 .lss 18 19,xc1 21 85 (.t 20),xv 6 21]))⟩
def m330:MFn:=⟨73,[.t 4],kr [xb 2 0,xo 4 (.mv (.c (.nil)))] (kr [xo 8 (.mkSl [.bool false,.int .i64 0] 0 []),xv 9 1,xA 10 2 16 8 9,xv 5 10] (.seq (kr [xm 11 5 2,xc1 12 217 (.t 11),xe 13 12,xI 14 0] (.blk 0 (.loop (kr [bT 15 .lss 14 13] (.seq (kX 15 0) (.seq (.blk 1 (kr [xD 16 1 12 14,xl 17 16,xv 7 17] (xr [xv 18 5,xv 19 7,xo 20 (.build [.bool false,.int .i64 0] []),xD 21 2 18 19,xS 2 21 20]))) (xr [bI 22 .add 14 1,xv 14 22]))))))) (.seq (kr [xa 23 0 2,xl 24 23] (.blk 2 (kr [bI 26 .eql 24 1,xv 25 26] (.cond 25 (xr [xv 27 5,xa 28 1 2,xl 29 28,xa 30 4 2,xl 31 30,xo 32 (.build [.bool false,.int .i64 0] [(0,1,.c (.bool true)),(1,1,.t 31)]),xD 33 2 27 29,xS 2 33 32]) (.seq (kr [bI 35 .eql 24 2,xv 34 35] (.cond 34 (.skip) (kr [bI 36 .eql 24 3,xv 34 36] (.cond 34 (.skip) (xr [bI 37 .eql 24 4,xv 34 37]))))) (.cond 34 (kr [xv 38 1,xa 39 2 2,xl 40 39,xD 41 2 38 40,xa 42 0 41,xl 43 42,xv 44 43,yv 45 1 44,ya 46 3 2 44,yl 47 1 46 44,xg 48 (.iad 2 (.t 45) (.t 47)) 44 true,ya 49 0 48 44,yl 50 1 49 44,xP 51 44 50] (.cond 51 (.dreg (.take 0 (xv 52 5) (.take 1 (xa 53 1 2) (.take 2 (xl 54 53) (.take 3 (xa 55 0 2) (.take 4 (xl 56 55) (.take 5 (xv 57 1) (.take 6 (xa 58 2 2) (.take 7 (xl 59 58) (.take 8 (xD 60 2 57 59) (.take 9 (xa 61 1 60) (.take 10 (xl 62 61) (.take 11 (xv 63 1) (.only 12 [] (xa 64 3 2) (.only 13 [] (xl 65 64) (.only 14 [11] (xD 66 2 63 65) (.only 15 [14,11] (xa 67 1 66) (.only 16 [15,14,11] (xl 68 67) (.only 17 [4,10,16,3,9,15,8,14,5,7,11,6] (xc3 69 60 (.t 56) (.t 62) (.t 68)) (.only 18 [17,4,10,16,3,9,15,8,14,5,7,11,6] (xo 70 (.build [.bool false,.int .i64 0] [(0,1,.c (.bool true)),(1,1,.t 69)])) (.only 19 [0,1,2,3,4,5,6,7,8,9,10,11] (xD 71 2 52 54) (.only 20 [0,1,2,3,4,5,6,7,8,9,10,11] (xS 2 71 70) (.done))))))))))))))))))))))) (.skip))) (.skip))))))) (kR [xv 72 5,xv 4 72]))))⟩
def m331:MFn:=⟨31,[.t 4],kr [xF 4] (kr [xF 5] (.seq (kr [xv 8 0,xe 9 8,xI 10 0] (.blk 0 (.loop (kr [bT 11 .lss 10 9] (.seq (kX 11 0) (.seq (.blk 1 (kr [xv 12 10,xD 13 2 8 10,xm 14 2 13,xo 7 (.alloc [.bool false,.int .i64 0]),xv 6 12,xS 2 7 14] (.seq (.dreg (.only 0 [] (xa 15 0 7) (.only 1 [] (xl 16 15) (.only 2 [] (xv 17 16) (.take 3 (xg 18 (.load 2 true (.t 7)) 17 true) (.take 4 (yv 19 1 17) (.only 5 [] (yv 20 6 17) (.only 6 [4] (xg 21 (.iad 2 (.t 19) (.t 20)) 17 true) (.only 7 [6,4] (xg 22 (.load 2 true (.t 21)) 17 true) (.only 8 [3,7,6,4] (xg 23 (.eqS true [false,true] (.t 18) (.t 22)) 17 true) (.only 9 [8,3,7,6,4] (xP 24 17 23) (.done)))))))))))) (.cond 24 (kr [xv 25 0,xv 26 6,xo 27 (.build [.bool false,.int .i64 0] []),xD 28 2 25 26,xS 2 28 27] (xr [xT 5])) (.skip))))) (xr [bI 29 .add 10 1,xv 10 29]))))))) (kR [xv 30 5,xv 4 30])))⟩
def m344:MFn:=⟨23,[.t 2],kr [xb 1 0,xo 2 (.mv (.c (.nil)))] (.seq (kr [xa 3 0 1,xl 4 3] (.blk 0 (.seq (kr [bI 6 .eql 4 1,xv 5 6] (.cond 5 (.skip) (kr [bI 7 .eql 4 2,xv 5 7] (.cond 5 (.skip) (kr [bI 8 .eql 4 3,xv 5 8] (.cond 5 (.skip) (kr [bI 9 .eql 4 4,xv 5 9] (.cond 5 (.skip) (xr [bI 10 .eql 4 7,xv 5 10]))))))))) (.cond 5 (kR [xa 11 1 1,xl 12 11,xo 13 (.mkSl [xz] 1 [(0,.t 12)]),xv 2 13]) (.seq (kr [bI 15 .eql 4 6,xv 14 15] (.cond 14 (.skip) (xr [bI 16 .eql 4 8,xv 14 16]))) (kF 14 [xa 17 1 1,xl 18 17,xa 19 3 1,xl 20 19,xo 21 (.mkSl [xz] 2 [(0,.t 18),(1,.t 20)]),xv 2 21])))))) (kR [xo 22 (.mkSl [xz] 0 []),xv 2 22]))⟩
theorem qMp (x:Ins):wA Try.prog num 217 [.agg (vU x)] [] (.sl .own 1 (wR (vP x))):=by
 refine EN m217 Try.func78 ?_
 unfold m217
 by_cases h1:x.op=1
 ·simp only [go_sem,seval,h1]
  repeat refine K ?_
  refine ⟨_,Sub.refl _,wI ?_⟩; simp [-wAu]
  all_goals simp [vP,h1,wR]
 by_cases h2:x.op=2
 ·simp only [go_sem,seval,h1,h2]
  repeat refine K ?_
  refine ⟨_,Sub.refl _,wI ?_⟩; simp [-wAu]
  all_goals simp [vP,h2,wR]
 by_cases h3:x.op=3
 ·simp only [go_sem,seval,h1,h2,h3]
  repeat refine K ?_
  refine ⟨_,Sub.refl _,wI ?_⟩; simp [-wAu]
  all_goals simp [vP,h3,wR]
 by_cases h4:x.op=4
 ·simp only [go_sem,seval,h1,h2,h3,h4]
  repeat refine K ?_
  refine ⟨_,Sub.refl _,wI ?_⟩; simp [-wAu]
  all_goals simp [vP,h4,wR]
 by_cases h7:x.op=7
 ·simp only [go_sem,seval,h1,h2,h3,h4,h7]
  repeat refine K ?_
  refine ⟨_,Sub.refl _,wI ?_⟩; simp [-wAu]
  all_goals simp [vP,h7,wR]
 by_cases h6:x.op=6
 ·simp only [go_sem,seval,h1,h2,h3,h4,h7,h6]
  repeat refine K ?_
  refine ⟨_,Sub.refl _,wI ?_⟩; simp [-wAu]
  all_goals simp [vP,h6,wR]
 by_cases h8:x.op=8
 ·simp only [go_sem,seval,h1,h2,h3,h4,h7,h6,h8]
  repeat refine K ?_
  refine ⟨_,Sub.refl _,wI ?_⟩; simp [-wAu]
  all_goals simp [vP,h8,wR]
 simp only [go_sem,seval,h1,h2,h3,h4,h7,h6,h8]
 repeat refine K ?_
 refine ⟨_,Sub.refl _,wI ?_⟩; simp [-wAu]
 all_goals simp [vP,h1,h2,h3,h4,h7,h6,h8,wR]
theorem qLi (x:Ins):wA Try.prog num 344 [.agg (vU x)] [] (.sl .own 1 (wR (vP x))):=by
 refine EN m344 Try.func82 ?_
 unfold m344
 by_cases h1:x.op=1
 ·simp only [go_sem,seval,h1]
  repeat refine K ?_
  refine ⟨_,Sub.refl _,wI ?_⟩; simp [-wAu]
  all_goals simp [vP,h1,wR]
 by_cases h2:x.op=2
 ·simp only [go_sem,seval,h1,h2]
  repeat refine K ?_
  refine ⟨_,Sub.refl _,wI ?_⟩; simp [-wAu]
  all_goals simp [vP,h2,wR]
 by_cases h3:x.op=3
 ·simp only [go_sem,seval,h1,h2,h3]
  repeat refine K ?_
  refine ⟨_,Sub.refl _,wI ?_⟩; simp [-wAu]
  all_goals simp [vP,h3,wR]
 by_cases h4:x.op=4
 ·simp only [go_sem,seval,h1,h2,h3,h4]
  repeat refine K ?_
  refine ⟨_,Sub.refl _,wI ?_⟩; simp [-wAu]
  all_goals simp [vP,h4,wR]
 by_cases h7:x.op=7
 ·simp only [go_sem,seval,h1,h2,h3,h4,h7]
  repeat refine K ?_
  refine ⟨_,Sub.refl _,wI ?_⟩; simp [-wAu]
  all_goals simp [vP,h7,wR]
 by_cases h6:x.op=6
 ·simp only [go_sem,seval,h1,h2,h3,h4,h7,h6]
  repeat refine K ?_
  refine ⟨_,Sub.refl _,wI ?_⟩; simp [-wAu]
  all_goals simp [vP,h6,wR]
 by_cases h8:x.op=8
 ·simp only [go_sem,seval,h1,h2,h3,h4,h7,h6,h8]
  repeat refine K ?_
  refine ⟨_,Sub.refl _,wI ?_⟩; simp [-wAu]
  all_goals simp [vP,h8,wR]
 simp only [go_sem,seval,h1,h2,h3,h4,h7,h6,h8]
 repeat refine K ?_
 refine ⟨_,Sub.refl _,wI ?_⟩; simp [-wAu]
 all_goals simp [vP,h1,h2,h3,h4,h7,h6,h8,wR]
theorem oQ (op:Int):wA Try.prog num 328 [.int .i64 op] [] (.bool (aO op)):=by
 refine EN m328 Try.func58 ?_
 unfold m328
 by_cases h2:op=2
 ·simp only [go_sem,seval,h2]
  repeat refine K ?_
  refine fz ?_; simp [yK,wB,wC,wJ,-wAu]
  all_goals simp [aO,h2]
 by_cases h3:op=3
 ·simp only [go_sem,seval,h2,h3]
  repeat refine K ?_
  refine fz ?_; simp [yK,wB,wC,wJ,-wAu]
  all_goals simp [aO,h3]
 simp only [go_sem,seval,h2,h3]
 repeat refine K ?_
 refine fz ?_; simp [yK,wB,wC,wJ,-wAu]
 all_goals simp [aO,h2,h3]
theorem qMg (op a b:Int):wA Try.prog num 329 [.int .i64 op,.int .i64 a,.int .i64 b] [] (.int .i64 (jS op a b)):=by
 refine EN m329 Try.func59 ?_
 unfold m329
 by_cases h2:op=2
 ·simp only [go_sem,seval,h2]
  repeat refine K ?_
  refine fz ?_; simp [yK,wB,wC,wJ,-wAu]
  all_goals simp [jS,h2]
 by_cases h3:op=3
 ·simp only [go_sem,seval,h2,h3]
  repeat refine K ?_
  refine fz ?_; simp [yK,wB,wC,wJ,-wAu]
  all_goals simp [jS,h3]
 simp only [go_sem,seval,h2,h3]
 repeat refine K ?_
 refine CA [] (qUl (decide (a<b))) ?_
 try simp only [go_sem,seval]
 repeat refine K ?_
 refine fz ?_; simp [yK,wB,wC,wJ,-wAu]
 all_goals simp [jS,h2,h3]
def fM (s:List Int) (k:KV):KV:=s.foldl (fun o r=>o.set r.toNat kno) k
theorem lX :∀(s:List Int) (k:KV),(fM s k).length=k.length
 | [],_=>rfl
 | r::s,k=>by
  have:=lX s (k.set r.toNat kno)
  rw [List.length_set] at this
  exact this
theorem qEf (s:List Int) (k:KV) (j:Nat) (h:j<s.length):fM (s.take (j+1)) k=(fM (s.take j) k).set (s.getD j 0).toNat ⟨false,0⟩:=by
 unfold fM
 rw [dW s 0 j h,List.foldl_append]
 rfl
theorem qQi {x:Ins} (hx:tF x) :∀r∈vP x,0≤r∧r.toNat<4:=by
 unfold vP
 split
 ·intro r hr
  rw [List.mem_singleton.1 hr]
  exact hx.r
 ·split
  ·intro r hr
   simp only [List.mem_cons,List.not_mem_nil,or_false] at hr
   rcases hr with rfl | rfl
   ·exact hx.r
   ·exact hx.b
  ·intro r hr
   simp at hr
theorem qLn (x:Ins):(vP x).length≤2:=by
 unfold vP
 repeat' split
 all_goals simp
theorem qJ6 (x:Ins) (k:KV):bQ x k=if x.op=1 then (fM (vP x) k).set x.r.toNat ⟨true,x.n⟩
 else if aO x.op&&(k.getD x.a.toNat default).is_&&(k.getD x.b.toNat default).is_ then (fM (vP x) k).set x.r.toNat ⟨true,jS x.op (k.getD x.a.toNat default).v (k.getD x.b.toNat default).v⟩
 else fM (vP x) k:=rfl
theorem dU (op:Int):aO op=true↔op=2∨op=3∨op=4:=by
 unfold aO
 simp
 omega
theorem qHe (x:Ins) (k:KV) (hx:tF x) (hk:k.length=4):wA Try.prog num 330 [.agg (vU x),.sl .bw 2 (wN k)] [] (.sl .own 2 (wN (bQ x k))):=by
 have hl:=qLn x
 have hin:=qQi hx
 obtain ⟨⟨r0,r1⟩,⟨a0,a1⟩,⟨b0,b1⟩⟩:=hx
 refine EN m330 Try.func43 ?_
 unfold m330
 simp only [go_sem,seval]
 repeat refine K ?_
 refine CA [] (qMp x) ?_
 try simp only [go_sem,seval]
 repeat refine K ?_
 try simp only [go_sem,seval]
 repeat refine K ?_
 refine wD (ι:=Nat) (fun j=>.mk [(1,.sl .bw 2 (wN k)),(2,.ptr 10 0 0),(5,.ns 12 0 k.length),(12,.ns 13 0 (vP x).length),(13,.int .i64 (vP x).length),(14,.int .i64 j)] [(10,5,[vU x]),(12,2,wN (fM ((vP x).take j) k)),(13,1,wR (vP x))] 14) (fun j=>j≤(vP x).length) (fun j=>(vP x).length-j) 0 (by simp) ?_ ?_
 ·refine Sub.shape [] id (by omega) ?_ ?_ ?_ ?_<;>simp [qL]
  all_goals simp [fM,wN]
 ·intro j hj
  have hsl:=lX ((vP x).take j) k
  simp only [go_sem,seval]
  refine qS (fun hc=>?_) (fun hc=>?_)
  ·simp only [decide_eq_true_eq] at hc
   have hj':j<(vP x).length:=by omega
   obtain ⟨q0,q1⟩:=hin _ (yL (vP x) j 0 hj')
   have hst:=qEf (vP x) k j hj'
   have hg:=jE (fM ((vP x).take j) k) ((vP x).getD j 0).toNat (by omega)
   simp only [go_sem,seval,qJ (vP x) j hj',hsl,hg,uE,qW (i:=j) (by omega)]
   repeat refine K ?_
   refine qU (j+1) (Sub.shape [] id (by omega) ?_ ?_ ?_ ?_) hj' (by omega)<;>simp [qL]
   all_goals (rw [hst])
   all_goals (try simp [wN])
  ·simp only [decide_eq_false_iff_not] at hc
   have he:(vP x).take j=vP x:=qZj (by omega)
   rw [he] at hsl⊢
   rw [qJ6]
   generalize hss:fM (vP x) k=o at hsl
   have gr:=jE o x.r.toNat (by omega)
   have ga:=jE k x.a.toNat (by omega)
   have gb:=jE k x.b.toNat (by omega)
   by_cases h1:x.op=1
   ·simp only [go_sem,seval,h1,hsl,gr,uE]
    repeat refine K ?_
    refine ⟨_,Sub.refl _,wI ?_⟩; simp [-wAu]
    all_goals (try simp [h1,uE,hsl])
   rw [if_neg h1]
   cases h3:aO x.op
   ·have n2 :¬x.op=2:=fun e=>by rw [(dU x.op).2 (by omega)] at h3; simp at h3
    have n3 :¬x.op=3:=fun e=>by rw [(dU x.op).2 (by omega)] at h3; simp at h3
    have n4 :¬x.op=4:=fun e=>by rw [(dU x.op).2 (by omega)] at h3; simp at h3
    simp only [go_sem,seval,h1,n2,n3,n4,hsl]
    repeat refine K ?_
    refine ⟨_,Sub.refl _,wI ?_⟩; simp [-wAu]
    all_goals (try simp [hsl])
   have h3':=(dU x.op).1 h3
   have e:(if (true&&(k.getD x.a.toNat default).is_&&(k.getD x.b.toNat default).is_)=true then o.set x.r.toNat ⟨true,jS x.op (k.getD x.a.toNat default).v (k.getD x.b.toNat default).v⟩ else o)=(if (k.getD x.a.toNat default).is_ then if (k.getD x.b.toNat default).is_ then o.set x.r.toNat ⟨true,jS x.op (k.getD x.a.toNat default).v (k.getD x.b.toNat default).v⟩ else o else o):=by
    cases (k.getD x.a.toNat default).is_<;>cases (k.getD x.b.toNat default).is_<;>rfl
   rw [e]
   clear e
   generalize k.getD x.a.toNat default=ka at ga
   generalize k.getD x.b.toNat default=kb at gb
   have hcp:=hP x.op ka.v kb.v
   generalize jS x.op ka.v kb.v=cv at hcp
   rcases h3' with h2 | h2 | h2
   all_goals
    rw [h2] at hcp
    cases ia:ka.is_
    ·try simp only [go_sem,seval,h1,h2,ga,hsl,ia]
     repeat refine K ?_
     refine ⟨_,Sub.refl _,wI ?_⟩; simp [-wAu]
     all_goals (try simp [hsl])
    try simp only [go_sem,seval,h1,h2,ga,hsl,ia]
    repeat refine K ?_
    cases ib:kb.is_
    ·try simp only [go_sem,seval,gb,hsl,ib]
     repeat refine K ?_
     refine ⟨_,Sub.refl _,wI ?_⟩; simp [-wAu]
     all_goals (try simp [hsl])
    try simp only [go_sem,seval,ga,gb,hsl,ib]
    repeat refine K ?_
    refine DA [] (hcp) ?_
    try simp only [go_sem,seval]
    repeat refine K ?_
    try simp only [go_sem,seval,hsl,gr,uE]
    repeat refine K ?_
    refine ⟨_,Sub.refl _,wI ?_⟩; simp [-wAu]
    all_goals (try simp [uE,hsl])
theorem qH1 (x:Ins) (k:KV) (hx:tF x) (hk:k.length=4):wA Try.prog num 325 [.agg (vU x),.sl .bw 2 (wN k)] [] (.sl .own 2 (wN (bQ x k))):=by
 have hl:=qLn x
 have hin:=qQi hx
 obtain ⟨⟨r0,r1⟩,⟨a0,a1⟩,⟨b0,b1⟩⟩:=hx
 refine EN m325 Try.func47 ?_
 unfold m325
 simp only [go_sem,seval]
 repeat refine K ?_
 refine CA [] (qLi x) ?_
 try simp only [go_sem,seval]
 repeat refine K ?_
 try simp only [go_sem,seval]
 repeat refine K ?_
 refine wD (ι:=Nat) (fun j=>.mk [(1,.sl .bw 2 (wN k)),(2,.ptr 10 0 0),(5,.ns 12 0 k.length),(6,.ns 13 0 (vP x).length),(7,.int .i64 j)] [(10,5,[vU x]),(12,2,wN (fM ((vP x).take j) k)),(13,1,wR (vP x))] 14) (fun j=>j≤(vP x).length) (fun j=>(vP x).length-j) 0 (by simp) ?_ ?_
 ·refine Sub.shape [] id (by omega) ?_ ?_ ?_ ?_<;>simp [qL]
  all_goals simp [fM,wN]
 ·intro j hj
  have hsl:=lX ((vP x).take j) k
  simp only [go_sem,seval]
  refine qS (fun hc=>?_) (fun hc=>?_)
  ·simp only [decide_eq_true_eq] at hc
   have hj':j<(vP x).length:=by omega
   obtain ⟨q0,q1⟩:=hin _ (yL (vP x) j 0 hj')
   have hst:=qEf (vP x) k j hj'
   have hg:=jE (fM ((vP x).take j) k) ((vP x).getD j 0).toNat (by omega)
   simp only [go_sem,seval,qJ (vP x) j hj',hsl,hg,uE,qW (i:=j) (by omega)]
   repeat refine K ?_
   refine qU (j+1) (Sub.shape [] id (by omega) ?_ ?_ ?_ ?_) hj' (by omega)<;>simp [qL]
   all_goals (rw [hst])
   all_goals (try simp [wN])
  ·simp only [decide_eq_false_iff_not] at hc
   have he:(vP x).take j=vP x:=qZj (by omega)
   rw [he] at hsl⊢
   rw [qJ6]
   generalize hss:fM (vP x) k=o at hsl
   have gr:=jE o x.r.toNat (by omega)
   have ga:=jE k x.a.toNat (by omega)
   have gb:=jE k x.b.toNat (by omega)
   by_cases h1:x.op=1
   ·have h3:aO 1=false:=by decide
    simp only [go_sem,seval,h1,hsl,gr,uE]
    repeat refine K ?_
    refine CA [] (oQ 1) ?_
    try simp only [go_sem,seval]
    repeat refine K ?_
    try simp only [go_sem,seval,h3,hsl]
    repeat refine K ?_
    refine ⟨_,Sub.refl _,wI ?_⟩; simp [-wAu]
    all_goals (try simp [h1,uE,hsl])
   rw [if_neg h1]
   simp only [go_sem,seval,h1]
   repeat refine K ?_
   refine CA [] (oQ x.op) ?_
   try simp only [go_sem,seval]
   repeat refine K ?_
   cases h3:aO x.op
   ·try simp only [go_sem,seval,h3,hsl]
    repeat refine K ?_
    refine ⟨_,Sub.refl _,wI ?_⟩; simp [-wAu]
    all_goals (try simp [hsl])
   have e:(if (true&&(k.getD x.a.toNat default).is_&&(k.getD x.b.toNat default).is_)=true then o.set x.r.toNat ⟨true,jS x.op (k.getD x.a.toNat default).v (k.getD x.b.toNat default).v⟩ else o)=(if (k.getD x.a.toNat default).is_ then if (k.getD x.b.toNat default).is_ then o.set x.r.toNat ⟨true,jS x.op (k.getD x.a.toNat default).v (k.getD x.b.toNat default).v⟩ else o else o):=by
    cases (k.getD x.a.toNat default).is_<;>cases (k.getD x.b.toNat default).is_<;>rfl
   rw [e]
   clear e
   generalize k.getD x.a.toNat default=ka at ga
   generalize k.getD x.b.toNat default=kb at gb
   have hcp:=qMg x.op ka.v kb.v
   generalize jS x.op ka.v kb.v=cv at hcp
   cases ia:ka.is_
   ·try simp only [go_sem,seval,h3,ga,hsl,ia]
    repeat refine K ?_
    refine ⟨_,Sub.refl _,wI ?_⟩; simp [-wAu]
    all_goals (try simp [hsl])
   try simp only [go_sem,seval,h3,ga,hsl,ia]
   repeat refine K ?_
   cases ib:kb.is_
   ·try simp only [go_sem,seval,gb,hsl,ib]
    repeat refine K ?_
    refine ⟨_,Sub.refl _,wI ?_⟩; simp [-wAu]
    all_goals (try simp [hsl])
   try simp only [go_sem,seval,ga,gb,hsl,ib]
   repeat refine K ?_
   refine DA [] (hcp) ?_
   try simp only [go_sem,seval]
   repeat refine K ?_
   try simp only [go_sem,seval,hsl,gr,uE]
   repeat refine K ?_
   refine ⟨_,Sub.refl _,wI ?_⟩; simp [-wAu]
   all_goals (try simp [uE,hsl])
theorem sS :∀(k o:KV) (i:Nat),i<k.length→i<o.length→jK (k.take (i+1)) o++k.drop (i+1)=(jK (k.take i) o++k.drop i).set i (xH (k.getD i default) (o.getD i default))
 | [],_,i,h,_=>by simp at h
 | _::_,[],i,_,h=>by simp at h
 | a::l,b::k,0,_,_=>by simp [jK]
 | a::l,b::k,i+1,h,g=>by
  have ih:=sS l k i (by simpa using h) (by simpa using g)
  simp only [wB9,jK,List.drop_succ_cons,List.cons_append,List.set_cons_succ,wB8] at ih⊢
  rw [ih]
theorem sT :∀(k o:KV) (i:Nat),i<k.length→i<o.length→xK (k.take (i+1)) o=(xK (k.take i) o||iN (k.getD i default) (o.getD i default))
 | [],_,i,h,_=>by simp at h
 | _::_,[],i,_,h=>by simp at h
 | a::l,b::k,0,_,_=>by simp [xK]
 | a::l,b::k,i+1,h,g=>by
  have ih:=sT l k i (by simpa using h) (by simpa using g)
  simp only [wB9,xK,wB8] at ih⊢
  rw [ih,Bool.or_assoc]
theorem qIc (k o:KV) (i:Nat) (h:i<k.length):(jK (k.take i) o++k.drop i).getD i default=k.getD i default:=by
 have hl:(jK (k.take i) o).length=i:=by rw [uZ,qZ3]; omega
 rw [qZc,List.getElem?_append_right (by omega),hl]
 simp [qZc]
theorem qCn (k o:KV) (i:Nat) (h:i≤k.length):(jK (k.take i) o++k.drop i).length=k.length:=by
 rw [List.length_append,uZ,qZ3,List.length_drop]
 omega
theorem qLo (l:KV) (i:Nat) (h:i<l.length):l.set i (l.getD i default)=l:=by
 rw [qZc,List.getElem?_eq_getElem h,Option.getD_some,List.set_getElem_self]
theorem qMq (k o:KV) (hk:k.length<2^40) (ho:o.length=k.length):wA Try.prog num 331 [.ns 0 0 k.length,.sl .bw 2 (wN o)] [(0,some (2,wN k),some (2,wN (jK k o)))] (.bool (xK k o)):=by
 refine EH m331 Try.func45 (hh:=by refine mK _ _ _ _ ((sY _).2 trivial) (by decide) ?_<;>simp [fT]) ?_
 unfold m331
 simp only [go_sem,seval]
 repeat refine K ?_
 refine wD (ι:=Nat) (fun i=>.mk [(0,.ns 0 0 k.length),(1,.sl .bw 2 (wN o)),(5,.bool (xK (k.take i) o)),(8,.ns 0 0 k.length),(9,.int .i64 k.length),(10,.int .i64 i)] [(0,2,wN (jK (k.take i) o++k.drop i))] 10) (fun i=>i≤k.length) (fun i=>k.length-i) 0 (by simp) ?_ ?_
 ·refine Sub.shape [] id (by omega) ?_ ?_ ?_ ?_<;>simp [qL]
  all_goals simp [jK,xK]
 ·intro i hi
  have hml:=qCn k o i hi
  have e1:=sS k o i
  have e2:=sT k o i
  have hg0:=qIc k o i
  generalize hR:jK (k.take i) o++k.drop i=R at hml e1 hg0
  simp only [go_sem,seval,hml]
  refine qS (fun hc=>?_) (fun hc=>?_)
  ·simp only [decide_eq_true_eq] at hc
   have hl':i<k.length:=by omega
   have hj:i<o.length:=by omega
   have hg:=jE R i (by omega)
   rw [hg0 hl'] at hg
   have hgo:=jE o i hj
   have e1':=e1 hl' hj
   have e2':=e2 hl' hj
   have hsame:=qLo R i (by omega)
   rw [hg0 hl'] at hsame
   generalize k.getD i default=a at hg e1' e2' hsame
   generalize o.getD i default=b at hgo e1' e2'
   obtain ⟨ai,av⟩:=a
   obtain ⟨bi,bv⟩:=b
   have hws:=qW (i:=i) (by omega)
   cases ai
   ·have em:xH ⟨false,av⟩ ⟨bi,bv⟩=⟨false,av⟩:=rfl
    have el:iN ⟨false,av⟩ ⟨bi,bv⟩=false:=rfl
    rw [em,hsame] at e1'
    rw [el,wBa] at e2'
    simp only [go_sem,seval,hg,hml,hws]
    repeat refine K ?_
    refine qU (i+1) ?_ hl' (by omega)
    rw [e1',e2']
    refine Sub.shape [] id (by omega) ?_ ?_ ?_ ?_<;>simp [qL]
   by_cases hab:bi=true∧av=bv
   ·obtain ⟨rfl,rfl⟩:=hab
    have em:xH ⟨true,av⟩ ⟨true,av⟩=⟨true,av⟩:=by simp [xH]
    have el:iN ⟨true,av⟩ ⟨true,av⟩=false:=by simp [iN]
    rw [em,hsame] at e1'
    rw [el,wBa] at e2'
    simp only [go_sem,seval,hg,hgo,hml,hws]
    repeat refine K ?_
    refine qU (i+1) ?_ hl' (by omega)
    rw [e1',e2']
    refine Sub.shape [] id (by omega) ?_ ?_ ?_ ?_<;>simp [qL]
   ·have hor:bi=false∨¬av=bv:=by
     cases bi
     ·exact .inl rfl
     ·exact .inr fun h=>hab ⟨rfl,h⟩
    have em:xH ⟨true,av⟩ ⟨bi,bv⟩=⟨false,0⟩:=by
     unfold xH
     rw [if_pos]
     ·rfl
     ·simpa using hor
    have el:iN ⟨true,av⟩ ⟨bi,bv⟩=true:=by
     unfold iN
     simpa using hor
    have hbd:(true==bi&&decide (av=bv))=false:=by
     rcases hor with h | h<;>simp [h]
    rw [em] at e1'
    rw [el,Bool.or_true] at e2'
    simp only [go_sem,seval,hg,hgo,hml,hws,hbd,uE]
    repeat refine K ?_
    refine qU (i+1) ?_ hl' (by omega)
    rw [e1',e2']
    refine Sub.shape [] id (by omega) ?_ ?_ ?_ ?_<;>simp [qL]
  ·simp only [decide_eq_false_iff_not] at hc
   have he:k.take i=k:=qZj (by omega)
   have hd:k.drop i=[]:=wBb (by omega)
   rw [he,hd,wAg] at hR
   simp only [go_sem,seval,he]
   repeat refine K ?_
   refine fz ?_; simp [yK,wB,wC,wJ,-wAu]
   all_goals (try rw [hR])
theorem qLj (k o:KV) (hk:k.length<2^40) (ho:o.length=k.length):wA Try.prog num 327 [.sl .bw 2 (wN k),.sl .bw 2 (wN o)] [] (.tup [.sl .own 2 (wN (jK k o)),.bool (xK k o)]):=by
 refine EN m327 Try.func49 ?_
 unfold m327
 simp only [go_sem,seval]
 repeat refine K ?_
 refine wD (ι:=Nat) (fun i=>.mk [(0,.sl .bw 2 (wN k)),(1,.sl .bw 2 (wN o)),(6,.ns 11 0 k.length),(7,.bool (xK (k.take i) o)),(8,.int .i64 i)] [(11,2,wN (jK (k.take i) o++k.drop i))] 12) (fun i=>i≤k.length) (fun i=>k.length-i) 0 (by simp) ?_ ?_
 ·refine Sub.shape [] id (by omega) ?_ ?_ ?_ ?_<;>simp [qL]
  all_goals simp [jK,xK,wN]
 ·intro i hi
  have hml:=qCn k o i hi
  have e1:=sS k o i
  have e2:=sT k o i
  have hg0:=qIc k o i
  generalize hR:jK (k.take i) o++k.drop i=R at hml e1 hg0
  simp only [go_sem,seval,hml]
  refine qS (fun hc=>?_) (fun hc=>?_)
  ·simp only [decide_eq_true_eq] at hc
   have hl':i<k.length:=by omega
   have hj:i<o.length:=by omega
   have hg:=jE R i (by omega)
   rw [hg0 hl'] at hg
   have hgk:=jE k i hl'
   have hgo:=jE o i hj
   have e1':=e1 hl' hj
   have e2':=e2 hl' hj
   have hsame:=qLo R i (by omega)
   rw [hg0 hl'] at hsame
   generalize k.getD i default=a at hg e1' e2' hsame hgk
   generalize o.getD i default=b at hgo e1' e2'
   obtain ⟨ai,av⟩:=a
   obtain ⟨bi,bv⟩:=b
   have hws:=qW (i:=i) (by omega)
   cases ai
   ·have em:xH ⟨false,av⟩ ⟨bi,bv⟩=⟨false,av⟩:=rfl
    have el:iN ⟨false,av⟩ ⟨bi,bv⟩=false:=rfl
    rw [em,hsame] at e1'
    rw [el,wBa] at e2'
    simp only [go_sem,seval,hg,hgk,hml,hws]
    repeat refine K ?_
    refine qU (i+1) ?_ hl' (by omega)
    rw [e1',e2']
    refine Sub.shape [] id (by omega) ?_ ?_ ?_ ?_<;>simp [qL]
   by_cases hab:bi=true∧av=bv
   ·obtain ⟨rfl,rfl⟩:=hab
    have em:xH ⟨true,av⟩ ⟨true,av⟩=⟨true,av⟩:=by simp [xH]
    have el:iN ⟨true,av⟩ ⟨true,av⟩=false:=by simp [iN]
    rw [em,hsame] at e1'
    rw [el,wBa] at e2'
    simp only [go_sem,seval,hg,hgk,hgo,hml,hws]
    repeat refine K ?_
    refine qU (i+1) ?_ hl' (by omega)
    rw [e1',e2']
    refine Sub.shape [] id (by omega) ?_ ?_ ?_ ?_<;>simp [qL]
   ·have hor:bi=false∨¬av=bv:=by
     cases bi
     ·exact .inl rfl
     ·exact .inr fun h=>hab ⟨rfl,h⟩
    have em:xH ⟨true,av⟩ ⟨bi,bv⟩=⟨false,0⟩:=by
     unfold xH
     rw [if_pos]
     ·rfl
     ·simpa using hor
    have el:iN ⟨true,av⟩ ⟨bi,bv⟩=true:=by
     unfold iN
     simpa using hor
    have hbd:(true==bi&&decide (av=bv))=false:=by
     rcases hor with h | h<;>simp [h]
    rw [em] at e1'
    rw [el,Bool.or_true] at e2'
    simp only [go_sem,seval,hg,hgk,hgo,hml,hws,hbd,uE]
    repeat refine K ?_
    refine qU (i+1) ?_ hl' (by omega)
    rw [e1',e2']
    refine Sub.shape [] id (by omega) ?_ ?_ ?_ ?_<;>simp [qL]
  ·simp only [decide_eq_false_iff_not] at hc
   have he:k.take i=k:=qZj (by omega)
   have hd:k.drop i=[]:=wBb (by omega)
   rw [he,hd,wAg] at hR
   simp only [go_sem,seval,he]
   repeat refine K ?_
   refine ⟨_,Sub.refl _,qB3 (by simp) ?_⟩; simp [-wAu]
   rw [hR]
   simp [hml]
def gP (x:Ins) (k:KV) (next:Int):Ins :=
 if k.length=4∧qO x.a 0 3=true∧qO x.b 0 3=true then
  if aO x.op&&(k.getD x.a.toNat default).is_&&(k.getD x.b.toNat default).is_&&qO (jS x.op (k.getD x.a.toNat default).v (k.getD x.b.toNat default).v) (-1000000000) 1000000000 then ⟨1,x.r,0,0,jS x.op (k.getD x.a.toNat default).v (k.getD x.b.toNat default).v⟩
  else if x.op=12∧(k.getD x.a.toNat default).is_=true then if (k.getD x.a.toNat default).v=0 then ⟨11,0,0,0,x.n⟩ else ⟨11,0,0,0,next⟩
  else x
 else x
theorem mN {x:Ins} {k:KV} (h4:k.length=4) (ha:qO x.a 0 3=true) (hb:qO x.b 0 3=true) (next:Int):gP x k next =
  if aO x.op&&(k.getD x.a.toNat default).is_&&(k.getD x.b.toNat default).is_&&qO (jS x.op (k.getD x.a.toNat default).v (k.getD x.b.toNat default).v) (-1000000000) 1000000000 then ⟨1,x.r,0,0,jS x.op (k.getD x.a.toNat default).v (k.getD x.b.toNat default).v⟩
  else if x.op=12∧(k.getD x.a.toNat default).is_=true then if (k.getD x.a.toNat default).v=0 then ⟨11,0,0,0,x.n⟩ else ⟨11,0,0,0,next⟩
  else x:=by
 unfold gP
 rw [if_pos ⟨h4,ha,hb⟩]
theorem aJ {x:Ins} {k:KV} (h :¬(k.length=4∧qO x.a 0 3=true∧qO x.b 0 3=true)) (next:Int):gP x k next=x:=by
 unfold gP
 rw [if_neg h]
theorem oZ (x:Ins) (k:KV) (next:Int) (hk:k.length<2^40):wA Try.prog num 292 [.agg (vU x),.sl .bw 2 (wN k),.int .i64 next] [] (.agg (vU (gP x k next))):=by
 refine EN m292 Try.func21 ?_
 unfold m292
 simp only [go_sem,seval]
 repeat refine K ?_
 by_cases h4:(k.length:Int)=4
 case neg =>
  have hf:=aJ (x:=x) (k:=k) (fun h=>h4 (by omega)) next
  rw [hf]
  try simp only [go_sem,seval,h4]
  repeat refine K ?_
  refine fz ?_; simp [yK,wB,wC,wJ,-wAu]
 have h4':k.length=4:=by omega
 try simp only [go_sem,seval,h4]
 repeat refine K ?_
 refine CA [] (qAf x.a) ?_
 try simp only [go_sem,seval]
 repeat refine K ?_
 cases ha:qO x.a 0 3
 ·have hf:=aJ (x:=x) (k:=k) (fun h=>by rw [ha] at h; simp at h) next
  rw [hf]
  try simp only [go_sem,seval,ha]
  repeat refine K ?_
  refine fz ?_; simp [yK,wB,wC,wJ,-wAu]
 try simp only [go_sem,seval,ha]
 repeat refine K ?_
 refine CA [] (qAf x.b) ?_
 try simp only [go_sem,seval]
 repeat refine K ?_
 cases hb:qO x.b 0 3
 ·have hf:=aJ (x:=x) (k:=k) (fun h=>by rw [hb] at h; simp at h) next
  rw [hf]
  try simp only [go_sem,seval,hb]
  repeat refine K ?_
  refine fz ?_; simp [yK,wB,wC,wJ,-wAu]
 have hf:=mN h4' ha hb next
 have ha':=qK.1 ha
 have hb':=qK.1 hb
 have ga:=jE k x.a.toNat (by omega)
 have gb:=jE k x.b.toNat (by omega)
 generalize gP x k next=R at hf
 have hcp:=hP x.op (k.getD x.a.toNat default).v (k.getD x.b.toNat default).v
 generalize k.getD x.a.toNat default=ka at ga hcp hf
 generalize k.getD x.b.toNat default=kb at gb hcp hf
 generalize jS x.op ka.v kb.v=cv at hcp hf
 obtain ⟨ia,va⟩:=ka
 obtain ⟨ib,vb⟩:=kb
 simp only at ga gb hcp hf
 cases ia
 ·have hR:R=x:=by rw [hf]; simp
  rw [hR]
  try simp only [go_sem,seval,hb,ga]
  repeat refine K ?_
  refine fz ?_; simp [yK,wB,wC,wJ,-wAu]
 try simp only [go_sem,seval,hb,ga,gb]
 repeat refine K ?_
 refine ⟨?_,?_⟩
 all_goals
  repeat refine K ?_
  cases h3:aO x.op
  ·have n2 :¬x.op=2:=fun e=>by rw [(dU x.op).2 (by omega)] at h3; simp at h3
   have n3 :¬x.op=3:=fun e=>by rw [(dU x.op).2 (by omega)] at h3; simp at h3
   have n4 :¬x.op=4:=fun e=>by rw [(dU x.op).2 (by omega)] at h3; simp at h3
   by_cases h12:x.op=12
   ·by_cases hv:va=0
    ·have hR:R=⟨11,0,0,0,x.n⟩:=by rw [hf,h3]; simp [h12,hv]
     rw [hR]
     try simp only [go_sem,seval,h12,hv]
     repeat refine K ?_
     refine fz ?_; simp [yK,wB,wC,wJ,-wAu]
    ·have hR:R=⟨11,0,0,0,next⟩:=by rw [hf,h3]; simp [h12,hv]
     rw [hR]
     try simp only [go_sem,seval,h12,hv]
     repeat refine K ?_
     refine fz ?_; simp [yK,wB,wC,wJ,-wAu]
   ·have hR:R=x:=by rw [hf]; simp [h3,h12]
    rw [hR]
    try simp only [go_sem,seval,n2,n3,n4,h12]
    repeat refine K ?_
    refine fz ?_; simp [yK,wB,wC,wJ,-wAu]
  have h3':=(dU x.op).1 h3
  have n12 :¬x.op=12:=by omega
  have hcf:ib=false∨qO cv (-1000000000) 1000000000=false→R=x:=fun h=>by
   rw [hf]
   rcases h with h | h<;>simp [h,n12]
  rcases h3' with h2 | h2 | h2
  all_goals
   rw [h2] at hcp
   try simp only [go_sem,seval,h2]
   repeat refine K ?_
   refine CA [] (hcp) ?_
   try simp only [go_sem,seval]
   repeat refine K ?_
   try simp only [go_sem,seval,h2]
   repeat refine K ?_
   cases hib:ib
   ·have hR:=hcf (.inl hib)
    rw [hR]
    try simp only [go_sem,seval,h2,hib]
    repeat refine K ?_
    refine fz ?_; simp [yK,wB,wC,wJ,-wAu]
    all_goals (try simp [h2])
   try simp only [go_sem,seval,h2,hib]
   repeat refine K ?_
   refine CA [] (bJ cv (-1000000000) 1000000000) ?_
   try simp only [go_sem,seval]
   repeat refine K ?_
   cases hw:qO cv (-1000000000) 1000000000
   ·have hR:=hcf (.inr hw)
    rw [hR]
    try simp only [go_sem,seval,h2,hib,hw]
    repeat refine K ?_
    refine fz ?_; simp [yK,wB,wC,wJ,-wAu]
    all_goals (try simp [h2])
   have hR:R=⟨1,x.r,0,0,cv⟩:=by rw [hf]; simp [h3,hib,hw]
   rw [hR]
   try simp only [go_sem,seval,h2,hib,hw]
   repeat refine K ?_
   refine fz ?_; simp [yK,wB,wC,wJ,-wAu]
theorem nV (x:Ins) (k:KV) (next:Int) (hk:k.length<2^40):wA Try.prog num 290 [.agg (vU x),.sl .bw 2 (wN k),.int .i64 next] [] (.agg (vU (gP x k next))):=by
 refine EN m290 Try.func22 ?_
 unfold m290
 simp only [go_sem,seval]
 repeat refine K ?_
 by_cases h4:(k.length:Int)=4
 case neg =>
  have hf:=aJ (x:=x) (k:=k) (fun h=>h4 (by omega)) next
  rw [hf]
  try simp only [go_sem,seval,h4]
  repeat refine K ?_
  refine fz ?_; simp [yK,wB,wC,wJ,-wAu]
 have h4':k.length=4:=by omega
 try simp only [go_sem,seval,h4]
 repeat refine K ?_
 refine CA [] (eU x.a 0 3) ?_
 try simp only [go_sem,seval]
 repeat refine K ?_
 cases ha:qO x.a 0 3
 ·have hf:=aJ (x:=x) (k:=k) (fun h=>by rw [ha] at h; simp at h) next
  rw [hf]
  try simp only [go_sem,seval,ha]
  repeat refine K ?_
  refine fz ?_; simp [yK,wB,wC,wJ,-wAu]
 try simp only [go_sem,seval,ha]
 repeat refine K ?_
 refine CA [] (eU x.b 0 3) ?_
 try simp only [go_sem,seval]
 repeat refine K ?_
 cases hb:qO x.b 0 3
 ·have hf:=aJ (x:=x) (k:=k) (fun h=>by rw [hb] at h; simp at h) next
  rw [hf]
  try simp only [go_sem,seval,hb]
  repeat refine K ?_
  refine fz ?_; simp [yK,wB,wC,wJ,-wAu]
 have hf:=mN h4' ha hb next
 have ha':=qK.1 ha
 have hb':=qK.1 hb
 have ga:=jE k x.a.toNat (by omega)
 have gb:=jE k x.b.toNat (by omega)
 generalize gP x k next=R at hf
 have hcp:=qMg x.op (k.getD x.a.toNat default).v (k.getD x.b.toNat default).v
 generalize k.getD x.a.toNat default=ka at ga hcp hf
 generalize k.getD x.b.toNat default=kb at gb hcp hf
 generalize jS x.op ka.v kb.v=cv at hcp hf
 obtain ⟨ia,va⟩:=ka
 obtain ⟨ib,vb⟩:=kb
 simp only at ga gb hcp hf
 try simp only [go_sem,seval,hb]
 repeat refine K ?_
 refine CA [] (oQ x.op) ?_
 try simp only [go_sem,seval]
 repeat refine K ?_
 have hlast:aO x.op=false∨ia=false∨ib=false∨qO cv (-1000000000) 1000000000=false→R=if x.op=12∧ia=true then if va=0 then ⟨11,0,0,0,x.n⟩ else ⟨11,0,0,0,next⟩ else x:=fun h=>by
  rw [hf,if_neg]
  rcases h with h | h | h | h<;>simp [h]
 cases h3:aO x.op
 ·have hR:=hlast (.inl h3)
  try simp only [go_sem,seval,h3]
  repeat refine K ?_
  by_cases h12:x.op=12
  ·try simp only [go_sem,seval,h12,ga]
   repeat refine K ?_
   cases ia
   ·simp [h12] at hR
    rw [hR]
    try simp only [go_sem,seval]
    repeat refine K ?_
    refine fz ?_; simp [yK,wB,wC,wJ,-wAu]
    all_goals (try simp [h12])
   try simp only [go_sem,seval,ga]
   repeat refine K ?_
   by_cases hv:va=0
   ·simp [h12,hv] at hR
    rw [hR]
    try simp only [go_sem,seval,hv]
    repeat refine K ?_
    refine fz ?_; simp [yK,wB,wC,wJ,-wAu]
   ·simp [h12,hv] at hR
    rw [hR]
    try simp only [go_sem,seval,hv]
    repeat refine K ?_
    refine fz ?_; simp [yK,wB,wC,wJ,-wAu]
  ·simp [h12] at hR
   rw [hR]
   try simp only [go_sem,seval,h12]
   repeat refine K ?_
   refine fz ?_; simp [yK,wB,wC,wJ,-wAu]
 have n12 :¬x.op=12:=by have:=(dU x.op).1 h3; omega
 simp only [n12,false_and,if_false] at hlast
 try simp only [go_sem,seval,h3,ga]
 repeat refine K ?_
 cases ia
 ·rw [hlast (.inr (.inl rfl))]
  try simp only [go_sem,seval,n12]
  repeat refine K ?_
  refine fz ?_; simp [yK,wB,wC,wJ,-wAu]
 try simp only [go_sem,seval,gb]
 repeat refine K ?_
 cases ib
 ·rw [hlast (.inr (.inr (.inl rfl)))]
  try simp only [go_sem,seval,n12]
  repeat refine K ?_
  refine fz ?_; simp [yK,wB,wC,wJ,-wAu]
 try simp only [go_sem,seval,ga,gb]
 repeat refine K ?_
 refine DA [] (hcp) ?_
 try simp only [go_sem,seval]
 repeat refine K ?_
 try simp only [go_sem,seval]
 repeat refine K ?_
 refine CA [] (eU cv (-1000000000) 1000000000) ?_
 try simp only [go_sem,seval]
 repeat refine K ?_
 cases hw:qO cv (-1000000000) 1000000000
 ·rw [hlast (.inr (.inr (.inr hw)))]
  try simp only [go_sem,seval,hw,n12]
  repeat refine K ?_
  refine fz ?_; simp [yK,wB,wC,wJ,-wAu]
 have hR:R=⟨1,x.r,0,0,cv⟩:=by rw [hf]; simp [h3,hw]
 rw [hR]
 try simp only [go_sem,seval,hw]
 repeat refine K ?_
 refine fz ?_; simp [yK,wB,wC,wJ,-wAu]
end Go.Sep
