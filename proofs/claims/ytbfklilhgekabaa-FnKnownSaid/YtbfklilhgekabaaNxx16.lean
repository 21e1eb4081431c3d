/- Contracts of functions. -/
import Derived.Test.YtbfklilhgekabaaNxx15
open Bool renaming or_false → qZ7
open List renaming append_nil → qYf, drop_eq_nil_of_le → qZ8, drop_one → qYt, getD_cons_succ → qZ5, getD_eq_getElem?_getD → qXb, length_take → qX2, take_of_length_le → qXi, take_succ_cons → qZ6
namespace Go.Sep
set_option maxHeartbeats 16000000
open Go.Proofs
set_option linter.unusedSimpArgs false
set_option linter.unusedVariables false
set_option maxRecDepth 100000
def m217:MFn:=⟨22,[.t 2],kr [xb 1 0,xo 2 (.mv (.c (.nil)))] (.seq (kr [xa 3 0 1,xl 4 3] (.blk 0 (.seq (kr [bI 6 .eql 4 1,xv 5 6] (.cond 5 (.skip) (kr [bI 7 .eql 4 2,xv 5 7] (.cond 5 (.skip) (kr [bI 8 .eql 4 3,xv 5 8] (.cond 5 (.skip) (kr [bI 9 .eql 4 4,xv 5 9] (.cond 5 (.skip) (xr [bI 10 .eql 4 7,xv 5 10]))))))))) (.cond 5 (kR [xa 11 1 1,xl 12 11,xo 13 (.mkSl [xz] 1 [(0,.t 12)]),xv 2 13]) (.seq (kr [bI 15 .eql 4 6,xv 14 15] (.cond 14 (.skip) (xr [bI 16 .eql 4 8,xv 14 16]))) (kF 14 [xa 17 1 1,xl 18 17,xa 19 3 1,xl 20 19,xo 21 (.mkSl [xz] 2 [(0,.t 18),(1,.t 20)]),xv 2 21])))))) (kR [xo 2 (.mv (.c (.nil)))]))⟩
def m325:MFn:=⟨76,[.t 4],kr [xb 2 0,xo 4 (.mv (.c (.nil)))] (kr [xo 8 (.mkSl [.bool false,.int .i64 0] 0 []),xv 9 1,xA 10 2 16 8 9,xv 5 10] (kr [xm 11 5 2,xc1 12 344 (.t 11),xv 6 12] (.seq (kr [xI 7 0] (.blk 0 (.loop (.seq (kr [xv 13 7,xv 14 6,xe 15 14,bT 16 .lss 13 15] (kX 16 0)) (.seq (.blk 1 (xr [xv 19 5,xv 20 6,xv 21 7,xD 22 1 20 21,xl 23 22,xo 24 (.build [.bool false,.int .i64 0] []),xD 25 2 19 23,xS 2 25 24])) (xr [xv 17 7,bI 18 .add 17 1,xv 7 18])))))) (.seq (kr [xa 26 0 2,xl 27 26,bI 28 .eql 27 1] (.cond 28 (xr [xv 29 5,xa 30 1 2,xl 31 30,xa 32 4 2,xl 33 32,xo 34 (.build [.bool false,.int .i64 0] [(0,1,.c (.bool true)),(1,1,.t 33)]),xD 35 2 29 31,xS 2 35 34]) (.skip))) (.seq (kr [xa 36 0 2,xl 37 36,xc1 38 328 (.t 37),xv 39 38,yv 40 1 39,ya 41 2 2 39,yl 42 1 41 39,xg 43 (.iad 2 (.t 40) (.t 42)) 39 true,ya 44 0 43 39,yl 45 1 44 39,xP 46 39 45,xv 47 46,yv 48 1 47,ya 49 3 2 47,yl 50 1 49 47,xg 51 (.iad 2 (.t 48) (.t 50)) 47 true,ya 52 0 51 47,yl 53 1 52 47,xP 54 47 53] (.cond 54 (.dreg (.take 0 (xv 55 5) (.take 1 (xa 56 1 2) (.take 2 (xl 57 56) (.take 3 (xa 58 0 2) (.take 4 (xl 59 58) (.take 5 (xv 60 1) (.take 6 (xa 61 2 2) (.take 7 (xl 62 61) (.take 8 (xD 63 2 60 62) (.take 9 (xa 64 1 63) (.take 10 (xl 65 64) (.take 11 (xv 66 1) (.only 12 [] (xa 67 3 2) (.only 13 [] (xl 68 67) (.only 14 [11] (xD 69 2 66 68) (.only 15 [14,11] (xa 70 1 69) (.only 16 [15,14,11] (xl 71 70) (.only 17 [4,10,16,3,9,15,8,14,5,7,11,6] (xc3 72 329 (.t 59) (.t 65) (.t 71)) (.only 18 [17,4,10,16,3,9,15,8,14,5,7,11,6] (xo 73 (.build [.bool false,.int .i64 0] [(0,1,.c (.bool true)),(1,1,.t 72)])) (.only 19 [0,1,2,3,4,5,6,7,8,9,10,11] (xD 74 2 55 57) (.only 20 [0,1,2,3,4,5,6,7,8,9,10,11] (xS 2 74 73) (.done))))))))))))))))))))))) (.skip))) (kR [xv 75 5,xv 4 75]))))))⟩
def m327:MFn:=⟨40,[.t 4,.t 5],kr [xo 4 (.mv (.c (.nil))),xF 5] (kr [xo 9 (.mkSl [.bool false,.int .i64 0] 0 []),xv 10 0,xA 11 2 16 9 10,xv 6 11] (kr [xF 7] (.seq (kr [xI 8 0] (.blk 0 (.loop (.seq (kr [xv 12 8,xv 13 0,xe 14 13,bT 15 .lss 12 14] (kX 15 0)) (.seq (.blk 1 (.seq (.dreg (.take 0 (xv 18 0) (.only 1 [] (xv 19 8) (.only 2 [0] (xD 20 2 18 19) (.only 3 [2,0] (xa 21 0 20) (.only 4 [3,2,0] (xl 22 21) (.only 5 [4,3,2,0] (xv 23 22) (.take 6 (yv 24 0 23) (.take 7 (yv 25 8 23) (.take 8 (xg 26 (.iad 2 (.t 24) (.t 25)) 23 true) (.take 9 (xg 27 (.load 2 true (.t 26)) 23 true) (.take 10 (yv 28 1 23) (.only 11 [5,4,3,2,0] (yv 29 8 23) (.only 12 [5,10,4,3,2,0] (xg 30 (.iad 2 (.t 28) (.t 29)) 23 true) (.only 13 [5,12,4,10,3,2,0] (xg 31 (.load 2 true (.t 30)) 23 true) (.only 14 [5,9,13,4,8,12,3,6,7,10,2,0] (xg 32 (.eqS true [false,true] (.t 27) (.t 31)) 23 true) (.only 15 [5,14,4,9,13,3,8,12,2,6,7,10,0] (xP 33 23 32) (.done)))))))))))))))))) (.cond 33 (kr [xv 34 6,xv 35 8,xo 36 (.build [.bool false,.int .i64 0] []),xD 37 2 34 35,xS 2 37 36] (xr [xT 7])) (.skip)))) (xr [xv 16 8,bI 17 .add 16 1,xv 8 17])))))) (kR [xv 38 6,xv 39 7,xv 4 38,xv 5 39]))))⟩
def m328:MFn:=⟨13,[.t 2],kr [xF 2] (kR [xv 3 0,bI 4 .eql 3 2,xv 5 4,zv 6 0 5,zI 7 .eql 6 3 5,xQ 8 5 7,xv 9 8,zv 10 0 9,zI 11 .eql 10 4 9,xQ 12 9 11,xv 2 12])⟩
def m329:MFn:=⟨22,[.t 6],kr [xI 6 0] (.seq (kr [xv 7 0] (.blk 0 (kr [bI 9 .eql 7 2,xv 8 9] (.cond 8 (kR [xv 10 1,xv 11 2,bT 12 .add 10 11,xv 6 12]) (kr [bI 14 .eql 7 3,xv 13 14] (kF 13 [xv 15 1,xv 16 2,bT 17 .sub 15 16,xv 6 17])))))) (kR [xv 18 1,xv 19 2,bT 20 .lss 18 19,xc1 21 85 (.t 20),xv 6 21]))⟩
def m330:MFn:=⟨73,[.t 4],kr [xb 2 0,xo 4 (.mv (.c (.nil)))] (kr [xo 8 (.mkSl [.bool false,.int .i64 0] 0 []),xv 9 1,xA 10 2 16 8 9,xv 5 10] (.seq (kr [xm 11 5 2,xc1 12 217 (.t 11),xe 13 12,xI 14 0] (.blk 0 (.loop (kr [bT 15 .lss 14 13] (.seq (kX 15 0) (.seq (.blk 1 (kr [xD 16 1 12 14,xl 17 16,xv 7 17] (xr [xv 18 5,xv 19 7,xo 20 (.build [.bool false,.int .i64 0] []),xD 21 2 18 19,xS 2 21 20]))) (xr [bI 22 .add 14 1,xv 14 22]))))))) (.seq (kr [xa 23 0 2,xl 24 23] (.blk 2 (kr [bI 26 .eql 24 1,xv 25 26] (.cond 25 (xr [xv 27 5,xa 28 1 2,xl 29 28,xa 30 4 2,xl 31 30,xo 32 (.build [.bool false,.int .i64 0] [(0,1,.c (.bool true)),(1,1,.t 31)]),xD 33 2 27 29,xS 2 33 32]) (.seq (kr [bI 35 .eql 24 2,xv 34 35] (.cond 34 (.skip) (kr [bI 36 .eql 24 3,xv 34 36] (.cond 34 (.skip) (xr [bI 37 .eql 24 4,xv 34 37]))))) (.cond 34 (kr [xv 38 1,xa 39 2 2,xl 40 39,xD 41 2 38 40,xa 42 0 41,xl 43 42,xv 44 43,yv 45 1 44,ya 46 3 2 44,yl 47 1 46 44,xg 48 (.iad 2 (.t 45) (.t 47)) 44 true,ya 49 0 48 44,yl 50 1 49 44,xP 51 44 50] (.cond 51 (.dreg (.take 0 (xv 52 5) (.take 1 (xa 53 1 2) (.take 2 (xl 54 53) (.take 3 (xa 55 0 2) (.take 4 (xl 56 55) (.take 5 (xv 57 1) (.take 6 (xa 58 2 2) (.take 7 (xl 59 58) (.take 8 (xD 60 2 57 59) (.take 9 (xa 61 1 60) (.take 10 (xl 62 61) (.take 11 (xv 63 1) (.only 12 [] (xa 64 3 2) (.only 13 [] (xl 65 64) (.only 14 [11] (xD 66 2 63 65) (.only 15 [14,11] (xa 67 1 66) (.only 16 [15,14,11] (xl 68 67) (.only 17 [4,10,16,3,9,15,8,14,5,7,11,6] (xc3 69 60 (.t 56) (.t 62) (.t 68)) (.only 18 [17,4,10,16,3,9,15,8,14,5,7,11,6] (xo 70 (.build [.bool false,.int .i64 0] [(0,1,.c (.bool true)),(1,1,.t 69)])) (.only 19 [0,1,2,3,4,5,6,7,8,9,10,11] (xD 71 2 52 54) (.only 20 [0,1,2,3,4,5,6,7,8,9,10,11] (xS 2 71 70) (.done))))))))))))))))))))))) (.skip))) (.skip))))))) (kR [xv 72 5,xv 4 72]))))⟩
def m331:MFn:=⟨31,[.t 4],kr [xF 4] (kr [xF 5] (.seq (kr [xv 8 0,xe 9 8,xI 10 0] (.blk 0 (.loop (kr [bT 11 .lss 10 9] (.seq (kX 11 0) (.seq (.blk 1 (kr [xv 12 10,xD 13 2 8 10,xm 14 2 13,xo 7 (.alloc [.bool false,.int .i64 0]),xv 6 12,xS 2 7 14] (.seq (.dreg (.only 0 [] (xa 15 0 7) (.only 1 [] (xl 16 15) (.only 2 [] (xv 17 16) (.take 3 (xg 18 (.load 2 true (.t 7)) 17 true) (.take 4 (yv 19 1 17) (.only 5 [] (yv 20 6 17) (.only 6 [4] (xg 21 (.iad 2 (.t 19) (.t 20)) 17 true) (.only 7 [6,4] (xg 22 (.load 2 true (.t 21)) 17 true) (.only 8 [3,7,6,4] (xg 23 (.eqS true [false,true] (.t 18) (.t 22)) 17 true) (.only 9 [8,3,7,6,4] (xP 24 17 23) (.done)))))))))))) (.cond 24 (kr [xv 25 0,xv 26 6,xo 27 (.build [.bool false,.int .i64 0] []),xD 28 2 25 26,xS 2 28 27] (xr [xT 5])) (.skip))))) (xr [bI 29 .add 10 1,xv 10 29]))))))) (kR [xv 30 5,xv 4 30])))⟩
def m344:MFn:=⟨23,[.t 2],kr [xb 1 0,xo 2 (.mv (.c (.nil)))] (.seq (kr [xa 3 0 1,xl 4 3] (.blk 0 (.seq (kr [bI 6 .eql 4 1,xv 5 6] (.cond 5 (.skip) (kr [bI 7 .eql 4 2,xv 5 7] (.cond 5 (.skip) (kr [bI 8 .eql 4 3,xv 5 8] (.cond 5 (.skip) (kr [bI 9 .eql 4 4,xv 5 9] (.cond 5 (.skip) (xr [bI 10 .eql 4 7,xv 5 10]))))))))) (.cond 5 (kR [xa 11 1 1,xl 12 11,xo 13 (.mkSl [xz] 1 [(0,.t 12)]),xv 2 13]) (.seq (kr [bI 15 .eql 4 6,xv 14 15] (.cond 14 (.skip) (xr [bI 16 .eql 4 8,xv 14 16]))) (kF 14 [xa 17 1 1,xl 18 17,xa 19 3 1,xl 20 19,xo 21 (.mkSl [xz] 2 [(0,.t 18),(1,.t 20)]),xv 2 21])))))) (kR [xo 22 (.mkSl [xz] 0 []),xv 2 22]))⟩
theorem qL2 (x:Ins):wJ Try.prog num 217 [.agg (bU x)] [] (.sl .own 1 (wT (vL x))):=by
 refine EN m217 Try.func78 ?_
 unfold m217
 by_cases h1:x.op=1
 ·simp only [go_sem,seval,h1]
  repeat refine K ?_
  refine ⟨_,Sub.refl _,wL ?_⟩; simp [-qYt]
  all_goals simp [vL,h1,wT]
 by_cases h2:x.op=2
 ·simp only [go_sem,seval,h1,h2]
  repeat refine K ?_
  refine ⟨_,Sub.refl _,wL ?_⟩; simp [-qYt]
  all_goals simp [vL,h2,wT]
 by_cases h3:x.op=3
 ·simp only [go_sem,seval,h1,h2,h3]
  repeat refine K ?_
  refine ⟨_,Sub.refl _,wL ?_⟩; simp [-qYt]
  all_goals simp [vL,h3,wT]
 by_cases h4:x.op=4
 ·simp only [go_sem,seval,h1,h2,h3,h4]
  repeat refine K ?_
  refine ⟨_,Sub.refl _,wL ?_⟩; simp [-qYt]
  all_goals simp [vL,h4,wT]
 by_cases h7:x.op=7
 ·simp only [go_sem,seval,h1,h2,h3,h4,h7]
  repeat refine K ?_
  refine ⟨_,Sub.refl _,wL ?_⟩; simp [-qYt]
  all_goals simp [vL,h7,wT]
 by_cases h6:x.op=6
 ·simp only [go_sem,seval,h1,h2,h3,h4,h7,h6]
  repeat refine K ?_
  refine ⟨_,Sub.refl _,wL ?_⟩; simp [-qYt]
  all_goals simp [vL,h6,wT]
 by_cases h8:x.op=8
 ·simp only [go_sem,seval,h1,h2,h3,h4,h7,h6,h8]
  repeat refine K ?_
  refine ⟨_,Sub.refl _,wL ?_⟩; simp [-qYt]
  all_goals simp [vL,h8,wT]
 simp only [go_sem,seval,h1,h2,h3,h4,h7,h6,h8]
 repeat refine K ?_
 refine ⟨_,Sub.refl _,wL ?_⟩; simp [-qYt]
 all_goals simp [vL,h1,h2,h3,h4,h7,h6,h8,wT]
theorem qJv (x:Ins):wJ Try.prog num 344 [.agg (bU x)] [] (.sl .own 1 (wT (vL x))):=by
 refine EN m344 Try.func82 ?_
 unfold m344
 by_cases h1:x.op=1
 ·simp only [go_sem,seval,h1]
  repeat refine K ?_
  refine ⟨_,Sub.refl _,wL ?_⟩; simp [-qYt]
  all_goals simp [vL,h1,wT]
 by_cases h2:x.op=2
 ·simp only [go_sem,seval,h1,h2]
  repeat refine K ?_
  refine ⟨_,Sub.refl _,wL ?_⟩; simp [-qYt]
  all_goals simp [vL,h2,wT]
 by_cases h3:x.op=3
 ·simp only [go_sem,seval,h1,h2,h3]
  repeat refine K ?_
  refine ⟨_,Sub.refl _,wL ?_⟩; simp [-qYt]
  all_goals simp [vL,h3,wT]
 by_cases h4:x.op=4
 ·simp only [go_sem,seval,h1,h2,h3,h4]
  repeat refine K ?_
  refine ⟨_,Sub.refl _,wL ?_⟩; simp [-qYt]
  all_goals simp [vL,h4,wT]
 by_cases h7:x.op=7
 ·simp only [go_sem,seval,h1,h2,h3,h4,h7]
  repeat refine K ?_
  refine ⟨_,Sub.refl _,wL ?_⟩; simp [-qYt]
  all_goals simp [vL,h7,wT]
 by_cases h6:x.op=6
 ·simp only [go_sem,seval,h1,h2,h3,h4,h7,h6]
  repeat refine K ?_
  refine ⟨_,Sub.refl _,wL ?_⟩; simp [-qYt]
  all_goals simp [vL,h6,wT]
 by_cases h8:x.op=8
 ·simp only [go_sem,seval,h1,h2,h3,h4,h7,h6,h8]
  repeat refine K ?_
  refine ⟨_,Sub.refl _,wL ?_⟩; simp [-qYt]
  all_goals simp [vL,h8,wT]
 simp only [go_sem,seval,h1,h2,h3,h4,h7,h6,h8]
 repeat refine K ?_
 refine ⟨_,Sub.refl _,wL ?_⟩; simp [-qYt]
 all_goals simp [vL,h1,h2,h3,h4,h7,h6,h8,wT]
theorem qBe (op:Int):wJ Try.prog num 328 [.int .i64 op] [] (.bool (fK op)):=by
 refine EN m328 Try.func58 ?_
 unfold m328
 by_cases h2:op=2
 ·simp only [go_sem,seval,h2]
  repeat refine K ?_
  refine fz ?_; simp [jD,wN,wP,yA,-qYt]
  all_goals simp [fK,h2]
 by_cases h3:op=3
 ·simp only [go_sem,seval,h2,h3]
  repeat refine K ?_
  refine fz ?_; simp [jD,wN,wP,yA,-qYt]
  all_goals simp [fK,h3]
 simp only [go_sem,seval,h2,h3]
 repeat refine K ?_
 refine fz ?_; simp [jD,wN,wP,yA,-qYt]
 all_goals simp [fK,h2,h3]
theorem qSo (op a b:Int):wJ Try.prog num 329 [.int .i64 op,.int .i64 a,.int .i64 b] [] (.int .i64 (uC op a b)):=by
 refine EN m329 Try.func59 ?_
 unfold m329
 by_cases h2:op=2
 ·simp only [go_sem,seval,h2]
  repeat refine K ?_
  refine fz ?_; simp [jD,wN,wP,yA,-qYt]
  all_goals simp [uC,h2]
 by_cases h3:op=3
 ·simp only [go_sem,seval,h2,h3]
  repeat refine K ?_
  refine fz ?_; simp [jD,wN,wP,yA,-qYt]
  all_goals simp [uC,h3]
 simp only [go_sem,seval,h2,h3]
 repeat refine K ?_
 refine CA [] (qSm (decide (a<b))) ?_
 try simp only [go_sem,seval]
 repeat refine K ?_
 refine fz ?_; simp [jD,wN,wP,yA,-qYt]
 all_goals simp [uC,h2,h3]
def cT (s:List Int) (k:KV):KV:=s.foldl (fun o r=>o.set r.toNat kno) k
theorem kT :∀(s:List Int) (k:KV),(cT s k).length=k.length
 | [],_=>rfl
 | r::s,k=>by
  have:=kT s (k.set r.toNat kno)
  rw [List.length_set] at this
  exact this
theorem qD3 (s:List Int) (k:KV) (j:Nat) (h:j<s.length):cT (s.take (j+1)) k=(cT (s.take j) k).set (s.getD j 0).toNat ⟨false,0⟩:=by
 unfold cT
 rw [iO s 0 j h,List.foldl_append]
 rfl
theorem qOm {x:Ins} (hx:rH x) :∀r∈vL x,0≤r∧r.toNat<4:=by
 unfold vL
 split
 ·intro r hr
  rw [List.mem_singleton.1 hr]
  exact hx.r
 ·split
  ·intro r hr
   simp only [List.mem_cons,List.not_mem_nil,or_false] at hr
   rcases hr with rfl | rfl
   ·exact hx.r
   ·exact hx.b
  ·intro r hr
   simp at hr
theorem qK0 (x:Ins):(vL x).length≤2:=by
 unfold vL
 repeat' split
 all_goals simp
theorem qHl (x:Ins) (k:KV):bM x k=if x.op=1 then (cT (vL x) k).set x.r.toNat ⟨true,x.n⟩
 else if fK x.op&&(k.getD x.a.toNat default).is_&&(k.getD x.b.toNat default).is_ then (cT (vL x) k).set x.r.toNat ⟨true,uC x.op (k.getD x.a.toNat default).v (k.getD x.b.toNat default).v⟩
 else cT (vL x) k:=rfl
theorem oC (op:Int):fK op=true↔op=2∨op=3∨op=4:=by
 unfold fK
 simp
 omega
theorem qFv (x:Ins) (k:KV) (hx:rH x) (hk:k.length=4):wJ Try.prog num 330 [.agg (bU x),.sl .bw 2 (wK k)] [] (.sl .own 2 (wK (bM x k))):=by
 have hl:=qK0 x
 have hin:=qOm hx
 obtain ⟨⟨r0,r1⟩,⟨a0,a1⟩,⟨b0,b1⟩⟩:=hx
 refine EN m330 Try.func43 ?_
 unfold m330
 simp only [go_sem,seval]
 repeat refine K ?_
 refine CA [] (qL2 x) ?_
 try simp only [go_sem,seval]
 repeat refine K ?_
 try simp only [go_sem,seval]
 repeat refine K ?_
 refine wM (ι:=Nat) (fun j=>.mk [(1,.sl .bw 2 (wK k)),(2,.ptr 10 0 0),(5,.ns 12 0 k.length),(12,.ns 13 0 (vL x).length),(13,.int .i64 (vL x).length),(14,.int .i64 j)] [(10,5,[bU x]),(12,2,wK (cT ((vL x).take j) k)),(13,1,wT (vL x))] 14) (fun j=>j≤(vL x).length) (fun j=>(vL x).length-j) 0 (by simp) ?_ ?_
 ·refine Sub.shape [] id (by omega) ?_ ?_ ?_ ?_<;>simp [qR]
  all_goals simp [cT,wK]
 ·intro j hj
  have hsl:=kT ((vL x).take j) k
  simp only [go_sem,seval]
  refine qX (fun hc=>?_) (fun hc=>?_)
  ·simp only [decide_eq_true_eq] at hc
   have hj':j<(vL x).length:=by omega
   obtain ⟨q0,q1⟩:=hin _ (yR (vL x) j 0 hj')
   have hst:=qD3 (vL x) k j hj'
   have hg:=jA (cT ((vL x).take j) k) ((vL x).getD j 0).toNat (by omega)
   simp only [go_sem,seval,qJ (vL x) j hj',hsl,hg,vZ,wA (i:=j) (by omega)]
   repeat refine K ?_
   refine qT (j+1) (Sub.shape [] id (by omega) ?_ ?_ ?_ ?_) hj' (by omega)<;>simp [qR]
   all_goals (rw [hst])
   all_goals (try simp [wK])
  ·simp only [decide_eq_false_iff_not] at hc
   have he:(vL x).take j=vL x:=qXi (by omega)
   rw [he] at hsl⊢
   rw [qHl]
   generalize hss:cT (vL x) k=o at hsl
   have gr:=jA o x.r.toNat (by omega)
   have ga:=jA k x.a.toNat (by omega)
   have gb:=jA k x.b.toNat (by omega)
   by_cases h1:x.op=1
   ·simp only [go_sem,seval,h1,hsl,gr,vZ]
    repeat refine K ?_
    refine ⟨_,Sub.refl _,wL ?_⟩; simp [-qYt]
    all_goals (try simp [h1,vZ,hsl])
   rw [if_neg h1]
   cases h3:fK x.op
   ·have n2 :¬x.op=2:=fun e=>by rw [(oC x.op).2 (by omega)] at h3; simp at h3
    have n3 :¬x.op=3:=fun e=>by rw [(oC x.op).2 (by omega)] at h3; simp at h3
    have n4 :¬x.op=4:=fun e=>by rw [(oC x.op).2 (by omega)] at h3; simp at h3
    simp only [go_sem,seval,h1,n2,n3,n4,hsl]
    repeat refine K ?_
    refine ⟨_,Sub.refl _,wL ?_⟩; simp [-qYt]
    all_goals (try simp [hsl])
   have h3':=(oC x.op).1 h3
   have e:(if (true&&(k.getD x.a.toNat default).is_&&(k.getD x.b.toNat default).is_)=true then o.set x.r.toNat ⟨true,uC x.op (k.getD x.a.toNat default).v (k.getD x.b.toNat default).v⟩ else o)=(if (k.getD x.a.toNat default).is_ then if (k.getD x.b.toNat default).is_ then o.set x.r.toNat ⟨true,uC x.op (k.getD x.a.toNat default).v (k.getD x.b.toNat default).v⟩ else o else o):=by
    cases (k.getD x.a.toNat default).is_<;>cases (k.getD x.b.toNat default).is_<;>rfl
   rw [e]
   clear e
   generalize k.getD x.a.toNat default=ka at ga
   generalize k.getD x.b.toNat default=kb at gb
   have hcp:=lL x.op ka.v kb.v
   generalize uC x.op ka.v kb.v=cv at hcp
   rcases h3' with h2 | h2 | h2
   all_goals
    rw [h2] at hcp
    cases ia:ka.is_
    ·try simp only [go_sem,seval,h1,h2,ga,hsl,ia]
     repeat refine K ?_
     refine ⟨_,Sub.refl _,wL ?_⟩; simp [-qYt]
     all_goals (try simp [hsl])
    try simp only [go_sem,seval,h1,h2,ga,hsl,ia]
    repeat refine K ?_
    cases ib:kb.is_
    ·try simp only [go_sem,seval,gb,hsl,ib]
     repeat refine K ?_
     refine ⟨_,Sub.refl _,wL ?_⟩; simp [-qYt]
     all_goals (try simp [hsl])
    try simp only [go_sem,seval,ga,gb,hsl,ib]
    repeat refine K ?_
    refine DA [] (hcp) ?_
    try simp only [go_sem,seval]
    repeat refine K ?_
    try simp only [go_sem,seval,hsl,gr,vZ]
    repeat refine K ?_
    refine ⟨_,Sub.refl _,wL ?_⟩; simp [-qYt]
    all_goals (try simp [vZ,hsl])
theorem qFj (x:Ins) (k:KV) (hx:rH x) (hk:k.length=4):wJ Try.prog num 325 [.agg (bU x),.sl .bw 2 (wK k)] [] (.sl .own 2 (wK (bM x k))):=by
 have hl:=qK0 x
 have hin:=qOm hx
 obtain ⟨⟨r0,r1⟩,⟨a0,a1⟩,⟨b0,b1⟩⟩:=hx
 refine EN m325 Try.func47 ?_
 unfold m325
 simp only [go_sem,seval]
 repeat refine K ?_
 refine CA [] (qJv x) ?_
 try simp only [go_sem,seval]
 repeat refine K ?_
 try simp only [go_sem,seval]
 repeat refine K ?_
 refine wM (ι:=Nat) (fun j=>.mk [(1,.sl .bw 2 (wK k)),(2,.ptr 10 0 0),(5,.ns 12 0 k.length),(6,.ns 13 0 (vL x).length),(7,.int .i64 j)] [(10,5,[bU x]),(12,2,wK (cT ((vL x).take j) k)),(13,1,wT (vL x))] 14) (fun j=>j≤(vL x).length) (fun j=>(vL x).length-j) 0 (by simp) ?_ ?_
 ·refine Sub.shape [] id (by omega) ?_ ?_ ?_ ?_<;>simp [qR]
  all_goals simp [cT,wK]
 ·intro j hj
  have hsl:=kT ((vL x).take j) k
  simp only [go_sem,seval]
  refine qX (fun hc=>?_) (fun hc=>?_)
  ·simp only [decide_eq_true_eq] at hc
   have hj':j<(vL x).length:=by omega
   obtain ⟨q0,q1⟩:=hin _ (yR (vL x) j 0 hj')
   have hst:=qD3 (vL x) k j hj'
   have hg:=jA (cT ((vL x).take j) k) ((vL x).getD j 0).toNat (by omega)
   simp only [go_sem,seval,qJ (vL x) j hj',hsl,hg,vZ,wA (i:=j) (by omega)]
   repeat refine K ?_
   refine qT (j+1) (Sub.shape [] id (by omega) ?_ ?_ ?_ ?_) hj' (by omega)<;>simp [qR]
   all_goals (rw [hst])
   all_goals (try simp [wK])
  ·simp only [decide_eq_false_iff_not] at hc
   have he:(vL x).take j=vL x:=qXi (by omega)
   rw [he] at hsl⊢
   rw [qHl]
   generalize hss:cT (vL x) k=o at hsl
   have gr:=jA o x.r.toNat (by omega)
   have ga:=jA k x.a.toNat (by omega)
   have gb:=jA k x.b.toNat (by omega)
   by_cases h1:x.op=1
   ·have h3:fK 1=false:=by decide
    simp only [go_sem,seval,h1,hsl,gr,vZ]
    repeat refine K ?_
    refine CA [] (qBe 1) ?_
    try simp only [go_sem,seval]
    repeat refine K ?_
    try simp only [go_sem,seval,h3,hsl]
    repeat refine K ?_
    refine ⟨_,Sub.refl _,wL ?_⟩; simp [-qYt]
    all_goals (try simp [h1,vZ,hsl])
   rw [if_neg h1]
   simp only [go_sem,seval,h1]
   repeat refine K ?_
   refine CA [] (qBe x.op) ?_
   try simp only [go_sem,seval]
   repeat refine K ?_
   cases h3:fK x.op
   ·try simp only [go_sem,seval,h3,hsl]
    repeat refine K ?_
    refine ⟨_,Sub.refl _,wL ?_⟩; simp [-qYt]
    all_goals (try simp [hsl])
   have e:(if (true&&(k.getD x.a.toNat default).is_&&(k.getD x.b.toNat default).is_)=true then o.set x.r.toNat ⟨true,uC x.op (k.getD x.a.toNat default).v (k.getD x.b.toNat default).v⟩ else o)=(if (k.getD x.a.toNat default).is_ then if (k.getD x.b.toNat default).is_ then o.set x.r.toNat ⟨true,uC x.op (k.getD x.a.toNat default).v (k.getD x.b.toNat default).v⟩ else o else o):=by
    cases (k.getD x.a.toNat default).is_<;>cases (k.getD x.b.toNat default).is_<;>rfl
   rw [e]
   clear e
   generalize k.getD x.a.toNat default=ka at ga
   generalize k.getD x.b.toNat default=kb at gb
   have hcp:=qSo x.op ka.v kb.v
   generalize uC x.op ka.v kb.v=cv at hcp
   cases ia:ka.is_
   ·try simp only [go_sem,seval,h3,ga,hsl,ia]
    repeat refine K ?_
    refine ⟨_,Sub.refl _,wL ?_⟩; simp [-qYt]
    all_goals (try simp [hsl])
   try simp only [go_sem,seval,h3,ga,hsl,ia]
   repeat refine K ?_
   cases ib:kb.is_
   ·try simp only [go_sem,seval,gb,hsl,ib]
    repeat refine K ?_
    refine ⟨_,Sub.refl _,wL ?_⟩; simp [-qYt]
    all_goals (try simp [hsl])
   try simp only [go_sem,seval,ga,gb,hsl,ib]
   repeat refine K ?_
   refine DA [] (hcp) ?_
   try simp only [go_sem,seval]
   repeat refine K ?_
   try simp only [go_sem,seval,hsl,gr,vZ]
   repeat refine K ?_
   refine ⟨_,Sub.refl _,wL ?_⟩; simp [-qYt]
   all_goals (try simp [vZ,hsl])
theorem pX :∀(k o:KV) (i:Nat),i<k.length→i<o.length→jJ (k.take (i+1)) o++k.drop (i+1)=(jJ (k.take i) o++k.drop i).set i (zY (k.getD i default) (o.getD i default))
 | [],_,i,h,_=>by simp at h
 | _::_,[],i,_,h=>by simp at h
 | a::l,b::k,0,_,_=>by simp [jJ]
 | a::l,b::k,i+1,h,g=>by
  have ih:=pX l k i (by simpa using h) (by simpa using g)
  simp only [qZ6,jJ,List.drop_succ_cons,List.cons_append,List.set_cons_succ,qZ5] at ih⊢
  rw [ih]
theorem pY :∀(k o:KV) (i:Nat),i<k.length→i<o.length→xB (k.take (i+1)) o=(xB (k.take i) o||fR (k.getD i default) (o.getD i default))
 | [],_,i,h,_=>by simp at h
 | _::_,[],i,_,h=>by simp at h
 | a::l,b::k,0,_,_=>by simp [xB]
 | a::l,b::k,i+1,h,g=>by
  have ih:=pY l k i (by simpa using h) (by simpa using g)
  simp only [qZ6,xB,qZ5] at ih⊢
  rw [ih,Bool.or_assoc]
theorem qGw (k o:KV) (i:Nat) (h:i<k.length):(jJ (k.take i) o++k.drop i).getD i default=k.getD i default:=by
 have hl:(jJ (k.take i) o).length=i:=by rw [uV,qX2]; omega
 rw [qXb,List.getElem?_append_right (by omega),hl]
 simp [qXb]
theorem qBd (k o:KV) (i:Nat) (h:i≤k.length):(jJ (k.take i) o++k.drop i).length=k.length:=by
 rw [List.length_append,uV,qX2,List.length_drop]
 omega
theorem qK1 (l:KV) (i:Nat) (h:i<l.length):l.set i (l.getD i default)=l:=by
 rw [qXb,List.getElem?_eq_getElem h,Option.getD_some,List.set_getElem_self]
theorem qL3 (k o:KV) (hk:k.length<2^40) (ho:o.length=k.length):wJ Try.prog num 331 [.ns 0 0 k.length,.sl .bw 2 (wK o)] [(0,some (2,wK k),some (2,wK (jJ k o)))] (.bool (xB k o)):=by
 refine EH m331 Try.func45 (hh:=by refine bV _ _ _ _ ((dT _).2 trivial) (by decide) ?_<;>simp [cZ]) ?_
 unfold m331
 simp only [go_sem,seval]
 repeat refine K ?_
 refine wM (ι:=Nat) (fun i=>.mk [(0,.ns 0 0 k.length),(1,.sl .bw 2 (wK o)),(5,.bool (xB (k.take i) o)),(8,.ns 0 0 k.length),(9,.int .i64 k.length),(10,.int .i64 i)] [(0,2,wK (jJ (k.take i) o++k.drop i))] 10) (fun i=>i≤k.length) (fun i=>k.length-i) 0 (by simp) ?_ ?_
 ·refine Sub.shape [] id (by omega) ?_ ?_ ?_ ?_<;>simp [qR]
  all_goals simp [jJ,xB]
 ·intro i hi
  have hml:=qBd k o i hi
  have e1:=pX k o i
  have e2:=pY k o i
  have hg0:=qGw k o i
  generalize hR:jJ (k.take i) o++k.drop i=R at hml e1 hg0
  simp only [go_sem,seval,hml]
  refine qX (fun hc=>?_) (fun hc=>?_)
  ·simp only [decide_eq_true_eq] at hc
   have hl':i<k.length:=by omega
   have hj:i<o.length:=by omega
   have hg:=jA R i (by omega)
   rw [hg0 hl'] at hg
   have hgo:=jA o i hj
   have e1':=e1 hl' hj
   have e2':=e2 hl' hj
   have hsame:=qK1 R i (by omega)
   rw [hg0 hl'] at hsame
   generalize k.getD i default=a at hg e1' e2' hsame
   generalize o.getD i default=b at hgo e1' e2'
   obtain ⟨ai,av⟩:=a
   obtain ⟨bi,bv⟩:=b
   have hws:=wA (i:=i) (by omega)
   cases ai
   ·have em:zY ⟨false,av⟩ ⟨bi,bv⟩=⟨false,av⟩:=rfl
    have el:fR ⟨false,av⟩ ⟨bi,bv⟩=false:=rfl
    rw [em,hsame] at e1'
    rw [el,qZ7] at e2'
    simp only [go_sem,seval,hg,hml,hws]
    repeat refine K ?_
    refine qT (i+1) ?_ hl' (by omega)
    rw [e1',e2']
    refine Sub.shape [] id (by omega) ?_ ?_ ?_ ?_<;>simp [qR]
   by_cases hab:bi=true∧av=bv
   ·obtain ⟨rfl,rfl⟩:=hab
    have em:zY ⟨true,av⟩ ⟨true,av⟩=⟨true,av⟩:=by simp [zY]
    have el:fR ⟨true,av⟩ ⟨true,av⟩=false:=by simp [fR]
    rw [em,hsame] at e1'
    rw [el,qZ7] at e2'
    simp only [go_sem,seval,hg,hgo,hml,hws]
    repeat refine K ?_
    refine qT (i+1) ?_ hl' (by omega)
    rw [e1',e2']
    refine Sub.shape [] id (by omega) ?_ ?_ ?_ ?_<;>simp [qR]
   ·have hor:bi=false∨¬av=bv:=by
     cases bi
     ·exact .inl rfl
     ·exact .inr fun h=>hab ⟨rfl,h⟩
    have em:zY ⟨true,av⟩ ⟨bi,bv⟩=⟨false,0⟩:=by
     unfold zY
     rw [if_pos]
     ·rfl
     ·simpa using hor
    have el:fR ⟨true,av⟩ ⟨bi,bv⟩=true:=by
     unfold fR
     simpa using hor
    have hbd:(true==bi&&decide (av=bv))=false:=by
     rcases hor with h | h<;>simp [h]
    rw [em] at e1'
    rw [el,Bool.or_true] at e2'
    simp only [go_sem,seval,hg,hgo,hml,hws,hbd,vZ]
    repeat refine K ?_
    refine qT (i+1) ?_ hl' (by omega)
    rw [e1',e2']
    refine Sub.shape [] id (by omega) ?_ ?_ ?_ ?_<;>simp [qR]
  ·simp only [decide_eq_false_iff_not] at hc
   have he:k.take i=k:=qXi (by omega)
   have hd:k.drop i=[]:=qZ8 (by omega)
   rw [he,hd,qYf] at hR
   simp only [go_sem,seval,he]
   repeat refine K ?_
   refine fz ?_; simp [jD,wN,wP,yA,-qYt]
   all_goals (try rw [hR])
theorem qJw (k o:KV) (hk:k.length<2^40) (ho:o.length=k.length):wJ Try.prog num 327 [.sl .bw 2 (wK k),.sl .bw 2 (wK o)] [] (.tup [.sl .own 2 (wK (jJ k o)),.bool (xB k o)]):=by
 refine EN m327 Try.func49 ?_
 unfold m327
 simp only [go_sem,seval]
 repeat refine K ?_
 refine wM (ι:=Nat) (fun i=>.mk [(0,.sl .bw 2 (wK k)),(1,.sl .bw 2 (wK o)),(6,.ns 11 0 k.length),(7,.bool (xB (k.take i) o)),(8,.int .i64 i)] [(11,2,wK (jJ (k.take i) o++k.drop i))] 12) (fun i=>i≤k.length) (fun i=>k.length-i) 0 (by simp) ?_ ?_
 ·refine Sub.shape [] id (by omega) ?_ ?_ ?_ ?_<;>simp [qR]
  all_goals simp [jJ,xB,wK]
 ·intro i hi
  have hml:=qBd k o i hi
  have e1:=pX k o i
  have e2:=pY k o i
  have hg0:=qGw k o i
  generalize hR:jJ (k.take i) o++k.drop i=R at hml e1 hg0
  simp only [go_sem,seval,hml]
  refine qX (fun hc=>?_) (fun hc=>?_)
  ·simp only [decide_eq_true_eq] at hc
   have hl':i<k.length:=by omega
   have hj:i<o.length:=by omega
   have hg:=jA R i (by omega)
   rw [hg0 hl'] at hg
   have hgk:=jA k i hl'
   have hgo:=jA o i hj
   have e1':=e1 hl' hj
   have e2':=e2 hl' hj
   have hsame:=qK1 R i (by omega)
   rw [hg0 hl'] at hsame
   generalize k.getD i default=a at hg e1' e2' hsame hgk
   generalize o.getD i default=b at hgo e1' e2'
   obtain ⟨ai,av⟩:=a
   obtain ⟨bi,bv⟩:=b
   have hws:=wA (i:=i) (by omega)
   cases ai
   ·have em:zY ⟨false,av⟩ ⟨bi,bv⟩=⟨false,av⟩:=rfl
    have el:fR ⟨false,av⟩ ⟨bi,bv⟩=false:=rfl
    rw [em,hsame] at e1'
    rw [el,qZ7] at e2'
    simp only [go_sem,seval,hg,hgk,hml,hws]
    repeat refine K ?_
    refine qT (i+1) ?_ hl' (by omega)
    rw [e1',e2']
    refine Sub.shape [] id (by omega) ?_ ?_ ?_ ?_<;>simp [qR]
   by_cases hab:bi=true∧av=bv
   ·obtain ⟨rfl,rfl⟩:=hab
    have em:zY ⟨true,av⟩ ⟨true,av⟩=⟨true,av⟩:=by simp [zY]
    have el:fR ⟨true,av⟩ ⟨true,av⟩=false:=by simp [fR]
    rw [em,hsame] at e1'
    rw [el,qZ7] at e2'
    simp only [go_sem,seval,hg,hgk,hgo,hml,hws]
    repeat refine K ?_
    refine qT (i+1) ?_ hl' (by omega)
    rw [e1',e2']
    refine Sub.shape [] id (by omega) ?_ ?_ ?_ ?_<;>simp [qR]
   ·have hor:bi=false∨¬av=bv:=by
     cases bi
     ·exact .inl rfl
     ·exact .inr fun h=>hab ⟨rfl,h⟩
    have em:zY ⟨true,av⟩ ⟨bi,bv⟩=⟨false,0⟩:=by
     unfold zY
     rw [if_pos]
     ·rfl
     ·simpa using hor
    have el:fR ⟨true,av⟩ ⟨bi,bv⟩=true:=by
     unfold fR
     simpa using hor
    have hbd:(true==bi&&decide (av=bv))=false:=by
     rcases hor with h | h<;>simp [h]
    rw [em] at e1'
    rw [el,Bool.or_true] at e2'
    simp only [go_sem,seval,hg,hgk,hgo,hml,hws,hbd,vZ]
    repeat refine K ?_
    refine qT (i+1) ?_ hl' (by omega)
    rw [e1',e2']
    refine Sub.shape [] id (by omega) ?_ ?_ ?_ ?_<;>simp [qR]
  ·simp only [decide_eq_false_iff_not] at hc
   have he:k.take i=k:=qXi (by omega)
   have hd:k.drop i=[]:=qZ8 (by omega)
   rw [he,hd,qYf] at hR
   simp only [go_sem,seval,he]
   repeat refine K ?_
   refine ⟨_,Sub.refl _,tS (by simp) ?_⟩; simp [-qYt]
   rw [hR]
   simp [hml]
end Go.Sep
