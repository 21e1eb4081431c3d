/- Contracts of functions. -/
import Derived.Test.YtfecojefbnnknaaLxx15
open List renaming drop_one → wBe
namespace Go.Sep
set_option maxHeartbeats 16000000
open Go.Proofs
set_option linter.unusedSimpArgs false
set_option linter.unusedVariables false
set_option maxRecDepth 100000
def m217:MFn:=⟨22,[.t 2],kr [xb 1 0,xo 2 (.mv (.c (.nil)))] (.seq (kr [xa 3 0 1,xl 4 3] (.blk 0 (.seq (kr [bI 6 .eql 4 1,xv 5 6] (.cond 5 (.skip) (kr [bI 7 .eql 4 2,xv 5 7] (.cond 5 (.skip) (kr [bI 8 .eql 4 3,xv 5 8] (.cond 5 (.skip) (kr [bI 9 .eql 4 4,xv 5 9] (.cond 5 (.skip) (xr [bI 10 .eql 4 7,xv 5 10]))))))))) (.cond 5 (kR [xa 11 1 1,xl 12 11,xo 13 (.mkSl [xz] 1 [(0,.t 12)]),xv 2 13]) (.seq (kr [bI 15 .eql 4 6,xv 14 15] (.cond 14 (.skip) (xr [bI 16 .eql 4 8,xv 14 16]))) (kF 14 [xa 17 1 1,xl 18 17,xa 19 3 1,xl 20 19,xo 21 (.mkSl [xz] 2 [(0,.t 18),(1,.t 20)]),xv 2 21])))))) (kR [xo 2 (.mv (.c (.nil)))]))⟩
def m344:MFn:=⟨23,[.t 2],kr [xb 1 0,xo 2 (.mv (.c (.nil)))] (.seq (kr [xa 3 0 1,xl 4 3] (.blk 0 (.seq (kr [bI 6 .eql 4 1,xv 5 6] (.cond 5 (.skip) (kr [bI 7 .eql 4 2,xv 5 7] (.cond 5 (.skip) (kr [bI 8 .eql 4 3,xv 5 8] (.cond 5 (.skip) (kr [bI 9 .eql 4 4,xv 5 9] (.cond 5 (.skip) (xr [bI 10 .eql 4 7,xv 5 10]))))))))) (.cond 5 (kR [xa 11 1 1,xl 12 11,xo 13 (.mkSl [xz] 1 [(0,.t 12)]),xv 2 13]) (.seq (kr [bI 15 .eql 4 6,xv 14 15] (.cond 14 (.skip) (xr [bI 16 .eql 4 8,xv 14 16]))) (kF 14 [xa 17 1 1,xl 18 17,xa 19 3 1,xl 20 19,xo 21 (.mkSl [xz] 2 [(0,.t 18),(1,.t 20)]),xv 2 21])))))) (kR [xo 22 (.mkSl [xz] 0 []),xv 2 22]))⟩
theorem qMa (x:Ins):wD Try.prog num 217 [.agg (gB x)] [] (.sl .own 1 (wC (uM x))):=by
 refine EN m217 Try.func36 ?_
 unfold m217
 by_cases h1:x.op=1
 ·simp only [go_sem,seval,h1]
  repeat refine K ?_
  refine ⟨_,Sub.refl _,qZ ?_⟩; simp [-wBe]
  all_goals simp [uM,h1,wC]
 by_cases h2:x.op=2
 ·simp only [go_sem,seval,h1,h2]
  repeat refine K ?_
  refine ⟨_,Sub.refl _,qZ ?_⟩; simp [-wBe]
  all_goals simp [uM,h2,wC]
 by_cases h3:x.op=3
 ·simp only [go_sem,seval,h1,h2,h3]
  repeat refine K ?_
  refine ⟨_,Sub.refl _,qZ ?_⟩; simp [-wBe]
  all_goals simp [uM,h3,wC]
 by_cases h4:x.op=4
 ·simp only [go_sem,seval,h1,h2,h3,h4]
  repeat refine K ?_
  refine ⟨_,Sub.refl _,qZ ?_⟩; simp [-wBe]
  all_goals simp [uM,h4,wC]
 by_cases h7:x.op=7
 ·simp only [go_sem,seval,h1,h2,h3,h4,h7]
  repeat refine K ?_
  refine ⟨_,Sub.refl _,qZ ?_⟩; simp [-wBe]
  all_goals simp [uM,h7,wC]
 by_cases h6:x.op=6
 ·simp only [go_sem,seval,h1,h2,h3,h4,h7,h6]
  repeat refine K ?_
  refine ⟨_,Sub.refl _,qZ ?_⟩; simp [-wBe]
  all_goals simp [uM,h6,wC]
 by_cases h8:x.op=8
 ·simp only [go_sem,seval,h1,h2,h3,h4,h7,h6,h8]
  repeat refine K ?_
  refine ⟨_,Sub.refl _,qZ ?_⟩; simp [-wBe]
  all_goals simp [uM,h8,wC]
 simp only [go_sem,seval,h1,h2,h3,h4,h7,h6,h8]
 repeat refine K ?_
 refine ⟨_,Sub.refl _,qZ ?_⟩; simp [-wBe]
 all_goals simp [uM,h1,h2,h3,h4,h7,h6,h8,wC]
theorem qKy (x:Ins):wD Try.prog num 344 [.agg (gB x)] [] (.sl .own 1 (wC (uM x))):=by
 refine EN m344 Try.func72 ?_
 unfold m344
 by_cases h1:x.op=1
 ·simp only [go_sem,seval,h1]
  repeat refine K ?_
  refine ⟨_,Sub.refl _,qZ ?_⟩; simp [-wBe]
  all_goals simp [uM,h1,wC]
 by_cases h2:x.op=2
 ·simp only [go_sem,seval,h1,h2]
  repeat refine K ?_
  refine ⟨_,Sub.refl _,qZ ?_⟩; simp [-wBe]
  all_goals simp [uM,h2,wC]
 by_cases h3:x.op=3
 ·simp only [go_sem,seval,h1,h2,h3]
  repeat refine K ?_
  refine ⟨_,Sub.refl _,qZ ?_⟩; simp [-wBe]
  all_goals simp [uM,h3,wC]
 by_cases h4:x.op=4
 ·simp only [go_sem,seval,h1,h2,h3,h4]
  repeat refine K ?_
  refine ⟨_,Sub.refl _,qZ ?_⟩; simp [-wBe]
  all_goals simp [uM,h4,wC]
 by_cases h7:x.op=7
 ·simp only [go_sem,seval,h1,h2,h3,h4,h7]
  repeat refine K ?_
  refine ⟨_,Sub.refl _,qZ ?_⟩; simp [-wBe]
  all_goals simp [uM,h7,wC]
 by_cases h6:x.op=6
 ·simp only [go_sem,seval,h1,h2,h3,h4,h7,h6]
  repeat refine K ?_
  refine ⟨_,Sub.refl _,qZ ?_⟩; simp [-wBe]
  all_goals simp [uM,h6,wC]
 by_cases h8:x.op=8
 ·simp only [go_sem,seval,h1,h2,h3,h4,h7,h6,h8]
  repeat refine K ?_
  refine ⟨_,Sub.refl _,qZ ?_⟩; simp [-wBe]
  all_goals simp [uM,h8,wC]
 simp only [go_sem,seval,h1,h2,h3,h4,h7,h6,h8]
 repeat refine K ?_
 refine ⟨_,Sub.refl _,qZ ?_⟩; simp [-wBe]
 all_goals simp [uM,h1,h2,h3,h4,h7,h6,h8,wC]
theorem qL4 (x:Ins):(uM x).length≤2:=by
 unfold uM
 repeat' split
 all_goals simp
def m326:MFn:=⟨57,[.t 4],kr [xo 4 (.mv (.c (.nil)))] (.seq (kr [xv 6 0,xc2 7 82 (.t 6) (xi 3),xN 8 7,xv 9 8,zv 10 1 9,zv 11 0 9,ze 12 11 9,zI 13 .sub 12 1 9,xg 14 (.call 64 [false,false,false] [.t 10,xi 0,.t 13]) 9 false,zN 15 14 9,xQ 16 9 15] (kF 16 [xo 17 (.mkSl [xz] 0 []),xv 4 17])) (kr [xv 18 0,xv 19 1,xD 20 5 18 19,xm 21 5 20,xo 5 (.alloc [xz,xz,xz,xz,xz]),xS 5 5 21] (.seq (kr [xa 22 0 5,xl 23 22] (.blk 0 (kr [bI 25 .eql 23 13,xv 24 25] (.cond 24 (kR [xo 26 (.mkSl [xz] 0 []),xv 4 26]) (kr [bI 28 .eql 23 11,xv 27 28] (.cond 27 (kR [xa 29 4 5,xl 30 29,xo 31 (.mkSl [xz] 1 [(0,.t 30)]),xv 4 31]) (kr [bI 33 .eql 23 12,xv 32 33] (.cond 32 (.seq (kr [xa 34 4 5,xl 35 34,xv 36 1,bI 37 .add 36 1,bT 38 .lss 35 37] (kF 38 [xa 39 4 5,xl 40 39,xv 41 1,bI 42 .add 41 1,xo 43 (.mkSl [xz] 2 [(0,.t 40),(1,.t 42)]),xv 4 43])) (kr [xa 44 4 5,xl 45 44,xv 46 1,bI 47 .add 46 1,bT 48 .gtr 45 47] (kF 48 [xv 49 1,bI 50 .add 49 1,xa 51 4 5,xl 52 51,xo 53 (.mkSl [xz] 2 [(0,.t 50),(1,.t 52)]),xv 4 53]))) (.skip))))))))) (kR [xv 54 1,bI 55 .add 54 1,xo 56 (.mkSl [xz] 1 [(0,.t 55)]),xv 4 56]))))⟩
theorem qG6 (l:List Ins) (a:Nat) (hb:wJ l 3=true) (ha:a<l.length):wD Try.prog num 326 [.sl .bw 5 (vR l),.int .i64 a] [] (.sl .own 1 (wC (jA l a))):=by
 obtain ⟨hl1,hl2⟩:=kA hb
 have hg:=bY l a ha
 have hw:qV (a:Int) 0 ((l.length:Int)-1)=true:=by rw [qK]; omega
 have hw1:IntKind.i64.wrap ((a:Int)+1)=(a:Int)+1:=yG (by omega) (by omega)
 have hw2:IntKind.i64.wrap ((l.length:Int)-1)=(l.length:Int)-1:=yG (by omega) (by omega)
 refine EN m326 Try.func69 ?_
 unfold m326
 simp only [go_sem,seval]
 repeat refine K ?_
 refine CA [] (pB l 3 (by omega) (by omega) (by omega)) ?_
 try simp only [go_sem,seval]
 repeat refine K ?_
 try simp only [go_sem,seval,hb,hw2]
 repeat refine K ?_
 refine CA [] (sT (a:Int) 0 ((l.length:Int)-1)) ?_
 try simp only [go_sem,seval]
 repeat refine K ?_
 try simp only [go_sem,seval,hw,hg]
 repeat refine K ?_
 unfold jA
 generalize l.getD a default=x at hg
 simp only
 by_cases h13:x.op=13
 ·try simp only [go_sem,seval,h13]
  repeat refine K ?_
  refine ⟨_,Sub.refl _,qZ ?_⟩; simp [-wBe]
  all_goals (try simp [h13,wC])
 by_cases h11:x.op=11
 ·try simp only [go_sem,seval,h13,h11]
  repeat refine K ?_
  refine ⟨_,Sub.refl _,qZ ?_⟩; simp [-wBe]
  all_goals (try simp [h13,h11,wC])
 by_cases h12:x.op=12
 ·by_cases h1:x.n<(a:Int)+1
  ·try simp only [go_sem,seval,h13,h11,h12,hw1,h1]
   repeat refine K ?_
   refine ⟨_,Sub.refl _,qZ ?_⟩; simp [-wBe]
   all_goals (try simp [h13,h11,h12,h1,wC])
  ·by_cases h2:(a:Int)+1<x.n
   ·try simp only [go_sem,seval,h13,h11,h12,hw1,h1,h2]
    repeat refine K ?_
    refine ⟨_,Sub.refl _,qZ ?_⟩; simp [-wBe]
    all_goals (try simp [h13,h11,h12,h1,h2,wC])
   ·try simp only [go_sem,seval,h13,h11,h12,hw1,h1,h2]
    repeat refine K ?_
    refine ⟨_,Sub.refl _,qZ ?_⟩; simp [-wBe]
    all_goals (try simp [h13,h11,h12,h1,h2,wC])
 try simp only [go_sem,seval,h13,h11,h12,hw1]
 repeat refine K ?_
 refine ⟨_,Sub.refl _,qZ ?_⟩; simp [-wBe]
 all_goals (try simp [h13,h11,h12,wC])
theorem qR5 {α:Type} (l:List α) (i:Nat) (d:α) (h:i<l.length):l.set i (l.getD i d)=l:=by
 rw [List.getD_eq_getElem?_getD,List.getElem?_eq_getElem h,Option.getD_some,List.set_getElem_self]
end Go.Sep
