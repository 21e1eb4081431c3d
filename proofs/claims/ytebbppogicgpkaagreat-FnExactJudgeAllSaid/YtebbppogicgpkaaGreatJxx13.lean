/- Contracts of functions. -/
import Derived.Test.YtebbppogicgpkaaGreatJxx1
import Derived.Test.YtebbppogicgpkaaGreatJxx11
open Bool renaming not_eq_false → qYo, not_eq_false' → qYm, not_eq_true → qYn, not_eq_true' → qYl
open List renaming drop_one → qYj
namespace Go.Sep
set_option maxHeartbeats 16000000
open Go.Proofs
set_option linter.unusedSimpArgs false
set_option linter.unusedVariables false
set_option maxRecDepth 100000
def m268:MFn:=⟨65,[.t 4],kr [xb 2 0,xF 4] (kr [xI 5 0] (.seq (kr [xa 6 0 2,xl 7 6,xc3 8 59 (.t 7) (xi 5) (xi 7)] (.cond 8 (xr [xo 5 (.mv (.c (.int .i64 (-1))))]) (.skip))) (.seq (.seq (.dreg (.only 0 [] (xa 9 0 2) (.only 1 [] (xl 10 9) (.only 2 [] (xc3 11 59 (.t 10) (xi 1) (xi 13)) (.only 3 [] (xN 12 11) (.only 4 [] (xv 13 12) (.take 5 (xg 14 (.load 5 true (.t 2)) 13 false) (.only 6 [] (xg 15 (.load 5 true (.t 2)) 13 false) (.only 7 [] (xg 16 (.call 310 [false] [.t 15]) 13 false) (.only 8 [5] (xg 17 (.eqS true [true,true,true,true,true] (.t 14) (.t 16)) 13 false) (.only 9 [8,5] (xQ 18 13 17) (.only 10 [9,8,5] (xv 19 18) (.only 11 [10,9,8,5] (za 20 1 2 19) (.only 12 [10,9,8,5] (zl 21 1 20 19) (.only 13 [10,9,8,5] (xg 22 (.call 59 [false,false,false] [.t 21,xi 0,xi 7]) 19 false) (.only 14 [10,9,8,5] (zN 23 22 19) (.only 15 [10,9,8,5] (xQ 24 19 23) (.only 16 [13,10,9,8,5] (xv 25 24) (.take 17 (za 26 2 2 25) (.take 18 (zl 27 1 26 25) (.only 19 [16,13,10,9,8,5] (zv 28 5 25) (.only 20 [16,18,13,17,10,9,8,5] (xg 29 (.call 59 [false,false,false] [.t 27,.t 28,xi 7]) 25 false) (.only 21 [16,20,13,18,10,17,9,8,5] (zN 30 29 25) (.only 22 [16,21,13,20,10,18,9,17,8,5] (xQ 31 25 30) (.only 23 [20,16,18,13,17,10,9,8,5] (xv 32 31) (.only 24 [23,20,16,18,13,17,10,9,8,5] (za 33 3 2 32) (.only 25 [23,20,16,18,13,17,10,9,8,5] (zl 34 1 33 32) (.only 26 [23,20,16,18,13,17,10,9,8,5] (xg 35 (.call 59 [false,false,false] [.t 34,xi 0,xi 7]) 32 false) (.only 27 [23,20,16,18,13,17,10,9,8,5] (zN 36 35 32) (.only 28 [23,20,16,18,13,17,10,9,8,5] (xQ 37 32 36) (.done))))))))))))))))))))))))))))))) (kF 37 [xF 4])) (.seq (kr [xa 38 0 2,xl 39 38] (.blk 0 (kr [bI 41 .eql 39 1,xv 40 41] (.cond 40 (kR [xa 42 4 2,xl 43 42,xc3 44 59 (.t 43) (.c (.int .i64 (-1000000000))) (xi 1000000000),xv 4 44]) (.seq (kr [bI 46 .eql 39 5,xv 45 46] (.cond 45 (.skip) (kr [bI 47 .eql 39 6,xv 45 47] (.cond 45 (.skip) (kr [bI 48 .eql 39 7,xv 45 48] (.cond 45 (.skip) (xr [bI 49 .eql 39 8,xv 45 49]))))))) (.cond 45 (kR [xa 50 4 2,xl 51 50,xc1 52 311 (.t 51),xv 4 52]) (.seq (kr [bI 54 .eql 39 10,xv 53 54] (.cond 53 (.skip) (xr [bI 55 .eql 39 11,xv 53 55]))) (kF 53 [xa 56 4 2,xl 57 56,bI 58 .geq 57 0,xv 59 58,ya 60 4 2 59,yl 61 1 60 59,yv 62 1 59,xg 63 (.bin .lss (.t 61) (.t 62)) 59 true,xP 64 59 63,xv 4 64])))))))) (kR [xT 4])))))⟩
def m301:MFn:=⟨5,[.t 2],kr [xF 2] (kR [xv 3 0,xc3 4 64 (.t 3) (xi 0) (xi 7),xv 2 4])⟩
def m310:MFn:=⟨83,[.cell 2 5 true],kr [xb 1 0,xo 2 (.alloc [xz,xz,xz,xz,xz])] (kr [xa 4 0 1,xl 5 4,xo 6 (.build [xz,xz,xz,xz,xz] [(0,1,.t 5)]),xo 3 (.alloc [xz,xz,xz,xz,xz]),xS 5 3 6] (.seq (kr [xa 7 0 1,xl 8 7] (.blk 0 (kr [bI 10 .eql 8 1,xv 9 10] (.cond 9 (.dreg (.take 0 (xa 11 1 1) (.take 1 (xl 12 11) (.take 2 (xa 13 4 1) (.take 3 (xl 14 13) (.only 4 [0,1] (xa 15 1 3) (.only 5 [0,1] (xS 1 15 12) (.only 6 [0,1,2,3] (xa 16 4 3) (.only 7 [0,1,2,3] (xS 1 16 14) (.done)))))))))) (.seq (kr [bI 18 .eql 8 2,xv 17 18] (.cond 17 (.skip) (kr [bI 19 .eql 8 3,xv 17 19] (.cond 17 (.skip) (xr [bI 20 .eql 8 4,xv 17 20]))))) (.cond 17 (.dreg (.take 0 (xa 21 1 1) (.take 1 (xl 22 21) (.take 2 (xa 23 2 1) (.take 3 (xl 24 23) (.take 4 (xa 25 3 1) (.take 5 (xl 26 25) (.only 6 [0,1] (xa 27 1 3) (.only 7 [0,1] (xS 1 27 22) (.only 8 [0,1,2,3] (xa 28 2 3) (.only 9 [0,1,2,3] (xS 1 28 24) (.only 10 [0,1,2,3,4,5] (xa 29 3 3) (.only 11 [0,1,2,3,4,5] (xS 1 29 26) (.done)))))))))))))) (kr [bI 31 .eql 8 5,xv 30 31] (.cond 30 (.dreg (.take 0 (xa 32 1 1) (.take 1 (xl 33 32) (.take 2 (xa 34 2 1) (.take 3 (xl 35 34) (.take 4 (xa 36 4 1) (.take 5 (xl 37 36) (.only 6 [0,1] (xa 38 1 3) (.only 7 [0,1] (xS 1 38 33) (.only 8 [0,1,2,3] (xa 39 2 3) (.only 9 [0,1,2,3] (xS 1 39 35) (.only 10 [0,1,2,3,4,5] (xa 40 4 3) (.only 11 [0,1,2,3,4,5] (xS 1 40 37) (.done)))))))))))))) (.seq (kr [bI 42 .eql 8 6,xv 41 42] (.cond 41 (.skip) (xr [bI 43 .eql 8 7,xv 41 43]))) (.cond 41 (.dreg (.take 0 (xa 44 2 1) (.take 1 (xl 45 44) (.take 2 (xa 46 3 1) (.take 3 (xl 47 46) (.take 4 (xa 48 4 1) (.take 5 (xl 49 48) (.only 6 [0,1] (xa 50 2 3) (.only 7 [0,1] (xS 1 50 45) (.only 8 [0,1,2,3] (xa 51 3 3) (.only 9 [0,1,2,3] (xS 1 51 47) (.only 10 [0,1,2,3,4,5] (xa 52 4 3) (.only 11 [0,1,2,3,4,5] (xS 1 52 49) (.done)))))))))))))) (kr [bI 54 .eql 8 8,xv 53 54] (.cond 53 (.dreg (.take 0 (xa 55 1 1) (.take 1 (xl 56 55) (.take 2 (xa 57 3 1) (.take 3 (xl 58 57) (.take 4 (xa 59 4 1) (.take 5 (xl 60 59) (.only 6 [0,1] (xa 61 1 3) (.only 7 [0,1] (xS 1 61 56) (.only 8 [0,1,2,3] (xa 62 3 3) (.only 9 [0,1,2,3] (xS 1 62 58) (.only 10 [0,1,2,3,4,5] (xa 63 4 3) (.only 11 [0,1,2,3,4,5] (xS 1 63 60) (.done)))))))))))))) (kr [bI 65 .eql 8 9,xv 64 65] (.cond 64 (xr [xa 66 2 1,xl 67 66,xa 68 2 3,xS 1 68 67]) (kr [bI 70 .eql 8 10,xv 69 70] (.cond 69 (xr [xa 71 4 1,xl 72 71,xa 73 4 3,xS 1 73 72]) (kr [bI 75 .eql 8 11,xv 74 75] (.cond 74 (.dreg (.take 0 (xa 76 2 1) (.take 1 (xl 77 76) (.take 2 (xa 78 4 1) (.take 3 (xl 79 78) (.only 4 [0,1] (xa 80 2 3) (.only 5 [0,1] (xS 1 80 77) (.only 6 [0,1,2,3] (xa 81 4 3) (.only 7 [0,1,2,3] (xS 1 81 79) (.done)))))))))) (.skip))))))))))))))))))) (kR [xm 82 5 3,xS 5 2 82])))⟩
def m311:MFn:=⟨5,[.t 2],kr [xF 2] (kR [xv 3 0,xc3 4 59 (.t 3) (xi 0) (xi 23),xv 2 4])⟩
def yW (x:yH) (pl:Int):Bool :=
 qO x.r 0 7&&qO x.b 0 7&&(qO x.a 0 7||((decide (x.op=5)||decide (x.op=6)||decide (x.op=7))&&decide (x.a=-1))) &&
 (if x.op=1 then qO x.n (-1000000000) 1000000000&&decide (x.a=0)&&decide (x.b=0)
  else if x.op=2∨x.op=3∨x.op=4 then decide (x.n=0)
  else if x.op=5 then qO x.n 0 23&&decide (x.b=0)
  else if x.op=6∨x.op=7 then qO x.n 0 23&&decide (x.r=0)
  else if x.op=8 then qO x.n 0 23&&decide (x.a=0)
  else if x.op=9 then decide (x.r=0)&&decide (x.b=0)&&decide (x.n=0)
  else if x.op=10 then decide (0≤x.n)&&decide (x.n<pl)&&decide (x.r=0)&&decide (x.a=0)&&decide (x.b=0)
  else if x.op=11 then decide (0≤x.n)&&decide (x.n<pl)&&decide (x.r=0)&&decide (x.b=0)
  else if x.op=12∨x.op=13 then decide (x.r=0)&&(decide (x.a=0)&&(decide (x.b=0)&&decide (x.n=0)))
  else false)
def bM (x:yH):yH :=
 if x.op=1 then ⟨x.op,x.r,0,0,x.n⟩
 else if x.op=2∨x.op=3∨x.op=4 then ⟨x.op,x.r,x.a,x.b,0⟩
 else if x.op=5 then ⟨x.op,x.r,x.a,0,x.n⟩
 else if x.op=6∨x.op=7 then ⟨x.op,0,x.a,x.b,x.n⟩
 else if x.op=8 then ⟨x.op,x.r,0,x.b,x.n⟩
 else if x.op=9 then ⟨x.op,0,x.a,0,0⟩
 else if x.op=10 then ⟨x.op,0,0,0,x.n⟩
 else if x.op=11 then ⟨x.op,0,x.a,0,x.n⟩
 else ⟨x.op,0,0,0,0⟩
def xH (x:yH) (pl:Int):Bool :=
 qO x.op 1 13&&(decide (x.op=(bM x).op)&&(decide (x.r=(bM x).r)&&(decide (x.a=(bM x).a)&&(decide (x.b=(bM x).b)&&decide (x.n=(bM x).n))))) &&
 qO x.r 0 7&&qO x.a (if qO x.op 5 7=true then -1 else 0) 7&&qO x.b 0 7 &&
 (if x.op=1 then qO x.n (-1000000000) 1000000000
  else if x.op=5∨x.op=6∨x.op=7∨x.op=8 then qO x.n 0 23
  else if x.op=10∨x.op=11 then decide (0≤x.n)&&decide (x.n<pl)
  else true)
theorem iJ (n:Int):qU Tryz.prog num 311 [.int .i64 n] [] (.bool (qO n 0 23)):=by
 refine EN m311 Tryz.func190 ?_
 unfold m311
 simp only [go_sem,seval]
 refine CA [] (yD n 0 23) ?_
 try simp only [go_sem,seval]
 refine fz ?_; simp [qX,qQ,qR,qL,-qYj]
theorem aU (n:Int):qU Tryz.prog num 301 [.int .i64 n] [] (.bool (qO n 0 7)):=by
 refine EN m301 Tryz.func193 ?_
 unfold m301
 simp only [go_sem,seval]
 refine CA [] (yM n 0 7) ?_
 try simp only [go_sem,seval]
 refine fz ?_; simp [qX,qQ,qR,qL,-qYj]
theorem qBg (x:yH):qU Tryz.prog num 310 [.agg (bU x)] [] (.agg (bU (bM x))):=by
 refine EN m310 Tryz.func189 ?_
 unfold m310
 repeat' (first
  | (simp only [go_sem,seval])
  | (refine qM (fun hc=>?_) (fun hc=>?_)<;>((try simp only [qYl,qYm,ne_eq,qYn,qYo] at hc)<;>(try simp only [hc])))
  | (refine uH (fun hc=>?_) (fun hc=>?_)<;>((try simp only [qYl,qYm,ne_eq,qYn,qYo] at hc)<;>(try simp only [hc])))
  | (refine vP (fun hc=>?_) (fun hc=>?_)<;>((try simp only [qYl,qYm,ne_eq,qYn,qYo] at hc)<;>(try simp only [hc])))
  | (refine ⟨by first | omega | (simp; done),?_⟩)
  | fail)
 all_goals (refine fz ?_; simp [qX,qQ,qR,qL,-qYj])
 all_goals (try (simp_all [bM]; done))
theorem qO4 (x:yH) (pl:Int):xH x pl=yW x pl:=by
 obtain ⟨op,r,a,b,n⟩:=x
 by_cases h:1≤op∧op≤13
 ·obtain rfl | rfl | rfl | rfl | rfl | rfl | rfl | rfl | rfl | rfl | rfl | rfl | rfl:op=1∨op=2∨op=3∨op=4∨op=5∨op=6∨op=7∨op=8∨op=9∨op=10∨op=11∨op=12∨op=13:=by omega
  all_goals (rw [Bool.eq_iff_iff]; simp [xH,yW,bM,iB]; try omega)
 ·have h1 :¬op=1:=by omega
  have h2 :¬op=2:=by omega
  have h3 :¬op=3:=by omega
  have h4 :¬op=4:=by omega
  have h5 :¬op=5:=by omega
  have h6 :¬op=6:=by omega
  have h7 :¬op=7:=by omega
  have h8 :¬op=8:=by omega
  have h9 :¬op=9:=by omega
  have h10 :¬op=10:=by omega
  have h11 :¬op=11:=by omega
  have h12 :¬op=12:=by omega
  have h13 :¬op=13:=by omega
  have hw:qO op 1 13=false:=by rw [iB]; simp; omega
  simp [xH,yW,hw,h1,h2,h3,h4,h5,h6,h7,h8,h9,h10,h11,h12,h13]
theorem qIr (x:yH) (pl:Int):qU Tryz.prog num 268 [.agg (bU x),.int .i64 pl] [] (.bool (yW x pl)):=by
 rw [←qO4]
 refine EN m268 Tryz.func149 ?_
 unfold m268
 simp only [go_sem,seval]
 refine CA [] (yD x.op 5 7) ?_
 try simp only [go_sem,seval]
 cases hm:qO x.op 5 7
 ·try simp only [go_sem,seval,hm]
  refine DA [] (yD x.op 1 13) ?_
  try simp only [go_sem,seval]
  cases h1:qO x.op 1 13
  ·try simp only [go_sem,seval,h1]
   refine fz ?_; simp [qX,qQ,qR,qL,-qYj]
   simp [xH,h1]
  try simp only [go_sem,seval,h1]
  repeat refine K ?_
  refine DA [] (qBg x) ?_
  try simp only [go_sem,seval]
  generalize hE:(decide (x.op=(bM x).op)&&(decide (x.r=(bM x).r)&&(decide (x.a=(bM x).a)&&(decide (x.b=(bM x).b)&&decide (x.n=(bM x).n)))))=E
  cases E
  ·try simp only [go_sem,seval,hE]
   refine fz ?_; simp [qX,qQ,qR,qL,-qYj]
   simp only [xH,hE]
   simp
  try simp only [go_sem,seval,hE]
  refine DA [] (yD x.r 0 7) ?_
  try simp only [go_sem,seval]
  cases hr:qO x.r 0 7
  ·try simp only [go_sem,seval,hr]
   refine fz ?_; simp [qX,qQ,qR,qL,-qYj]
   simp [xH,hr]
  try simp only [go_sem,seval,hr]
  repeat refine K ?_
  refine DA [] (yD x.a (0) 7) ?_
  try simp only [go_sem,seval]
  generalize ha:qO x.a (0) 7=A
  cases A
  ·try simp only [go_sem,seval,ha]
   refine fz ?_; simp [qX,qQ,qR,qL,-qYj]
   simp [xH,hm,ha]
  try simp only [go_sem,seval,ha]
  refine DA [] (yD x.b 0 7) ?_
  try simp only [go_sem,seval]
  cases hb:qO x.b 0 7
  ·try simp only [go_sem,seval,hb]
   refine fz ?_; simp [qX,qQ,qR,qL,-qYj]
   simp [xH,hb]
  try simp only [go_sem,seval,hb]
  have hF:xH x pl=(if x.op=1 then qO x.n (-1000000000) 1000000000
   else if x.op=5∨x.op=6∨x.op=7∨x.op=8 then qO x.n 0 23
   else if x.op=10∨x.op=11 then decide (0≤x.n)&&decide (x.n<pl)
   else true):=by
   unfold xH
   rw [h1,hE,hr,hm,hb]
   simp [ha]
  rw [hF]
  clear hF
  repeat' (first
   | (simp only [go_sem,seval])
   | (refine qM (fun hc=>?_) (fun hc=>?_)<;>((try simp only [qYl,qYm,ne_eq,qYn,qYo] at hc)<;>(try simp only [hc])))
   | (refine uH (fun hc=>?_) (fun hc=>?_)<;>((try simp only [qYl,qYm,ne_eq,qYn,qYo] at hc)<;>(try simp only [hc])))
   | (refine vP (fun hc=>?_) (fun hc=>?_)<;>((try simp only [qYl,qYm,ne_eq,qYn,qYo] at hc)<;>(try simp only [hc])))
   | (refine gY (yD _ _ _) rfl rfl rfl rfl ?_)
   | (refine bH (yD _ _ _) rfl rfl rfl rfl ?_)
   | (refine gY (iJ _) rfl rfl rfl rfl ?_)
   | (refine bH (iJ _) rfl rfl rfl rfl ?_)
   | (refine ⟨by first | omega | (simp; done),?_⟩)
   | fail)
  all_goals (refine fz ?_; simp [qX,qQ,qR,qL,-qYj])
  all_goals (try (simp_all; done))
 ·try simp only [go_sem,seval,hm]
  refine DA [] (yD x.op 1 13) ?_
  try simp only [go_sem,seval]
  cases h1:qO x.op 1 13
  ·try simp only [go_sem,seval,h1]
   refine fz ?_; simp [qX,qQ,qR,qL,-qYj]
   simp [xH,h1]
  try simp only [go_sem,seval,h1]
  repeat refine K ?_
  refine DA [] (qBg x) ?_
  try simp only [go_sem,seval]
  generalize hE:(decide (x.op=(bM x).op)&&(decide (x.r=(bM x).r)&&(decide (x.a=(bM x).a)&&(decide (x.b=(bM x).b)&&decide (x.n=(bM x).n)))))=E
  cases E
  ·try simp only [go_sem,seval,hE]
   refine fz ?_; simp [qX,qQ,qR,qL,-qYj]
   simp only [xH,hE]
   simp
  try simp only [go_sem,seval,hE]
  refine DA [] (yD x.r 0 7) ?_
  try simp only [go_sem,seval]
  cases hr:qO x.r 0 7
  ·try simp only [go_sem,seval,hr]
   refine fz ?_; simp [qX,qQ,qR,qL,-qYj]
   simp [xH,hr]
  try simp only [go_sem,seval,hr]
  repeat refine K ?_
  refine DA [] (yD x.a (-1) 7) ?_
  try simp only [go_sem,seval]
  generalize ha:qO x.a (-1) 7=A
  cases A
  ·try simp only [go_sem,seval,ha]
   refine fz ?_; simp [qX,qQ,qR,qL,-qYj]
   simp [xH,hm,ha]
  try simp only [go_sem,seval,ha]
  refine DA [] (yD x.b 0 7) ?_
  try simp only [go_sem,seval]
  cases hb:qO x.b 0 7
  ·try simp only [go_sem,seval,hb]
   refine fz ?_; simp [qX,qQ,qR,qL,-qYj]
   simp [xH,hb]
  try simp only [go_sem,seval,hb]
  have hF:xH x pl=(if x.op=1 then qO x.n (-1000000000) 1000000000
   else if x.op=5∨x.op=6∨x.op=7∨x.op=8 then qO x.n 0 23
   else if x.op=10∨x.op=11 then decide (0≤x.n)&&decide (x.n<pl)
   else true):=by
   unfold xH
   rw [h1,hE,hr,hm,hb]
   simp [ha]
  rw [hF]
  clear hF
  repeat' (first
   | (simp only [go_sem,seval])
   | (refine qM (fun hc=>?_) (fun hc=>?_)<;>((try simp only [qYl,qYm,ne_eq,qYn,qYo] at hc)<;>(try simp only [hc])))
   | (refine uH (fun hc=>?_) (fun hc=>?_)<;>((try simp only [qYl,qYm,ne_eq,qYn,qYo] at hc)<;>(try simp only [hc])))
   | (refine vP (fun hc=>?_) (fun hc=>?_)<;>((try simp only [qYl,qYm,ne_eq,qYn,qYo] at hc)<;>(try simp only [hc])))
   | (refine gY (yD _ _ _) rfl rfl rfl rfl ?_)
   | (refine bH (yD _ _ _) rfl rfl rfl rfl ?_)
   | (refine gY (iJ _) rfl rfl rfl rfl ?_)
   | (refine bH (iJ _) rfl rfl rfl rfl ?_)
   | (refine ⟨by first | omega | (simp; done),?_⟩)
   | fail)
  all_goals (refine fz ?_; simp [qX,qQ,qR,qL,-qYj])
  all_goals (try (simp_all; done))
end Go.Sep
