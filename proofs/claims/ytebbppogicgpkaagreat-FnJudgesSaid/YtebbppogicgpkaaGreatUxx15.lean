/- Contracts of functions. -/
import Derived.Test.YtebbppogicgpkaaGreatUxx11
import Derived.Test.YtebbppogicgpkaaGreatUxx8
open Bool renaming and_eq_true → qXo
open List renaming all_eq_true → qZi, drop_one → qZ8, getD_eq_getElem?_getD → qXq
namespace Go.Sep
set_option maxHeartbeats 16000000
open Go.Proofs
set_option linter.unusedSimpArgs false
set_option linter.unusedVariables false
set_option maxRecDepth 100000
def m202:MFn:=⟨26,[.t 2],kr [xF 2] (.seq (kr [xI 3 0] (.blk 0 (.loop (.seq (kr [xv 4 3,xv 5 0,xe 6 5,bT 7 .lss 4 6] (kX 7 0)) (.seq (.blk 1 (kr [xv 10 0,xv 11 3,xD 12 1 10 11,xl 13 12,xc3 14 64 (.t 13) (xi 1) (xi 4),xN 15 14] (kF 15 [xF 2]))) (xr [xv 8 3,bI 9 .add 8 1,xv 3 9])))))) (kR [xv 16 0,xe 17 16,bI 18 .leq 17 24,xv 19 18,yv 20 0 19,yv 21 0 19,ye 22 21 19,xg 23 (.call 251 [false,false] [.t 20,.t 22]) 19 true,yI 24 .leq 23 24 19,xP 25 19 24,xv 2 25]))⟩
def m206:MFn:=⟨42,[.t 4],kr [xI 4 0] (.seq (kr [xv 9 1,xv 10 0,xe 11 10,bI 12 .sub 11 1,xc3 13 59 (.t 9) (xi 0) (.t 12),xN 14 13,xv 15 14,zv 16 0 15,xg 17 (.call 68 [false] [.t 16]) 15 false,zN 18 17 15,xQ 19 15 18] (kF 19 [xo 4 (.mv (.c (.int .i64 (-1))))])) (kr [xI 5 0,xI 6 0] (.seq (kr [xv 20 0,xe 21 20,xI 22 0] (.blk 0 (.loop (kr [bT 23 .lss 22 21] (.seq (kX 23 0) (.seq (.blk 1 (kr [xv 24 22,xD 25 1 20 22,xl 26 25,xv 7 24,xv 8 26] (.seq (kr [xv 27 7,xv 28 1,bT 29 .lss 27 28] (.cond 29 (xr [xv 30 5,xv 31 8,bI 32 .add 31 4,bT 33 .add 30 32,xv 5 33]) (.skip))) (xr [xv 34 6,xv 35 8,bI 36 .add 35 4,bT 37 .add 34 36,xv 6 37])))) (xr [bI 38 .add 22 1,xv 22 38]))))))) (.seq (kr [xv 39 6,bI 40 .gtr 39 24] (kF 40 [xo 4 (.mv (.c (.int .i64 (-1))))])) (kR [xv 41 5,xv 4 41])))))⟩
def m207:MFn:=⟨24,[.t 2],kr [xo 2 (.mv (.c (.nil)))] (kr [xo 7 (.mkSl [xz] 0 []),xv 3 7] (kr [xI 4 0] (.seq (kr [xv 8 0,xe 9 8,xI 10 0] (.blk 0 (.loop (kr [bT 11 .lss 10 9] (.seq (kX 11 0) (.seq (.blk 1 (kr [xD 12 5 8 10,xm 13 5 12,xo 6 (.alloc [xz,xz,xz,xz,xz]),xS 5 6 13] (kr [xv 14 3,xv 15 4,xo 16 (.mkSl [xz] 1 [(0,.t 15)]),xA 17 1 8 14 16,xv 3 17] (xr [xv 18 4,xm 19 5 6,xc1 20 262 (.t 19),bT 21 .add 18 20,xv 4 21])))) (xr [bI 22 .add 10 1,xv 10 22]))))))) (kR [xv 23 3,xv 2 23]))))⟩
def m224:MFn:=⟨59,[.t 6,.t 7],kr [xb 3 0,xI 6 0,xF 7] (.seq (kr [xm 11 2 3,xc1 12 62 (.t 11),xN 13 12,xv 14 13,zv 15 1 14,za 16 1 3 14,zl 17 1 16 14,ze 18 17 14,zI 19 .sub 18 1 14,xg 20 (.call 64 [false,false,false] [.t 15,xi 0,.t 19]) 14 false,zN 21 20 14,xQ 22 14 21] (kF 22 [xo 6 (.mv (.c (.int .i64 (-1)))),xF 7])) (kr [xa 23 1 3,xl 24 23,xv 25 1,xD 26 1 24 25,xl 27 26,xc1 28 252 (.t 27),xv 8 28] (kr [xv 29 8,xe 30 29,bI 31 .sub 30 1,xv 9 31] (.seq (kr [xv 32 2,xv 33 8,xv 34 9,xD 35 1 33 34,xl 36 35,bI 37 .sub 36 1,xc3 38 64 (.t 32) (xi 0) (.t 37),xN 39 38] (kF 39 [xo 6 (.mv (.c (.int .i64 (-1)))),xF 7])) (.seq (kr [xI 10 0] (.blk 0 (.loop (.seq (kr [xv 40 10,xv 41 9,bT 42 .lss 40 41] (kX 42 0)) (.seq (.blk 1 (kr [xv 45 2,xv 46 8,xv 47 10,bI 48 .add 47 1,xD 49 1 46 48,xl 50 49,bT 51 .lss 45 50] (.cond 51 (.seq (.dreg (.take 0 (xv 52 10) (.take 1 (xv 53 2) (.take 2 (xv 54 8) (.take 3 (xv 55 10) (.take 4 (xD 56 1 54 55) (.take 5 (xl 57 56) (.take 6 (bT 58 .eql 53 57) (.only 7 [0] (xv 6 52) (.only 8 [0,1,2,3,4,5,6] (xv 7 58) (.done))))))))))) (.ret)) (.skip)))) (xr [xv 43 10,bI 44 .add 43 1,xv 10 44])))))) (kR [xo 6 (.mv (.c (.int .i64 (-1)))),xF 7]))))))⟩
def m230:MFn:=⟨29,[.t 6,.t 7],kr [xb 3 0,xI 6 0,xF 7] (.seq (kr [xm 8 2 3,xc1 9 48 (.t 8),xN 10 9,xv 11 10,zv 12 1 11,za 13 1 3 11,zl 14 1 13 11,ze 15 14 11,zI 16 .sub 15 1 11,xg 17 (.call 59 [false,false,false] [.t 12,xi 0,.t 16]) 11 false,zN 18 17 11,xQ 19 11 18] (kF 19 [xo 6 (.mv (.c (.int .i64 (-1)))),xF 7])) (kR [xa 20 1 3,xl 21 20,xv 22 1,xD 23 1 21 22,xl 24 23,xv 25 2,xc2 26 280 (.t 24) (.t 25),xX 27 26 0,xX 28 26 1,xv 6 27,xv 7 28]))⟩
def m251:MFn:=⟨20,[.t 4],kr [xI 4 0] (kr [xI 5 0] (.seq (kr [xI 6 0] (.blk 0 (.loop (.seq (kr [xv 7 6,xv 8 1,bT 9 .lss 7 8] (kX 9 0)) (.seq (.blk 1 (xr [xv 12 5,xv 13 0,xv 14 6,xD 15 1 13 14,xl 16 15,bT 17 .add 12 16,bI 18 .add 17 4,xv 5 18])) (xr [xv 10 6,bI 11 .add 10 1,xv 6 11])))))) (kR [xv 19 5,xv 4 19])))⟩
def m252:MFn:=⟨26,[.t 2],kr [xo 2 (.mv (.c (.nil)))] (kr [xo 5 (.mkSl [xz] 1 [(0,xi 0)]),xv 3 5] (.seq (kr [xI 4 0] (.blk 0 (.loop (.seq (kr [xv 6 4,xv 7 0,xe 8 7,bT 9 .lss 6 8] (kX 9 0)) (.seq (.blk 1 (.dreg (.take 0 (xv 12 3) (.take 1 (xv 13 3) (.take 2 (xv 14 4) (.take 5 (xv 17 0) (.take 6 (xv 18 4) (.both 3 [1,2] (xD 15 1 13 14) (.both 4 [3,1,2] (xl 16 15) (.only 7 [5,6] (xD 19 5 17 18) (.only 8 [7,5,6] (xm 20 5 19) (.only 9 [8,7,5,6] (xc1 21 285 (.t 20)) (.only 10 [4,9,3,8,1,2,7,5,6] (bT 22 .add 16 21) (.only 11 [10,4,9,3,8,1,2,7,5,6] (xo 23 (.mkSl [xz] 1 [(0,.t 22)])) (.only 12 [0,9,11,8,10,7,4,5,6,3,1,2] (xA 24 1 8 12 23) (.only 13 [0,1,2,5,6] (xv 3 24) (.done)))))))) 7 [5,6] (xD 19 5 17 18) (.both 4 [3,1,2] (xl 16 15) (.only 8 [7,5,6] (xm 20 5 19) (.only 9 [8,7,5,6] (xc1 21 285 (.t 20)) (.only 10 [4,9,3,8,1,2,7,5,6] (bT 22 .add 16 21) (.only 11 [10,4,9,3,8,1,2,7,5,6] (xo 23 (.mkSl [xz] 1 [(0,.t 22)])) (.only 12 [0,9,11,8,10,7,4,5,6,3,1,2] (xA 24 1 8 12 23) (.only 13 [0,1,2,5,6] (xv 3 24) (.done))))))) 8 [7,5,6] (xm 20 5 19) (.both 4 [3,1,2] (xl 16 15) (.only 9 [8,7,5,6] (xc1 21 285 (.t 20)) (.only 10 [4,9,3,8,1,2,7,5,6] (bT 22 .add 16 21) (.only 11 [10,4,9,3,8,1,2,7,5,6] (xo 23 (.mkSl [xz] 1 [(0,.t 22)])) (.only 12 [0,9,11,8,10,7,4,5,6,3,1,2] (xA 24 1 8 12 23) (.only 13 [0,1,2,5,6] (xv 3 24) (.done)))))) 9 [8,7,5,6] (xc1 21 285 (.t 20)) (.only 4 [3,1,2] (xl 16 15) (.only 10 [4,9,3,8,1,2,7,5,6] (bT 22 .add 16 21) (.only 11 [10,4,9,3,8,1,2,7,5,6] (xo 23 (.mkSl [xz] 1 [(0,.t 22)])) (.only 12 [0,9,11,8,10,7,4,5,6,3,1,2] (xA 24 1 8 12 23) (.only 13 [0,1,2,5,6] (xv 3 24) (.done))))))))) 7 [5,6] (xD 19 5 17 18) (.both 3 [1,2] (xD 15 1 13 14) (.both 4 [3,1,2] (xl 16 15) (.only 8 [7,5,6] (xm 20 5 19) (.only 9 [8,7,5,6] (xc1 21 285 (.t 20)) (.only 10 [4,9,3,8,1,2,7,5,6] (bT 22 .add 16 21) (.only 11 [10,4,9,3,8,1,2,7,5,6] (xo 23 (.mkSl [xz] 1 [(0,.t 22)])) (.only 12 [0,9,11,8,10,7,4,5,6,3,1,2] (xA 24 1 8 12 23) (.only 13 [0,1,2,5,6] (xv 3 24) (.done))))))) 8 [7,5,6] (xm 20 5 19) (.both 4 [3,1,2] (xl 16 15) (.only 9 [8,7,5,6] (xc1 21 285 (.t 20)) (.only 10 [4,9,3,8,1,2,7,5,6] (bT 22 .add 16 21) (.only 11 [10,4,9,3,8,1,2,7,5,6] (xo 23 (.mkSl [xz] 1 [(0,.t 22)])) (.only 12 [0,9,11,8,10,7,4,5,6,3,1,2] (xA 24 1 8 12 23) (.only 13 [0,1,2,5,6] (xv 3 24) (.done)))))) 9 [8,7,5,6] (xc1 21 285 (.t 20)) (.only 4 [3,1,2] (xl 16 15) (.only 10 [4,9,3,8,1,2,7,5,6] (bT 22 .add 16 21) (.only 11 [10,4,9,3,8,1,2,7,5,6] (xo 23 (.mkSl [xz] 1 [(0,.t 22)])) (.only 12 [0,9,11,8,10,7,4,5,6,3,1,2] (xA 24 1 8 12 23) (.only 13 [0,1,2,5,6] (xv 3 24) (.done)))))))) 8 [7,5,6] (xm 20 5 19) (.both 3 [1,2] (xD 15 1 13 14) (.both 4 [3,1,2] (xl 16 15) (.only 9 [8,7,5,6] (xc1 21 285 (.t 20)) (.only 10 [4,9,3,8,1,2,7,5,6] (bT 22 .add 16 21) (.only 11 [10,4,9,3,8,1,2,7,5,6] (xo 23 (.mkSl [xz] 1 [(0,.t 22)])) (.only 12 [0,9,11,8,10,7,4,5,6,3,1,2] (xA 24 1 8 12 23) (.only 13 [0,1,2,5,6] (xv 3 24) (.done)))))) 9 [8,7,5,6] (xc1 21 285 (.t 20)) (.only 4 [3,1,2] (xl 16 15) (.only 10 [4,9,3,8,1,2,7,5,6] (bT 22 .add 16 21) (.only 11 [10,4,9,3,8,1,2,7,5,6] (xo 23 (.mkSl [xz] 1 [(0,.t 22)])) (.only 12 [0,9,11,8,10,7,4,5,6,3,1,2] (xA 24 1 8 12 23) (.only 13 [0,1,2,5,6] (xv 3 24) (.done))))))) 9 [8,7,5,6] (xc1 21 285 (.t 20)) (.only 3 [1,2] (xD 15 1 13 14) (.only 4 [3,1,2] (xl 16 15) (.only 10 [4,9,3,8,1,2,7,5,6] (bT 22 .add 16 21) (.only 11 [10,4,9,3,8,1,2,7,5,6] (xo 23 (.mkSl [xz] 1 [(0,.t 22)])) (.only 12 [0,9,11,8,10,7,4,5,6,3,1,2] (xA 24 1 8 12 23) (.only 13 [0,1,2,5,6] (xv 3 24) (.done))))))))))))))))) (xr [xv 10 4,bI 11 .add 10 1,xv 4 11])))))) (kR [xv 25 3,xv 2 25])))⟩
def m257:MFn:=⟨19,[.t 4],kr [xI 4 0] (.seq (kr [xv 5 0,xc1 6 202 (.t 5),xN 7 6,xv 8 7,zv 9 1 8,zv 10 0 8,ze 11 10 8,zI 12 .sub 11 1 8,xg 13 (.call 64 [false,false,false] [.t 9,xi 0,.t 12]) 8 false,zN 14 13 8,xQ 15 8 14] (kF 15 [xo 4 (.mv (.c (.int .i64 (-1))))])) (kR [xv 16 0,xv 17 1,xc2 18 251 (.t 16) (.t 17),xv 4 18]))⟩
def m280:MFn:=⟨32,[.t 4,.t 5],kr [xI 4 0,xF 5] (.seq (kr [xv 8 0,xc1 9 207 (.t 8),xe 10 9,xI 11 0] (.blk 0 (.loop (kr [bT 12 .lss 11 10] (.seq (kX 12 0) (.seq (.blk 1 (kr [xv 13 11,xD 14 1 9 11,xl 15 14,xv 6 13,xv 7 15] (kr [xv 16 1,xv 17 7,xv 18 7,xv 19 0,xv 20 6,xD 21 5 19 20,xm 22 5 21,xc1 23 262 (.t 22),bT 24 .add 18 23,bI 25 .sub 24 1,xc3 26 59 (.t 16) (.t 17) (.t 25)] (kF 26 [xv 27 6,xv 28 1,xv 29 7,bT 30 .eql 28 29,xv 4 27,xv 5 30])))) (xr [bI 31 .add 11 1,xv 11 31]))))))) (kR [xo 4 (.mv (.c (.int .i64 (-1)))),xF 5]))⟩
theorem qHz (l:List Int) (a:Int):wS l++[[.int .i64 a]]=wS (l++[a]):=by simp [wS]
def aJ:List Int→Int
 | []=>0
 | c::l=>c+4+aJ l
theorem qGk :∀(a b:List Int),aJ (a++b)=aJ a+aJ b
 | [],b=>by simp [aJ]
 | x::a,b=>by simp only [List.cons_append,aJ,qGk a b]; omega
theorem tY (l:List Int) (i:Nat) (h:i<l.length):aJ (l.take (i+1))=aJ (l.take i)+(l.getD i 0)+4:=by
 rw [uZ l 0 i h,qGk]
 simp only [aJ]
 omega
theorem rS :∀{l:List Int},xH l=true→5*(l.length:Int)≤aJ l∧aJ l≤8*l.length
 | [],_=>by simp [aJ]
 | c::l,h=>by
  unfold xH at h
  rw [List.all_cons,qXo] at h
  have ih:=rS (l:=l) h.2
  have:=qO.1 h.1
  simp only [aJ,List.length_cons]
  omega
theorem qOu {l:List Int} (h:xH l=true) (i:Nat):xH (l.take i)=true:=by
 unfold xH at *
 rw [qZi] at *
 exact fun x hx=>h x (List.mem_of_mem_take hx)
theorem xM {l:List Int} (h:xH l=true) (i:Nat):0≤aJ (l.take i)∧aJ (l.take i)≤aJ l∧aJ (l.take i)≤8*l.length:=by
 have h1:=rS (qOu h i)
 have h2:xH (l.drop i)=true:=by
  unfold xH at *
  rw [qZi] at *
  exact fun x hx=>h x (List.mem_of_mem_drop hx)
 have h3:=rS h2
 have e:aJ l=aJ (l.take i)+aJ (l.drop i):=by rw [←qGk,List.take_append_drop]
 have h4:(l.take i).length≤l.length:=by simp; omega
 omega
def bW (caps:List Int):Bool:=xH caps&&decide (aJ caps≤24)
def base (caps:List Int) (n:Int):Int:=if qL n 0 (caps.length-1)&&bW caps then aJ (caps.take n.toNat) else -1
theorem aZ {caps:List Int} {n:Int} (h :¬base caps n<0):0≤n∧n.toNat<caps.length∧bW caps=true∧0≤base caps n∧base caps n+caps.getD n.toNat 0+4≤24∧qL (caps.getD n.toNat 0) 1 4=true:=by
 unfold base at *
 split at h
 ·rename_i hc
  rw [if_pos hc]
  simp only [qXo,qO] at hc
  have hn:n.toNat<caps.length:=by omega
  have hl:=hc.2
  unfold bW at hl
  simp only [qXo,decide_eq_true_eq] at hl
  have h1:=xM hl.1 n.toNat
  have h2:=xM hl.1 (n.toNat+1)
  have h3:=tY caps n.toNat hn
  refine ⟨by omega,hn,hc.2,by omega,by omega,?_⟩
  have:=hl.1
  unfold xH at this
  rw [qZi] at this
  exact this _ (yB caps n.toNat 0 hn)
 ·simp at h
def szB:List Ins→Int
 | []=>0
 | x::l=>wJ x+szB l
theorem qR2 :∀(a b:List Ins),szB (a++b)=szB a+szB b
 | [],b=>by simp [szB]
 | x::a,b=>by simp only [List.cons_append,szB,qR2 a b]; omega
theorem fX (l:List Ins) (i:Nat) (h:i<l.length):szB (l.take (i+1))=szB (l.take i)+wJ (l.getD i default):=by
 rw [uZ l default i h,qR2]
 simp [szB]
theorem tL (x:Ins):0≤wJ x∧wJ x≤32:=by
 unfold wJ uM
 repeat' split
 all_goals omega
theorem qDj :∀(l:List Ins),0≤szB l∧szB l≤32*l.length
 | []=>by simp [szB]
 | x::l=>by
  have:=qDj l
  have:=tL x
  simp only [szB,List.length_cons]
  omega
theorem dZ (l:List Ins) (i:Nat):0≤szB (l.take i)∧szB (l.take i)≤32*l.length:=by
 have h1:=qDj (l.take i)
 have h4:(l.take i).length≤l.length:=by simp; omega
 omega
def bH (b:List Ins) (n:Nat):List Int:=(List.range n).map fun i=>szB (b.take i)
theorem jS (b:List Ins) (n:Nat):(bH b n).length=n:=by simp [bH]
theorem qC6 (b:List Ins) (n:Nat):bH b (n+1)=bH b n++[szB (b.take n)]:=by simp [bH,List.range_succ]
theorem xR (b:List Ins) (n i:Nat) (h:i<n):(bH b n).getD i 0=szB (b.take i):=by simp [bH,List.getD_eq_getElem?_getD,h]
theorem qLq (b:List Ins) (n m:Nat) (h:m≤n):(bH b n).take m=bH b m:=by
 apply List.ext_getElem (by simp [bH]; omega)
 intro i h1 h2
 simp [bH]
def yZ (b:List Ins):List Int:=bH b b.length
def single (x:Ins) (starts:List Int):yK :=
 if x.op=1 then ⟨1,x.r,0,0,x.n⟩ else if x.op=2 then ⟨2,x.r,x.a,x.b,0⟩ else if x.op=3 then ⟨3,x.r,x.a,x.b,0⟩ else if x.op=4 then ⟨4,x.r,x.a,x.b,0⟩
 else if x.op=10 then ⟨9,0,x.a,0,0⟩ else if x.op=11 then ⟨10,0,0,0,starts.getD x.n.toNat 0⟩ else if x.op=12 then ⟨11,0,x.a,0,starts.getD x.n.toNat 0⟩ else ⟨12,0,0,0,0⟩
def hY (caps:List Int) (x:Ins) (f:Int) (starts:List Int):List yK :=
 if zD x starts.length caps.length then
  if qL x.op 5 9 then
   if base caps x.n<0 then []
   else gE f (base caps x.n)++(if x.op=5∨x.op=7 then cK f (base caps x.n) (caps.getD x.n.toNat 0) x else if x.op=6∨x.op=8 then cJ f (base caps x.n) (caps.getD x.n.toNat 0) x else cA f (base caps x.n))
  else [single x starts]
 else []
theorem qI8 (caps:List Int) (x:Ins) (f:Int) (starts:List Int):(hY caps x f starts).length≤40:=by
 unfold hY
 repeat' split
 all_goals simp [gE,cK,cJ,cA,eT,eO]
 all_goals (try split)
 all_goals simp
def gS (caps:List Int) (b:List Ins):Nat→List yK
 | 0=>[]
 | i+1=>gS caps b i++hY caps (b.getD i default) (szB (b.take i)) (yZ b)
def comp (caps:List Int) (b:List Ins):List yK:=gS caps b b.length
theorem qL1 (caps:List Int) (b:List Ins) :∀i,(gS caps b i).length≤40*i
 | 0=>by simp [gS]
 | i+1=>by
  have:=qL1 caps b i
  have:=qI8 caps (b.getD i default) (szB (b.take i)) (yZ b)
  simp only [gS,List.length_append]
  omega
theorem fM {p:wV} (h:jX p=true):xH p.caps=true∧p.caps.length≤3∧p.bods.length≤4∧1≤p.bods.length∧∀b∈p.bods,uI b p.caps.length=true:=by
 unfold jX at h
 simp only [qXo,qO,decide_eq_true_eq,qZi] at h
 exact ⟨h.1.2,by omega,by omega,by omega,h.1.1.1⟩
theorem qT8 {p:wV} (h:jX p=true):(decide (0<(p.caps.length:Int))&&decide (base p.caps 0<0))=!bW p.caps:=by
 have hc:=(fM h).1
 cases hl:bW p.caps with
 | false =>
  have hlen:0<p.caps.length:=by
   apply Nat.pos_of_ne_zero
   intro e
   have e':p.caps=[]:=List.eq_nil_of_length_eq_zero e
   unfold bW at hl
   rw [hc,e'] at hl
   simp [aJ] at hl
  have hb:base p.caps 0=-1:=by unfold base; rw [hl,Bool.and_false]; rfl
  rw [hb]
  simp
  omega
 | true =>
  by_cases hlen:0<p.caps.length
  ·have hb:base p.caps 0=0:=by
    unfold base
    have hw:qL 0 0 ((p.caps.length:Int)-1)=true:=by rw [qO]; omega
    rw [hl,hw]
    rfl
   rw [hb]
   simp
  ·simp; omega
theorem qTo (l:List Int) (i n:Nat) (h:i<n):l.take (min (i+1) n)=l.take (i+1)∧l.take (min i n)=l.take i:=by
 rw [Nat.min_eq_left (by omega),Nat.min_eq_left (by omega)]
 exact ⟨rfl,rfl⟩
theorem kM (caps:List Int) (n:Int) (hl:caps.length<2^40):qU Tryz.prog num 206 [.sl .bw 1 (wS caps),.int .i64 n] [] (.int .i64 (base caps n)):=by
 refine EN m206 Tryz.func76 ?_
 unfold m206
 have w1:IntKind.i64.wrap ((caps.length:Int)-1)=caps.length-1:=wK (by omega) (by omega)
 simp only [go_sem,seval,w1]
 refine CA [] (yE n 0 (caps.length-1)) ?_
 try simp only [go_sem,seval]
 cases hw:qL n 0 (caps.length-1)
 ·try simp only [go_sem,seval,hw]
  refine fz ?_; simp [wA,qR,qS,qN,-qZ8]
  simp [base,hw]
 try simp only [go_sem,seval,hw]
 refine CA [] (qL7 caps (by omega)) ?_
 try simp only [go_sem,seval]
 cases hk:xH caps
 ·try simp only [go_sem,seval,hk]
  refine fz ?_; simp [wA,qR,qS,qN,-qZ8]
  simp [base,bW,hk]
 try simp only [go_sem,seval,hk]
 have hw':=qO.1 hw
 refine wC (ι:=Nat) (fun i=>.mk [(1,.int .i64 n),(5,.int .i64 (aJ (caps.take (min i n.toNat)))),(6,.int .i64 (aJ (caps.take i))),(20,.sl .bw 1 (wS caps)),(21,.int .i64 caps.length),(22,.int .i64 i)] [] 10) (fun i=>i≤caps.length) (fun i=>caps.length-i) 0 (by simp) ?_ ?_
 ·refine Sub.shape [] id (by omega) ?_ ?_ ?_ ?_<;>simp [qM]
  simp [aJ]
 ·intro i hi
  simp only [go_sem,seval]
  refine qP (fun hc=>?_) (fun hc=>?_)
  ·simp only [decide_eq_true_eq] at hc
   have hl':i<caps.length:=by omega
   have h1:=xM hk i
   have h2:=xM hk (i+1)
   have h3:=tY caps i hl'
   have h4:=xM hk (min i n.toNat)
   have q1:IntKind.i64.wrap (caps.getD i 0+4)=caps.getD i 0+4:=wK (by omega) (by omega)
   have q2:IntKind.i64.wrap (aJ (caps.take i)+(caps.getD i 0+4))=aJ (caps.take (i+1)):=by rw [wK (by omega) (by omega)]; omega
   simp only [go_sem,seval,qI caps i hl']
   repeat refine K ?_
   refine qP (fun hc2=>?_) (fun hc2=>?_)
   ·simp only [decide_eq_true_eq] at hc2
    obtain ⟨e1,e2⟩:=qTo caps i n.toNat (by omega)
    simp only [go_sem,seval,q1,q2,e2,qV (i:=i) (by omega)]
    refine qW (i+1) (Sub.shape [] id (by omega) ?_ ?_ ?_ ?_) ?_ ?_
    any_goals (first | omega | (simp [qM]; done))
    rw [e1]
    simp [qM]
   ·simp only [decide_eq_false_iff_not] at hc2
    have e1:min (i+1) n.toNat=min i n.toNat:=by omega
    simp only [go_sem,seval,q1,q2,qV (i:=i) (by omega)]
    refine qW (i+1) (Sub.shape [] id (by omega) ?_ ?_ ?_ ?_) ?_ ?_
    any_goals (first | omega | (simp [qM]; done))
    rw [e1]
    simp [qM]
  ·simp only [decide_eq_false_iff_not] at hc
   have he:caps.take i=caps:=List.take_of_length_le (by omega)
   have hm:min i n.toNat=n.toNat:=by omega
   simp only [go_sem,seval,he,hm]
   by_cases h24:(24:Int)<aJ caps
   ·try simp only [go_sem,seval,h24]
    refine fz ?_; simp [wA,qR,qS,qN,-qZ8]
    have :¬aJ caps≤24:=by omega
    simp [base,hw,bW,hk,this]
   ·try simp only [go_sem,seval,h24]
    refine fz ?_; simp [wA,qR,qS,qN,-qZ8]
    have:aJ caps≤24:=by omega
    simp [base,hw,bW,hk,this]
theorem qKm (caps:List Int) (n:Nat) (hl:caps.length<2^40) (hk:xH caps=true) (hn:n≤caps.length):qU Tryz.prog num 251 [.sl .bw 1 (wS caps),.int .i64 n] [] (.int .i64 (aJ (caps.take n))):=by
 refine EN m251 Tryz.func172 ?_
 unfold m251
 simp only [go_sem,seval]
 refine wC (ι:=Nat) (fun i=>.mk [(0,.sl .bw 1 (wS caps)),(1,.int .i64 n),(5,.int .i64 (aJ (caps.take i))),(6,.int .i64 i)] [] 10) (fun i=>i≤n) (fun i=>n-i) 0 (by simp) ?_ ?_
 ·refine Sub.shape [] id (by omega) ?_ ?_ ?_ ?_<;>simp [qM]
  simp [aJ]
 ·intro i hi
  simp only [go_sem,seval]
  refine qP (fun hc=>?_) (fun hc=>?_)
  ·simp only [decide_eq_true_eq] at hc
   have hl':i<caps.length:=by omega
   have h1:=xM hk i
   have h2:=xM hk (i+1)
   have h3:=tY caps i hl'
   have q1:IntKind.i64.wrap (aJ (caps.take i)+caps.getD i 0)=aJ (caps.take i)+caps.getD i 0:=wK (by omega) (by omega)
   have q2:IntKind.i64.wrap (aJ (caps.take i)+caps.getD i 0+4)=aJ (caps.take (i+1)):=by rw [wK (by omega) (by omega)]; omega
   simp only [go_sem,seval,qI caps i hl',q1,q2,qV (i:=i) (by omega)]
   repeat refine K ?_
   refine qW (i+1) (Sub.shape [] id (by omega) ?_ ?_ ?_ ?_) ?_ ?_
   any_goals (first | omega | (simp [qM]; done))
  ·simp only [decide_eq_false_iff_not] at hc
   have he:i=n:=by omega
   subst he
   simp only [go_sem,seval]
   refine fz ?_; simp [wA,qR,qS,qN,-qZ8]
theorem qHs (caps:List Int) (hl:caps.length<2^40):qU Tryz.prog num 202 [.sl .bw 1 (wS caps)] [] (.bool (bW caps)):=by
 refine EN m202 Tryz.func171 ?_
 unfold m202
 simp only [go_sem,seval]
 refine wC (ι:=Nat) (fun i=>.mk [(0,.sl .bw 1 (wS caps)),(3,.int .i64 i)] [] 10) (fun i=>i≤caps.length∧(caps.take i).all (fun c=>qL c 1 4)=true) (fun i=>caps.length-i) 0 (by simp) ?_ ?_
 ·refine Sub.shape [] id (by omega) ?_ ?_ ?_ ?_<;>simp [qM]
 ·rintro i ⟨hi,hp⟩
  simp only [go_sem,seval]
  refine qP (fun hc=>?_) (fun hc=>?_)
  ·simp only [decide_eq_true_eq] at hc
   have hl':i<caps.length:=by omega
   simp only [go_sem,seval,qI caps i hl']
   repeat refine K ?_
   refine CA [] (yO (caps.getD i 0) 1 4) ?_
   try simp only [go_sem,seval]
   cases hw:qL (caps.getD i 0) 1 4
   ·simp only [go_sem,seval,hw]
    refine fz ?_; simp [wA,qR,qS,qN,-qZ8]
    have:xH caps=false:=bR hl' hw
    simp [bW,this]
   ·simp only [go_sem,seval,hw,qV (i:=i) (by omega)]
    refine qW (i+1) (Sub.shape [] id (by omega) ?_ ?_ ?_ ?_) ?_ ?_
    any_goals (first | omega | (simp [qM]; done))
    exact ⟨hl',gJ hp hl' hw⟩
  ·simp only [decide_eq_false_iff_not] at hc
   have hk:xH caps=true:=zZ hp hc
   have hs:=rS hk
   simp only [go_sem,seval]
   by_cases h24:(caps.length:Int)≤24
   ·try simp only [go_sem,seval,h24]
    refine CA [] (qKm caps caps.length hl hk (Nat.le_refl _)) ?_
    try simp only [go_sem,seval]
    try simp only [go_sem,seval,h24,List.take_length]
    refine fz ?_; simp [wA,qR,qS,qN,-qZ8]
    simp [bW,hk]
   ·try simp only [go_sem,seval,h24]
    refine fz ?_; simp [wA,qR,qS,qN,-qZ8]
    have :¬aJ caps≤24:=by omega
    simp [bW,this]
theorem nA (caps:List Int) (n:Int) (hl:caps.length<2^40):qU Tryz.prog num 257 [.sl .bw 1 (wS caps),.int .i64 n] [] (.int .i64 (base caps n)):=by
 have w1:IntKind.i64.wrap ((caps.length:Int)-1)=caps.length-1:=wK (by omega) (by omega)
 refine EN m257 Tryz.func128 ?_
 unfold m257
 simp only [go_sem,seval]
 refine CA [] (qHs caps hl) ?_
 try simp only [go_sem,seval]
 cases hk:bW caps
 ·try simp only [go_sem,seval,hk,w1]
  refine fz ?_; simp [wA,qR,qS,qN,-qZ8]
  simp [base,hk]
 try simp only [go_sem,seval,hk,w1]
 refine CA [] (yO n 0 (caps.length-1)) ?_
 try simp only [go_sem,seval]
 cases hw:qL n 0 (caps.length-1)
 ·try simp only [go_sem,seval,hw]
  refine fz ?_; simp [wA,qR,qS,qN,-qZ8]
  simp [base,hw]
 have hw':=qO.1 hw
 have hk':=hk
 unfold bW at hk'
 simp only [qXo] at hk'
 have en:n=(n.toNat:Int):=by omega
 try simp only [go_sem,seval,hw]
 rw [en]
 refine CA [] (qKm caps n.toNat hl hk'.1 (by omega)) ?_
 try simp only [go_sem,seval]
 refine fz ?_; simp [wA,qR,qS,qN,-qZ8]
 try rw [←en]
 have em:max n 0=n:=by omega
 simp [em,base,hw,hk]
theorem qF2 (b:List Ins) (hl:b.length<2^40):qU Tryz.prog num 207 [.sl .bw 5 (aN b)] [] (.sl .own 1 (wS (yZ b))):=by
 refine EN m207 Tryz.func166 ?_
 unfold m207
 simp only [go_sem,seval]
 refine wC (ι:=Nat) (fun i=>.mk [(3,.ns 10 0 i),(4,.int .i64 (szB (b.take i))),(8,.sl .bw 5 (aN b)),(9,.int .i64 b.length),(10,.int .i64 i)] [(10,1,wS (bH b i))] 11) (fun i=>i≤b.length) (fun i=>b.length-i) 0 (by simp) ?_ ?_
 ·refine Sub.shape [] id (by omega) ?_ ?_ ?_ ?_<;>simp [qM]
  all_goals simp [bH,szB,wS]
 ·intro i hi
  simp only [go_sem,seval]
  refine qP (fun hc=>?_) (fun hc=>?_)
  ·simp only [decide_eq_true_eq] at hc
   have hl':i<b.length:=by omega
   have h1:=dZ b i
   have h2:=dZ b (i+1)
   have h3:=fX b i hl'
   have q1:IntKind.i64.wrap (szB (b.take i)+wJ (b.getD i default))=szB (b.take (i+1)):=by rw [wK (by omega) (by omega)]; omega
   simp only [go_sem,seval,gM b i hl',jS]
   repeat refine K ?_
   refine CA [] (vE (b.getD i default)) ?_
   try simp only [go_sem,seval]
   try simp only [go_sem,seval,q1,qV (i:=i) (by omega)]
   refine qW (i+1) (Sub.shape [] (fun n=>if n=10 then 13 else n) (by omega) ?_ ?_ ?_ ?_) hl' (by omega)<;>simp [qM]
   all_goals exact .inl (by rw [qC6,qHz])
  ·simp only [decide_eq_false_iff_not] at hc
   have he:i=b.length:=by omega
   subst he
   simp only [go_sem,seval]
   refine ⟨_,Sub.refl _,jC ?_⟩; simp [-qZ8]
   simp [jS,yZ]
theorem qCs (b:List Ins) (hl:b.length<2^40):qU Tryz.prog num 252 [.sl .bw 5 (aN b)] [] (.sl .own 1 (wS (bH b (b.length+1)))):=by
 refine EN m252 Tryz.func170 ?_
 unfold m252
 simp only [go_sem,seval]
 refine wC (ι:=Nat) (fun i=>.mk [(0,.sl .bw 5 (aN b)),(3,.ns 10 0 (i+1)),(4,.int .i64 i)] [(10,1,wS (bH b (i+1)))] 11) (fun i=>i≤b.length) (fun i=>b.length-i) 0 (by simp) ?_ ?_
 ·refine Sub.shape [] id (by omega) ?_ ?_ ?_ ?_<;>simp [qM]
  all_goals simp [bH,szB,wS]
 ·intro i hi
  simp only [go_sem,seval]
  refine qP (fun hc=>?_) (fun hc=>?_)
  ·simp only [decide_eq_true_eq] at hc
   have hl':i<b.length:=by omega
   have h1:=dZ b i
   have h2:=dZ b (i+1)
   have h3:=fX b i hl'
   have q1:IntKind.i64.wrap (szB (b.take i)+wJ (b.getD i default))=szB (b.take (i+1)):=by rw [wK (by omega) (by omega)]; omega
   have g:=xR b (i+1) i (by omega)
   have hgi:=gM b i hl'
   have hgs:=qI (bH b (i+1)) i (by rw [jS]; omega)
   have hsl:=jS b (i+1)
   have hws:=qV (i:=i) (by omega)
   repeat' (first
    | (simp only [go_sem,seval,hgi,hgs,hsl,g,q1,hws])
    | (refine bL (xJ _) rfl rfl rfl rfl ?_)
    | (refine K ?_)
    | (refine And.intro ?_ ?_)
    | fail)
   all_goals
    refine qW (i+1) (Sub.shape [] (fun n=>if n=10 then 12 else n) (by omega) ?_ ?_ ?_ ?_) hl' (by omega)<;>simp [qM]
    all_goals exact .inl (by rw [qC6 b (i+1),qHz])
  ·simp only [decide_eq_false_iff_not] at hc
   have he:i=b.length:=by omega
   subst he
   simp only [go_sem,seval]
   refine ⟨_,Sub.refl _,jC ?_⟩; simp [-qZ8]
   simp [jS]
def jR:List Ins→Int→Int→Int→Int×Bool
 | [],_,_,_=>(-1,false)
 | x::l,off,i,at_=>if off≤at_∧at_≤off+wJ x-1 then (i,decide (at_=off)) else jR l (off+wJ x) (i+1) at_
def vN (p:wV) (body at_:Int):Int×Bool:=if jX p&&qL body 0 (p.bods.length-1) then jR (p.bods.getD body.toNat []) 0 0 at_ else (-1,false)
theorem qCj (b:List Ins) (i:Nat) (h:i<b.length) (at_:Int):jR (b.drop i) (szB (b.take i)) i at_=if szB (b.take i)≤at_∧at_≤szB (b.take (i+1))-1 then ((i:Int),decide (at_=szB (b.take i))) else jR (b.drop (i+1)) (szB (b.take (i+1))) ((i+1:Nat):Int) at_:=by
 have hd:b.drop i=b.getD i default::b.drop (i+1):=by rw [List.drop_eq_getElem_cons h]; simp [qXq,h]
 rw [hd,fX b i h]
 simp only [jR]
 push_cast
 rfl
theorem qF7 (b:List Ins) (i:Nat) (h:b.length≤i) (off k at_:Int):jR (b.drop i) off k at_=(-1,false):=by
 rw [List.drop_eq_nil_of_le h]
 rfl
theorem qF6 :∀(b:List Ins) (off k at_:Int),at_<off∨off+szB b≤at_→jR b off k at_=(-1,false)
 | [],_,_,_,_=>rfl
 | x::l,off,k,at_,h=>by
  have h1:=tL x
  have h2:=qDj l
  simp only [szB] at h
  simp only [jR]
  rw [if_neg (by omega)]
  exact qF6 l _ _ _ (by omega)
theorem tI (b:List Ins) (at_:Int) (hl:b.length<2^40):qU Tryz.prog num 280 [.sl .bw 5 (aN b),.int .i64 at_] [] (.tup [.int .i64 (jR b 0 0 at_).1,.bool (jR b 0 0 at_).2]):=by
 refine EN m280 Tryz.func169 ?_
 unfold m280
 simp only [go_sem,seval]
 refine CA [] (qF2 b hl) ?_
 try simp only [go_sem,seval]
 have hsl:(yZ b).length=b.length:=jS b b.length
 try simp only [go_sem,seval,hsl]
 refine wC (ι:=Nat) (fun i=>.mk [(0,.sl .bw 5 (aN b)),(1,.int .i64 at_),(9,.ns 10 0 b.length),(10,.int .i64 b.length),(11,.int .i64 i)] [(10,1,wS (yZ b))] 11) (fun i=>i≤b.length∧jR (b.drop i) (szB (b.take i)) i at_=jR b 0 0 at_) (fun i=>b.length-i) 0 (by simp [szB]) ?_ ?_
 ·refine Sub.shape [] id (by omega) ?_ ?_ ?_ ?_<;>simp [qM]
 ·rintro i ⟨hi,hp⟩
  simp only [go_sem,seval]
  refine qP (fun hc=>?_) (fun hc=>?_)
  ·simp only [decide_eq_true_eq] at hc
   have hl':i<b.length:=by omega
   have hsg:(yZ b).getD i 0=szB (b.take i):=xR b b.length i hl'
   have h1:=dZ b i
   have h2:=dZ b (i+1)
   have h3:=fX b i hl'
   have h4:=tL (b.getD i default)
   have hs:=qCj b i hl' at_
   have q1:IntKind.i64.wrap (szB (b.take i)+wJ (b.getD i default))=szB (b.take (i+1)):=by rw [wK (by omega) (by omega)]; omega
   have q2:IntKind.i64.wrap (szB (b.take (i+1))-1)=szB (b.take (i+1))-1:=wK (by omega) (by omega)
   simp only [go_sem,seval,qI (yZ b) i (by omega),hsg,hsl,gM b i hl']
   repeat refine K ?_
   refine CA [] (vE (b.getD i default)) ?_
   try simp only [go_sem,seval]
   try simp only [go_sem,seval,q1,q2]
   refine CA [] (yE at_ (szB (b.take i)) (szB (b.take (i+1))-1)) ?_
   try simp only [go_sem,seval]
   rw [hp] at hs
   cases hw:qL at_ (szB (b.take i)) (szB (b.take (i+1))-1)
   ·have hn :¬(szB (b.take i)≤at_∧at_≤szB (b.take (i+1))-1):=fun h=>by rw [←qO] at h; rw [h] at hw; simp at hw
    rw [if_neg hn] at hs
    try simp only [go_sem,seval,hw,qV (i:=i) (by omega)]
    refine qW (i+1) (Sub.shape [] id (by omega) ?_ ?_ ?_ ?_) ?_ ?_
    any_goals (first | omega | (simp [qM]; done))
    exact ⟨hl',hs.symm⟩
   ·rw [if_pos (qO.1 hw)] at hs
    try simp only [go_sem,seval,hw]
    refine ⟨_,Sub.refl _,yP (by simp) ?_⟩; simp [-qZ8]
    rw [hs]
    simp
  ·simp only [decide_eq_false_iff_not] at hc
   rw [qF7 b i (by omega)] at hp
   simp only [go_sem,seval]
   refine ⟨_,Sub.refl _,yP (by simp) ?_⟩; simp [-qZ8]
   rw [←hp]
   simp
theorem qI2 (p:wV) (k at_:Int) (hp:uD p):qU Tryz.prog num 230 [.agg (jA .bw p),.int .i64 k,.int .i64 at_] [] (.tup [.int .i64 (vN p k at_).1,.bool (vN p k at_).2]):=by
 obtain ⟨h1,h2,h3⟩:=hp
 have w1:IntKind.i64.wrap ((p.bods.length:Int)-1)=p.bods.length-1:=wK (by omega) (by omega)
 refine EN m230 Tryz.func125 ?_
 unfold m230
 simp only [go_sem,seval]
 refine CA [] (cZ p (by omega) (by omega) (fun b hb=>by have:=h3 b hb; omega)) ?_
 try simp only [go_sem,seval]
 cases hok:jX p
 ·try simp only [go_sem,seval,hok]
  refine ⟨_,Sub.refl _,yP (by simp) ?_⟩; simp [-qZ8]
  simp [vN,hok]
 try simp only [go_sem,seval,hok,w1]
 refine CA [] (yE k 0 (p.bods.length-1)) ?_
 try simp only [go_sem,seval]
 cases hw:qL k 0 (p.bods.length-1)
 ·try simp only [go_sem,seval,hw]
  refine ⟨_,Sub.refl _,yP (by simp) ?_⟩; simp [-qZ8]
  simp [vN,hw]
 have hw':=qO.1 hw
 have hk:k.toNat<p.bods.length:=by omega
 try simp only [go_sem,seval,hw,qZ .bw p.bods k.toNat hk]
 repeat refine K ?_
 refine CA [] (tI (p.bods.getD k.toNat []) at_ (h3 _ (yB p.bods k.toNat [] hk))) ?_
 try simp only [go_sem,seval]
 refine ⟨_,Sub.refl _,yP (by simp) ?_⟩; simp [-qZ8]
 simp [vN,hok,hw]
theorem mF (p:wV) (k at_:Int) (hp:uD p):qU Tryz.prog num 224 [.agg (jA .bw p),.int .i64 k,.int .i64 at_] [] (.tup [.int .i64 (vN p k at_).1,.bool (vN p k at_).2]):=by
 obtain ⟨h1,h2,h3⟩:=hp
 have w1:IntKind.i64.wrap ((p.bods.length:Int)-1)=p.bods.length-1:=wK (by omega) (by omega)
 refine EN m224 Tryz.func126 ?_
 unfold m224
 simp only [go_sem,seval]
 refine CA [] (eG p (by omega) (by omega) (fun b hb=>by have:=h3 b hb; omega)) ?_
 try simp only [go_sem,seval]
 cases hok:jX p
 ·try simp only [go_sem,seval,hok]
  refine ⟨_,Sub.refl _,yP (by simp) ?_⟩; simp [-qZ8]
  simp [vN,hok]
 try simp only [go_sem,seval,hok,w1]
 refine CA [] (yO k 0 (p.bods.length-1)) ?_
 try simp only [go_sem,seval]
 cases hw:qL k 0 (p.bods.length-1)
 ·try simp only [go_sem,seval,hw]
  refine ⟨_,Sub.refl _,yP (by simp) ?_⟩; simp [-qZ8]
  simp [vN,hw]
 have hw':=qO.1 hw
 have hk:k.toNat<p.bods.length:=by omega
 have hb:=h3 _ (yB p.bods k.toNat [] hk)
 have hres:vN p k at_=jR (p.bods.getD k.toNat []) 0 0 at_:=by simp [vN,hok,hw]
 rw [hres]
 try simp only [go_sem,seval,hw,qZ .bw p.bods k.toNat hk]
 repeat refine K ?_
 generalize p.bods.getD k.toNat []=b at hb
 refine CA [] (qCs b hb) ?_
 try simp only [go_sem,seval]
 have hsl:(bH b (b.length+1)).length=b.length+1:=jS b (b.length+1)
 have w2:IntKind.i64.wrap ((b.length+1:Nat)-1:Int)=b.length:=by rw [wK (by omega) (by omega)]; omega
 have hsn:(bH b (b.length+1)).getD b.length 0=szB b:=by rw [xR b (b.length+1) b.length (by omega),List.take_length]
 have hz:=qDj b
 have w3:IntKind.i64.wrap (szB b-1)=szB b-1:=wK (by omega) (by omega)
 try simp only [go_sem,seval,hsl,w2,qI (bH b (b.length+1)) b.length (by omega),hsn,w3]
 repeat refine K ?_
 refine CA [] (yO at_ 0 (szB b-1)) ?_
 try simp only [go_sem,seval]
 cases hin:qL at_ 0 (szB b-1)
 ·have ho:=qF6 b 0 0 at_ (by apply Decidable.byContradiction; intro h; rw [show qL at_ 0 (szB b-1)=true from qO.2 (by omega)] at hin; simp at hin)
  try simp only [go_sem,seval,hin]
  refine ⟨_,Sub.refl _,yP (by simp) ?_⟩; simp [-qZ8]
  rw [ho]
  simp
 have hin':=qO.1 hin
 try simp only [go_sem,seval,hin]
 refine wC (ι:=Nat) (fun i=>.mk [(2,.int .i64 at_),(8,.ns 11 0 (b.length+1)),(9,.int .i64 b.length),(10,.int .i64 i)] [(11,1,wS (bH b (b.length+1)))] 12) (fun i=>i≤b.length∧jR (b.drop i) (szB (b.take i)) i at_=jR b 0 0 at_∧szB (b.take i)≤at_) (fun i=>b.length-i) 0 (by simp [szB]; omega) ?_ ?_
 ·refine Sub.shape [] id (by omega) ?_ ?_ ?_ ?_<;>simp [qM]
 ·rintro i ⟨hi,hp,hlo⟩
  simp only [go_sem,seval]
  refine qP (fun hc=>?_) (fun hc=>?_)
  ·simp only [decide_eq_true_eq] at hc
   have hl':i<b.length:=by omega
   have hsg:(bH b (b.length+1)).getD i 0=szB (b.take i):=xR b (b.length+1) i (by omega)
   have hsg2:(bH b (b.length+1)).getD (i+1) 0=szB (b.take (i+1)):=xR b (b.length+1) (i+1) (by omega)
   have hs:=qCj b i hl' at_
   rw [hp] at hs
   simp only [go_sem,seval,qV (i:=i) (by omega),qI (bH b (b.length+1)) (i+1) (by omega),hsg2,hsl]
   repeat refine K ?_
   refine qP (fun hc2=>?_) (fun hc2=>?_)
   ·simp only [decide_eq_true_eq] at hc2
    rw [if_pos (by omega)] at hs
    simp only [go_sem,seval,qI (bH b (b.length+1)) i (by omega),hsg,hsl]
    repeat refine K ?_
    refine ⟨_,Sub.refl _,yP (by simp) ?_⟩; simp [-qZ8]
    rw [hs]
    simp
   ·simp only [decide_eq_false_iff_not] at hc2
    rw [if_neg (by omega)] at hs
    simp only [go_sem,seval,qV (i:=i) (by omega)]
    refine qW (i+1) (Sub.shape [] id (by omega) ?_ ?_ ?_ ?_) ?_ ?_
    any_goals (first | omega | (simp [qM]; done))
    exact ⟨hl',hs.symm,by omega⟩
  ·simp only [decide_eq_false_iff_not] at hc
   rw [qF7 b i (by omega)] at hp
   simp only [go_sem,seval]
   refine ⟨_,Sub.refl _,yP (by simp) ?_⟩; simp [-qZ8]
   rw [←hp]
   simp
end Go.Sep
