/- Contracts of functions. -/
import Derived.Test.YtebbppogicgpkaaGreatJxx12
import Derived.Test.YtebbppogicgpkaaGreatJxx9
open Bool renaming and_eq_true → qWu
open List renaming all_eq_true → qYt, drop_one → qYj, getD_eq_getElem?_getD → qWw
namespace Go.Sep
set_option maxHeartbeats 16000000
open Go.Proofs
set_option linter.unusedSimpArgs false
set_option linter.unusedVariables false
set_option maxRecDepth 100000
def m202:MFn:=⟨26,[.t 2],kr [xF 2] (.seq (kr [xI 3 0] (.blk 0 (.loop (.seq (kr [xv 4 3,xv 5 0,xe 6 5,bT 7 .lss 4 6] (kX 7 0)) (.seq (.blk 1 (kr [xv 10 0,xv 11 3,xD 12 1 10 11,xl 13 12,xc3 14 64 (.t 13) (xi 1) (xi 4),xN 15 14] (kF 15 [xF 2]))) (xr [xv 8 3,bI 9 .add 8 1,xv 3 9])))))) (kR [xv 16 0,xe 17 16,bI 18 .leq 17 24,xv 19 18,yv 20 0 19,yv 21 0 19,ye 22 21 19,xg 23 (.call 251 [false,false] [.t 20,.t 22]) 19 true,yI 24 .leq 23 24 19,xP 25 19 24,xv 2 25]))⟩
def m206:MFn:=⟨42,[.t 4],kr [xI 4 0] (.seq (kr [xv 9 1,xv 10 0,xe 11 10,bI 12 .sub 11 1,xc3 13 59 (.t 9) (xi 0) (.t 12),xN 14 13,xv 15 14,zv 16 0 15,xg 17 (.call 68 [false] [.t 16]) 15 false,zN 18 17 15,xQ 19 15 18] (kF 19 [xo 4 (.mv (.c (.int .i64 (-1))))])) (kr [xI 5 0,xI 6 0] (.seq (kr [xv 20 0,xe 21 20,xI 22 0] (.blk 0 (.loop (kr [bT 23 .lss 22 21] (.seq (kX 23 0) (.seq (.blk 1 (kr [xv 24 22,xD 25 1 20 22,xl 26 25,xv 7 24,xv 8 26] (.seq (kr [xv 27 7,xv 28 1,bT 29 .lss 27 28] (.cond 29 (xr [xv 30 5,xv 31 8,bI 32 .add 31 4,bT 33 .add 30 32,xv 5 33]) (.skip))) (xr [xv 34 6,xv 35 8,bI 36 .add 35 4,bT 37 .add 34 36,xv 6 37])))) (xr [bI 38 .add 22 1,xv 22 38]))))))) (.seq (kr [xv 39 6,bI 40 .gtr 39 24] (kF 40 [xo 4 (.mv (.c (.int .i64 (-1))))])) (kR [xv 41 5,xv 4 41])))))⟩
def m207:MFn:=⟨24,[.t 2],kr [xo 2 (.mv (.c (.nil)))] (kr [xo 7 (.mkSl [xz] 0 []),xv 3 7] (kr [xI 4 0] (.seq (kr [xv 8 0,xe 9 8,xI 10 0] (.blk 0 (.loop (kr [bT 11 .lss 10 9] (.seq (kX 11 0) (.seq (.blk 1 (kr [xD 12 5 8 10,xm 13 5 12,xo 6 (.alloc [xz,xz,xz,xz,xz]),xS 5 6 13] (kr [xv 14 3,xv 15 4,xo 16 (.mkSl [xz] 1 [(0,.t 15)]),xA 17 1 8 14 16,xv 3 17] (xr [xv 18 4,xm 19 5 6,xc1 20 262 (.t 19),bT 21 .add 18 20,xv 4 21])))) (xr [bI 22 .add 10 1,xv 10 22]))))))) (kR [xv 23 3,xv 2 23]))))⟩
def m224:MFn:=⟨59,[.t 6,.t 7],kr [xb 3 0,xI 6 0,xF 7] (.seq (kr [xm 11 2 3,xc1 12 62 (.t 11),xN 13 12,xv 14 13,zv 15 1 14,za 16 1 3 14,zl 17 1 16 14,ze 18 17 14,zI 19 .sub 18 1 14,xg 20 (.call 64 [false,false,false] [.t 15,xi 0,.t 19]) 14 false,zN 21 20 14,xQ 22 14 21] (kF 22 [xo 6 (.mv (.c (.int .i64 (-1)))),xF 7])) (kr [xa 23 1 3,xl 24 23,xv 25 1,xD 26 1 24 25,xl 27 26,xc1 28 252 (.t 27),xv 8 28] (kr [xv 29 8,xe 30 29,bI 31 .sub 30 1,xv 9 31] (.seq (kr [xv 32 2,xv 33 8,xv 34 9,xD 35 1 33 34,xl 36 35,bI 37 .sub 36 1,xc3 38 64 (.t 32) (xi 0) (.t 37),xN 39 38] (kF 39 [xo 6 (.mv (.c (.int .i64 (-1)))),xF 7])) (.seq (kr [xI 10 0] (.blk 0 (.loop (.seq (kr [xv 40 10,xv 41 9,bT 42 .lss 40 41] (kX 42 0)) (.seq (.blk 1 (kr [xv 45 2,xv 46 8,xv 47 10,bI 48 .add 47 1,xD 49 1 46 48,xl 50 49,bT 51 .lss 45 50] (.cond 51 (.seq (.dreg (.take 0 (xv 52 10) (.take 1 (xv 53 2) (.take 2 (xv 54 8) (.take 3 (xv 55 10) (.take 4 (xD 56 1 54 55) (.take 5 (xl 57 56) (.take 6 (bT 58 .eql 53 57) (.only 7 [0] (xv 6 52) (.only 8 [0,1,2,3,4,5,6] (xv 7 58) (.done))))))))))) (.ret)) (.skip)))) (xr [xv 43 10,bI 44 .add 43 1,xv 10 44])))))) (kR [xo 6 (.mv (.c (.int .i64 (-1)))),xF 7]))))))⟩
def m230:MFn:=⟨29,[.t 6,.t 7],kr [xb 3 0,xI 6 0,xF 7] (.seq (kr [xm 8 2 3,xc1 9 48 (.t 8),xN 10 9,xv 11 10,zv 12 1 11,za 13 1 3 11,zl 14 1 13 11,ze 15 14 11,zI 16 .sub 15 1 11,xg 17 (.call 59 [false,false,false] [.t 12,xi 0,.t 16]) 11 false,zN 18 17 11,xQ 19 11 18] (kF 19 [xo 6 (.mv (.c (.int .i64 (-1)))),xF 7])) (kR [xa 20 1 3,xl 21 20,xv 22 1,xD 23 1 21 22,xl 24 23,xv 25 2,xc2 26 280 (.t 24) (.t 25),xX 27 26 0,xX 28 26 1,xv 6 27,xv 7 28]))⟩
def m251:MFn:=⟨20,[.t 4],kr [xI 4 0] (kr [xI 5 0] (.seq (kr [xI 6 0] (.blk 0 (.loop (.seq (kr [xv 7 6,xv 8 1,bT 9 .lss 7 8] (kX 9 0)) (.seq (.blk 1 (xr [xv 12 5,xv 13 0,xv 14 6,xD 15 1 13 14,xl 16 15,bT 17 .add 12 16,bI 18 .add 17 4,xv 5 18])) (xr [xv 10 6,bI 11 .add 10 1,xv 6 11])))))) (kR [xv 19 5,xv 4 19])))⟩
def m252:MFn:=⟨26,[.t 2],kr [xo 2 (.mv (.c (.nil)))] (kr [xo 5 (.mkSl [xz] 1 [(0,xi 0)]),xv 3 5] (.seq (kr [xI 4 0] (.blk 0 (.loop (.seq (kr [xv 6 4,xv 7 0,xe 8 7,bT 9 .lss 6 8] (kX 9 0)) (.seq (.blk 1 (.dreg (.take 0 (xv 12 3) (.take 1 (xv 13 3) (.take 2 (xv 14 4) (.take 5 (xv 17 0) (.take 6 (xv 18 4) (.both 3 [1,2] (xD 15 1 13 14) (.both 4 [3,1,2] (xl 16 15) (.only 7 [5,6] (xD 19 5 17 18) (.only 8 [7,5,6] (xm 20 5 19) (.only 9 [8,7,5,6] (xc1 21 285 (.t 20)) (.only 10 [4,9,3,8,1,2,7,5,6] (bT 22 .add 16 21) (.only 11 [10,4,9,3,8,1,2,7,5,6] (xo 23 (.mkSl [xz] 1 [(0,.t 22)])) (.only 12 [0,9,11,8,10,7,4,5,6,3,1,2] (xA 24 1 8 12 23) (.only 13 [0,1,2,5,6] (xv 3 24) (.done)))))))) 7 [5,6] (xD 19 5 17 18) (.both 4 [3,1,2] (xl 16 15) (.only 8 [7,5,6] (xm 20 5 19) (.only 9 [8,7,5,6] (xc1 21 285 (.t 20)) (.only 10 [4,9,3,8,1,2,7,5,6] (bT 22 .add 16 21) (.only 11 [10,4,9,3,8,1,2,7,5,6] (xo 23 (.mkSl [xz] 1 [(0,.t 22)])) (.only 12 [0,9,11,8,10,7,4,5,6,3,1,2] (xA 24 1 8 12 23) (.only 13 [0,1,2,5,6] (xv 3 24) (.done))))))) 8 [7,5,6] (xm 20 5 19) (.both 4 [3,1,2] (xl 16 15) (.only 9 [8,7,5,6] (xc1 21 285 (.t 20)) (.only 10 [4,9,3,8,1,2,7,5,6] (bT 22 .add 16 21) (.only 11 [10,4,9,3,8,1,2,7,5,6] (xo 23 (.mkSl [xz] 1 [(0,.t 22)])) (.only 12 [0,9,11,8,10,7,4,5,6,3,1,2] (xA 24 1 8 12 23) (.only 13 [0,1,2,5,6] (xv 3 24) (.done)))))) 9 [8,7,5,6] (xc1 21 285 (.t 20)) (.only 4 [3,1,2] (xl 16 15) (.only 10 [4,9,3,8,1,2,7,5,6] (bT 22 .add 16 21) (.only 11 [10,4,9,3,8,1,2,7,5,6] (xo 23 (.mkSl [xz] 1 [(0,.t 22)])) (.only 12 [0,9,11,8,10,7,4,5,6,3,1,2] (xA 24 1 8 12 23) (.only 13 [0,1,2,5,6] (xv 3 24) (.done))))))))) 7 [5,6] (xD 19 5 17 18) (.both 3 [1,2] (xD 15 1 13 14) (.both 4 [3,1,2] (xl 16 15) (.only 8 [7,5,6] (xm 20 5 19) (.only 9 [8,7,5,6] (xc1 21 285 (.t 20)) (.only 10 [4,9,3,8,1,2,7,5,6] (bT 22 .add 16 21) (.only 11 [10,4,9,3,8,1,2,7,5,6] (xo 23 (.mkSl [xz] 1 [(0,.t 22)])) (.only 12 [0,9,11,8,10,7,4,5,6,3,1,2] (xA 24 1 8 12 23) (.only 13 [0,1,2,5,6] (xv 3 24) (.done))))))) 8 [7,5,6] (xm 20 5 19) (.both 4 [3,1,2] (xl 16 15) (.only 9 [8,7,5,6] (xc1 21 285 (.t 20)) (.only 10 [4,9,3,8,1,2,7,5,6] (bT 22 .add 16 21) (.only 11 [10,4,9,3,8,1,2,7,5,6] (xo 23 (.mkSl [xz] 1 [(0,.t 22)])) (.only 12 [0,9,11,8,10,7,4,5,6,3,1,2] (xA 24 1 8 12 23) (.only 13 [0,1,2,5,6] (xv 3 24) (.done)))))) 9 [8,7,5,6] (xc1 21 285 (.t 20)) (.only 4 [3,1,2] (xl 16 15) (.only 10 [4,9,3,8,1,2,7,5,6] (bT 22 .add 16 21) (.only 11 [10,4,9,3,8,1,2,7,5,6] (xo 23 (.mkSl [xz] 1 [(0,.t 22)])) (.only 12 [0,9,11,8,10,7,4,5,6,3,1,2] (xA 24 1 8 12 23) (.only 13 [0,1,2,5,6] (xv 3 24) (.done)))))))) 8 [7,5,6] (xm 20 5 19) (.both 3 [1,2] (xD 15 1 13 14) (.both 4 [3,1,2] (xl 16 15) (.only 9 [8,7,5,6] (xc1 21 285 (.t 20)) (.only 10 [4,9,3,8,1,2,7,5,6] (bT 22 .add 16 21) (.only 11 [10,4,9,3,8,1,2,7,5,6] (xo 23 (.mkSl [xz] 1 [(0,.t 22)])) (.only 12 [0,9,11,8,10,7,4,5,6,3,1,2] (xA 24 1 8 12 23) (.only 13 [0,1,2,5,6] (xv 3 24) (.done)))))) 9 [8,7,5,6] (xc1 21 285 (.t 20)) (.only 4 [3,1,2] (xl 16 15) (.only 10 [4,9,3,8,1,2,7,5,6] (bT 22 .add 16 21) (.only 11 [10,4,9,3,8,1,2,7,5,6] (xo 23 (.mkSl [xz] 1 [(0,.t 22)])) (.only 12 [0,9,11,8,10,7,4,5,6,3,1,2] (xA 24 1 8 12 23) (.only 13 [0,1,2,5,6] (xv 3 24) (.done))))))) 9 [8,7,5,6] (xc1 21 285 (.t 20)) (.only 3 [1,2] (xD 15 1 13 14) (.only 4 [3,1,2] (xl 16 15) (.only 10 [4,9,3,8,1,2,7,5,6] (bT 22 .add 16 21) (.only 11 [10,4,9,3,8,1,2,7,5,6] (xo 23 (.mkSl [xz] 1 [(0,.t 22)])) (.only 12 [0,9,11,8,10,7,4,5,6,3,1,2] (xA 24 1 8 12 23) (.only 13 [0,1,2,5,6] (xv 3 24) (.done))))))))))))))))) (xr [xv 10 4,bI 11 .add 10 1,xv 4 11])))))) (kR [xv 25 3,xv 2 25])))⟩
def m257:MFn:=⟨19,[.t 4],kr [xI 4 0] (.seq (kr [xv 5 0,xc1 6 202 (.t 5),xN 7 6,xv 8 7,zv 9 1 8,zv 10 0 8,ze 11 10 8,zI 12 .sub 11 1 8,xg 13 (.call 64 [false,false,false] [.t 9,xi 0,.t 12]) 8 false,zN 14 13 8,xQ 15 8 14] (kF 15 [xo 4 (.mv (.c (.int .i64 (-1))))])) (kR [xv 16 0,xv 17 1,xc2 18 251 (.t 16) (.t 17),xv 4 18]))⟩
def m280:MFn:=⟨32,[.t 4,.t 5],kr [xI 4 0,xF 5] (.seq (kr [xv 8 0,xc1 9 207 (.t 8),xe 10 9,xI 11 0] (.blk 0 (.loop (kr [bT 12 .lss 11 10] (.seq (kX 12 0) (.seq (.blk 1 (kr [xv 13 11,xD 14 1 9 11,xl 15 14,xv 6 13,xv 7 15] (kr [xv 16 1,xv 17 7,xv 18 7,xv 19 0,xv 20 6,xD 21 5 19 20,xm 22 5 21,xc1 23 262 (.t 22),bT 24 .add 18 23,bI 25 .sub 24 1,xc3 26 59 (.t 16) (.t 17) (.t 25)] (kF 26 [xv 27 6,xv 28 1,xv 29 7,bT 30 .eql 28 29,xv 4 27,xv 5 30])))) (xr [bI 31 .add 11 1,xv 11 31]))))))) (kR [xo 4 (.mv (.c (.int .i64 (-1)))),xF 5]))⟩
theorem qH4 (l:List Int) (a:Int):wQ l++[[.int .i64 a]]=wQ (l++[a]):=by simp [wQ]
def aD:List Int→Int
 | []=>0
 | c::l=>c+4+aD l
theorem qFt :∀(a b:List Int),aD (a++b)=aD a+aD b
 | [],b=>by simp [aD]
 | x::a,b=>by simp only [List.cons_append,aD,qFt a b]; omega
theorem tB (l:List Int) (i:Nat) (h:i<l.length):aD (l.take (i+1))=aD (l.take i)+(l.getD i 0)+4:=by
 rw [bL l 0 i h,qFt]
 simp only [aD]
 omega
theorem pX :∀{l:List Int},zZ l=true→5*(l.length:Int)≤aD l∧aD l≤8*l.length
 | [],_=>by simp [aD]
 | c::l,h=>by
  unfold zZ at h
  rw [List.all_cons,qWu] at h
  have ih:=pX (l:=l) h.2
  have:=qP.1 h.1
  simp only [aD,List.length_cons]
  omega
theorem qNk {l:List Int} (h:zZ l=true) (i:Nat):zZ (l.take i)=true:=by
 unfold zZ at *
 rw [qYt] at *
 exact fun x hx=>h x (List.mem_of_mem_take hx)
theorem xG {l:List Int} (h:zZ l=true) (i:Nat):0≤aD (l.take i)∧aD (l.take i)≤aD l∧aD (l.take i)≤8*l.length:=by
 have h1:=pX (qNk h i)
 have h2:zZ (l.drop i)=true:=by
  unfold zZ at *
  rw [qYt] at *
  exact fun x hx=>h x (List.mem_of_mem_drop hx)
 have h3:=pX h2
 have e:aD l=aD (l.take i)+aD (l.drop i):=by rw [←qFt,List.take_append_drop]
 have h4:(l.take i).length≤l.length:=by simp; omega
 omega
def bV (caps:List Int):Bool:=zZ caps&&decide (aD caps≤24)
def base (caps:List Int) (n:Int):Int:=if qO n 0 (caps.length-1)&&bV caps then aD (caps.take n.toNat) else -1
theorem aR {caps:List Int} {n:Int} (h :¬base caps n<0):0≤n∧n.toNat<caps.length∧bV caps=true∧0≤base caps n∧base caps n+caps.getD n.toNat 0+4≤24∧qO (caps.getD n.toNat 0) 1 4=true:=by
 unfold base at *
 split at h
 ·rename_i hc
  rw [if_pos hc]
  simp only [qWu,qP] at hc
  have hn:n.toNat<caps.length:=by omega
  have hl:=hc.2
  unfold bV at hl
  simp only [qWu,decide_eq_true_eq] at hl
  have h1:=xG hl.1 n.toNat
  have h2:=xG hl.1 (n.toNat+1)
  have h3:=tB caps n.toNat hn
  refine ⟨by omega,hn,hc.2,by omega,by omega,?_⟩
  have:=hl.1
  unfold zZ at this
  rw [qYt] at this
  exact this _ (wZ caps n.toNat 0 hn)
 ·simp at h
def szB:List Ins→Int
 | []=>0
 | x::l=>wH x+szB l
theorem qPu :∀(a b:List Ins),szB (a++b)=szB a+szB b
 | [],b=>by simp [szB]
 | x::a,b=>by simp only [List.cons_append,szB,qPu a b]; omega
theorem fR (l:List Ins) (i:Nat) (h:i<l.length):szB (l.take (i+1))=szB (l.take i)+wH (l.getD i default):=by
 rw [bL l default i h,qPu]
 simp [szB]
theorem sP (x:Ins):0≤wH x∧wH x≤32:=by
 unfold wH uK
 repeat' split
 all_goals omega
theorem qCu :∀(l:List Ins),0≤szB l∧szB l≤32*l.length
 | []=>by simp [szB]
 | x::l=>by
  have:=qCu l
  have:=sP x
  simp only [szB,List.length_cons]
  omega
theorem dW (l:List Ins) (i:Nat):0≤szB (l.take i)∧szB (l.take i)≤32*l.length:=by
 have h1:=qCu (l.take i)
 have h4:(l.take i).length≤l.length:=by simp; omega
 omega
def bF (b:List Ins) (n:Nat):List Int:=(List.range n).map fun i=>szB (b.take i)
theorem jQ (b:List Ins) (n:Nat):(bF b n).length=n:=by simp [bF]
theorem qBh (b:List Ins) (n:Nat):bF b (n+1)=bF b n++[szB (b.take n)]:=by simp [bF,List.range_succ]
theorem xJ (b:List Ins) (n i:Nat) (h:i<n):(bF b n).getD i 0=szB (b.take i):=by simp [bF,List.getD_eq_getElem?_getD,h]
theorem qKp (b:List Ins) (n m:Nat) (h:m≤n):(bF b n).take m=bF b m:=by
 apply List.ext_getElem (by simp [bF]; omega)
 intro i h1 h2
 simp [bF]
def yY (b:List Ins):List Int:=bF b b.length
def single (x:Ins) (starts:List Int):yH :=
 if x.op=1 then ⟨1,x.r,0,0,x.n⟩ else if x.op=2 then ⟨2,x.r,x.a,x.b,0⟩ else if x.op=3 then ⟨3,x.r,x.a,x.b,0⟩ else if x.op=4 then ⟨4,x.r,x.a,x.b,0⟩
 else if x.op=10 then ⟨9,0,x.a,0,0⟩ else if x.op=11 then ⟨10,0,0,0,starts.getD x.n.toNat 0⟩ else if x.op=12 then ⟨11,0,x.a,0,starts.getD x.n.toNat 0⟩ else ⟨12,0,0,0,0⟩
def hD (caps:List Int) (x:Ins) (f:Int) (starts:List Int):List yH :=
 if zA x starts.length caps.length then
  if qO x.op 5 9 then
   if base caps x.n<0 then []
   else gC f (base caps x.n)++(if x.op=5∨x.op=7 then cD f (base caps x.n) (caps.getD x.n.toNat 0) x else if x.op=6∨x.op=8 then cC f (base caps x.n) (caps.getD x.n.toNat 0) x else eT f (base caps x.n))
  else [single x starts]
 else []
theorem qHf (caps:List Int) (x:Ins) (f:Int) (starts:List Int):(hD caps x f starts).length≤40:=by
 unfold hD
 repeat' split
 all_goals simp [gC,cD,cC,eT,eL,eG]
 all_goals (try split)
 all_goals simp
def gQ (caps:List Int) (b:List Ins):Nat→List yH
 | 0=>[]
 | i+1=>gQ caps b i++hD caps (b.getD i default) (szB (b.take i)) (yY b)
def comp (caps:List Int) (b:List Ins):List yH:=gQ caps b b.length
theorem qK0 (caps:List Int) (b:List Ins) :∀i,(gQ caps b i).length≤40*i
 | 0=>by simp [gQ]
 | i+1=>by
  have:=qK0 caps b i
  have:=qHf caps (b.getD i default) (szB (b.take i)) (yY b)
  simp only [gQ,List.length_append]
  omega
theorem fF {p:wU} (h:jU p=true):zZ p.caps=true∧p.caps.length≤3∧p.bods.length≤4∧1≤p.bods.length∧∀b∈p.bods,uE b p.caps.length=true:=by
 unfold jU at h
 simp only [qWu,qP,decide_eq_true_eq,qYt] at h
 exact ⟨h.1.2,by omega,by omega,by omega,h.1.1.1⟩
theorem qSa {p:wU} (h:jU p=true):(decide (0<(p.caps.length:Int))&&decide (base p.caps 0<0))=!bV p.caps:=by
 have hc:=(fF h).1
 cases hl:bV p.caps with
 | false =>
  have hlen:0<p.caps.length:=by
   apply Nat.pos_of_ne_zero
   intro e
   have e':p.caps=[]:=List.eq_nil_of_length_eq_zero e
   unfold bV at hl
   rw [hc,e'] at hl
   simp [aD] at hl
  have hb:base p.caps 0=-1:=by unfold base; rw [hl,Bool.and_false]; rfl
  rw [hb]
  simp
  omega
 | true =>
  by_cases hlen:0<p.caps.length
  ·have hb:base p.caps 0=0:=by
    unfold base
    have hw:qO 0 0 ((p.caps.length:Int)-1)=true:=by rw [qP]; omega
    rw [hl,hw]
    rfl
   rw [hb]
   simp
  ·simp; omega
theorem qSr (l:List Int) (i n:Nat) (h:i<n):l.take (min (i+1) n)=l.take (i+1)∧l.take (min i n)=l.take i:=by
 rw [Nat.min_eq_left (by omega),Nat.min_eq_left (by omega)]
 exact ⟨rfl,rfl⟩
theorem kB (caps:List Int) (n:Int) (hl:caps.length<2^40):qU Tryz.prog num 206 [.sl .bw 1 (wQ caps),.int .i64 n] [] (.int .i64 (base caps n)):=by
 refine EN m206 Tryz.func76 ?_
 unfold m206
 have w1:IntKind.i64.wrap ((caps.length:Int)-1)=caps.length-1:=wM (by omega) (by omega)
 simp only [go_sem,seval,w1]
 refine CA [] (yD n 0 (caps.length-1)) ?_
 try simp only [go_sem,seval]
 cases hw:qO n 0 (caps.length-1)
 ·try simp only [go_sem,seval,hw]
  refine fz ?_; simp [qX,qQ,qR,qL,-qYj]
  simp [base,hw]
 try simp only [go_sem,seval,hw]
 refine CA [] (qK6 caps (by omega)) ?_
 try simp only [go_sem,seval]
 cases hk:zZ caps
 ·try simp only [go_sem,seval,hk]
  refine fz ?_; simp [qX,qQ,qR,qL,-qYj]
  simp [base,bV,hk]
 try simp only [go_sem,seval,hk]
 have hw':=qP.1 hw
 refine wB (ι:=Nat) (fun i=>.mk [(1,.int .i64 n),(5,.int .i64 (aD (caps.take (min i n.toNat)))),(6,.int .i64 (aD (caps.take i))),(20,.sl .bw 1 (wQ caps)),(21,.int .i64 caps.length),(22,.int .i64 i)] [] 10) (fun i=>i≤caps.length) (fun i=>caps.length-i) 0 (by simp) ?_ ?_
 ·refine Sub.shape [] id (by omega) ?_ ?_ ?_ ?_<;>simp [qN]
  simp [aD]
 ·intro i hi
  simp only [go_sem,seval]
  refine qM (fun hc=>?_) (fun hc=>?_)
  ·simp only [decide_eq_true_eq] at hc
   have hl':i<caps.length:=by omega
   have h1:=xG hk i
   have h2:=xG hk (i+1)
   have h3:=tB caps i hl'
   have h4:=xG hk (min i n.toNat)
   have q1:IntKind.i64.wrap (caps.getD i 0+4)=caps.getD i 0+4:=wM (by omega) (by omega)
   have q2:IntKind.i64.wrap (aD (caps.take i)+(caps.getD i 0+4))=aD (caps.take (i+1)):=by rw [wM (by omega) (by omega)]; omega
   simp only [go_sem,seval,qI caps i hl']
   repeat refine K ?_
   refine qM (fun hc2=>?_) (fun hc2=>?_)
   ·simp only [decide_eq_true_eq] at hc2
    obtain ⟨e1,e2⟩:=qSr caps i n.toNat (by omega)
    simp only [go_sem,seval,q1,q2,e2,qW (i:=i) (by omega)]
    refine qV (i+1) (Sub.shape [] id (by omega) ?_ ?_ ?_ ?_) ?_ ?_
    any_goals (first | omega | (simp [qN]; done))
    rw [e1]
    simp [qN]
   ·simp only [decide_eq_false_iff_not] at hc2
    have e1:min (i+1) n.toNat=min i n.toNat:=by omega
    simp only [go_sem,seval,q1,q2,qW (i:=i) (by omega)]
    refine qV (i+1) (Sub.shape [] id (by omega) ?_ ?_ ?_ ?_) ?_ ?_
    any_goals (first | omega | (simp [qN]; done))
    rw [e1]
    simp [qN]
  ·simp only [decide_eq_false_iff_not] at hc
   have he:caps.take i=caps:=List.take_of_length_le (by omega)
   have hm:min i n.toNat=n.toNat:=by omega
   simp only [go_sem,seval,he,hm]
   by_cases h24:(24:Int)<aD caps
   ·try simp only [go_sem,seval,h24]
    refine fz ?_; simp [qX,qQ,qR,qL,-qYj]
    have :¬aD caps≤24:=by omega
    simp [base,hw,bV,hk,this]
   ·try simp only [go_sem,seval,h24]
    refine fz ?_; simp [qX,qQ,qR,qL,-qYj]
    have:aD caps≤24:=by omega
    simp [base,hw,bV,hk,this]
theorem qJp (caps:List Int) (n:Nat) (hl:caps.length<2^40) (hk:zZ caps=true) (hn:n≤caps.length):qU Tryz.prog num 251 [.sl .bw 1 (wQ caps),.int .i64 n] [] (.int .i64 (aD (caps.take n))):=by
 refine EN m251 Tryz.func172 ?_
 unfold m251
 simp only [go_sem,seval]
 refine wB (ι:=Nat) (fun i=>.mk [(0,.sl .bw 1 (wQ caps)),(1,.int .i64 n),(5,.int .i64 (aD (caps.take i))),(6,.int .i64 i)] [] 10) (fun i=>i≤n) (fun i=>n-i) 0 (by simp) ?_ ?_
 ·refine Sub.shape [] id (by omega) ?_ ?_ ?_ ?_<;>simp [qN]
  simp [aD]
 ·intro i hi
  simp only [go_sem,seval]
  refine qM (fun hc=>?_) (fun hc=>?_)
  ·simp only [decide_eq_true_eq] at hc
   have hl':i<caps.length:=by omega
   have h1:=xG hk i
   have h2:=xG hk (i+1)
   have h3:=tB caps i hl'
   have q1:IntKind.i64.wrap (aD (caps.take i)+caps.getD i 0)=aD (caps.take i)+caps.getD i 0:=wM (by omega) (by omega)
   have q2:IntKind.i64.wrap (aD (caps.take i)+caps.getD i 0+4)=aD (caps.take (i+1)):=by rw [wM (by omega) (by omega)]; omega
   simp only [go_sem,seval,qI caps i hl',q1,q2,qW (i:=i) (by omega)]
   repeat refine K ?_
   refine qV (i+1) (Sub.shape [] id (by omega) ?_ ?_ ?_ ?_) ?_ ?_
   any_goals (first | omega | (simp [qN]; done))
  ·simp only [decide_eq_false_iff_not] at hc
   have he:i=n:=by omega
   subst he
   simp only [go_sem,seval]
   refine fz ?_; simp [qX,qQ,qR,qL,-qYj]
theorem qGy (caps:List Int) (hl:caps.length<2^40):qU Tryz.prog num 202 [.sl .bw 1 (wQ caps)] [] (.bool (bV caps)):=by
 refine EN m202 Tryz.func171 ?_
 unfold m202
 simp only [go_sem,seval]
 refine wB (ι:=Nat) (fun i=>.mk [(0,.sl .bw 1 (wQ caps)),(3,.int .i64 i)] [] 10) (fun i=>i≤caps.length∧(caps.take i).all (fun c=>qO c 1 4)=true) (fun i=>caps.length-i) 0 (by simp) ?_ ?_
 ·refine Sub.shape [] id (by omega) ?_ ?_ ?_ ?_<;>simp [qN]
 ·rintro i ⟨hi,hp⟩
  simp only [go_sem,seval]
  refine qM (fun hc=>?_) (fun hc=>?_)
  ·simp only [decide_eq_true_eq] at hc
   have hl':i<caps.length:=by omega
   simp only [go_sem,seval,qI caps i hl']
   repeat refine K ?_
   refine CA [] (yM (caps.getD i 0) 1 4) ?_
   try simp only [go_sem,seval]
   cases hw:qO (caps.getD i 0) 1 4
   ·simp only [go_sem,seval,hw]
    refine fz ?_; simp [qX,qQ,qR,qL,-qYj]
    have:zZ caps=false:=bQ hl' hw
    simp [bV,this]
   ·simp only [go_sem,seval,hw,qW (i:=i) (by omega)]
    refine qV (i+1) (Sub.shape [] id (by omega) ?_ ?_ ?_ ?_) ?_ ?_
    any_goals (first | omega | (simp [qN]; done))
    exact ⟨hl',gI hp hl' hw⟩
  ·simp only [decide_eq_false_iff_not] at hc
   have hk:zZ caps=true:=zV hp hc
   have hs:=pX hk
   simp only [go_sem,seval]
   by_cases h24:(caps.length:Int)≤24
   ·try simp only [go_sem,seval,h24]
    refine CA [] (qJp caps caps.length hl hk (Nat.le_refl _)) ?_
    try simp only [go_sem,seval]
    try simp only [go_sem,seval,h24,List.take_length]
    refine fz ?_; simp [qX,qQ,qR,qL,-qYj]
    simp [bV,hk]
   ·try simp only [go_sem,seval,h24]
    refine fz ?_; simp [qX,qQ,qR,qL,-qYj]
    have :¬aD caps≤24:=by omega
    simp [bV,this]
theorem mN (caps:List Int) (n:Int) (hl:caps.length<2^40):qU Tryz.prog num 257 [.sl .bw 1 (wQ caps),.int .i64 n] [] (.int .i64 (base caps n)):=by
 have w1:IntKind.i64.wrap ((caps.length:Int)-1)=caps.length-1:=wM (by omega) (by omega)
 refine EN m257 Tryz.func128 ?_
 unfold m257
 simp only [go_sem,seval]
 refine CA [] (qGy caps hl) ?_
 try simp only [go_sem,seval]
 cases hk:bV caps
 ·try simp only [go_sem,seval,hk,w1]
  refine fz ?_; simp [qX,qQ,qR,qL,-qYj]
  simp [base,hk]
 try simp only [go_sem,seval,hk,w1]
 refine CA [] (yM n 0 (caps.length-1)) ?_
 try simp only [go_sem,seval]
 cases hw:qO n 0 (caps.length-1)
 ·try simp only [go_sem,seval,hw]
  refine fz ?_; simp [qX,qQ,qR,qL,-qYj]
  simp [base,hw]
 have hw':=qP.1 hw
 have hk':=hk
 unfold bV at hk'
 simp only [qWu] at hk'
 have en:n=(n.toNat:Int):=by omega
 try simp only [go_sem,seval,hw]
 rw [en]
 refine CA [] (qJp caps n.toNat hl hk'.1 (by omega)) ?_
 try simp only [go_sem,seval]
 refine fz ?_; simp [qX,qQ,qR,qL,-qYj]
 try rw [←en]
 have em:max n 0=n:=by omega
 simp [em,base,hw,hk]
theorem qEd (b:List Ins) (hl:b.length<2^40):qU Tryz.prog num 207 [.sl .bw 5 (aA b)] [] (.sl .own 1 (wQ (yY b))):=by
 refine EN m207 Tryz.func166 ?_
 unfold m207
 simp only [go_sem,seval]
 refine wB (ι:=Nat) (fun i=>.mk [(3,.ns 10 0 i),(4,.int .i64 (szB (b.take i))),(8,.sl .bw 5 (aA b)),(9,.int .i64 b.length),(10,.int .i64 i)] [(10,1,wQ (bF b i))] 11) (fun i=>i≤b.length) (fun i=>b.length-i) 0 (by simp) ?_ ?_
 ·refine Sub.shape [] id (by omega) ?_ ?_ ?_ ?_<;>simp [qN]
  all_goals simp [bF,szB,wQ]
 ·intro i hi
  simp only [go_sem,seval]
  refine qM (fun hc=>?_) (fun hc=>?_)
  ·simp only [decide_eq_true_eq] at hc
   have hl':i<b.length:=by omega
   have h1:=dW b i
   have h2:=dW b (i+1)
   have h3:=fR b i hl'
   have q1:IntKind.i64.wrap (szB (b.take i)+wH (b.getD i default))=szB (b.take (i+1)):=by rw [wM (by omega) (by omega)]; omega
   simp only [go_sem,seval,uW b i hl',jQ]
   repeat refine K ?_
   refine CA [] (vB (b.getD i default)) ?_
   try simp only [go_sem,seval]
   try simp only [go_sem,seval,q1,qW (i:=i) (by omega)]
   refine qV (i+1) (Sub.shape [] (fun n=>if n=10 then 13 else n) (by omega) ?_ ?_ ?_ ?_) hl' (by omega)<;>simp [qN]
   all_goals exact .inl (by rw [qBh,qH4])
  ·simp only [decide_eq_false_iff_not] at hc
   have he:i=b.length:=by omega
   subst he
   simp only [go_sem,seval]
   refine ⟨_,Sub.refl _,yR ?_⟩; simp [-qYj]
   simp [jQ,yY]
theorem qC2 (b:List Ins) (hl:b.length<2^40):qU Tryz.prog num 252 [.sl .bw 5 (aA b)] [] (.sl .own 1 (wQ (bF b (b.length+1)))):=by
 refine EN m252 Tryz.func170 ?_
 unfold m252
 simp only [go_sem,seval]
 refine wB (ι:=Nat) (fun i=>.mk [(0,.sl .bw 5 (aA b)),(3,.ns 10 0 (i+1)),(4,.int .i64 i)] [(10,1,wQ (bF b (i+1)))] 11) (fun i=>i≤b.length) (fun i=>b.length-i) 0 (by simp) ?_ ?_
 ·refine Sub.shape [] id (by omega) ?_ ?_ ?_ ?_<;>simp [qN]
  all_goals simp [bF,szB,wQ]
 ·intro i hi
  simp only [go_sem,seval]
  refine qM (fun hc=>?_) (fun hc=>?_)
  ·simp only [decide_eq_true_eq] at hc
   have hl':i<b.length:=by omega
   have h1:=dW b i
   have h2:=dW b (i+1)
   have h3:=fR b i hl'
   have q1:IntKind.i64.wrap (szB (b.take i)+wH (b.getD i default))=szB (b.take (i+1)):=by rw [wM (by omega) (by omega)]; omega
   have g:=xJ b (i+1) i (by omega)
   have hgi:=uW b i hl'
   have hgs:=qI (bF b (i+1)) i (by rw [jQ]; omega)
   have hsl:=jQ b (i+1)
   have hws:=qW (i:=i) (by omega)
   repeat' (first
    | (simp only [go_sem,seval,hgi,hgs,hsl,g,q1,hws])
    | (refine bH (xB _) rfl rfl rfl rfl ?_)
    | (refine K ?_)
    | (refine And.intro ?_ ?_)
    | fail)
   all_goals
    refine qV (i+1) (Sub.shape [] (fun n=>if n=10 then 12 else n) (by omega) ?_ ?_ ?_ ?_) hl' (by omega)<;>simp [qN]
    all_goals exact .inl (by rw [qBh b (i+1),qH4])
  ·simp only [decide_eq_false_iff_not] at hc
   have he:i=b.length:=by omega
   subst he
   simp only [go_sem,seval]
   refine ⟨_,Sub.refl _,yR ?_⟩; simp [-qYj]
   simp [jQ]
def jP:List Ins→Int→Int→Int→Int×Bool
 | [],_,_,_=>(-1,false)
 | x::l,off,i,at_=>if off≤at_∧at_≤off+wH x-1 then (i,decide (at_=off)) else jP l (off+wH x) (i+1) at_
def vK (p:wU) (body at_:Int):Int×Bool:=if jU p&&qO body 0 (p.bods.length-1) then jP (p.bods.getD body.toNat []) 0 0 at_ else (-1,false)
theorem qBu (b:List Ins) (i:Nat) (h:i<b.length) (at_:Int):jP (b.drop i) (szB (b.take i)) i at_=if szB (b.take i)≤at_∧at_≤szB (b.take (i+1))-1 then ((i:Int),decide (at_=szB (b.take i))) else jP (b.drop (i+1)) (szB (b.take (i+1))) ((i+1:Nat):Int) at_:=by
 have hd:b.drop i=b.getD i default::b.drop (i+1):=by rw [List.drop_eq_getElem_cons h]; simp [qWw,h]
 rw [hd,fR b i h]
 simp only [jP]
 push_cast
 rfl
theorem qEi (b:List Ins) (i:Nat) (h:b.length≤i) (off k at_:Int):jP (b.drop i) off k at_=(-1,false):=by
 rw [List.drop_eq_nil_of_le h]
 rfl
theorem qEh :∀(b:List Ins) (off k at_:Int),at_<off∨off+szB b≤at_→jP b off k at_=(-1,false)
 | [],_,_,_,_=>rfl
 | x::l,off,k,at_,h=>by
  have h1:=sP x
  have h2:=qCu l
  simp only [szB] at h
  simp only [jP]
  rw [if_neg (by omega)]
  exact qEh l _ _ _ (by omega)
theorem sL (b:List Ins) (at_:Int) (hl:b.length<2^40):qU Tryz.prog num 280 [.sl .bw 5 (aA b),.int .i64 at_] [] (.tup [.int .i64 (jP b 0 0 at_).1,.bool (jP b 0 0 at_).2]):=by
 refine EN m280 Tryz.func169 ?_
 unfold m280
 simp only [go_sem,seval]
 refine CA [] (qEd b hl) ?_
 try simp only [go_sem,seval]
 have hsl:(yY b).length=b.length:=jQ b b.length
 try simp only [go_sem,seval,hsl]
 refine wB (ι:=Nat) (fun i=>.mk [(0,.sl .bw 5 (aA b)),(1,.int .i64 at_),(9,.ns 10 0 b.length),(10,.int .i64 b.length),(11,.int .i64 i)] [(10,1,wQ (yY b))] 11) (fun i=>i≤b.length∧jP (b.drop i) (szB (b.take i)) i at_=jP b 0 0 at_) (fun i=>b.length-i) 0 (by simp [szB]) ?_ ?_
 ·refine Sub.shape [] id (by omega) ?_ ?_ ?_ ?_<;>simp [qN]
 ·rintro i ⟨hi,hp⟩
  simp only [go_sem,seval]
  refine qM (fun hc=>?_) (fun hc=>?_)
  ·simp only [decide_eq_true_eq] at hc
   have hl':i<b.length:=by omega
   have hsg:(yY b).getD i 0=szB (b.take i):=xJ b b.length i hl'
   have h1:=dW b i
   have h2:=dW b (i+1)
   have h3:=fR b i hl'
   have h4:=sP (b.getD i default)
   have hs:=qBu b i hl' at_
   have q1:IntKind.i64.wrap (szB (b.take i)+wH (b.getD i default))=szB (b.take (i+1)):=by rw [wM (by omega) (by omega)]; omega
   have q2:IntKind.i64.wrap (szB (b.take (i+1))-1)=szB (b.take (i+1))-1:=wM (by omega) (by omega)
   simp only [go_sem,seval,qI (yY b) i (by omega),hsg,hsl,uW b i hl']
   repeat refine K ?_
   refine CA [] (vB (b.getD i default)) ?_
   try simp only [go_sem,seval]
   try simp only [go_sem,seval,q1,q2]
   refine CA [] (yD at_ (szB (b.take i)) (szB (b.take (i+1))-1)) ?_
   try simp only [go_sem,seval]
   rw [hp] at hs
   cases hw:qO at_ (szB (b.take i)) (szB (b.take (i+1))-1)
   ·have hn :¬(szB (b.take i)≤at_∧at_≤szB (b.take (i+1))-1):=fun h=>by rw [←qP] at h; rw [h] at hw; simp at hw
    rw [if_neg hn] at hs
    try simp only [go_sem,seval,hw,qW (i:=i) (by omega)]
    refine qV (i+1) (Sub.shape [] id (by omega) ?_ ?_ ?_ ?_) ?_ ?_
    any_goals (first | omega | (simp [qN]; done))
    exact ⟨hl',hs.symm⟩
   ·rw [if_pos (qP.1 hw)] at hs
    try simp only [go_sem,seval,hw]
    refine ⟨_,Sub.refl _,yO (by simp) ?_⟩; simp [-qYj]
    rw [hs]
    simp
  ·simp only [decide_eq_false_iff_not] at hc
   rw [qEi b i (by omega)] at hp
   simp only [go_sem,seval]
   refine ⟨_,Sub.refl _,yO (by simp) ?_⟩; simp [-qYj]
   rw [←hp]
   simp
theorem qH8 (p:wU) (k at_:Int) (hp:vY p):qU Tryz.prog num 230 [.agg (yT .bw p),.int .i64 k,.int .i64 at_] [] (.tup [.int .i64 (vK p k at_).1,.bool (vK p k at_).2]):=by
 obtain ⟨h1,h2,h3⟩:=hp
 have w1:IntKind.i64.wrap ((p.bods.length:Int)-1)=p.bods.length-1:=wM (by omega) (by omega)
 refine EN m230 Tryz.func125 ?_
 unfold m230
 simp only [go_sem,seval]
 refine CA [] (cS p (by omega) (by omega) (fun b hb=>by have:=h3 b hb; omega)) ?_
 try simp only [go_sem,seval]
 cases hok:jU p
 ·try simp only [go_sem,seval,hok]
  refine ⟨_,Sub.refl _,yO (by simp) ?_⟩; simp [-qYj]
  simp [vK,hok]
 try simp only [go_sem,seval,hok,w1]
 refine CA [] (yD k 0 (p.bods.length-1)) ?_
 try simp only [go_sem,seval]
 cases hw:qO k 0 (p.bods.length-1)
 ·try simp only [go_sem,seval,hw]
  refine ⟨_,Sub.refl _,yO (by simp) ?_⟩; simp [-qYj]
  simp [vK,hw]
 have hw':=qP.1 hw
 have hk:k.toNat<p.bods.length:=by omega
 try simp only [go_sem,seval,hw,qZ .bw p.bods k.toNat hk]
 repeat refine K ?_
 refine CA [] (sL (p.bods.getD k.toNat []) at_ (h3 _ (wZ p.bods k.toNat [] hk))) ?_
 try simp only [go_sem,seval]
 refine ⟨_,Sub.refl _,yO (by simp) ?_⟩; simp [-qYj]
 simp [vK,hok,hw]
theorem lS (p:wU) (k at_:Int) (hp:vY p):qU Tryz.prog num 224 [.agg (yT .bw p),.int .i64 k,.int .i64 at_] [] (.tup [.int .i64 (vK p k at_).1,.bool (vK p k at_).2]):=by
 obtain ⟨h1,h2,h3⟩:=hp
 have w1:IntKind.i64.wrap ((p.bods.length:Int)-1)=p.bods.length-1:=wM (by omega) (by omega)
 refine EN m224 Tryz.func126 ?_
 unfold m224
 simp only [go_sem,seval]
 refine CA [] (aZ p (by omega) (by omega) (fun b hb=>by have:=h3 b hb; omega)) ?_
 try simp only [go_sem,seval]
 cases hok:jU p
 ·try simp only [go_sem,seval,hok]
  refine ⟨_,Sub.refl _,yO (by simp) ?_⟩; simp [-qYj]
  simp [vK,hok]
 try simp only [go_sem,seval,hok,w1]
 refine CA [] (yM k 0 (p.bods.length-1)) ?_
 try simp only [go_sem,seval]
 cases hw:qO k 0 (p.bods.length-1)
 ·try simp only [go_sem,seval,hw]
  refine ⟨_,Sub.refl _,yO (by simp) ?_⟩; simp [-qYj]
  simp [vK,hw]
 have hw':=qP.1 hw
 have hk:k.toNat<p.bods.length:=by omega
 have hb:=h3 _ (wZ p.bods k.toNat [] hk)
 have hres:vK p k at_=jP (p.bods.getD k.toNat []) 0 0 at_:=by simp [vK,hok,hw]
 rw [hres]
 try simp only [go_sem,seval,hw,qZ .bw p.bods k.toNat hk]
 repeat refine K ?_
 generalize p.bods.getD k.toNat []=b at hb
 refine CA [] (qC2 b hb) ?_
 try simp only [go_sem,seval]
 have hsl:(bF b (b.length+1)).length=b.length+1:=jQ b (b.length+1)
 have w2:IntKind.i64.wrap ((b.length+1:Nat)-1:Int)=b.length:=by rw [wM (by omega) (by omega)]; omega
 have hsn:(bF b (b.length+1)).getD b.length 0=szB b:=by rw [xJ b (b.length+1) b.length (by omega),List.take_length]
 have hz:=qCu b
 have w3:IntKind.i64.wrap (szB b-1)=szB b-1:=wM (by omega) (by omega)
 try simp only [go_sem,seval,hsl,w2,qI (bF b (b.length+1)) b.length (by omega),hsn,w3]
 repeat refine K ?_
 refine CA [] (yM at_ 0 (szB b-1)) ?_
 try simp only [go_sem,seval]
 cases hin:qO at_ 0 (szB b-1)
 ·have ho:=qEh b 0 0 at_ (by apply Decidable.byContradiction; intro h; rw [show qO at_ 0 (szB b-1)=true from qP.2 (by omega)] at hin; simp at hin)
  try simp only [go_sem,seval,hin]
  refine ⟨_,Sub.refl _,yO (by simp) ?_⟩; simp [-qYj]
  rw [ho]
  simp
 have hin':=qP.1 hin
 try simp only [go_sem,seval,hin]
 refine wB (ι:=Nat) (fun i=>.mk [(2,.int .i64 at_),(8,.ns 11 0 (b.length+1)),(9,.int .i64 b.length),(10,.int .i64 i)] [(11,1,wQ (bF b (b.length+1)))] 12) (fun i=>i≤b.length∧jP (b.drop i) (szB (b.take i)) i at_=jP b 0 0 at_∧szB (b.take i)≤at_) (fun i=>b.length-i) 0 (by simp [szB]; omega) ?_ ?_
 ·refine Sub.shape [] id (by omega) ?_ ?_ ?_ ?_<;>simp [qN]
 ·rintro i ⟨hi,hp,hlo⟩
  simp only [go_sem,seval]
  refine qM (fun hc=>?_) (fun hc=>?_)
  ·simp only [decide_eq_true_eq] at hc
   have hl':i<b.length:=by omega
   have hsg:(bF b (b.length+1)).getD i 0=szB (b.take i):=xJ b (b.length+1) i (by omega)
   have hsg2:(bF b (b.length+1)).getD (i+1) 0=szB (b.take (i+1)):=xJ b (b.length+1) (i+1) (by omega)
   have hs:=qBu b i hl' at_
   rw [hp] at hs
   simp only [go_sem,seval,qW (i:=i) (by omega),qI (bF b (b.length+1)) (i+1) (by omega),hsg2,hsl]
   repeat refine K ?_
   refine qM (fun hc2=>?_) (fun hc2=>?_)
   ·simp only [decide_eq_true_eq] at hc2
    rw [if_pos (by omega)] at hs
    simp only [go_sem,seval,qI (bF b (b.length+1)) i (by omega),hsg,hsl]
    repeat refine K ?_
    refine ⟨_,Sub.refl _,yO (by simp) ?_⟩; simp [-qYj]
    rw [hs]
    simp
   ·simp only [decide_eq_false_iff_not] at hc2
    rw [if_neg (by omega)] at hs
    simp only [go_sem,seval,qW (i:=i) (by omega)]
    refine qV (i+1) (Sub.shape [] id (by omega) ?_ ?_ ?_ ?_) ?_ ?_
    any_goals (first | omega | (simp [qN]; done))
    exact ⟨hl',hs.symm,by omega⟩
  ·simp only [decide_eq_false_iff_not] at hc
   rw [qEi b i (by omega)] at hp
   simp only [go_sem,seval]
   refine ⟨_,Sub.refl _,yO (by simp) ?_⟩; simp [-qYj]
   rw [←hp]
   simp
end Go.Sep
