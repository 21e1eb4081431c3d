/- Contracts of functions. -/
import Derived.Test.YtebbppogicgpkaaGreatQxx14
import Derived.Test.YtebbppogicgpkaaGreatQxx6
namespace Go.Sep
set_option maxHeartbeats 16000000
open Go.Proofs
set_option linter.unusedSimpArgs false
set_option linter.unusedVariables false
set_option maxRecDepth 100000
def m202:MFn:=⟨26,[.t 2],kr [xF 2] (.seq (kr [xI 3 0] (.blk 0 (.loop (.seq (kr [xv 4 3,xv 5 0,xe 6 5,bT 7 .lss 4 6] (kX 7 0)) (.seq (.blk 1 (kr [xv 10 0,xv 11 3,xD 12 1 10 11,xl 13 12,xc3 14 64 (.t 13) (xi 1) (xi 4),xN 15 14] (kF 15 [xF 2]))) (xr [xv 8 3,bI 9 .add 8 1,xv 3 9])))))) (kR [xv 16 0,xe 17 16,bI 18 .leq 17 24,xv 19 18,yv 20 0 19,yv 21 0 19,ye 22 21 19,xg 23 (.call 251 [false,false] [.t 20,.t 22]) 19 true,yI 24 .leq 23 24 19,xP 25 19 24,xv 2 25]))⟩
def m206:MFn:=⟨42,[.t 4],kr [xI 4 0] (.seq (kr [xv 9 1,xv 10 0,xe 11 10,bI 12 .sub 11 1,xc3 13 59 (.t 9) (xi 0) (.t 12),xN 14 13,xv 15 14,zv 16 0 15,xg 17 (.call 68 [false] [.t 16]) 15 false,zN 18 17 15,xQ 19 15 18] (kF 19 [xo 4 (.mv (.c (.int .i64 (-1))))])) (kr [xI 5 0,xI 6 0] (.seq (kr [xv 20 0,xe 21 20,xI 22 0] (.blk 0 (.loop (kr [bT 23 .lss 22 21] (.seq (kX 23 0) (.seq (.blk 1 (kr [xv 24 22,xD 25 1 20 22,xl 26 25,xv 7 24,xv 8 26] (.seq (kr [xv 27 7,xv 28 1,bT 29 .lss 27 28] (.cond 29 (xr [xv 30 5,xv 31 8,bI 32 .add 31 4,bT 33 .add 30 32,xv 5 33]) (.skip))) (xr [xv 34 6,xv 35 8,bI 36 .add 35 4,bT 37 .add 34 36,xv 6 37])))) (xr [bI 38 .add 22 1,xv 22 38]))))))) (.seq (kr [xv 39 6,bI 40 .gtr 39 24] (kF 40 [xo 4 (.mv (.c (.int .i64 (-1))))])) (kR [xv 41 5,xv 4 41])))))⟩
def m207:MFn:=⟨24,[.t 2],kr [xo 2 (.mv (.c (.nil)))] (kr [xo 7 (.mkSl [xz] 0 []),xv 3 7] (kr [xI 4 0] (.seq (kr [xv 8 0,xe 9 8,xI 10 0] (.blk 0 (.loop (kr [bT 11 .lss 10 9] (.seq (kX 11 0) (.seq (.blk 1 (kr [xD 12 5 8 10,xm 13 5 12,xo 6 (.alloc [xz,xz,xz,xz,xz]),xS 5 6 13] (kr [xv 14 3,xv 15 4,xo 16 (.mkSl [xz] 1 [(0,.t 15)]),xA 17 1 8 14 16,xv 3 17] (xr [xv 18 4,xm 19 5 6,xc1 20 262 (.t 19),bT 21 .add 18 20,xv 4 21])))) (xr [bI 22 .add 10 1,xv 10 22]))))))) (kR [xv 23 3,xv 2 23]))))⟩
def m224:MFn:=⟨59,[.t 6,.t 7],kr [xb 3 0,xI 6 0,xF 7] (.seq (kr [xm 11 2 3,xc1 12 62 (.t 11),xN 13 12,xv 14 13,zv 15 1 14,za 16 1 3 14,zl 17 1 16 14,ze 18 17 14,zI 19 .sub 18 1 14,xg 20 (.call 64 [false,false,false] [.t 15,xi 0,.t 19]) 14 false,zN 21 20 14,xQ 22 14 21] (kF 22 [xo 6 (.mv (.c (.int .i64 (-1)))),xF 7])) (kr [xa 23 1 3,xl 24 23,xv 25 1,xD 26 1 24 25,xl 27 26,xc1 28 252 (.t 27),xv 8 28] (kr [xv 29 8,xe 30 29,bI 31 .sub 30 1,xv 9 31] (.seq (kr [xv 32 2,xv 33 8,xv 34 9,xD 35 1 33 34,xl 36 35,bI 37 .sub 36 1,xc3 38 64 (.t 32) (xi 0) (.t 37),xN 39 38] (kF 39 [xo 6 (.mv (.c (.int .i64 (-1)))),xF 7])) (.seq (kr [xI 10 0] (.blk 0 (.loop (.seq (kr [xv 40 10,xv 41 9,bT 42 .lss 40 41] (kX 42 0)) (.seq (.blk 1 (kr [xv 45 2,xv 46 8,xv 47 10,bI 48 .add 47 1,xD 49 1 46 48,xl 50 49,bT 51 .lss 45 50] (.cond 51 (.seq (.dreg (.take 0 (xv 52 10) (.take 1 (xv 53 2) (.take 2 (xv 54 8) (.take 3 (xv 55 10) (.take 4 (xD 56 1 54 55) (.take 5 (xl 57 56) (.take 6 (bT 58 .eql 53 57) (.only 7 [0] (xv 6 52) (.only 8 [0,1,2,3,4,5,6] (xv 7 58) (.done))))))))))) (.ret)) (.skip)))) (xr [xv 43 10,bI 44 .add 43 1,xv 10 44])))))) (kR [xo 6 (.mv (.c (.int .i64 (-1)))),xF 7]))))))⟩
def m251:MFn:=⟨20,[.t 4],kr [xI 4 0] (kr [xI 5 0] (.seq (kr [xI 6 0] (.blk 0 (.loop (.seq (kr [xv 7 6,xv 8 1,bT 9 .lss 7 8] (kX 9 0)) (.seq (.blk 1 (xr [xv 12 5,xv 13 0,xv 14 6,xD 15 1 13 14,xl 16 15,bT 17 .add 12 16,bI 18 .add 17 4,xv 5 18])) (xr [xv 10 6,bI 11 .add 10 1,xv 6 11])))))) (kR [xv 19 5,xv 4 19])))⟩
def m252:MFn:=⟨26,[.t 2],kr [xo 2 (.mv (.c (.nil)))] (kr [xo 5 (.mkSl [xz] 1 [(0,xi 0)]),xv 3 5] (.seq (kr [xI 4 0] (.blk 0 (.loop (.seq (kr [xv 6 4,xv 7 0,xe 8 7,bT 9 .lss 6 8] (kX 9 0)) (.seq (.blk 1 (.dreg (.take 0 (xv 12 3) (.take 1 (xv 13 3) (.take 2 (xv 14 4) (.take 5 (xv 17 0) (.take 6 (xv 18 4) (.both 3 [1,2] (xD 15 1 13 14) (.both 4 [3,1,2] (xl 16 15) (.only 7 [5,6] (xD 19 5 17 18) (.only 8 [7,5,6] (xm 20 5 19) (.only 9 [8,7,5,6] (xc1 21 285 (.t 20)) (.only 10 [4,9,3,8,1,2,7,5,6] (bT 22 .add 16 21) (.only 11 [10,4,9,3,8,1,2,7,5,6] (xo 23 (.mkSl [xz] 1 [(0,.t 22)])) (.only 12 [0,9,11,8,10,7,4,5,6,3,1,2] (xA 24 1 8 12 23) (.only 13 [0,1,2,5,6] (xv 3 24) (.done)))))))) 7 [5,6] (xD 19 5 17 18) (.both 4 [3,1,2] (xl 16 15) (.only 8 [7,5,6] (xm 20 5 19) (.only 9 [8,7,5,6] (xc1 21 285 (.t 20)) (.only 10 [4,9,3,8,1,2,7,5,6] (bT 22 .add 16 21) (.only 11 [10,4,9,3,8,1,2,7,5,6] (xo 23 (.mkSl [xz] 1 [(0,.t 22)])) (.only 12 [0,9,11,8,10,7,4,5,6,3,1,2] (xA 24 1 8 12 23) (.only 13 [0,1,2,5,6] (xv 3 24) (.done))))))) 8 [7,5,6] (xm 20 5 19) (.both 4 [3,1,2] (xl 16 15) (.only 9 [8,7,5,6] (xc1 21 285 (.t 20)) (.only 10 [4,9,3,8,1,2,7,5,6] (bT 22 .add 16 21) (.only 11 [10,4,9,3,8,1,2,7,5,6] (xo 23 (.mkSl [xz] 1 [(0,.t 22)])) (.only 12 [0,9,11,8,10,7,4,5,6,3,1,2] (xA 24 1 8 12 23) (.only 13 [0,1,2,5,6] (xv 3 24) (.done)))))) 9 [8,7,5,6] (xc1 21 285 (.t 20)) (.only 4 [3,1,2] (xl 16 15) (.only 10 [4,9,3,8,1,2,7,5,6] (bT 22 .add 16 21) (.only 11 [10,4,9,3,8,1,2,7,5,6] (xo 23 (.mkSl [xz] 1 [(0,.t 22)])) (.only 12 [0,9,11,8,10,7,4,5,6,3,1,2] (xA 24 1 8 12 23) (.only 13 [0,1,2,5,6] (xv 3 24) (.done))))))))) 7 [5,6] (xD 19 5 17 18) (.both 3 [1,2] (xD 15 1 13 14) (.both 4 [3,1,2] (xl 16 15) (.only 8 [7,5,6] (xm 20 5 19) (.only 9 [8,7,5,6] (xc1 21 285 (.t 20)) (.only 10 [4,9,3,8,1,2,7,5,6] (bT 22 .add 16 21) (.only 11 [10,4,9,3,8,1,2,7,5,6] (xo 23 (.mkSl [xz] 1 [(0,.t 22)])) (.only 12 [0,9,11,8,10,7,4,5,6,3,1,2] (xA 24 1 8 12 23) (.only 13 [0,1,2,5,6] (xv 3 24) (.done))))))) 8 [7,5,6] (xm 20 5 19) (.both 4 [3,1,2] (xl 16 15) (.only 9 [8,7,5,6] (xc1 21 285 (.t 20)) (.only 10 [4,9,3,8,1,2,7,5,6] (bT 22 .add 16 21) (.only 11 [10,4,9,3,8,1,2,7,5,6] (xo 23 (.mkSl [xz] 1 [(0,.t 22)])) (.only 12 [0,9,11,8,10,7,4,5,6,3,1,2] (xA 24 1 8 12 23) (.only 13 [0,1,2,5,6] (xv 3 24) (.done)))))) 9 [8,7,5,6] (xc1 21 285 (.t 20)) (.only 4 [3,1,2] (xl 16 15) (.only 10 [4,9,3,8,1,2,7,5,6] (bT 22 .add 16 21) (.only 11 [10,4,9,3,8,1,2,7,5,6] (xo 23 (.mkSl [xz] 1 [(0,.t 22)])) (.only 12 [0,9,11,8,10,7,4,5,6,3,1,2] (xA 24 1 8 12 23) (.only 13 [0,1,2,5,6] (xv 3 24) (.done)))))))) 8 [7,5,6] (xm 20 5 19) (.both 3 [1,2] (xD 15 1 13 14) (.both 4 [3,1,2] (xl 16 15) (.only 9 [8,7,5,6] (xc1 21 285 (.t 20)) (.only 10 [4,9,3,8,1,2,7,5,6] (bT 22 .add 16 21) (.only 11 [10,4,9,3,8,1,2,7,5,6] (xo 23 (.mkSl [xz] 1 [(0,.t 22)])) (.only 12 [0,9,11,8,10,7,4,5,6,3,1,2] (xA 24 1 8 12 23) (.only 13 [0,1,2,5,6] (xv 3 24) (.done)))))) 9 [8,7,5,6] (xc1 21 285 (.t 20)) (.only 4 [3,1,2] (xl 16 15) (.only 10 [4,9,3,8,1,2,7,5,6] (bT 22 .add 16 21) (.only 11 [10,4,9,3,8,1,2,7,5,6] (xo 23 (.mkSl [xz] 1 [(0,.t 22)])) (.only 12 [0,9,11,8,10,7,4,5,6,3,1,2] (xA 24 1 8 12 23) (.only 13 [0,1,2,5,6] (xv 3 24) (.done))))))) 9 [8,7,5,6] (xc1 21 285 (.t 20)) (.only 3 [1,2] (xD 15 1 13 14) (.only 4 [3,1,2] (xl 16 15) (.only 10 [4,9,3,8,1,2,7,5,6] (bT 22 .add 16 21) (.only 11 [10,4,9,3,8,1,2,7,5,6] (xo 23 (.mkSl [xz] 1 [(0,.t 22)])) (.only 12 [0,9,11,8,10,7,4,5,6,3,1,2] (xA 24 1 8 12 23) (.only 13 [0,1,2,5,6] (xv 3 24) (.done))))))))))))))))) (xr [xv 10 4,bI 11 .add 10 1,xv 4 11])))))) (kR [xv 25 3,xv 2 25])))⟩
def m257:MFn:=⟨19,[.t 4],kr [xI 4 0] (.seq (kr [xv 5 0,xc1 6 202 (.t 5),xN 7 6,xv 8 7,zv 9 1 8,zv 10 0 8,ze 11 10 8,zI 12 .sub 11 1 8,xg 13 (.call 64 [false,false,false] [.t 9,xi 0,.t 12]) 8 false,zN 14 13 8,xQ 15 8 14] (kF 15 [xo 4 (.mv (.c (.int .i64 (-1))))])) (kR [xv 16 0,xv 17 1,xc2 18 251 (.t 16) (.t 17),xv 4 18]))⟩
def m280:MFn:=⟨32,[.t 4,.t 5],kr [xI 4 0,xF 5] (.seq (kr [xv 8 0,xc1 9 207 (.t 8),xe 10 9,xI 11 0] (.blk 0 (.loop (kr [bT 12 .lss 11 10] (.seq (kX 12 0) (.seq (.blk 1 (kr [xv 13 11,xD 14 1 9 11,xl 15 14,xv 6 13,xv 7 15] (kr [xv 16 1,xv 17 7,xv 18 7,xv 19 0,xv 20 6,xD 21 5 19 20,xm 22 5 21,xc1 23 262 (.t 22),bT 24 .add 18 23,bI 25 .sub 24 1,xc3 26 59 (.t 16) (.t 17) (.t 25)] (kF 26 [xv 27 6,xv 28 1,xv 29 7,bT 30 .eql 28 29,xv 4 27,xv 5 30])))) (xr [bI 31 .add 11 1,xv 11 31]))))))) (kR [xo 4 (.mv (.c (.int .i64 (-1)))),xF 5]))⟩
theorem ints_snoc' (l:List Int) (a:Int):ints l++[[.int .i64 a]]=ints (l++[a]):=by simp [ints]
def sumC:List Int→Int
 | []=>0
 | c::l=>c+4+sumC l
theorem sumC_app :∀(a b:List Int),sumC (a++b)=sumC a+sumC b
 | [],b=>by simp [sumC]
 | x::a,b=>by simp only [List.cons_append,sumC,sumC_app a b]; omega
theorem sumC_take (l:List Int) (i:Nat) (h:i<l.length):sumC (l.take (i+1))=sumC (l.take i)+(l.getD i 0)+4:=by
 rw [take_snoc l 0 i h,sumC_app]
 simp only [sumC]
 omega
theorem capsOk_sum :∀{l:List Int},capsOk l=true→5*(l.length:Int)≤sumC l∧sumC l≤8*l.length
 | [],_=>by simp [sumC]
 | c::l,h=>by
  unfold capsOk at h
  rw [List.all_cons,Bool.and_eq_true] at h
  have ih:=capsOk_sum (l:=l) h.2
  have:=within_iff.1 h.1
  simp only [sumC,List.length_cons]
  omega
theorem capsOk_take {l:List Int} (h:capsOk l=true) (i:Nat):capsOk (l.take i)=true:=by
 unfold capsOk at *
 rw [List.all_eq_true] at *
 exact fun x hx=>h x (List.mem_of_mem_take hx)
theorem sumC_take_le {l:List Int} (h:capsOk l=true) (i:Nat):0≤sumC (l.take i)∧sumC (l.take i)≤sumC l∧sumC (l.take i)≤8*l.length:=by
 have h1:=capsOk_sum (capsOk_take h i)
 have h2:capsOk (l.drop i)=true:=by
  unfold capsOk at *
  rw [List.all_eq_true] at *
  exact fun x hx=>h x (List.mem_of_mem_drop hx)
 have h3:=capsOk_sum h2
 have e:sumC l=sumC (l.take i)+sumC (l.drop i):=by rw [←sumC_app,List.take_append_drop]
 have h4:(l.take i).length≤l.length:=by simp; omega
 omega
def lieOk (caps:List Int):Bool:=capsOk caps&&decide (sumC caps≤24)
def base (caps:List Int) (n:Int):Int:=if within n 0 (caps.length-1)&&lieOk caps then sumC (caps.take n.toNat) else -1
theorem base_range {caps:List Int} {n:Int} (h :¬base caps n<0):0≤n∧n.toNat<caps.length∧lieOk caps=true∧0≤base caps n∧base caps n+caps.getD n.toNat 0+4≤24∧within (caps.getD n.toNat 0) 1 4=true:=by
 unfold base at *
 split at h
 ·rename_i hc
  rw [if_pos hc]
  simp only [Bool.and_eq_true,within_iff] at hc
  have hn:n.toNat<caps.length:=by omega
  have hl:=hc.2
  unfold lieOk at hl
  simp only [Bool.and_eq_true,decide_eq_true_eq] at hl
  have h1:=sumC_take_le hl.1 n.toNat
  have h2:=sumC_take_le hl.1 (n.toNat+1)
  have h3:=sumC_take caps n.toNat hn
  refine ⟨by omega,hn,hc.2,by omega,by omega,?_⟩
  have:=hl.1
  unfold capsOk at this
  rw [List.all_eq_true] at this
  exact this _ (getD_mem caps n.toNat 0 hn)
 ·simp at h
def szB:List Ins→Int
 | []=>0
 | x::l=>emitSize x+szB l
theorem szB_app :∀(a b:List Ins),szB (a++b)=szB a+szB b
 | [],b=>by simp [szB]
 | x::a,b=>by simp only [List.cons_append,szB,szB_app a b]; omega
theorem szB_take (l:List Ins) (i:Nat) (h:i<l.length):szB (l.take (i+1))=szB (l.take i)+emitSize (l.getD i default):=by
 rw [take_snoc l default i h,szB_app]
 simp [szB]
theorem emitSize_le (x:Ins):0≤emitSize x∧emitSize x≤32:=by
 unfold emitSize numb
 repeat' split
 all_goals omega
theorem szB_le :∀(l:List Ins),0≤szB l∧szB l≤32*l.length
 | []=>by simp [szB]
 | x::l=>by
  have:=szB_le l
  have:=emitSize_le x
  simp only [szB,List.length_cons]
  omega
theorem szB_take_le (l:List Ins) (i:Nat):0≤szB (l.take i)∧szB (l.take i)≤32*l.length:=by
 have h1:=szB_le (l.take i)
 have h4:(l.take i).length≤l.length:=by simp; omega
 omega
def startsN (b:List Ins) (n:Nat):List Int:=(List.range n).map fun i=>szB (b.take i)
theorem startsN_length (b:List Ins) (n:Nat):(startsN b n).length=n:=by simp [startsN]
theorem startsN_succ (b:List Ins) (n:Nat):startsN b (n+1)=startsN b n++[szB (b.take n)]:=by simp [startsN,List.range_succ]
theorem startsN_getD (b:List Ins) (n i:Nat) (h:i<n):(startsN b n).getD i 0=szB (b.take i):=by simp [startsN,List.getD_eq_getElem?_getD,h]
theorem startsN_take (b:List Ins) (n m:Nat) (h:m≤n):(startsN b n).take m=startsN b m:=by
 apply List.ext_getElem (by simp [startsN]; omega)
 intro i h1 h2
 simp [startsN]
def startsOf (b:List Ins):List Int:=startsN b b.length
def single (x:Ins) (starts:List Int):Step :=
 if x.op=1 then ⟨1,x.r,0,0,x.n⟩ else if x.op=2 then ⟨2,x.r,x.a,x.b,0⟩ else if x.op=3 then ⟨3,x.r,x.a,x.b,0⟩ else if x.op=4 then ⟨4,x.r,x.a,x.b,0⟩
 else if x.op=10 then ⟨9,0,x.a,0,0⟩ else if x.op=11 then ⟨10,0,0,0,starts.getD x.n.toNat 0⟩ else if x.op=12 then ⟨11,0,x.a,0,starts.getD x.n.toNat 0⟩ else ⟨12,0,0,0,0⟩
def emit (caps:List Int) (x:Ins) (f:Int) (starts:List Int):List Step :=
 if insOk x starts.length caps.length then
  if within x.op 5 9 then
   if base caps x.n<0 then []
   else lockL f (base caps x.n)++(if x.op=5∨x.op=7 then sendL f (base caps x.n) (caps.getD x.n.toNat 0) x else if x.op=6∨x.op=8 then takeL f (base caps x.n) (caps.getD x.n.toNat 0) x else closeL f (base caps x.n))
  else [single x starts]
 else []
theorem emit_len (caps:List Int) (x:Ins) (f:Int) (starts:List Int):(emit caps x f starts).length≤40:=by
 unfold emit
 repeat' split
 all_goals simp [lockL,sendL,takeL,closeL,shutL,letL]
 all_goals (try split)
 all_goals simp
def compN (caps:List Int) (b:List Ins):Nat→List Step
 | 0=>[]
 | i+1=>compN caps b i++emit caps (b.getD i default) (szB (b.take i)) (startsOf b)
def comp (caps:List Int) (b:List Ins):List Step:=compN caps b b.length
theorem compN_len (caps:List Int) (b:List Ins) :∀i,(compN caps b i).length≤40*i
 | 0=>by simp [compN]
 | i+1=>by
  have:=compN_len caps b i
  have:=emit_len caps (b.getD i default) (szB (b.take i)) (startsOf b)
  simp only [compN,List.length_append]
  omega
theorem progOk_caps {p:Prog} (h:progOk p=true):capsOk p.caps=true∧p.caps.length≤3∧p.bods.length≤4∧1≤p.bods.length∧∀b∈p.bods,bodyOk b p.caps.length=true:=by
 unfold progOk at h
 simp only [Bool.and_eq_true,within_iff,decide_eq_true_eq,List.all_eq_true] at h
 exact ⟨h.1.2,by omega,by omega,by omega,h.1.1.1⟩
theorem base0_neg {p:Prog} (h:progOk p=true):(decide (0<(p.caps.length:Int))&&decide (base p.caps 0<0))=!lieOk p.caps:=by
 have hc:=(progOk_caps h).1
 cases hl:lieOk p.caps with
 | false =>
  have hlen:0<p.caps.length:=by
   apply Nat.pos_of_ne_zero
   intro e
   have e':p.caps=[]:=List.eq_nil_of_length_eq_zero e
   unfold lieOk at hl
   rw [hc,e'] at hl
   simp [sumC] at hl
  have hb:base p.caps 0=-1:=by unfold base; rw [hl,Bool.and_false]; rfl
  rw [hb]
  simp
  omega
 | true =>
  by_cases hlen:0<p.caps.length
  ·have hb:base p.caps 0=0:=by
    unfold base
    have hw:within 0 0 ((p.caps.length:Int)-1)=true:=by rw [within_iff]; omega
    rw [hl,hw]
    rfl
   rw [hb]
   simp
  ·simp; omega
theorem take_min (l:List Int) (i n:Nat) (h:i<n):l.take (min (i+1) n)=l.take (i+1)∧l.take (min i n)=l.take i:=by
 rw [Nat.min_eq_left (by omega),Nat.min_eq_left (by omega)]
 exact ⟨rfl,rfl⟩
theorem implBase_ok (caps:List Int) (n:Int) (hl:caps.length<2^40):CallOk Tryz.prog num 206 [.sl .bw 1 (ints caps),.int .i64 n] [] (.int .i64 (base caps n)):=by
 refine EN m206 Tryz.func76 ?_
 unfold m206
 have w1:IntKind.i64.wrap ((caps.length:Int)-1)=caps.length-1:=wrap64 (by omega) (by omega)
 simp only [go_sem,seval,w1]
 repeat refine K ?_
 refine CA [] (within_ok n 0 (caps.length-1)) ?_
 try simp only [go_sem,seval]
 repeat refine K ?_
 cases hw:within n 0 (caps.length-1)
 ·try simp only [go_sem,seval,hw]
  repeat refine K ?_
  refine fz ?_; simp [FinS,nilL,nilV,oneOr,-List.drop_one]
  simp [base,hw]
 try simp only [go_sem,seval,hw]
 repeat refine K ?_
 refine CA [] (capsOk_ok caps (by omega)) ?_
 try simp only [go_sem,seval]
 repeat refine K ?_
 cases hk:capsOk caps
 ·try simp only [go_sem,seval,hk]
  repeat refine K ?_
  refine fz ?_; simp [FinS,nilL,nilV,oneOr,-List.drop_one]
  simp [base,lieOk,hk]
 try simp only [go_sem,seval,hk]
 repeat refine K ?_
 have hw':=within_iff.1 hw
 refine loop_intro (ι:=Nat) (fun i=>.mk [(1,.int .i64 n),(5,.int .i64 (sumC (caps.take (min i n.toNat)))),(6,.int .i64 (sumC (caps.take i))),(20,.sl .bw 1 (ints caps)),(21,.int .i64 caps.length),(22,.int .i64 i)] [] 10) (fun i=>i≤caps.length) (fun i=>caps.length-i) 0 (by simp) ?_ ?_
 ·refine Sub.shape [] id (by omega) ?_ ?_ ?_ ?_<;>simp [ints_rep]
  simp [sumC]
 ·intro i hi
  simp only [go_sem,seval]
  refine branch_intro (fun hc=>?_) (fun hc=>?_)
  ·simp only [decide_eq_true_eq] at hc
   have hl':i<caps.length:=by omega
   have h1:=sumC_take_le hk i
   have h2:=sumC_take_le hk (i+1)
   have h3:=sumC_take caps i hl'
   have h4:=sumC_take_le hk (min i n.toNat)
   have q1:IntKind.i64.wrap (caps.getD i 0+4)=caps.getD i 0+4:=wrap64 (by omega) (by omega)
   have q2:IntKind.i64.wrap (sumC (caps.take i)+(caps.getD i 0+4))=sumC (caps.take (i+1)):=by rw [wrap64 (by omega) (by omega)]; omega
   simp only [go_sem,seval,ints_getD caps i hl']
   repeat refine K ?_
   refine branch_intro (fun hc2=>?_) (fun hc2=>?_)
   ·simp only [decide_eq_true_eq] at hc2
    obtain ⟨e1,e2⟩:=take_min caps i n.toNat (by omega)
    simp only [go_sem,seval,q1,q2,e2,wrap_succ (i:=i) (by omega)]
    repeat refine K ?_
    refine back_intro (i+1) (Sub.shape [] id (by omega) ?_ ?_ ?_ ?_) ?_ ?_
    any_goals (first | omega | (simp [ints_rep]; done))
    rw [e1]
    simp [ints_rep]
   ·simp only [decide_eq_false_iff_not] at hc2
    have e1:min (i+1) n.toNat=min i n.toNat:=by omega
    simp only [go_sem,seval,q1,q2,wrap_succ (i:=i) (by omega)]
    repeat refine K ?_
    refine back_intro (i+1) (Sub.shape [] id (by omega) ?_ ?_ ?_ ?_) ?_ ?_
    any_goals (first | omega | (simp [ints_rep]; done))
    rw [e1]
    simp [ints_rep]
  ·simp only [decide_eq_false_iff_not] at hc
   have he:caps.take i=caps:=List.take_of_length_le (by omega)
   have hm:min i n.toNat=n.toNat:=by omega
   simp only [go_sem,seval,he,hm]
   repeat refine K ?_
   by_cases h24:(24:Int)<sumC caps
   ·try simp only [go_sem,seval,h24]
    repeat refine K ?_
    refine fz ?_; simp [FinS,nilL,nilV,oneOr,-List.drop_one]
    have :¬sumC caps≤24:=by omega
    simp [base,hw,lieOk,hk,this]
   ·try simp only [go_sem,seval,h24]
    repeat refine K ?_
    refine fz ?_; simp [FinS,nilL,nilV,oneOr,-List.drop_one]
    have:sumC caps≤24:=by omega
    simp [base,hw,lieOk,hk,this]
theorem l9Base_ok (caps:List Int) (n:Nat) (hl:caps.length<2^40) (hk:capsOk caps=true) (hn:n≤caps.length):CallOk Tryz.prog num 251 [.sl .bw 1 (ints caps),.int .i64 n] [] (.int .i64 (sumC (caps.take n))):=by
 refine EN m251 Tryz.func172 ?_
 unfold m251
 simp only [go_sem,seval]
 repeat refine K ?_
 refine loop_intro (ι:=Nat) (fun i=>.mk [(0,.sl .bw 1 (ints caps)),(1,.int .i64 n),(5,.int .i64 (sumC (caps.take i))),(6,.int .i64 i)] [] 10) (fun i=>i≤n) (fun i=>n-i) 0 (by simp) ?_ ?_
 ·refine Sub.shape [] id (by omega) ?_ ?_ ?_ ?_<;>simp [ints_rep]
  simp [sumC]
 ·intro i hi
  simp only [go_sem,seval]
  refine branch_intro (fun hc=>?_) (fun hc=>?_)
  ·simp only [decide_eq_true_eq] at hc
   have hl':i<caps.length:=by omega
   have h1:=sumC_take_le hk i
   have h2:=sumC_take_le hk (i+1)
   have h3:=sumC_take caps i hl'
   have q1:IntKind.i64.wrap (sumC (caps.take i)+caps.getD i 0)=sumC (caps.take i)+caps.getD i 0:=wrap64 (by omega) (by omega)
   have q2:IntKind.i64.wrap (sumC (caps.take i)+caps.getD i 0+4)=sumC (caps.take (i+1)):=by rw [wrap64 (by omega) (by omega)]; omega
   simp only [go_sem,seval,ints_getD caps i hl',q1,q2,wrap_succ (i:=i) (by omega)]
   repeat refine K ?_
   refine back_intro (i+1) (Sub.shape [] id (by omega) ?_ ?_ ?_ ?_) ?_ ?_
   any_goals (first | omega | (simp [ints_rep]; done))
  ·simp only [decide_eq_false_iff_not] at hc
   have he:i=n:=by omega
   subst he
   simp only [go_sem,seval]
   repeat refine K ?_
   refine fz ?_; simp [FinS,nilL,nilV,oneOr,-List.drop_one]
theorem l9Right_ok (caps:List Int) (hl:caps.length<2^40):CallOk Tryz.prog num 202 [.sl .bw 1 (ints caps)] [] (.bool (lieOk caps)):=by
 refine EN m202 Tryz.func171 ?_
 unfold m202
 simp only [go_sem,seval]
 repeat refine K ?_
 refine loop_intro (ι:=Nat) (fun i=>.mk [(0,.sl .bw 1 (ints caps)),(3,.int .i64 i)] [] 10) (fun i=>i≤caps.length∧(caps.take i).all (fun c=>within c 1 4)=true) (fun i=>caps.length-i) 0 (by simp) ?_ ?_
 ·refine Sub.shape [] id (by omega) ?_ ?_ ?_ ?_<;>simp [ints_rep]
 ·rintro i ⟨hi,hp⟩
  simp only [go_sem,seval]
  refine branch_intro (fun hc=>?_) (fun hc=>?_)
  ·simp only [decide_eq_true_eq] at hc
   have hl':i<caps.length:=by omega
   simp only [go_sem,seval,ints_getD caps i hl']
   repeat refine K ?_
   refine CA [] (l1In_ok (caps.getD i 0) 1 4) ?_
   try simp only [go_sem,seval]
   repeat refine K ?_
   cases hw:within (caps.getD i 0) 1 4
   ·simp only [go_sem,seval,hw]
    repeat refine K ?_
    refine fz ?_; simp [FinS,nilL,nilV,oneOr,-List.drop_one]
    have:capsOk caps=false:=all_stop hl' hw
    simp [lieOk,this]
   ·simp only [go_sem,seval,hw,wrap_succ (i:=i) (by omega)]
    repeat refine K ?_
    refine back_intro (i+1) (Sub.shape [] id (by omega) ?_ ?_ ?_ ?_) ?_ ?_
    any_goals (first | omega | (simp [ints_rep]; done))
    exact ⟨hl',all_step hp hl' hw⟩
  ·simp only [decide_eq_false_iff_not] at hc
   have hk:capsOk caps=true:=all_end hp hc
   have hs:=capsOk_sum hk
   simp only [go_sem,seval]
   repeat refine K ?_
   by_cases h24:(caps.length:Int)≤24
   ·try simp only [go_sem,seval,h24]
    repeat refine K ?_
    refine CA [] (l9Base_ok caps caps.length hl hk (Nat.le_refl _)) ?_
    try simp only [go_sem,seval]
    repeat refine K ?_
    try simp only [go_sem,seval,h24,List.take_length]
    repeat refine K ?_
    refine fz ?_; simp [FinS,nilL,nilV,oneOr,-List.drop_one]
    simp [lieOk,hk]
   ·try simp only [go_sem,seval,h24]
    repeat refine K ?_
    refine fz ?_; simp [FinS,nilL,nilV,oneOr,-List.drop_one]
    have :¬sumC caps≤24:=by omega
    simp [lieOk,this]
theorem specBase_ok (caps:List Int) (n:Int) (hl:caps.length<2^40):CallOk Tryz.prog num 257 [.sl .bw 1 (ints caps),.int .i64 n] [] (.int .i64 (base caps n)):=by
 have w1:IntKind.i64.wrap ((caps.length:Int)-1)=caps.length-1:=wrap64 (by omega) (by omega)
 refine EN m257 Tryz.func128 ?_
 unfold m257
 simp only [go_sem,seval]
 repeat refine K ?_
 refine CA [] (l9Right_ok caps hl) ?_
 try simp only [go_sem,seval]
 repeat refine K ?_
 cases hk:lieOk caps
 ·try simp only [go_sem,seval,hk,w1]
  repeat refine K ?_
  refine fz ?_; simp [FinS,nilL,nilV,oneOr,-List.drop_one]
  simp [base,hk]
 try simp only [go_sem,seval,hk,w1]
 repeat refine K ?_
 refine CA [] (l1In_ok n 0 (caps.length-1)) ?_
 try simp only [go_sem,seval]
 repeat refine K ?_
 cases hw:within n 0 (caps.length-1)
 ·try simp only [go_sem,seval,hw]
  repeat refine K ?_
  refine fz ?_; simp [FinS,nilL,nilV,oneOr,-List.drop_one]
  simp [base,hw]
 have hw':=within_iff.1 hw
 have hk':=hk
 unfold lieOk at hk'
 simp only [Bool.and_eq_true] at hk'
 have en:n=(n.toNat:Int):=by omega
 try simp only [go_sem,seval,hw]
 repeat refine K ?_
 rw [en]
 refine CA [] (l9Base_ok caps n.toNat hl hk'.1 (by omega)) ?_
 try simp only [go_sem,seval]
 repeat refine K ?_
 try simp only [go_sem,seval]
 repeat refine K ?_
 refine fz ?_; simp [FinS,nilL,nilV,oneOr,-List.drop_one]
 try rw [←en]
 have em:max n 0=n:=by omega
 simp [em,base,hw,hk]
theorem startsOf_ok (b:List Ins) (hl:b.length<2^40):CallOk Tryz.prog num 207 [.sl .bw 5 (inss b)] [] (.sl .own 1 (ints (startsOf b))):=by
 refine EN m207 Tryz.func166 ?_
 unfold m207
 simp only [go_sem,seval]
 repeat refine K ?_
 refine loop_intro (ι:=Nat) (fun i=>.mk [(3,.ns 10 0 i),(4,.int .i64 (szB (b.take i))),(8,.sl .bw 5 (inss b)),(9,.int .i64 b.length),(10,.int .i64 i)] [(10,1,ints (startsN b i))] 11) (fun i=>i≤b.length) (fun i=>b.length-i) 0 (by simp) ?_ ?_
 ·refine Sub.shape [] id (by omega) ?_ ?_ ?_ ?_<;>simp [ints_rep]
  all_goals simp [startsN,szB,ints]
 ·intro i hi
  simp only [go_sem,seval]
  refine branch_intro (fun hc=>?_) (fun hc=>?_)
  ·simp only [decide_eq_true_eq] at hc
   have hl':i<b.length:=by omega
   have h1:=szB_take_le b i
   have h2:=szB_take_le b (i+1)
   have h3:=szB_take b i hl'
   have q1:IntKind.i64.wrap (szB (b.take i)+emitSize (b.getD i default))=szB (b.take (i+1)):=by rw [wrap64 (by omega) (by omega)]; omega
   simp only [go_sem,seval,inss_getD b i hl',startsN_length]
   repeat refine K ?_
   refine CA [] (implEmitSize_ok (b.getD i default)) ?_
   try simp only [go_sem,seval]
   repeat refine K ?_
   try simp only [go_sem,seval,q1,wrap_succ (i:=i) (by omega)]
   repeat refine K ?_
   refine back_intro (i+1) (Sub.shape [] (fun n=>if n=10 then 13 else n) (by omega) ?_ ?_ ?_ ?_) hl' (by omega)<;>simp [ints_rep]
   all_goals exact .inl (by rw [startsN_succ,ints_snoc'])
  ·simp only [decide_eq_false_iff_not] at hc
   have he:i=b.length:=by omega
   subst he
   simp only [go_sem,seval]
   repeat refine K ?_
   refine ⟨_,Sub.refl _,FinS_one ?_⟩; simp [-List.drop_one]
   simp [startsN_length,startsOf]
theorem l11Starts_ok (b:List Ins) (hl:b.length<2^40):CallOk Tryz.prog num 252 [.sl .bw 5 (inss b)] [] (.sl .own 1 (ints (startsN b (b.length+1)))):=by
 refine EN m252 Tryz.func170 ?_
 unfold m252
 simp only [go_sem,seval]
 repeat refine K ?_
 refine loop_intro (ι:=Nat) (fun i=>.mk [(0,.sl .bw 5 (inss b)),(3,.ns 10 0 (i+1)),(4,.int .i64 i)] [(10,1,ints (startsN b (i+1)))] 11) (fun i=>i≤b.length) (fun i=>b.length-i) 0 (by simp) ?_ ?_
 ·refine Sub.shape [] id (by omega) ?_ ?_ ?_ ?_<;>simp [ints_rep]
  all_goals simp [startsN,szB,ints]
 ·intro i hi
  simp only [go_sem,seval]
  refine branch_intro (fun hc=>?_) (fun hc=>?_)
  ·simp only [decide_eq_true_eq] at hc
   have hl':i<b.length:=by omega
   have h1:=szB_take_le b i
   have h2:=szB_take_le b (i+1)
   have h3:=szB_take b i hl'
   have q1:IntKind.i64.wrap (szB (b.take i)+emitSize (b.getD i default))=szB (b.take (i+1)):=by rw [wrap64 (by omega) (by omega)]; omega
   have g:=startsN_getD b (i+1) i (by omega)
   have hgi:=inss_getD b i hl'
   have hgs:=ints_getD (startsN b (i+1)) i (by rw [startsN_length]; omega)
   have hsl:=startsN_length b (i+1)
   have hws:=wrap_succ (i:=i) (by omega)
   repeat' (first
    | (simp only [go_sem,seval,hgi,hgs,hsl,g,q1,hws])
    | (refine dcall_plain (specEmitSize_ok _) rfl rfl rfl rfl ?_)
    | (refine K ?_)
    | (refine And.intro ?_ ?_)
    | fail)
   all_goals
    refine back_intro (i+1) (Sub.shape [] (fun n=>if n=10 then 12 else n) (by omega) ?_ ?_ ?_ ?_) hl' (by omega)<;>simp [ints_rep]
    all_goals exact .inl (by rw [startsN_succ b (i+1),ints_snoc'])
  ·simp only [decide_eq_false_iff_not] at hc
   have he:i=b.length:=by omega
   subst he
   simp only [go_sem,seval]
   repeat refine K ?_
   refine ⟨_,Sub.refl _,FinS_one ?_⟩; simp [-List.drop_one]
   simp [startsN_length]
def placeAt:List Ins→Int→Int→Int→Int×Bool
 | [],_,_,_=>(-1,false)
 | x::l,off,i,at_=>if off≤at_∧at_≤off+emitSize x-1 then (i,decide (at_=off)) else placeAt l (off+emitSize x) (i+1) at_
def placeOf (p:Prog) (body at_:Int):Int×Bool:=if progOk p&&within body 0 (p.bods.length-1) then placeAt (p.bods.getD body.toNat []) 0 0 at_ else (-1,false)
theorem placeAt_step (b:List Ins) (i:Nat) (h:i<b.length) (at_:Int):placeAt (b.drop i) (szB (b.take i)) i at_=if szB (b.take i)≤at_∧at_≤szB (b.take (i+1))-1 then ((i:Int),decide (at_=szB (b.take i))) else placeAt (b.drop (i+1)) (szB (b.take (i+1))) ((i+1:Nat):Int) at_:=by
 have hd:b.drop i=b.getD i default::b.drop (i+1):=by rw [List.drop_eq_getElem_cons h]; simp [List.getD_eq_getElem?_getD,h]
 rw [hd,szB_take b i h]
 simp only [placeAt]
 push_cast
 rfl
theorem placeAt_end (b:List Ins) (i:Nat) (h:b.length≤i) (off k at_:Int):placeAt (b.drop i) off k at_=(-1,false):=by
 rw [List.drop_eq_nil_of_le h]
 rfl
theorem placeAt_out :∀(b:List Ins) (off k at_:Int),at_<off∨off+szB b≤at_→placeAt b off k at_=(-1,false)
 | [],_,_,_,_=>rfl
 | x::l,off,k,at_,h=>by
  have h1:=emitSize_le x
  have h2:=szB_le l
  simp only [szB] at h
  simp only [placeAt]
  rw [if_neg (by omega)]
  exact placeAt_out l _ _ _ (by omega)
theorem implPlaceAt_ok (b:List Ins) (at_:Int) (hl:b.length<2^40):CallOk Tryz.prog num 280 [.sl .bw 5 (inss b),.int .i64 at_] [] (.tup [.int .i64 (placeAt b 0 0 at_).1,.bool (placeAt b 0 0 at_).2]):=by
 refine EN m280 Tryz.func169 ?_
 unfold m280
 simp only [go_sem,seval]
 repeat refine K ?_
 refine CA [] (startsOf_ok b hl) ?_
 try simp only [go_sem,seval]
 repeat refine K ?_
 have hsl:(startsOf b).length=b.length:=startsN_length b b.length
 try simp only [go_sem,seval,hsl]
 repeat refine K ?_
 refine loop_intro (ι:=Nat) (fun i=>.mk [(0,.sl .bw 5 (inss b)),(1,.int .i64 at_),(9,.ns 10 0 b.length),(10,.int .i64 b.length),(11,.int .i64 i)] [(10,1,ints (startsOf b))] 11) (fun i=>i≤b.length∧placeAt (b.drop i) (szB (b.take i)) i at_=placeAt b 0 0 at_) (fun i=>b.length-i) 0 (by simp [szB]) ?_ ?_
 ·refine Sub.shape [] id (by omega) ?_ ?_ ?_ ?_<;>simp [ints_rep]
 ·rintro i ⟨hi,hp⟩
  simp only [go_sem,seval]
  refine branch_intro (fun hc=>?_) (fun hc=>?_)
  ·simp only [decide_eq_true_eq] at hc
   have hl':i<b.length:=by omega
   have hsg:(startsOf b).getD i 0=szB (b.take i):=startsN_getD b b.length i hl'
   have h1:=szB_take_le b i
   have h2:=szB_take_le b (i+1)
   have h3:=szB_take b i hl'
   have h4:=emitSize_le (b.getD i default)
   have hs:=placeAt_step b i hl' at_
   have q1:IntKind.i64.wrap (szB (b.take i)+emitSize (b.getD i default))=szB (b.take (i+1)):=by rw [wrap64 (by omega) (by omega)]; omega
   have q2:IntKind.i64.wrap (szB (b.take (i+1))-1)=szB (b.take (i+1))-1:=wrap64 (by omega) (by omega)
   simp only [go_sem,seval,ints_getD (startsOf b) i (by omega),hsg,hsl,inss_getD b i hl']
   repeat refine K ?_
   refine CA [] (implEmitSize_ok (b.getD i default)) ?_
   try simp only [go_sem,seval]
   repeat refine K ?_
   try simp only [go_sem,seval,q1,q2]
   repeat refine K ?_
   refine CA [] (within_ok at_ (szB (b.take i)) (szB (b.take (i+1))-1)) ?_
   try simp only [go_sem,seval]
   repeat refine K ?_
   rw [hp] at hs
   cases hw:within at_ (szB (b.take i)) (szB (b.take (i+1))-1)
   ·have hn :¬(szB (b.take i)≤at_∧at_≤szB (b.take (i+1))-1):=fun h=>by rw [←within_iff] at h; rw [h] at hw; simp at hw
    rw [if_neg hn] at hs
    try simp only [go_sem,seval,hw,wrap_succ (i:=i) (by omega)]
    repeat refine K ?_
    refine back_intro (i+1) (Sub.shape [] id (by omega) ?_ ?_ ?_ ?_) ?_ ?_
    any_goals (first | omega | (simp [ints_rep]; done))
    exact ⟨hl',hs.symm⟩
   ·rw [if_pos (within_iff.1 hw)] at hs
    try simp only [go_sem,seval,hw]
    repeat refine K ?_
    refine ⟨_,Sub.refl _,FinS_tup (by simp) ?_⟩; simp [-List.drop_one]
    rw [hs]
    simp
  ·simp only [decide_eq_false_iff_not] at hc
   rw [placeAt_end b i (by omega)] at hp
   simp only [go_sem,seval]
   repeat refine K ?_
   refine ⟨_,Sub.refl _,FinS_tup (by simp) ?_⟩; simp [-List.drop_one]
   rw [←hp]
   simp
theorem specPlaceOf_ok (p:Prog) (k at_:Int) (hp:SmallP p):CallOk Tryz.prog num 224 [.agg (progC .bw p),.int .i64 k,.int .i64 at_] [] (.tup [.int .i64 (placeOf p k at_).1,.bool (placeOf p k at_).2]):=by
 obtain ⟨h1,h2,h3⟩:=hp
 have w1:IntKind.i64.wrap ((p.bods.length:Int)-1)=p.bods.length-1:=wrap64 (by omega) (by omega)
 refine EN m224 Tryz.func126 ?_
 unfold m224
 simp only [go_sem,seval]
 repeat refine K ?_
 refine CA [] (specProgOk_ok p (by omega) (by omega) (fun b hb=>by have:=h3 b hb; omega)) ?_
 try simp only [go_sem,seval]
 repeat refine K ?_
 cases hok:progOk p
 ·try simp only [go_sem,seval,hok]
  repeat refine K ?_
  refine ⟨_,Sub.refl _,FinS_tup (by simp) ?_⟩; simp [-List.drop_one]
  simp [placeOf,hok]
 try simp only [go_sem,seval,hok,w1]
 repeat refine K ?_
 refine CA [] (l1In_ok k 0 (p.bods.length-1)) ?_
 try simp only [go_sem,seval]
 repeat refine K ?_
 cases hw:within k 0 (p.bods.length-1)
 ·try simp only [go_sem,seval,hw]
  repeat refine K ?_
  refine ⟨_,Sub.refl _,FinS_tup (by simp) ?_⟩; simp [-List.drop_one]
  simp [placeOf,hw]
 have hw':=within_iff.1 hw
 have hk:k.toNat<p.bods.length:=by omega
 have hb:=h3 _ (getD_mem p.bods k.toNat [] hk)
 have hres:placeOf p k at_=placeAt (p.bods.getD k.toNat []) 0 0 at_:=by simp [placeOf,hok,hw]
 rw [hres]
 try simp only [go_sem,seval,hw,bodies_getD .bw p.bods k.toNat hk]
 repeat refine K ?_
 generalize p.bods.getD k.toNat []=b at hb
 refine CA [] (l11Starts_ok b hb) ?_
 try simp only [go_sem,seval]
 repeat refine K ?_
 have hsl:(startsN b (b.length+1)).length=b.length+1:=startsN_length b (b.length+1)
 have w2:IntKind.i64.wrap ((b.length+1:Nat)-1:Int)=b.length:=by rw [wrap64 (by omega) (by omega)]; omega
 have hsn:(startsN b (b.length+1)).getD b.length 0=szB b:=by rw [startsN_getD b (b.length+1) b.length (by omega),List.take_length]
 have hz:=szB_le b
 have w3:IntKind.i64.wrap (szB b-1)=szB b-1:=wrap64 (by omega) (by omega)
 try simp only [go_sem,seval,hsl,w2,ints_getD (startsN b (b.length+1)) b.length (by omega),hsn,w3]
 repeat refine K ?_
 refine CA [] (l1In_ok at_ 0 (szB b-1)) ?_
 try simp only [go_sem,seval]
 repeat refine K ?_
 cases hin:within at_ 0 (szB b-1)
 ·have ho:=placeAt_out b 0 0 at_ (by apply Decidable.byContradiction; intro h; rw [show within at_ 0 (szB b-1)=true from within_iff.2 (by omega)] at hin; simp at hin)
  try simp only [go_sem,seval,hin]
  repeat refine K ?_
  refine ⟨_,Sub.refl _,FinS_tup (by simp) ?_⟩; simp [-List.drop_one]
  rw [ho]
  simp
 have hin':=within_iff.1 hin
 try simp only [go_sem,seval,hin]
 repeat refine K ?_
 refine loop_intro (ι:=Nat) (fun i=>.mk [(2,.int .i64 at_),(8,.ns 11 0 (b.length+1)),(9,.int .i64 b.length),(10,.int .i64 i)] [(11,1,ints (startsN b (b.length+1)))] 12) (fun i=>i≤b.length∧placeAt (b.drop i) (szB (b.take i)) i at_=placeAt b 0 0 at_∧szB (b.take i)≤at_) (fun i=>b.length-i) 0 (by simp [szB]; omega) ?_ ?_
 ·refine Sub.shape [] id (by omega) ?_ ?_ ?_ ?_<;>simp [ints_rep]
 ·rintro i ⟨hi,hp,hlo⟩
  simp only [go_sem,seval]
  refine branch_intro (fun hc=>?_) (fun hc=>?_)
  ·simp only [decide_eq_true_eq] at hc
   have hl':i<b.length:=by omega
   have hsg:(startsN b (b.length+1)).getD i 0=szB (b.take i):=startsN_getD b (b.length+1) i (by omega)
   have hsg2:(startsN b (b.length+1)).getD (i+1) 0=szB (b.take (i+1)):=startsN_getD b (b.length+1) (i+1) (by omega)
   have hs:=placeAt_step b i hl' at_
   rw [hp] at hs
   simp only [go_sem,seval,wrap_succ (i:=i) (by omega),ints_getD (startsN b (b.length+1)) (i+1) (by omega),hsg2,hsl]
   repeat refine K ?_
   refine branch_intro (fun hc2=>?_) (fun hc2=>?_)
   ·simp only [decide_eq_true_eq] at hc2
    rw [if_pos (by omega)] at hs
    simp only [go_sem,seval,ints_getD (startsN b (b.length+1)) i (by omega),hsg,hsl]
    repeat refine K ?_
    refine ⟨_,Sub.refl _,FinS_tup (by simp) ?_⟩; simp [-List.drop_one]
    rw [hs]
    simp
   ·simp only [decide_eq_false_iff_not] at hc2
    rw [if_neg (by omega)] at hs
    simp only [go_sem,seval,wrap_succ (i:=i) (by omega)]
    repeat refine K ?_
    refine back_intro (i+1) (Sub.shape [] id (by omega) ?_ ?_ ?_ ?_) ?_ ?_
    any_goals (first | omega | (simp [ints_rep]; done))
    exact ⟨hl',hs.symm,by omega⟩
  ·simp only [decide_eq_false_iff_not] at hc
   rw [placeAt_end b i (by omega)] at hp
   simp only [go_sem,seval]
   repeat refine K ?_
   refine ⟨_,Sub.refl _,FinS_tup (by simp) ?_⟩; simp [-List.drop_one]
   rw [←hp]
   simp
end Go.Sep
