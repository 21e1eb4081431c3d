/- Contracts of functions. -/
import Derived.Test.YtjbknbgdfhihcaaGreatJxx5
import Derived.Test.YtjbknbgdfhihcaaGreatJxx9
namespace Go.Sep
set_option maxHeartbeats 16000000
open Go.Proofs
set_option linter.unusedSimpArgs false
set_option linter.unusedVariables false
set_option maxRecDepth 100000
def m202:MFn:=⟨26,[.t 2],kr [xF 2] (.seq (kr [xI 3 0] (.blk 0 (.loop (.seq (kr [xv 4 3,xv 5 0,xe 6 5,bT 7 .lss 4 6] (kX 7 0)) (.seq (.blk 1 (kr [xv 10 0,xv 11 3,xD 12 1 10 11,xl 13 12,xc3 14 64 (.t 13) (xi 1) (xi 4),xN 15 14] (kF 15 [xF 2]))) (xr [xv 8 3,bI 9 .add 8 1,xv 3 9])))))) (kR [xv 16 0,xe 17 16,bI 18 .leq 17 24,xv 19 18,yv 20 0 19,yv 21 0 19,ye 22 21 19,xg 23 (.call 251 [false,false] [.t 20,.t 22]) 19 true,yI 24 .leq 23 24 19,xP 25 19 24,xv 2 25]))⟩
def m206:MFn:=⟨42,[.t 4],kr [xI 4 0] (.seq (kr [xv 9 1,xv 10 0,xe 11 10,bI 12 .sub 11 1,xc3 13 59 (.t 9) (xi 0) (.t 12),xN 14 13,xv 15 14,zv 16 0 15,xg 17 (.call 68 [false] [.t 16]) 15 false,zN 18 17 15,xQ 19 15 18] (kF 19 [xo 4 (.mv (.c (.int .i64 (-1))))])) (kr [xI 5 0,xI 6 0] (.seq (kr [xv 20 0,xe 21 20,xI 22 0] (.blk 0 (.loop (kr [bT 23 .lss 22 21] (.seq (kX 23 0) (.seq (.blk 1 (kr [xv 24 22,xD 25 1 20 22,xl 26 25,xv 7 24,xv 8 26] (.seq (kr [xv 27 7,xv 28 1,bT 29 .lss 27 28] (.cond 29 (xr [xv 30 5,xv 31 8,bI 32 .add 31 4,bT 33 .add 30 32,xv 5 33]) (.skip))) (xr [xv 34 6,xv 35 8,bI 36 .add 35 4,bT 37 .add 34 36,xv 6 37])))) (xr [bI 38 .add 22 1,xv 22 38]))))))) (.seq (kr [xv 39 6,bI 40 .gtr 39 24] (kF 40 [xo 4 (.mv (.c (.int .i64 (-1))))])) (kR [xv 41 5,xv 4 41])))))⟩
def m207:MFn:=⟨24,[.t 2],kr [xo 2 (.mv (.c (.nil)))] (kr [xo 7 (.mkSl [xz] 0 []),xv 3 7] (kr [xI 4 0] (.seq (kr [xv 8 0,xe 9 8,xI 10 0] (.blk 0 (.loop (kr [bT 11 .lss 10 9] (.seq (kX 11 0) (.seq (.blk 1 (kr [xD 12 5 8 10,xm 13 5 12,xo 6 (.alloc [xz,xz,xz,xz,xz]),xS 5 6 13] (kr [xv 14 3,xv 15 4,xo 16 (.mkSl [xz] 1 [(0,.t 15)]),xA 17 1 8 14 16,xv 3 17] (xr [xv 18 4,xm 19 5 6,xc1 20 262 (.t 19),bT 21 .add 18 20,xv 4 21])))) (xr [bI 22 .add 10 1,xv 10 22]))))))) (kR [xv 23 3,xv 2 23]))))⟩
def m224:MFn:=⟨59,[.t 6,.t 7],kr [xb 3 0,xI 6 0,xF 7] (.seq (kr [xm 11 2 3,xc1 12 62 (.t 11),xN 13 12,xv 14 13,zv 15 1 14,za 16 1 3 14,zl 17 1 16 14,ze 18 17 14,zI 19 .sub 18 1 14,xg 20 (.call 64 [false,false,false] [.t 15,xi 0,.t 19]) 14 false,zN 21 20 14,xQ 22 14 21] (kF 22 [xo 6 (.mv (.c (.int .i64 (-1)))),xF 7])) (kr [xa 23 1 3,xl 24 23,xv 25 1,xD 26 1 24 25,xl 27 26,xc1 28 252 (.t 27),xv 8 28] (kr [xv 29 8,xe 30 29,bI 31 .sub 30 1,xv 9 31] (.seq (kr [xv 32 2,xv 33 8,xv 34 9,xD 35 1 33 34,xl 36 35,bI 37 .sub 36 1,xc3 38 64 (.t 32) (xi 0) (.t 37),xN 39 38] (kF 39 [xo 6 (.mv (.c (.int .i64 (-1)))),xF 7])) (.seq (kr [xI 10 0] (.blk 0 (.loop (.seq (kr [xv 40 10,xv 41 9,bT 42 .lss 40 41] (kX 42 0)) (.seq (.blk 1 (kr [xv 45 2,xv 46 8,xv 47 10,bI 48 .add 47 1,xD 49 1 46 48,xl 50 49,bT 51 .lss 45 50] (.cond 51 (.seq (.dreg (.take 0 (xv 52 10) (.take 1 (xv 53 2) (.take 2 (xv 54 8) (.take 3 (xv 55 10) (.take 4 (xD 56 1 54 55) (.take 5 (xl 57 56) (.take 6 (bT 58 .eql 53 57) (.only 7 [0] (xv 6 52) (.only 8 [0,1,2,3,4,5,6] (xv 7 58) (.done))))))))))) (.ret)) (.skip)))) (xr [xv 43 10,bI 44 .add 43 1,xv 10 44])))))) (kR [xo 6 (.mv (.c (.int .i64 (-1)))),xF 7]))))))⟩
def m251:MFn:=⟨20,[.t 4],kr [xI 4 0] (kr [xI 5 0] (.seq (kr [xI 6 0] (.blk 0 (.loop (.seq (kr [xv 7 6,xv 8 1,bT 9 .lss 7 8] (kX 9 0)) (.seq (.blk 1 (xr [xv 12 5,xv 13 0,xv 14 6,xD 15 1 13 14,xl 16 15,bT 17 .add 12 16,bI 18 .add 17 4,xv 5 18])) (xr [xv 10 6,bI 11 .add 10 1,xv 6 11])))))) (kR [xv 19 5,xv 4 19])))⟩
def m252:MFn:=⟨26,[.t 2],kr [xo 2 (.mv (.c (.nil)))] (kr [xo 5 (.mkSl [xz] 1 [(0,xi 0)]),xv 3 5] (.seq (kr [xI 4 0] (.blk 0 (.loop (.seq (kr [xv 6 4,xv 7 0,xe 8 7,bT 9 .lss 6 8] (kX 9 0)) (.seq (.blk 1 (.dreg (.take 0 (xv 12 3) (.take 1 (xv 13 3) (.take 2 (xv 14 4) (.take 5 (xv 17 0) (.take 6 (xv 18 4) (.both 3 [1,2] (xD 15 1 13 14) (.both 4 [3,1,2] (xl 16 15) (.only 7 [5,6] (xD 19 5 17 18) (.only 8 [7,5,6] (xm 20 5 19) (.only 9 [8,7,5,6] (xc1 21 285 (.t 20)) (.only 10 [4,9,3,8,1,2,7,5,6] (bT 22 .add 16 21) (.only 11 [10,4,9,3,8,1,2,7,5,6] (xo 23 (.mkSl [xz] 1 [(0,.t 22)])) (.only 12 [0,9,11,8,10,7,4,5,6,3,1,2] (xA 24 1 8 12 23) (.only 13 [0,1,2,5,6] (xv 3 24) (.done)))))))) 7 [5,6] (xD 19 5 17 18) (.both 4 [3,1,2] (xl 16 15) (.only 8 [7,5,6] (xm 20 5 19) (.only 9 [8,7,5,6] (xc1 21 285 (.t 20)) (.only 10 [4,9,3,8,1,2,7,5,6] (bT 22 .add 16 21) (.only 11 [10,4,9,3,8,1,2,7,5,6] (xo 23 (.mkSl [xz] 1 [(0,.t 22)])) (.only 12 [0,9,11,8,10,7,4,5,6,3,1,2] (xA 24 1 8 12 23) (.only 13 [0,1,2,5,6] (xv 3 24) (.done))))))) 8 [7,5,6] (xm 20 5 19) (.both 4 [3,1,2] (xl 16 15) (.only 9 [8,7,5,6] (xc1 21 285 (.t 20)) (.only 10 [4,9,3,8,1,2,7,5,6] (bT 22 .add 16 21) (.only 11 [10,4,9,3,8,1,2,7,5,6] (xo 23 (.mkSl [xz] 1 [(0,.t 22)])) (.only 12 [0,9,11,8,10,7,4,5,6,3,1,2] (xA 24 1 8 12 23) (.only 13 [0,1,2,5,6] (xv 3 24) (.done)))))) 9 [8,7,5,6] (xc1 21 285 (.t 20)) (.only 4 [3,1,2] (xl 16 15) (.only 10 [4,9,3,8,1,2,7,5,6] (bT 22 .add 16 21) (.only 11 [10,4,9,3,8,1,2,7,5,6] (xo 23 (.mkSl [xz] 1 [(0,.t 22)])) (.only 12 [0,9,11,8,10,7,4,5,6,3,1,2] (xA 24 1 8 12 23) (.only 13 [0,1,2,5,6] (xv 3 24) (.done))))))))) 7 [5,6] (xD 19 5 17 18) (.both 3 [1,2] (xD 15 1 13 14) (.both 4 [3,1,2] (xl 16 15) (.only 8 [7,5,6] (xm 20 5 19) (.only 9 [8,7,5,6] (xc1 21 285 (.t 20)) (.only 10 [4,9,3,8,1,2,7,5,6] (bT 22 .add 16 21) (.only 11 [10,4,9,3,8,1,2,7,5,6] (xo 23 (.mkSl [xz] 1 [(0,.t 22)])) (.only 12 [0,9,11,8,10,7,4,5,6,3,1,2] (xA 24 1 8 12 23) (.only 13 [0,1,2,5,6] (xv 3 24) (.done))))))) 8 [7,5,6] (xm 20 5 19) (.both 4 [3,1,2] (xl 16 15) (.only 9 [8,7,5,6] (xc1 21 285 (.t 20)) (.only 10 [4,9,3,8,1,2,7,5,6] (bT 22 .add 16 21) (.only 11 [10,4,9,3,8,1,2,7,5,6] (xo 23 (.mkSl [xz] 1 [(0,.t 22)])) (.only 12 [0,9,11,8,10,7,4,5,6,3,1,2] (xA 24 1 8 12 23) (.only 13 [0,1,2,5,6] (xv 3 24) (.done)))))) 9 [8,7,5,6] (xc1 21 285 (.t 20)) (.only 4 [3,1,2] (xl 16 15) (.only 10 [4,9,3,8,1,2,7,5,6] (bT 22 .add 16 21) (.only 11 [10,4,9,3,8,1,2,7,5,6] (xo 23 (.mkSl [xz] 1 [(0,.t 22)])) (.only 12 [0,9,11,8,10,7,4,5,6,3,1,2] (xA 24 1 8 12 23) (.only 13 [0,1,2,5,6] (xv 3 24) (.done)))))))) 8 [7,5,6] (xm 20 5 19) (.both 3 [1,2] (xD 15 1 13 14) (.both 4 [3,1,2] (xl 16 15) (.only 9 [8,7,5,6] (xc1 21 285 (.t 20)) (.only 10 [4,9,3,8,1,2,7,5,6] (bT 22 .add 16 21) (.only 11 [10,4,9,3,8,1,2,7,5,6] (xo 23 (.mkSl [xz] 1 [(0,.t 22)])) (.only 12 [0,9,11,8,10,7,4,5,6,3,1,2] (xA 24 1 8 12 23) (.only 13 [0,1,2,5,6] (xv 3 24) (.done)))))) 9 [8,7,5,6] (xc1 21 285 (.t 20)) (.only 4 [3,1,2] (xl 16 15) (.only 10 [4,9,3,8,1,2,7,5,6] (bT 22 .add 16 21) (.only 11 [10,4,9,3,8,1,2,7,5,6] (xo 23 (.mkSl [xz] 1 [(0,.t 22)])) (.only 12 [0,9,11,8,10,7,4,5,6,3,1,2] (xA 24 1 8 12 23) (.only 13 [0,1,2,5,6] (xv 3 24) (.done))))))) 9 [8,7,5,6] (xc1 21 285 (.t 20)) (.only 3 [1,2] (xD 15 1 13 14) (.only 4 [3,1,2] (xl 16 15) (.only 10 [4,9,3,8,1,2,7,5,6] (bT 22 .add 16 21) (.only 11 [10,4,9,3,8,1,2,7,5,6] (xo 23 (.mkSl [xz] 1 [(0,.t 22)])) (.only 12 [0,9,11,8,10,7,4,5,6,3,1,2] (xA 24 1 8 12 23) (.only 13 [0,1,2,5,6] (xv 3 24) (.done))))))))))))))))) (xr [xv 10 4,bI 11 .add 10 1,xv 4 11])))))) (kR [xv 25 3,xv 2 25])))⟩
def m257:MFn:=⟨19,[.t 4],kr [xI 4 0] (.seq (kr [xv 5 0,xc1 6 202 (.t 5),xN 7 6,xv 8 7,zv 9 1 8,zv 10 0 8,ze 11 10 8,zI 12 .sub 11 1 8,xg 13 (.call 64 [false,false,false] [.t 9,xi 0,.t 12]) 8 false,zN 14 13 8,xQ 15 8 14] (kF 15 [xo 4 (.mv (.c (.int .i64 (-1))))])) (kR [xv 16 0,xv 17 1,xc2 18 251 (.t 16) (.t 17),xv 4 18]))⟩
def m280:MFn:=⟨32,[.t 4,.t 5],kr [xI 4 0,xF 5] (.seq (kr [xv 8 0,xc1 9 207 (.t 8),xe 10 9,xI 11 0] (.blk 0 (.loop (kr [bT 12 .lss 11 10] (.seq (kX 12 0) (.seq (.blk 1 (kr [xv 13 11,xD 14 1 9 11,xl 15 14,xv 6 13,xv 7 15] (kr [xv 16 1,xv 17 7,xv 18 7,xv 19 0,xv 20 6,xD 21 5 19 20,xm 22 5 21,xc1 23 262 (.t 22),bT 24 .add 18 23,bI 25 .sub 24 1,xc3 26 59 (.t 16) (.t 17) (.t 25)] (kF 26 [xv 27 6,xv 28 1,xv 29 7,bT 30 .eql 28 29,xv 4 27,xv 5 30])))) (xr [bI 31 .add 11 1,xv 11 31]))))))) (kR [xo 4 (.mv (.c (.int .i64 (-1)))),xF 5]))⟩
theorem ints_snoc' (l:List Int) (a:Int):ints l++[[.int .i64 a]]=ints (l++[a]):=by simp [ints]
def sumC:List Int→Int
 | []=>0
 | c::l=>c+4+sumC l
theorem sumC_app :∀(a b:List Int),sumC (a++b)=sumC a+sumC b
 | [],b=>by simp [sumC]
 | x::a,b=>by simp only [List.cons_append,sumC,sumC_app a b]; omega
theorem sumC_take (l:List Int) (i:Nat) (h:i<l.length):sumC (l.take (i+1))=sumC (l.take i)+(l.getD i 0)+4:=by
 rw [qBm l 0 i h,sumC_app]
 simp only [sumC]
 omega
theorem capsOk_sum :∀{l:List Int},capsOk l=true→5*(l.length:Int)≤sumC l∧sumC l≤8*l.length
 | [],_=>by simp [sumC]
 | c::l,h=>by
  unfold capsOk at h
  rw [List.all_cons,Bool.and_eq_true] at h
  have ih:=capsOk_sum (l:=l) h.2
  have:=within_iff.1 h.1
  simp only [sumC,List.length_cons]
  omega
theorem capsOk_take {l:List Int} (h:capsOk l=true) (i:Nat):capsOk (l.take i)=true:=by
 unfold capsOk at *
 rw [List.all_eq_true] at *
 exact fun x hx=>h x (List.mem_of_mem_take hx)
theorem qCv {l:List Int} (h:capsOk l=true) (i:Nat):0≤sumC (l.take i)∧sumC (l.take i)≤sumC l∧sumC (l.take i)≤8*l.length:=by
 have h1:=capsOk_sum (capsOk_take h i)
 have h2:capsOk (l.drop i)=true:=by
  unfold capsOk at *
  rw [List.all_eq_true] at *
  exact fun x hx=>h x (List.mem_of_mem_drop hx)
 have h3:=capsOk_sum h2
 have e:sumC l=sumC (l.take i)+sumC (l.drop i):=by rw [←sumC_app,List.take_append_drop]
 have h4:(l.take i).length≤l.length:=by simp; omega
 omega
def lieOk (caps:List Int):Bool:=capsOk caps&&decide (sumC caps≤24)
def base (caps:List Int) (n:Int):Int:=if within n 0 (caps.length-1)&&lieOk caps then sumC (caps.take n.toNat) else -1
theorem qE5 {caps:List Int} {n:Int} (h :¬base caps n<0):0≤n∧n.toNat<caps.length∧lieOk caps=true∧0≤base caps n∧base caps n+caps.getD n.toNat 0+4≤24∧within (caps.getD n.toNat 0) 1 4=true:=by
 unfold base at *
 split at h
 ·rename_i hc
  rw [if_pos hc]
  simp only [Bool.and_eq_true,within_iff] at hc
  have hn:n.toNat<caps.length:=by omega
  have hl:=hc.2
  unfold lieOk at hl
  simp only [Bool.and_eq_true,decide_eq_true_eq] at hl
  have h1:=qCv hl.1 n.toNat
  have h2:=qCv hl.1 (n.toNat+1)
  have h3:=sumC_take caps n.toNat hn
  refine ⟨by omega,hn,hc.2,by omega,by omega,?_⟩
  have:=hl.1
  unfold capsOk at this
  rw [List.all_eq_true] at this
  exact this _ (qAd caps n.toNat 0 hn)
 ·simp at h
def szB:List Ins→Int
 | []=>0
 | x::l=>emitSize x+szB l
theorem szB_app :∀(a b:List Ins),szB (a++b)=szB a+szB b
 | [],b=>by simp [szB]
 | x::a,b=>by simp only [List.cons_append,szB,szB_app a b]; omega
theorem szB_take (l:List Ins) (i:Nat) (h:i<l.length):szB (l.take (i+1))=szB (l.take i)+emitSize (l.getD i default):=by
 rw [qBm l default i h,szB_app]
 simp [szB]
theorem emitSize_le (x:Ins):0≤emitSize x∧emitSize x≤32:=by
 unfold emitSize numb
 repeat' split
 all_goals omega
theorem szB_le :∀(l:List Ins),0≤szB l∧szB l≤32*l.length
 | []=>by simp [szB]
 | x::l=>by
  have:=szB_le l
  have:=emitSize_le x
  simp only [szB,List.length_cons]
  omega
theorem qDf (l:List Ins) (i:Nat):0≤szB (l.take i)∧szB (l.take i)≤32*l.length:=by
 have h1:=szB_le (l.take i)
 have h4:(l.take i).length≤l.length:=by simp; omega
 omega
def startsN (b:List Ins) (n:Nat):List Int:=(List.range n).map fun i=>szB (b.take i)
theorem qB0 (b:List Ins) (n:Nat):(startsN b n).length=n:=by simp [startsN]
theorem startsN_succ (b:List Ins) (n:Nat):startsN b (n+1)=startsN b n++[szB (b.take n)]:=by simp [startsN,List.range_succ]
theorem qDg (b:List Ins) (n i:Nat) (h:i<n):(startsN b n).getD i 0=szB (b.take i):=by simp [startsN,List.getD_eq_getElem?_getD,h]
def startsOf (b:List Ins):List Int:=startsN b b.length
theorem take_min (l:List Int) (i n:Nat) (h:i<n):l.take (min (i+1) n)=l.take (i+1)∧l.take (min i n)=l.take i:=by
 rw [Nat.min_eq_left (by omega),Nat.min_eq_left (by omega)]
 exact ⟨rfl,rfl⟩
theorem implBase_ok (caps:List Int) (n:Int) (hl:caps.length<2^40):CallOk Tryz.prog num 206 [.sl .bw 1 (ints caps),.int .i64 n] [] (.int .i64 (base caps n)):=by
 refine EN m206 Tryz.func160 ?_
 unfold m206
 have w1:IntKind.i64.wrap ((caps.length:Int)-1)=caps.length-1:=qAg (by omega) (by omega)
 simp only [go_sem,seval,w1]
 repeat refine K ?_
 refine CA [] (qAk n 0 (caps.length-1)) ?_
 try simp only [go_sem,seval]
 repeat refine K ?_
 cases hw:within n 0 (caps.length-1)
 ·try simp only [go_sem,seval,hw]
  repeat refine K ?_
  refine fz ?_; simp [FinS,nilL,nilV,oneOr,-List.drop_one]
  simp [base,hw]
 try simp only [go_sem,seval,hw]
 repeat refine K ?_
 refine CA [] (capsOk_ok caps (by omega)) ?_
 try simp only [go_sem,seval]
 repeat refine K ?_
 cases hk:capsOk caps
 ·try simp only [go_sem,seval,hk]
  repeat refine K ?_
  refine fz ?_; simp [FinS,nilL,nilV,oneOr,-List.drop_one]
  simp [base,lieOk,hk]
 try simp only [go_sem,seval,hk]
 repeat refine K ?_
 have hw':=within_iff.1 hw
 refine qA8 (ι:=Nat) (fun i=>.mk [(1,.int .i64 n),(5,.int .i64 (sumC (caps.take (min i n.toNat)))),(6,.int .i64 (sumC (caps.take i))),(20,.sl .bw 1 (ints caps)),(21,.int .i64 caps.length),(22,.int .i64 i)] [] 10) (fun i=>i≤caps.length) (fun i=>caps.length-i) 0 (by simp) ?_ ?_
 ·refine Sub.shape [] id (by omega) ?_ ?_ ?_ ?_<;>simp [qA2]
  simp [sumC]
 ·intro i hi
  simp only [go_sem,seval]
  refine qA1 (fun hc=>?_) (fun hc=>?_)
  ·simp only [decide_eq_true_eq] at hc
   have hl':i<caps.length:=by omega
   have h1:=qCv hk i
   have h2:=qCv hk (i+1)
   have h3:=sumC_take caps i hl'
   have h4:=qCv hk (min i n.toNat)
   have q1:IntKind.i64.wrap (caps.getD i 0+4)=caps.getD i 0+4:=qAg (by omega) (by omega)
   have q2:IntKind.i64.wrap (sumC (caps.take i)+(caps.getD i 0+4))=sumC (caps.take (i+1)):=by rw [qAg (by omega) (by omega)]; omega
   simp only [go_sem,seval,qA0 caps i hl']
   repeat refine K ?_
   refine qA1 (fun hc2=>?_) (fun hc2=>?_)
   ·simp only [decide_eq_true_eq] at hc2
    obtain ⟨e1,e2⟩:=take_min caps i n.toNat (by omega)
    simp only [go_sem,seval,q1,q2,e2,qA7 (i:=i) (by omega)]
    repeat refine K ?_
    refine qA6 (i+1) (Sub.shape [] id (by omega) ?_ ?_ ?_ ?_) ?_ ?_
    any_goals (first | omega | (simp [qA2]; done))
    rw [e1]
    simp [qA2]
   ·simp only [decide_eq_false_iff_not] at hc2
    have e1:min (i+1) n.toNat=min i n.toNat:=by omega
    simp only [go_sem,seval,q1,q2,qA7 (i:=i) (by omega)]
    repeat refine K ?_
    refine qA6 (i+1) (Sub.shape [] id (by omega) ?_ ?_ ?_ ?_) ?_ ?_
    any_goals (first | omega | (simp [qA2]; done))
    rw [e1]
    simp [qA2]
  ·simp only [decide_eq_false_iff_not] at hc
   have he:caps.take i=caps:=List.take_of_length_le (by omega)
   have hm:min i n.toNat=n.toNat:=by omega
   simp only [go_sem,seval,he,hm]
   repeat refine K ?_
   by_cases h24:(24:Int)<sumC caps
   ·try simp only [go_sem,seval,h24]
    repeat refine K ?_
    refine fz ?_; simp [FinS,nilL,nilV,oneOr,-List.drop_one]
    have :¬sumC caps≤24:=by omega
    simp [base,hw,lieOk,hk,this]
   ·try simp only [go_sem,seval,h24]
    repeat refine K ?_
    refine fz ?_; simp [FinS,nilL,nilV,oneOr,-List.drop_one]
    have:sumC caps≤24:=by omega
    simp [base,hw,lieOk,hk,this]
theorem l9Base_ok (caps:List Int) (n:Nat) (hl:caps.length<2^40) (hk:capsOk caps=true) (hn:n≤caps.length):CallOk Tryz.prog num 251 [.sl .bw 1 (ints caps),.int .i64 n] [] (.int .i64 (sumC (caps.take n))):=by
 refine EN m251 Tryz.func207 ?_
 unfold m251
 simp only [go_sem,seval]
 repeat refine K ?_
 refine qA8 (ι:=Nat) (fun i=>.mk [(0,.sl .bw 1 (ints caps)),(1,.int .i64 n),(5,.int .i64 (sumC (caps.take i))),(6,.int .i64 i)] [] 10) (fun i=>i≤n) (fun i=>n-i) 0 (by simp) ?_ ?_
 ·refine Sub.shape [] id (by omega) ?_ ?_ ?_ ?_<;>simp [qA2]
  simp [sumC]
 ·intro i hi
  simp only [go_sem,seval]
  refine qA1 (fun hc=>?_) (fun hc=>?_)
  ·simp only [decide_eq_true_eq] at hc
   have hl':i<caps.length:=by omega
   have h1:=qCv hk i
   have h2:=qCv hk (i+1)
   have h3:=sumC_take caps i hl'
   have q1:IntKind.i64.wrap (sumC (caps.take i)+caps.getD i 0)=sumC (caps.take i)+caps.getD i 0:=qAg (by omega) (by omega)
   have q2:IntKind.i64.wrap (sumC (caps.take i)+caps.getD i 0+4)=sumC (caps.take (i+1)):=by rw [qAg (by omega) (by omega)]; omega
   simp only [go_sem,seval,qA0 caps i hl',q1,q2,qA7 (i:=i) (by omega)]
   repeat refine K ?_
   refine qA6 (i+1) (Sub.shape [] id (by omega) ?_ ?_ ?_ ?_) ?_ ?_
   any_goals (first | omega | (simp [qA2]; done))
  ·simp only [decide_eq_false_iff_not] at hc
   have he:i=n:=by omega
   subst he
   simp only [go_sem,seval]
   repeat refine K ?_
   refine fz ?_; simp [FinS,nilL,nilV,oneOr,-List.drop_one]
theorem l9Right_ok (caps:List Int) (hl:caps.length<2^40):CallOk Tryz.prog num 202 [.sl .bw 1 (ints caps)] [] (.bool (lieOk caps)):=by
 refine EN m202 Tryz.func155 ?_
 unfold m202
 simp only [go_sem,seval]
 repeat refine K ?_
 refine qA8 (ι:=Nat) (fun i=>.mk [(0,.sl .bw 1 (ints caps)),(3,.int .i64 i)] [] 10) (fun i=>i≤caps.length∧(caps.take i).all (fun c=>within c 1 4)=true) (fun i=>caps.length-i) 0 (by simp) ?_ ?_
 ·refine Sub.shape [] id (by omega) ?_ ?_ ?_ ?_<;>simp [qA2]
 ·rintro i ⟨hi,hp⟩
  simp only [go_sem,seval]
  refine qA1 (fun hc=>?_) (fun hc=>?_)
  ·simp only [decide_eq_true_eq] at hc
   have hl':i<caps.length:=by omega
   simp only [go_sem,seval,qA0 caps i hl']
   repeat refine K ?_
   refine CA [] (qAq (caps.getD i 0) 1 4) ?_
   try simp only [go_sem,seval]
   repeat refine K ?_
   cases hw:within (caps.getD i 0) 1 4
   ·simp only [go_sem,seval,hw]
    repeat refine K ?_
    refine fz ?_; simp [FinS,nilL,nilV,oneOr,-List.drop_one]
    have:capsOk caps=false:=qBq hl' hw
    simp [lieOk,this]
   ·simp only [go_sem,seval,hw,qA7 (i:=i) (by omega)]
    repeat refine K ?_
    refine qA6 (i+1) (Sub.shape [] id (by omega) ?_ ?_ ?_ ?_) ?_ ?_
    any_goals (first | omega | (simp [qA2]; done))
    exact ⟨hl',qC2 hp hl' hw⟩
  ·simp only [decide_eq_false_iff_not] at hc
   have hk:capsOk caps=true:=qDa hp hc
   have hs:=capsOk_sum hk
   simp only [go_sem,seval]
   repeat refine K ?_
   by_cases h24:(caps.length:Int)≤24
   ·try simp only [go_sem,seval,h24]
    repeat refine K ?_
    refine CA [] (l9Base_ok caps caps.length hl hk (Nat.le_refl _)) ?_
    try simp only [go_sem,seval]
    repeat refine K ?_
    try simp only [go_sem,seval,h24,List.take_length]
    repeat refine K ?_
    refine fz ?_; simp [FinS,nilL,nilV,oneOr,-List.drop_one]
    simp [lieOk,hk]
   ·try simp only [go_sem,seval,h24]
    repeat refine K ?_
    refine fz ?_; simp [FinS,nilL,nilV,oneOr,-List.drop_one]
    have :¬sumC caps≤24:=by omega
    simp [lieOk,this]
theorem specBase_ok (caps:List Int) (n:Int) (hl:caps.length<2^40):CallOk Tryz.prog num 257 [.sl .bw 1 (ints caps),.int .i64 n] [] (.int .i64 (base caps n)):=by
 have w1:IntKind.i64.wrap ((caps.length:Int)-1)=caps.length-1:=qAg (by omega) (by omega)
 refine EN m257 Tryz.func172 ?_
 unfold m257
 simp only [go_sem,seval]
 repeat refine K ?_
 refine CA [] (l9Right_ok caps hl) ?_
 try simp only [go_sem,seval]
 repeat refine K ?_
 cases hk:lieOk caps
 ·try simp only [go_sem,seval,hk,w1]
  repeat refine K ?_
  refine fz ?_; simp [FinS,nilL,nilV,oneOr,-List.drop_one]
  simp [base,hk]
 try simp only [go_sem,seval,hk,w1]
 repeat refine K ?_
 refine CA [] (qAq n 0 (caps.length-1)) ?_
 try simp only [go_sem,seval]
 repeat refine K ?_
 cases hw:within n 0 (caps.length-1)
 ·try simp only [go_sem,seval,hw]
  repeat refine K ?_
  refine fz ?_; simp [FinS,nilL,nilV,oneOr,-List.drop_one]
  simp [base,hw]
 have hw':=within_iff.1 hw
 have hk':=hk
 unfold lieOk at hk'
 simp only [Bool.and_eq_true] at hk'
 have en:n=(n.toNat:Int):=by omega
 try simp only [go_sem,seval,hw]
 repeat refine K ?_
 rw [en]
 refine CA [] (l9Base_ok caps n.toNat hl hk'.1 (by omega)) ?_
 try simp only [go_sem,seval]
 repeat refine K ?_
 try simp only [go_sem,seval]
 repeat refine K ?_
 refine fz ?_; simp [FinS,nilL,nilV,oneOr,-List.drop_one]
 try rw [←en]
 have em:max n 0=n:=by omega
 simp [em,base,hw,hk]
theorem startsOf_ok (b:List Ins) (hl:b.length<2^40):CallOk Tryz.prog num 207 [.sl .bw 5 (inss b)] [] (.sl .own 1 (ints (startsOf b))):=by
 refine EN m207 Tryz.func161 ?_
 unfold m207
 simp only [go_sem,seval]
 repeat refine K ?_
 refine qA8 (ι:=Nat) (fun i=>.mk [(3,.ns 10 0 i),(4,.int .i64 (szB (b.take i))),(8,.sl .bw 5 (inss b)),(9,.int .i64 b.length),(10,.int .i64 i)] [(10,1,ints (startsN b i))] 11) (fun i=>i≤b.length) (fun i=>b.length-i) 0 (by simp) ?_ ?_
 ·refine Sub.shape [] id (by omega) ?_ ?_ ?_ ?_<;>simp [qA2]
  all_goals simp [startsN,szB,ints]
 ·intro i hi
  simp only [go_sem,seval]
  refine qA1 (fun hc=>?_) (fun hc=>?_)
  ·simp only [decide_eq_true_eq] at hc
   have hl':i<b.length:=by omega
   have h1:=qDf b i
   have h2:=qDf b (i+1)
   have h3:=szB_take b i hl'
   have q1:IntKind.i64.wrap (szB (b.take i)+emitSize (b.getD i default))=szB (b.take (i+1)):=by rw [qAg (by omega) (by omega)]; omega
   simp only [go_sem,seval,qBh b i hl',qB0]
   repeat refine K ?_
   refine CA [] (qAz (b.getD i default)) ?_
   try simp only [go_sem,seval]
   repeat refine K ?_
   try simp only [go_sem,seval,q1,qA7 (i:=i) (by omega)]
   repeat refine K ?_
   refine qA6 (i+1) (Sub.shape [] (fun n=>if n=10 then 13 else n) (by omega) ?_ ?_ ?_ ?_) hl' (by omega)<;>simp [qA2]
   all_goals exact .inl (by rw [startsN_succ,ints_snoc'])
  ·simp only [decide_eq_false_iff_not] at hc
   have he:i=b.length:=by omega
   subst he
   simp only [go_sem,seval]
   repeat refine K ?_
   refine ⟨_,Sub.refl _,qAm ?_⟩; simp [-List.drop_one]
   simp [qB0,startsOf]
theorem l11Starts_ok (b:List Ins) (hl:b.length<2^40):CallOk Tryz.prog num 252 [.sl .bw 5 (inss b)] [] (.sl .own 1 (ints (startsN b (b.length+1)))):=by
 refine EN m252 Tryz.func208 ?_
 unfold m252
 simp only [go_sem,seval]
 repeat refine K ?_
 refine qA8 (ι:=Nat) (fun i=>.mk [(0,.sl .bw 5 (inss b)),(3,.ns 10 0 (i+1)),(4,.int .i64 i)] [(10,1,ints (startsN b (i+1)))] 11) (fun i=>i≤b.length) (fun i=>b.length-i) 0 (by simp) ?_ ?_
 ·refine Sub.shape [] id (by omega) ?_ ?_ ?_ ?_<;>simp [qA2]
  all_goals simp [startsN,szB,ints]
 ·intro i hi
  simp only [go_sem,seval]
  refine qA1 (fun hc=>?_) (fun hc=>?_)
  ·simp only [decide_eq_true_eq] at hc
   have hl':i<b.length:=by omega
   have h1:=qDf b i
   have h2:=qDf b (i+1)
   have h3:=szB_take b i hl'
   have q1:IntKind.i64.wrap (szB (b.take i)+emitSize (b.getD i default))=szB (b.take (i+1)):=by rw [qAg (by omega) (by omega)]; omega
   have g:=qDg b (i+1) i (by omega)
   have hgi:=qBh b i hl'
   have hgs:=qA0 (startsN b (i+1)) i (by rw [qB0]; omega)
   have hsl:=qB0 b (i+1)
   have hws:=qA7 (i:=i) (by omega)
   repeat' (first
    | (simp only [go_sem,seval,hgi,hgs,hsl,g,q1,hws])
    | (refine qBi (qCp _) rfl rfl rfl rfl ?_)
    | (refine K ?_)
    | (refine And.intro ?_ ?_)
    | fail)
   all_goals
    refine qA6 (i+1) (Sub.shape [] (fun n=>if n=10 then 12 else n) (by omega) ?_ ?_ ?_ ?_) hl' (by omega)<;>simp [qA2]
    all_goals exact .inl (by rw [startsN_succ b (i+1),ints_snoc'])
  ·simp only [decide_eq_false_iff_not] at hc
   have he:i=b.length:=by omega
   subst he
   simp only [go_sem,seval]
   repeat refine K ?_
   refine ⟨_,Sub.refl _,qAm ?_⟩; simp [-List.drop_one]
   simp [qB0]
def placeAt:List Ins→Int→Int→Int→Int×Bool
 | [],_,_,_=>(-1,false)
 | x::l,off,i,at_=>if off≤at_∧at_≤off+emitSize x-1 then (i,decide (at_=off)) else placeAt l (off+emitSize x) (i+1) at_
def placeOf (p:Prog) (body at_:Int):Int×Bool:=if progOk p&&within body 0 (p.bods.length-1) then placeAt (p.bods.getD body.toNat []) 0 0 at_ else (-1,false)
theorem placeAt_step (b:List Ins) (i:Nat) (h:i<b.length) (at_:Int):placeAt (b.drop i) (szB (b.take i)) i at_=if szB (b.take i)≤at_∧at_≤szB (b.take (i+1))-1 then ((i:Int),decide (at_=szB (b.take i))) else placeAt (b.drop (i+1)) (szB (b.take (i+1))) ((i+1:Nat):Int) at_:=by
 have hd:b.drop i=b.getD i default::b.drop (i+1):=by rw [List.drop_eq_getElem_cons h]; simp [List.getD_eq_getElem?_getD,h]
 rw [hd,szB_take b i h]
 simp only [placeAt]
 push_cast
 rfl
theorem placeAt_end (b:List Ins) (i:Nat) (h:b.length≤i) (off k at_:Int):placeAt (b.drop i) off k at_=(-1,false):=by
 rw [List.drop_eq_nil_of_le h]
 rfl
theorem placeAt_out :∀(b:List Ins) (off k at_:Int),at_<off∨off+szB b≤at_→placeAt b off k at_=(-1,false)
 | [],_,_,_,_=>rfl
 | x::l,off,k,at_,h=>by
  have h1:=emitSize_le x
  have h2:=szB_le l
  simp only [szB] at h
  simp only [placeAt]
  rw [if_neg (by omega)]
  exact placeAt_out l _ _ _ (by omega)
theorem implPlaceAt_ok (b:List Ins) (at_:Int) (hl:b.length<2^40):CallOk Tryz.prog num 280 [.sl .bw 5 (inss b),.int .i64 at_] [] (.tup [.int .i64 (placeAt b 0 0 at_).1,.bool (placeAt b 0 0 at_).2]):=by
 refine EN m280 Tryz.func227 ?_
 unfold m280
 simp only [go_sem,seval]
 repeat refine K ?_
 refine CA [] (startsOf_ok b hl) ?_
 try simp only [go_sem,seval]
 repeat refine K ?_
 have hsl:(startsOf b).length=b.length:=qB0 b b.length
 try simp only [go_sem,seval,hsl]
 repeat refine K ?_
 refine qA8 (ι:=Nat) (fun i=>.mk [(0,.sl .bw 5 (inss b)),(1,.int .i64 at_),(9,.ns 10 0 b.length),(10,.int .i64 b.length),(11,.int .i64 i)] [(10,1,ints (startsOf b))] 11) (fun i=>i≤b.length∧placeAt (b.drop i) (szB (b.take i)) i at_=placeAt b 0 0 at_) (fun i=>b.length-i) 0 (by simp [szB]) ?_ ?_
 ·refine Sub.shape [] id (by omega) ?_ ?_ ?_ ?_<;>simp [qA2]
 ·rintro i ⟨hi,hp⟩
  simp only [go_sem,seval]
  refine qA1 (fun hc=>?_) (fun hc=>?_)
  ·simp only [decide_eq_true_eq] at hc
   have hl':i<b.length:=by omega
   have hsg:(startsOf b).getD i 0=szB (b.take i):=qDg b b.length i hl'
   have h1:=qDf b i
   have h2:=qDf b (i+1)
   have h3:=szB_take b i hl'
   have h4:=emitSize_le (b.getD i default)
   have hs:=placeAt_step b i hl' at_
   have q1:IntKind.i64.wrap (szB (b.take i)+emitSize (b.getD i default))=szB (b.take (i+1)):=by rw [qAg (by omega) (by omega)]; omega
   have q2:IntKind.i64.wrap (szB (b.take (i+1))-1)=szB (b.take (i+1))-1:=qAg (by omega) (by omega)
   simp only [go_sem,seval,qA0 (startsOf b) i (by omega),hsg,hsl,qBh b i hl']
   repeat refine K ?_
   refine CA [] (qAz (b.getD i default)) ?_
   try simp only [go_sem,seval]
   repeat refine K ?_
   try simp only [go_sem,seval,q1,q2]
   repeat refine K ?_
   refine CA [] (qAk at_ (szB (b.take i)) (szB (b.take (i+1))-1)) ?_
   try simp only [go_sem,seval]
   repeat refine K ?_
   rw [hp] at hs
   cases hw:within at_ (szB (b.take i)) (szB (b.take (i+1))-1)
   ·have hn :¬(szB (b.take i)≤at_∧at_≤szB (b.take (i+1))-1):=fun h=>by rw [←within_iff] at h; rw [h] at hw; simp at hw
    rw [if_neg hn] at hs
    try simp only [go_sem,seval,hw,qA7 (i:=i) (by omega)]
    repeat refine K ?_
    refine qA6 (i+1) (Sub.shape [] id (by omega) ?_ ?_ ?_ ?_) ?_ ?_
    any_goals (first | omega | (simp [qA2]; done))
    exact ⟨hl',hs.symm⟩
   ·rw [if_pos (within_iff.1 hw)] at hs
    try simp only [go_sem,seval,hw]
    repeat refine K ?_
    refine ⟨_,Sub.refl _,qAp (by simp) ?_⟩; simp [-List.drop_one]
    rw [hs]
    simp
  ·simp only [decide_eq_false_iff_not] at hc
   rw [placeAt_end b i (by omega)] at hp
   simp only [go_sem,seval]
   repeat refine K ?_
   refine ⟨_,Sub.refl _,qAp (by simp) ?_⟩; simp [-List.drop_one]
   rw [←hp]
   simp
theorem specPlaceOf_ok (p:Prog) (k at_:Int) (hp:SmallP p):CallOk Tryz.prog num 224 [.agg (progC .bw p),.int .i64 k,.int .i64 at_] [] (.tup [.int .i64 (placeOf p k at_).1,.bool (placeOf p k at_).2]):=by
 obtain ⟨h1,h2,h3⟩:=hp
 have w1:IntKind.i64.wrap ((p.bods.length:Int)-1)=p.bods.length-1:=qAg (by omega) (by omega)
 refine EN m224 Tryz.func170 ?_
 unfold m224
 simp only [go_sem,seval]
 repeat refine K ?_
 refine CA [] (qDk p (by omega) (by omega) (fun b hb=>by have:=h3 b hb; omega)) ?_
 try simp only [go_sem,seval]
 repeat refine K ?_
 cases hok:progOk p
 ·try simp only [go_sem,seval,hok]
  repeat refine K ?_
  refine ⟨_,Sub.refl _,qAp (by simp) ?_⟩; simp [-List.drop_one]
  simp [placeOf,hok]
 try simp only [go_sem,seval,hok,w1]
 repeat refine K ?_
 refine CA [] (qAq k 0 (p.bods.length-1)) ?_
 try simp only [go_sem,seval]
 repeat refine K ?_
 cases hw:within k 0 (p.bods.length-1)
 ·try simp only [go_sem,seval,hw]
  repeat refine K ?_
  refine ⟨_,Sub.refl _,qAp (by simp) ?_⟩; simp [-List.drop_one]
  simp [placeOf,hw]
 have hw':=within_iff.1 hw
 have hk:k.toNat<p.bods.length:=by omega
 have hb:=h3 _ (qAd p.bods k.toNat [] hk)
 have hres:placeOf p k at_=placeAt (p.bods.getD k.toNat []) 0 0 at_:=by simp [placeOf,hok,hw]
 rw [hres]
 try simp only [go_sem,seval,hw,qA9 .bw p.bods k.toNat hk]
 repeat refine K ?_
 generalize p.bods.getD k.toNat []=b at hb
 refine CA [] (l11Starts_ok b hb) ?_
 try simp only [go_sem,seval]
 repeat refine K ?_
 have hsl:(startsN b (b.length+1)).length=b.length+1:=qB0 b (b.length+1)
 have w2:IntKind.i64.wrap ((b.length+1:Nat)-1:Int)=b.length:=by rw [qAg (by omega) (by omega)]; omega
 have hsn:(startsN b (b.length+1)).getD b.length 0=szB b:=by rw [qDg b (b.length+1) b.length (by omega),List.take_length]
 have hz:=szB_le b
 have w3:IntKind.i64.wrap (szB b-1)=szB b-1:=qAg (by omega) (by omega)
 try simp only [go_sem,seval,hsl,w2,qA0 (startsN b (b.length+1)) b.length (by omega),hsn,w3]
 repeat refine K ?_
 refine CA [] (qAq at_ 0 (szB b-1)) ?_
 try simp only [go_sem,seval]
 repeat refine K ?_
 cases hin:within at_ 0 (szB b-1)
 ·have ho:=placeAt_out b 0 0 at_ (by apply Decidable.byContradiction; intro h; rw [show within at_ 0 (szB b-1)=true from within_iff.2 (by omega)] at hin; simp at hin)
  try simp only [go_sem,seval,hin]
  repeat refine K ?_
  refine ⟨_,Sub.refl _,qAp (by simp) ?_⟩; simp [-List.drop_one]
  rw [ho]
  simp
 have hin':=within_iff.1 hin
 try simp only [go_sem,seval,hin]
 repeat refine K ?_
 refine qA8 (ι:=Nat) (fun i=>.mk [(2,.int .i64 at_),(8,.ns 11 0 (b.length+1)),(9,.int .i64 b.length),(10,.int .i64 i)] [(11,1,ints (startsN b (b.length+1)))] 12) (fun i=>i≤b.length∧placeAt (b.drop i) (szB (b.take i)) i at_=placeAt b 0 0 at_∧szB (b.take i)≤at_) (fun i=>b.length-i) 0 (by simp [szB]; omega) ?_ ?_
 ·refine Sub.shape [] id (by omega) ?_ ?_ ?_ ?_<;>simp [qA2]
 ·rintro i ⟨hi,hp,hlo⟩
  simp only [go_sem,seval]
  refine qA1 (fun hc=>?_) (fun hc=>?_)
  ·simp only [decide_eq_true_eq] at hc
   have hl':i<b.length:=by omega
   have hsg:(startsN b (b.length+1)).getD i 0=szB (b.take i):=qDg b (b.length+1) i (by omega)
   have hsg2:(startsN b (b.length+1)).getD (i+1) 0=szB (b.take (i+1)):=qDg b (b.length+1) (i+1) (by omega)
   have hs:=placeAt_step b i hl' at_
   rw [hp] at hs
   simp only [go_sem,seval,qA7 (i:=i) (by omega),qA0 (startsN b (b.length+1)) (i+1) (by omega),hsg2,hsl]
   repeat refine K ?_
   refine qA1 (fun hc2=>?_) (fun hc2=>?_)
   ·simp only [decide_eq_true_eq] at hc2
    rw [if_pos (by omega)] at hs
    simp only [go_sem,seval,qA0 (startsN b (b.length+1)) i (by omega),hsg,hsl]
    repeat refine K ?_
    refine ⟨_,Sub.refl _,qAp (by simp) ?_⟩; simp [-List.drop_one]
    rw [hs]
    simp
   ·simp only [decide_eq_false_iff_not] at hc2
    rw [if_neg (by omega)] at hs
    simp only [go_sem,seval,qA7 (i:=i) (by omega)]
    repeat refine K ?_
    refine qA6 (i+1) (Sub.shape [] id (by omega) ?_ ?_ ?_ ?_) ?_ ?_
    any_goals (first | omega | (simp [qA2]; done))
    exact ⟨hl',hs.symm,by omega⟩
  ·simp only [decide_eq_false_iff_not] at hc
   rw [placeAt_end b i (by omega)] at hp
   simp only [go_sem,seval]
   repeat refine K ?_
   refine ⟨_,Sub.refl _,qAp (by simp) ?_⟩; simp [-List.drop_one]
   rw [←hp]
   simp
def m205:MFn:=⟨39,[.t 2],kr [xF 2] (kr [xv 6 0,xe 7 6,xv 3 7] (.seq (kr [xv 8 3,xc3 9 64 (.t 8) (xi 1) (xi 800),xN 10 9] (kF 10 [xF 2])) (.seq (kr [xI 4 0] (.blk 0 (.loop (.seq (kr [xv 11 4,xv 12 3,bT 13 .lss 11 12] (kX 13 0)) (.seq (.blk 1 (kr [xv 16 0,xv 17 4,xD 18 5 16 17,xm 19 5 18,xv 20 3,xc2 21 261 (.t 19) (.t 20),xN 22 21] (kF 22 [xF 2]))) (xr [xv 14 4,bI 15 .add 14 1,xv 4 15])))))) (kr [xv 23 0,xv 24 3,bI 25 .sub 24 1,xD 26 5 23 25,xa 27 0 26,xl 28 27,xv 5 28] (kR [xv 29 5,bI 30 .eql 29 10,xv 31 30,zv 32 5 31,zI 33 .eql 32 12 31,xQ 34 31 33,xv 35 34,zv 36 5 35,zI 37 .eql 36 13 35,xQ 38 35 37,xv 2 38])))))⟩
def m209:MFn:=⟨39,[.t 2],kr [xF 2] (.seq (kr [xv 6 0,xe 7 6,xc3 8 59 (.t 7) (xi 1) (xi 800),xN 9 8] (kF 9 [xF 2])) (.seq (kr [xv 10 0,xe 11 10,xI 12 0] (.blk 0 (.loop (kr [bT 13 .lss 12 11] (.seq (kX 13 0) (.seq (.blk 1 (kr [xD 14 5 10 12,xm 15 5 14,xo 4 (.alloc [xz,xz,xz,xz,xz]),xS 5 4 15] (kr [xm 16 5 4,xv 17 0,xe 18 17,xc2 19 268 (.t 16) (.t 18),xN 20 19] (kF 20 [xF 2])))) (xr [bI 21 .add 12 1,xv 12 21]))))))) (kr [xv 22 0,xv 23 0,xe 24 23,bI 25 .sub 24 1,xD 26 5 22 25,xa 27 0 26,xl 28 27,xv 5 28] (kR [xv 29 5,bI 30 .eql 29 10,xv 31 30,zv 32 5 31,zI 33 .eql 32 12 31,xQ 34 31 33,xv 35 34,zv 36 5 35,zI 37 .eql 36 13 35,xQ 38 35 37,xv 2 38]))))⟩
def lastSt (l:List Step):Int:=(l.getD (l.length-1) default).op
def codeOk (l:List Step):Bool:=within l.length 1 800&&l.all (fun s=>stepOk s l.length)&&(decide (lastSt l=10)||decide (lastSt l=12)||decide (lastSt l=13))
theorem implCodeOk_ok (l:List Step) (hl:l.length<2^40):CallOk Tryz.prog num 209 [.sl .bw 5 (steps l)] [] (.bool (codeOk l)):=by
 refine EN m209 Tryz.func139 ?_
 unfold m209
 simp only [go_sem,seval]
 repeat refine K ?_
 refine CA [] (qAk l.length 1 800) ?_
 try simp only [go_sem,seval]
 repeat refine K ?_
 cases hw2:within l.length 1 800
 ·try simp only [go_sem,seval,hw2]
  repeat refine K ?_
  refine fz ?_; simp [FinS,nilL,nilV,oneOr,-List.drop_one]
  simp [codeOk,hw2]
 try simp only [go_sem,seval,hw2]
 repeat refine K ?_
 refine qA8 (ι:=Nat) (fun i=>.mk [(0,.sl .bw 5 (steps l)),(10,.sl .bw 5 (steps l)),(11,.int .i64 l.length),(12,.int .i64 i)] [] 10) (fun i=>i≤l.length∧(l.take i).all (fun x=>stepOk x l.length)=true) (fun i=>l.length-i) 0 (by simp) ?_ ?_
 ·refine Sub.shape [] id (by omega) ?_ ?_ ?_ ?_<;>simp [qA2]
 ·rintro i ⟨hi,hp⟩
  simp only [go_sem,seval]
  refine qA1 (fun hc=>?_) (fun hc=>?_)
  ·simp only [decide_eq_true_eq] at hc
   have hl':i<l.length:=by omega
   simp only [go_sem,seval,qC6 l i hl']
   repeat refine K ?_
   refine CA [] (implStepOk_ok (l.getD i default) l.length) ?_
   try simp only [go_sem,seval]
   repeat refine K ?_
   cases hw3:stepOk (l.getD i default) l.length
   ·try simp only [go_sem,seval,hw3]
    repeat refine K ?_
    refine fz ?_; simp [FinS,nilL,nilV,oneOr,-List.drop_one]
    simp only [codeOk]
    rw [qBq (p:=fun x=>stepOk x l.length) hl' hw3]
    simp
   ·try simp only [go_sem,seval,hw3,qA7 (i:=i) (by omega)]
    repeat refine K ?_
    refine qA6 (i+1) (Sub.shape [] id (by omega) ?_ ?_ ?_ ?_) ?_ ?_
    any_goals (first | omega | (simp [qA2]; done))
    exact ⟨hl',qC2 (p:=fun x=>stepOk x l.length) hp hl' hw3⟩
  ·simp only [decide_eq_false_iff_not] at hc
   have hlen:1≤l.length:=by rw [within_iff] at hw2; omega
   have ht:Int.toNat ((l.length:Int)-1)=l.length-1:=by omega
   have hwr:IntKind.i64.wrap ((l.length:Int)-1)=(l.length:Int)-1:=qAg (by omega) (by omega)
   have he:=qDa hp hc
   simp only [go_sem,seval,hwr,ht,qC6 l (l.length-1) (by omega)]
   repeat refine K ?_
   by_cases hx:(l.getD (l.length-1) default).op=10
   ·try simp only [go_sem,seval,hx]
    repeat refine K ?_
    refine fz ?_; simp [FinS,nilL,nilV,oneOr,-List.drop_one]
    simp only [codeOk,hw2,he,lastSt,hx]
    rfl
   by_cases hy:(l.getD (l.length-1) default).op=12
   ·try simp only [go_sem,seval,hx,hy]
    repeat refine K ?_
    refine fz ?_; simp [FinS,nilL,nilV,oneOr,-List.drop_one]
    simp only [codeOk,hw2,he,lastSt,hy]
    rfl
   try simp only [go_sem,seval,hx,hy]
   repeat refine K ?_
   refine fz ?_; simp [FinS,nilL,nilV,oneOr,-List.drop_one]
   simp only [codeOk,hw2,he,lastSt,hx,hy]
   simp
theorem specCodeOk_ok (l:List Step) (hl:l.length<2^40):CallOk Tryz.prog num 205 [.sl .bw 5 (steps l)] [] (.bool (codeOk l)):=by
 refine EN m205 Tryz.func126 ?_
 unfold m205
 simp only [go_sem,seval]
 repeat refine K ?_
 refine CA [] (qAq l.length 1 800) ?_
 try simp only [go_sem,seval]
 repeat refine K ?_
 cases hw2:within l.length 1 800
 ·try simp only [go_sem,seval,hw2]
  repeat refine K ?_
  refine fz ?_; simp [FinS,nilL,nilV,oneOr,-List.drop_one]
  simp [codeOk,hw2]
 try simp only [go_sem,seval,hw2]
 repeat refine K ?_
 refine qA8 (ι:=Nat) (fun i=>.mk [(0,.sl .bw 5 (steps l)),(3,.int .i64 l.length),(4,.int .i64 i)] [] 10) (fun i=>i≤l.length∧(l.take i).all (fun x=>stepOk x l.length)=true) (fun i=>l.length-i) 0 (by simp) ?_ ?_
 ·refine Sub.shape [] id (by omega) ?_ ?_ ?_ ?_<;>simp [qA2]
 ·rintro i ⟨hi,hp⟩
  simp only [go_sem,seval]
  refine qA1 (fun hc=>?_) (fun hc=>?_)
  ·simp only [decide_eq_true_eq] at hc
   have hl':i<l.length:=by omega
   simp only [go_sem,seval,qC6 l i hl']
   repeat refine K ?_
   refine CA [] (specStepOk_ok (l.getD i default) l.length) ?_
   try simp only [go_sem,seval]
   repeat refine K ?_
   cases hw3:stepOk (l.getD i default) l.length
   ·try simp only [go_sem,seval,hw3]
    repeat refine K ?_
    refine fz ?_; simp [FinS,nilL,nilV,oneOr,-List.drop_one]
    simp only [codeOk]
    rw [qBq (p:=fun x=>stepOk x l.length) hl' hw3]
    simp
   ·try simp only [go_sem,seval,hw3,qA7 (i:=i) (by omega)]
    repeat refine K ?_
    refine qA6 (i+1) (Sub.shape [] id (by omega) ?_ ?_ ?_ ?_) ?_ ?_
    any_goals (first | omega | (simp [qA2]; done))
    exact ⟨hl',qC2 (p:=fun x=>stepOk x l.length) hp hl' hw3⟩
  ·simp only [decide_eq_false_iff_not] at hc
   have hlen:1≤l.length:=by rw [within_iff] at hw2; omega
   have ht:Int.toNat ((l.length:Int)-1)=l.length-1:=by omega
   have hwr:IntKind.i64.wrap ((l.length:Int)-1)=(l.length:Int)-1:=qAg (by omega) (by omega)
   have he:=qDa hp hc
   simp only [go_sem,seval,hwr,ht,qC6 l (l.length-1) (by omega)]
   repeat refine K ?_
   by_cases hx:(l.getD (l.length-1) default).op=10
   ·try simp only [go_sem,seval,hx]
    repeat refine K ?_
    refine fz ?_; simp [FinS,nilL,nilV,oneOr,-List.drop_one]
    simp only [codeOk,hw2,he,lastSt,hx]
    rfl
   by_cases hy:(l.getD (l.length-1) default).op=12
   ·try simp only [go_sem,seval,hx,hy]
    repeat refine K ?_
    refine fz ?_; simp [FinS,nilL,nilV,oneOr,-List.drop_one]
    simp only [codeOk,hw2,he,lastSt,hy]
    rfl
   try simp only [go_sem,seval,hx,hy]
   repeat refine K ?_
   refine fz ?_; simp [FinS,nilL,nilV,oneOr,-List.drop_one]
   simp only [codeOk,hw2,he,lastSt,hx,hy]
   simp
def wStep (_x:Step):Nat:=5
def markStepF (k:Int) (_x:Step):Step:=⟨k,k+1,k+1+1,k+1+1+1,k+1+1+1+1⟩
def zWrite (x:Write):Nat:=x.view.length
def wWrite (x:Write):Nat:=1+x.view.length
def markWriteF (k:Int) (x:Write):Write:=⟨k,marks (k+1) x.view.length⟩
def zCore (x:Core):Nat:=x.regs.length+x.view.length
def wCore (x:Core):Nat:=2+x.regs.length+x.view.length
def markCoreF (k:Int) (x:Core):Core:=⟨k,marks (k+1) x.regs.length,marks (k+1+x.regs.length) x.view.length,k+1+x.regs.length+x.view.length⟩
def wStepS:List Step→Nat:=(fun b=>tots wStep b)
def markStepSF:Int→List Step→List Step:=(fun k b=>mks wStep markStepF k b)
def zStepS:List Step→Nat:=fun (b:List Step)=>b.length
def wWriteS:List Write→Nat:=(fun b=>tots wWrite b)
def markWriteSF:Int→List Write→List Write:=(fun k b=>mks wWrite markWriteF k b)
def zWriteS:List Write→Nat:=fun (b:List Write)=>b.length+tots zWrite b
structure SmallC (cs:List (List Write)):Prop where
 len:cs.length<2^40
 cell :∀c∈cs,c.length<2^40
 view :∀c∈cs,∀w∈c,w.view.length<2^40
structure SmallM (m:Machine):Prop where
 codes:m.codes.length<2^40
 code :∀c∈m.codes,c.length<2^40
 cores:m.cores.length<2^40
 regs :∀k∈m.cores,k.regs.length<2^40
 views :∀k∈m.cores,k.view.length<2^40
 mem:SmallC m.mem.cells
 tr:m.tr.length<2^40
def zMem (cs:List (List Write)):Nat:=cs.length+tots zWriteS cs
def zMachine (m:Machine):Nat:=(m.codes.length+tots zStepS m.codes)+((m.cores.length+tots zCore m.cores)+(zMem m.mem.cells+m.tr.length))
theorem smallM_of {m:Machine} {n:Nat} (h:zMachine m≤n) (hn:n<2^40):SmallM m:=by
 unfold zMachine zMem at h
 refine ⟨by omega,fun c hc=>?_,by omega,fun k hk=>?_,fun k hk=>?_,⟨by omega,fun c hc=>?_,fun c hc w hw=>?_⟩,by omega⟩
 ·have:=tots_mem (w:=zStepS) hc
  unfold zStepS at this h
  omega
 ·have:=tots_mem (w:=zCore) hk
  unfold zCore at this h
  omega
 ·have:=tots_mem (w:=zCore) hk
  unfold zCore at this h
  omega
 ·have:=tots_mem (w:=zWriteS) hc
  unfold zWriteS at this h
  omega
 ·have:=tots_mem (w:=zWriteS) hc
  have h2:=tots_mem (w:=zWrite) hw
  unfold zWriteS at this h
  unfold zWrite at this h h2
  omega
def m229:MFn:=⟨13,[.t 4],kr [xF 4] (kR [xv 5 1,xv 6 0,xk 7 6,xa 8 1 7,xl 9 8,xe 10 9,bI 11 .sub 10 1,xc3 12 59 (.t 5) (xi 0) (.t 11),xv 4 12])⟩
theorem isCore_ok (m:Machine) (who:Int) (hl:m.cores.length<2^40):CallOk Tryz.prog num 229 [.fptr .bw (machineC .bw m) 0,.int .i64 who] [] (.bool (within who 0 (m.cores.length-1))):=by
 have w1:IntKind.i64.wrap ((m.cores.length:Int)-1)=m.cores.length-1:=qAg (by omega) (by omega)
 refine EN m229 Tryz.func141 ?_
 unfold m229
 simp only [go_sem,seval,w1]
 repeat refine K ?_
 refine CA [] (qAk who 0 (m.cores.length-1)) ?_
 try simp only [go_sem,seval]
 repeat refine K ?_
 refine fz ?_; simp [FinS,nilL,nilV,oneOr,-List.drop_one]
end Go.Sep
