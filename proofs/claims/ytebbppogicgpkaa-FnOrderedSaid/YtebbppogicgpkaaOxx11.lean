/- Contracts of functions. -/
import Derived.Test.YtebbppogicgpkaaOxx10
import Derived.Test.YtebbppogicgpkaaOxx9
namespace Go.Sep
set_option maxHeartbeats 16000000
open Go.Proofs
set_option linter.unusedSimpArgs false
set_option linter.unusedVariables false
set_option maxRecDepth 100000
open Nat renaming reduceAdd → qA, reduceMul → qB, reduceEqDiff → qC, reduceBEq → qD
open Int renaming reduceToNat → qE, reduceEq → qF, reduceLT → qG, reduceLE → qH
open List renaming getD_eq_getElem?_getD → gD
def m163:MFn:=⟨65,[.t 2,.t 3],kr [xb 1 0,xo 2 (.mv (.c (.nil))),xF 3] (.seq (kr [xm 11 2 1,xc1 12 48 (.t 11),xN 13 12,xv 14 13,za 15 0 1 14,zl 16 1 15 14,ze 17 16 14,zI 18 .gtr 17 0 14,zv 19 18 14,ya 20 0 1 19,yl 21 1 20 19,xg 22 (.call 206 [false,false] [.t 21,xi 0]) 19 true,yI 23 .lss 22 0 19,xg 24 (.pick (.t 19) (.t 23) (.c (.bool false))) 14 false,xQ 25 14 24] (kF 25 [xo 2 (.mv (.c (.nil))),xF 3])) (kr [xo 26 (.mkSl [.nil] 0 []),xv 4 26] (.seq (kr [xa 27 1 1,xl 28 27,xe 29 28,xI 30 0] (.blk 0 (.loop (kr [bT 31 .lss 30 29] (.seq (kX 31 0) (.seq (.blk 1 (kr [xD 32 1 28 30,xl 33 32,xv 6 33] (kr [xv 34 6,xc1 35 207 (.t 34),xv 7 35] (kr [xo 36 (.mkSl [xz,xz,xz,xz,xz] 0 []),xv 8 36] (.seq (kr [xv 37 6,xe 38 37,xI 39 0] (.blk 2 (.loop (kr [bT 40 .lss 39 38] (.seq (kX 40 2) (.seq (.blk 3 (kr [xv 41 39,xD 42 5 37 39,xm 43 5 42,xo 10 (.alloc [xz,xz,xz,xz,xz]),xv 9 41,xS 5 10 43] (.dreg (.take 0 (xv 44 8) (.take 1 (xa 45 0 1) (.take 2 (xl 46 45) (.take 3 (xm 47 5 10) (.take 4 (xv 48 7) (.take 5 (xv 49 9) (.take 6 (xD 50 1 48 49) (.take 7 (xl 51 50) (.only 8 [] (xv 52 7) (.only 9 [2,3,7,1,6,4,5] (xo 53 (.call 208 [false,false,false,false] [.t 46,.t 47,.t 51,.t 52])) (.only 10 [0,9,2,3,7,1,6,4,5] (xA 54 5 40 44 53) (.only 11 [0,1,2,3,4,5,6,7] (xv 8 54) (.done)))))))))))))))) (xr [bI 55 .add 39 1,xv 39 55]))))))) (.seq (kr [xv 56 8,xc1 57 209 (.t 56),xN 58 57] (kF 58 [xo 2 (.mv (.c (.nil))),xF 3])) (xr [xv 59 4,xv 60 8,xo 61 (.mkSl [.nil] 1 [(0,.t 60)]),xA 62 1 24 59 61,xv 4 62]))))))) (xr [bI 63 .add 30 1,xv 30 63]))))))) (kR [xv 64 4,xv 2 64,xT 3]))))⟩
def m208:MFn:=⟨63,[.t 8],kr [xb 5 1,xo 8 (.mv (.c (.nil)))] (.seq (kr [xm 11 5 5,xv 12 3,xe 13 12,xv 14 0,xe 15 14,xc3 16 88 (.t 11) (.t 13) (.t 15),xN 17 16] (kF 17 [xo 8 (.mv (.c (.nil)))])) (.seq (kr [xa 18 0 5,xl 19 18,xc1 20 44 (.t 19),xN 21 20] (kF 21 [xm 22 5 5,xv 23 3,xc2 24 263 (.t 22) (.t 23),xo 25 (.mkSl [xz,xz,xz,xz,xz] 1 [(0,.t 24)]),xv 8 25])) (kr [xv 26 0,xa 27 4 5,xl 28 27,xc2 29 206 (.t 26) (.t 28),xv 9 29] (.seq (kr [xv 30 9,bI 31 .lss 30 0] (kF 31 [xo 8 (.mv (.c (.nil)))])) (kr [xv 32 2,xv 33 9,xv 34 0,xa 35 4 5,xl 36 35,xD 37 1 34 36,xl 38 37,xo 39 (.build [.nil,.int .i64 0,.int .i64 0,.int .i64 0] [(1,1,.t 32),(2,1,.t 33),(3,1,.t 38)]),xb 40 39,xv 10 40] (kr [xv 41 10,xo 42 (.call 264 [true] [.t 41])] (.seq (kr [xa 43 0 5,xl 44 43] (.blk 0 (.seq (kr [bI 48 .eql 44 5,xv 47 48] (.cond 47 (.skip) (xr [bI 49 .eql 44 7,xv 47 49]))) (.cond 47 (xr [xv 50 10,xm 51 5 5,xo 52 (.call 265 [true,false] [.t 50,.t 51])]) (.seq (kr [bI 54 .eql 44 6,xv 53 54] (.cond 53 (.skip) (xr [bI 55 .eql 44 8,xv 53 55]))) (.cond 53 (xr [xv 56 10,xm 57 5 5,xo 58 (.call 266 [true,false] [.t 56,.t 57])]) (xr [xv 45 10,xo 46 (.call 267 [true] [.t 45])]))))))) (kR [xv 59 10,xk 60 59,xa 61 0 60,xl 62 61,xv 8 62]))))))))⟩
def m209:MFn:=⟨39,[.t 2],kr [xF 2] (.seq (kr [xv 6 0,xe 7 6,xc3 8 59 (.t 7) (xi 1) (xi 800),xN 9 8] (kF 9 [xF 2])) (.seq (kr [xv 10 0,xe 11 10,xI 12 0] (.blk 0 (.loop (kr [bT 13 .lss 12 11] (.seq (kX 13 0) (.seq (.blk 1 (kr [xD 14 5 10 12,xm 15 5 14,xo 4 (.alloc [xz,xz,xz,xz,xz]),xS 5 4 15] (kr [xm 16 5 4,xv 17 0,xe 18 17,xc2 19 268 (.t 16) (.t 18),xN 20 19] (kF 20 [xF 2])))) (xr [bI 21 .add 12 1,xv 12 21]))))))) (kr [xv 22 0,xv 23 0,xe 24 23,bI 25 .sub 24 1,xD 26 5 22 25,xa 27 0 26,xl 28 27,xv 5 28] (kR [xv 29 5,bI 30 .eql 29 10,xv 31 30,zv 32 5 31,zI 33 .eql 32 12 31,xQ 34 31 33,xv 35 34,zv 36 5 35,zI 37 .eql 36 13 35,xQ 38 35 37,xv 2 38]))))⟩
def m263:MFn:=⟨65,[.cell 4 5 true],kr [xb 2 0,xo 4 (.alloc [xz,xz,xz,xz,xz])] (.seq (kr [xa 5 0 2,xl 6 5] (.blk 0 (kr [bI 8 .eql 6 1,xv 7 8] (.cond 7 (kR [xa 9 1 2,xl 10 9,xa 11 4 2,xl 12 11,xo 13 (.build [xz,xz,xz,xz,xz] [(0,1,xi 1),(1,1,.t 10),(4,1,.t 12)]),xS 5 4 13]) (kr [bI 15 .eql 6 2,xv 14 15] (.cond 14 (kR [xa 16 1 2,xl 17 16,xa 18 2 2,xl 19 18,xa 20 3 2,xl 21 20,xo 22 (.build [xz,xz,xz,xz,xz] [(0,1,xi 2),(1,1,.t 17),(2,1,.t 19),(3,1,.t 21)]),xS 5 4 22]) (kr [bI 24 .eql 6 3,xv 23 24] (.cond 23 (kR [xa 25 1 2,xl 26 25,xa 27 2 2,xl 28 27,xa 29 3 2,xl 30 29,xo 31 (.build [xz,xz,xz,xz,xz] [(0,1,xi 3),(1,1,.t 26),(2,1,.t 28),(3,1,.t 30)]),xS 5 4 31]) (kr [bI 33 .eql 6 4,xv 32 33] (.cond 32 (kR [xa 34 1 2,xl 35 34,xa 36 2 2,xl 37 36,xa 38 3 2,xl 39 38,xo 40 (.build [xz,xz,xz,xz,xz] [(0,1,xi 4),(1,1,.t 35),(2,1,.t 37),(3,1,.t 39)]),xS 5 4 40]) (kr [bI 42 .eql 6 10,xv 41 42] (.cond 41 (kR [xa 43 2 2,xl 44 43,xo 45 (.build [xz,xz,xz,xz,xz] [(0,1,xi 9),(2,1,.t 44)]),xS 5 4 45]) (kr [bI 47 .eql 6 11,xv 46 47] (.cond 46 (kR [xv 48 1,xa 49 4 2,xl 50 49,xD 51 1 48 50,xl 52 51,xo 53 (.build [xz,xz,xz,xz,xz] [(0,1,xi 10),(4,1,.t 52)]),xS 5 4 53]) (kr [bI 55 .eql 6 12,xv 54 55] (.cond 54 (.seq (.dreg (.take 0 (xa 56 2 2) (.take 1 (xl 57 56) (.take 2 (xv 58 1) (.only 3 [] (xa 59 4 2) (.only 4 [] (xl 60 59) (.only 5 [2] (xD 61 1 58 60) (.only 6 [5,2] (xl 62 61) (.only 7 [1,6,0,5,2] (xo 63 (.build [xz,xz,xz,xz,xz] [(0,1,xi 11),(2,1,.t 57),(4,1,.t 62)])) (.only 8 [0,1,2] (xS 5 4 63) (.done))))))))))) (.ret)) (.skip))))))))))))))))) (kR [xo 64 (.build [xz,xz,xz,xz,xz] [(0,1,xi 12)]),xS 5 4 64]))⟩
def qB4 (l:List wX):Int:=(l.getD (l.length-1) default).op
def aB (l:List wX):Bool:=qL l.length 1 800&&l.all (fun s=>eP s l.length)&&(decide (qB4 l=10)||decide (qB4 l=12)||decide (qB4 l=13))
def dZ (p:wN):List (List wX)×Bool :=
 if vD p&&bR p.caps&&p.bods.all (fun b=>aB (comp p.caps b)) then (p.bods.map (comp p.caps),true) else ([],false)
theorem rH (l:List wX) (hl:l.length<2^40):wD Try.prog num 209 [.sl .bw 5 (yT l)] [] (.bool (aB l)):=by
 refine EN m209 Try.func33 ?_
 unfold m209
 simp only [go_sem,seval]
 refine CA [] (wU l.length 1 800) ?_
 try simp only [go_sem,seval]
 cases hw2:qL l.length 1 800
 ·try simp only [go_sem,seval,hw2]
  refine fz ?_; simp [yB,qW,qZ,wG,-List.drop_one]
  simp [aB,hw2]
 try simp only [go_sem,seval,hw2]
 refine wL (ι:=Nat) (fun i=>.mk [(0,.sl .bw 5 (yT l)),(10,.sl .bw 5 (yT l)),(11,.int .i64 l.length),(12,.int .i64 i)] [] 10) (fun i=>i≤l.length∧(l.take i).all (fun x=>eP x l.length)=true) (fun i=>l.length-i) 0 (by simp) ?_ ?_
 ·refine Sub.shape [] id (by omega) ?_ ?_ ?_ ?_<;>simp [qP]
 ·rintro i ⟨hi,hp⟩
  simp only [go_sem,seval]
  refine qT (fun hc=>?_) (fun hc=>?_)
  ·simp only [decide_eq_true_eq] at hc
   have hl':i<l.length:=by omega
   simp only [go_sem,seval,mB l i hl']
   repeat refine K ?_
   refine CA [] (qGh (l.getD i default) l.length) ?_
   try simp only [go_sem,seval]
   cases hw3:eP (l.getD i default) l.length
   ·try simp only [go_sem,seval,hw3]
    refine fz ?_; simp [yB,qW,qZ,wG,-List.drop_one]
    simp only [aB]
    rw [aZ (p:=fun x=>eP x l.length) hl' hw3]
    simp
   ·try simp only [go_sem,seval,hw3,wB (i:=i) (by omega)]
    refine wC (i+1) (Sub.shape [] id (by omega) ?_ ?_ ?_ ?_) ?_ ?_
    any_goals (first | omega | (simp [qP]; done))
    exact ⟨hl',eX (p:=fun x=>eP x l.length) hp hl' hw3⟩
  ·simp only [decide_eq_false_iff_not] at hc
   have hlen:1≤l.length:=by rw [qM] at hw2; omega
   have ht:Int.toNat ((l.length:Int)-1)=l.length-1:=by omega
   have hwr:IntKind.i64.wrap ((l.length:Int)-1)=(l.length:Int)-1:=yP (by omega) (by omega)
   have he:=kI hp hc
   simp only [go_sem,seval,hwr,ht,mB l (l.length-1) (by omega)]
   repeat refine K ?_
   by_cases hx:(l.getD (l.length-1) default).op=10
   ·try simp only [go_sem,seval,hx]
    refine fz ?_; simp [yB,qW,qZ,wG,-List.drop_one]
    simp only [aB,hw2,he,qB4,hx]
    rfl
   by_cases hy:(l.getD (l.length-1) default).op=12
   ·try simp only [go_sem,seval,hx,hy]
    refine fz ?_; simp [yB,qW,qZ,wG,-List.drop_one]
    simp only [aB,hw2,he,qB4,hy]
    rfl
   try simp only [go_sem,seval,hx,hy]
   refine fz ?_; simp [yB,qW,qZ,wG,-List.drop_one]
   simp only [aB,hw2,he,qB4,hx,hy]
   simp
theorem qN3 {x:Ins} {pl ch:Int} (h:xO x pl ch=true) (ho:x.op=11∨x.op=12):0≤x.n∧x.n<pl:=by
 unfold xO at h
 rcases ho with ho | ho
 ·simp [ho] at h
  omega
 ·simp [ho] at h
  omega
theorem qN4 {x:Ins} {pl ch:Int} (h:xO x pl ch=true) (ho:qL x.op 5 9=true):0≤x.n∧x.n<ch:=by
 rw [qM] at ho
 unfold xO at h
 obtain e | e | e | e | e:x.op=5∨x.op=6∨x.op=7∨x.op=8∨x.op=9:=by omega
 all_goals
  simp [e,qM] at h
  omega
theorem qPj (x:Ins) (starts:List Int) (h:x.op=11∨x.op=12→0≤x.n∧x.n.toNat<starts.length):wD Try.prog num 263 [.agg (lM x),.sl .bw 1 (wT starts)] [] (.agg (fB (single x starts))):=by
 refine EN m263 Try.func53 ?_
 unfold m263
 by_cases hj:x.op=11∨x.op=12
 ·obtain ⟨n0,n1⟩:=h hj
  have g:=qI starts x.n.toNat n1
  rcases hj with hj | hj
  ·simp only [go_sem,seval,hj,g]
   repeat refine K ?_
   refine fz ?_; simp [yB,qW,qZ,wG,-List.drop_one]
   all_goals simp [single,hj]
  ·simp only [go_sem,seval,hj,g]
   repeat refine K ?_
   refine fz ?_; simp [yB,qW,qZ,wG,-List.drop_one]
   all_goals simp [single,hj]
 ·have e11 :¬x.op=11:=fun e=>hj (.inl e)
  have e12 :¬x.op=12:=fun e=>hj (.inr e)
  repeat' (first
   | (simp only [go_sem,seval,e11,e12])
   | (refine qT (fun hc=>?_) (fun hc=>?_)<;>((try simp only [Bool.not_eq_true',Bool.not_eq_false',ne_eq,Bool.not_eq_true,Bool.not_eq_false] at hc)<;>(try simp only [hc])))
   | (refine bY (fun hc=>?_) (fun hc=>?_)<;>((try simp only [Bool.not_eq_true',Bool.not_eq_false',ne_eq,Bool.not_eq_true,Bool.not_eq_false] at hc)<;>(try simp only [hc])))
   | (refine bD (fun hc=>?_) (fun hc=>?_)<;>((try simp only [Bool.not_eq_true',Bool.not_eq_false',ne_eq,Bool.not_eq_true,Bool.not_eq_false] at hc)<;>(try simp only [hc])))
   | (refine ⟨by first | omega | (simp; done),?_⟩)
   | fail)
  all_goals (refine fz ?_; simp [yB,qW,qZ,wG,-List.drop_one])
  all_goals (try (simp_all [single]; done))
theorem qLe (caps:List Int) (x:Ins) (f:Int) (starts:List Int) (hl:caps.length<2^40) (hs:starts.length<2^40) (hf:0≤f∧f<2^40) :
  wD Try.prog num 208 [.sl .bw 1 (wT caps),.agg (lM x),.int .i64 f,.sl .bw 1 (wT starts)] [] (.sl .own 5 (yT (iT caps x f starts))):=by
 refine EN m208 Try.func32 ?_
 unfold m208
 simp only [go_sem,seval]
 refine CA [] (tT x starts.length caps.length (by omega) (by omega) (by omega) (by omega)) ?_
 try simp only [go_sem,seval]
 cases ho:xO x starts.length caps.length
 ·try simp only [go_sem,seval,ho]
  refine ⟨_,Sub.refl _,dN ?_⟩; simp [-List.drop_one]
  simp [iT,ho,yT]
 try simp only [go_sem,seval,ho]
 refine CA [] (qAz x.op) ?_
 try simp only [go_sem,seval]
 cases hch:qL x.op 5 9
 ·have hj:=fun h=>qN3 ho h
  try simp only [go_sem,seval,hch]
  refine CA [] (qPj x starts (fun h=>by have:=hj h; omega)) ?_
  try simp only [go_sem,seval]
  refine ⟨_,Sub.refl _,dN ?_⟩; simp [-List.drop_one]
  simp [iT,ho,hch,yT,fB]
 try simp only [go_sem,seval,hch]
 refine CA [] (oL caps x.n hl) ?_
 try simp only [go_sem,seval]
 by_cases hb:base caps x.n<0
 ·try simp only [go_sem,seval,hb]
  refine ⟨_,Sub.refl _,dN ?_⟩; simp [-List.drop_one]
  simp [iT,ho,hch,hb,yT]
 obtain ⟨n0,n1,_,b0,b1,b2⟩:=qFm hb
 rw [qM] at b2
 have he:iT caps x f starts=zG f (base caps x.n)++(if x.op=5∨x.op=7 then fC f (base caps x.n) (caps.getD x.n.toNat 0) x else if x.op=6∨x.op=8 then cY f (base caps x.n) (caps.getD x.n.toNat 0) x else eU f (base caps x.n)):=by
  unfold iT
  rw [if_pos ho,if_pos hch,if_neg hb]
 try simp only [go_sem,seval,hb,qI caps x.n.toNat n1]
 repeat refine K ?_
 rw [he]
 generalize base caps x.n=b at *
 generalize caps.getD x.n.toNat 0=c at *
 clear he
 apply zV
 ·refine Sub.trans (Sub.nilLast 11 (front:=[]) (r':=emC .own ⟨[],f,b,c⟩) rfl (by simp [yT]) (by simp [yV,jJ,bnd])) ?_
  simp only [put,qC,if_true,if_false]
  exact Sub.refl _
 refine CA [(0,11)] (qN9 [] f b c (by simp) hf ⟨b0,by omega⟩) ?_
 try simp only [go_sem,seval]
 have hop:=qM.1 hch
 have hll:(zG f b).length<2^30:=by rw [tN]; omega
 by_cases h5:x.op=5
 ·try simp only [go_sem,seval,h5]
  refine CA [(0,11)] (qN8 (zG f b) f b c x hll h5 hf ⟨b0,by omega⟩) ?_
  try simp only [go_sem,seval]
  refine ⟨_,Sub.refl _,dN ?_⟩; simp [-List.drop_one]
  try simp [h5]
 by_cases h7:x.op=7
 ·try simp only [go_sem,seval,h5,h7]
  refine CA [(0,11)] (qGm (zG f b) f b c x hll h7 hf ⟨b0,by omega⟩) ?_
  try simp only [go_sem,seval]
  refine ⟨_,Sub.refl _,dN ?_⟩; simp [-List.drop_one]
  try simp [h7]
 by_cases h6:x.op=6
 ·try simp only [go_sem,seval,h5,h6,h7]
  refine CA [(0,11)] (qN7 (zG f b) f b c x hll h6 hf ⟨b0,by omega⟩) ?_
  try simp only [go_sem,seval]
  refine ⟨_,Sub.refl _,dN ?_⟩; simp [-List.drop_one]
  try simp [h6]
 by_cases h8:x.op=8
 ·try simp only [go_sem,seval,h5,h6,h7,h8]
  refine CA [(0,11)] (qGl (zG f b) f b c x hll h8 hf ⟨b0,by omega⟩) ?_
  try simp only [go_sem,seval]
  refine ⟨_,Sub.refl _,dN ?_⟩; simp [-List.drop_one]
  try simp [h8]
 try simp only [go_sem,seval,h5,h6,h7,h8]
 refine CA [(0,11)] (qLj (zG f b) f b c hll hf ⟨b0,by omega⟩) ?_
 try simp only [go_sem,seval]
 refine ⟨_,Sub.refl _,dN ?_⟩; simp [-List.drop_one]
 try simp [h5,h6,h7,h8]
theorem qNf (l:List (List wX)) (x:List wX):codes .own l++[[AV.sl .own 5 (yT x)]]=codes .own (l++[x]):=by simp [codes]
theorem qGb {α β:Type} (f:α→β) (l:List α) (d:α) (i:Nat) (h:i<l.length):(l.take i).map f++[f (l.getD i d)]=(l.take (i+1)).map f:=by
 rw [zC l d i h,List.map_append]
 rfl
theorem oQ (caps:List Int) (b:List Ins) (i:Nat) (hb:b.length≤24) (hi:i≤b.length):(gX caps b i).length≤960:=by
 have:=qHu caps b i
 omega
theorem qI0 {l:List Ins} {ch:Int} (h:uT l ch=true):1≤l.length∧l.length≤24:=by
 unfold uT at h
 simp only [Bool.and_eq_true,qM] at h
 omega
theorem qEx (p:wN) (hp:xE p):wD Try.prog num 163 [.agg (vP .bw p)] [] (.tup [.sl .own 1 (codes .own (dZ p).1),.bool (dZ p).2]):=by
 obtain ⟨h1,h2,h3⟩:=hp
 refine EN m163 Try.func17 ?_
 unfold m163
 simp only [go_sem,seval]
 refine CA [] (cR p (by omega) (by omega) (fun b hb=>by have:=h3 b hb; omega)) ?_
 try simp only [go_sem,seval]
 cases hok:vD p
 ·try simp only [go_sem,seval,hok]
  refine ⟨_,Sub.refl _,jM (by simp) ?_⟩; simp [-List.drop_one]
  simp [dZ,hok]
 try simp only [go_sem,seval,hok]
 have hb0:=qQw hok
 have hco:=iY hok
 cases hk:bR p.caps
 ·rw [hk] at hb0
  simp only [Bool.not_false,Bool.and_eq_true,decide_eq_true_eq] at hb0
  try simp only [go_sem,seval,hb0.1]
  refine CA [] (oL p.caps 0 h1) ?_
  try simp only [go_sem,seval]
  try simp only [go_sem,seval,hb0.2]
  refine ⟨_,Sub.refl _,jM (by simp) ?_⟩; simp [-List.drop_one]
  simp [dZ,hk]
 rw [hk] at hb0
 simp only [Bool.not_true] at hb0
 by_cases hlen:(0:Int)<p.caps.length
 all_goals
  try simp only [go_sem,seval,hlen]
 any_goals
  have hb1 :¬base p.caps 0<0:=fun h=>by rw [decide_eq_true h,decide_eq_true hlen] at hb0; simp at hb0
  refine CA [] (oL p.caps 0 h1) ?_
  try simp only [go_sem,seval]
  try simp only [go_sem,seval,hb1]
 all_goals
  refine wL (ι:=Nat) (fun i=>.mk [(1,.ptr 10 0 0),(4,.ns 11 0 i),(28,.sl .bw 1 (vZ .bw p.bods)),(29,.int .i64 p.bods.length),(30,.int .i64 i)] [(10,2,[vP .bw p]),(11,1,codes .own ((p.bods.take i).map (comp p.caps)))] 12) (fun i=>i≤p.bods.length∧(p.bods.take i).all (fun b=>aB (comp p.caps b))=true) (fun i=>p.bods.length-i) 0 (by simp) ?_ ?_
  ·refine Sub.shape [] id (by omega) ?_ ?_ ?_ ?_<;>simp [qP]
   all_goals simp [codes]
  ·rintro i ⟨hi,hall⟩
   simp only [go_sem,seval]
   refine qT (fun hc=>?_) (fun hc=>?_)
   ·simp only [decide_eq_true_eq] at hc
    have hl':i<p.bods.length:=by omega
    have hbo:=hco.2.2.2.2 _ (yQ p.bods i [] hl')
    have hbl:=qI0 hbo
    have hlt:(p.bods.take i).length=i:=by simp; omega
    simp only [go_sem,seval,wH .bw p.bods i hl']
    repeat refine K ?_
    refine CA [] (qBt (p.bods.getD i []) (by omega)) ?_
    try simp only [go_sem,seval]
    generalize hbd:p.bods.getD i []=b at hbo hbl
    refine wL (ι:=Nat) (fun j=>.mk [(1,.ptr 10 0 0),(4,.ns 11 0 i),(7,.ns 12 0 b.length),(8,.ns 13 0 (gX p.caps b j).length),(28,.sl .bw 1 (vZ .bw p.bods)),(29,.int .i64 p.bods.length),(30,.int .i64 i),(37,.sl .bw 5 (zT b)),(38,.int .i64 b.length),(39,.int .i64 j)] [(10,2,[vP .bw p]),(11,1,codes .own ((p.bods.take i).map (comp p.caps))),(12,1,wT (jC b)),(13,5,yT (gX p.caps b j))] 14) (fun j=>j≤b.length) (fun j=>b.length-j) 0 (by simp) ?_ ?_
    ·refine Sub.shape [] id (by omega) ?_ ?_ ?_ ?_<;>simp [qP]
     all_goals simp [gX,jC,uG,yT]
    ·intro j hj
     simp only [go_sem,seval]
     refine qT (fun hc2=>?_) (fun hc2=>?_)
     ·simp only [decide_eq_true_eq] at hc2
      have hj':j<b.length:=by omega
      have hcl:=oQ p.caps b j hbl.2 (by omega)
      have hsl:(jC b).length=b.length:=uG b b.length
      have hst:(jC b).take b.length=jC b:=List.take_of_length_le (by omega)
      have hsg:(jC b).getD j 0=szB (b.take j):=mC b b.length j hj'
      have hsz:=xU b j
      have hem:=qLh p.caps (b.getD j default) (szB (b.take j)) (jC b)
      simp only [go_sem,seval,eI b j hj',qI (jC b) j (by omega),hsg,hsl]
      repeat refine K ?_
      refine DA [] (qLe p.caps (b.getD j default) (szB (b.take j)) (jC b) h1 (by omega) ⟨hsz.1,by omega⟩) ?_
      try simp only [go_sem,seval]
      repeat refine K ?_
      try simp only [go_sem,seval,wB (i:=j) (by omega)]
      refine wC (j+1) (Sub.shape [] (fun n=>if n=13 then 16 else n) (by omega) ?_ ?_ ?_ ?_) hj' (by omega)<;>simp [qP]
      all_goals simp [gX,yT]
     ·simp only [decide_eq_false_iff_not] at hc2
      have he:j=b.length:=by omega
      subst he
      have hcl:=oQ p.caps b b.length hbl.2 (Nat.le_refl _)
      have hcn:=qNf ((p.bods.take i).map (comp p.caps)) (gX p.caps b b.length)
      have hcm:(p.bods.take i).map (comp p.caps)++[gX p.caps (p.bods.getD i []) (p.bods.getD i []).length]=(p.bods.take (i+1)).map (comp p.caps):=qGb (comp p.caps) p.bods [] i hl'
      rw [hbd] at hcm
      simp only [go_sem,seval]
      refine CA [] (rH (gX p.caps b b.length) (by omega)) ?_
      try simp only [go_sem,seval]
      cases hcd:aB (gX p.caps b b.length)
      ·try simp only [go_sem,seval,hcd]
       refine ⟨_,Sub.refl _,jM (by simp) ?_⟩; simp [-List.drop_one]
       have:(p.bods.all fun b=>aB (comp p.caps b))=false:=aZ (d:=[]) hl' (by rw [hbd]; exact hcd)
       simp [dZ,this]
      ·try simp only [go_sem,seval,hcd,List.length_map,hlt,wB (i:=i) (by omega)]
       repeat refine K ?_
       refine wC (i+1) ?_ ⟨hl',eX (d:=[]) hall hl' (by rw [hbd]; exact hcd)⟩ (by omega)
       refine Sub.trans (Sub.foldLast 15 0 13 rfl (by simp [-gD]<;>omega) rfl (by decide) (by decide) rfl) ?_
       simp only [fS,fS2,qA,qC,hcn,hcm]
       refine Sub.shape [] (fun n=>if n=11 then 15 else n) (by omega) ?_ ?_ ?_ ?_<;>simp [qP]
   ·simp only [decide_eq_false_iff_not] at hc
    have he:=kI hall hc
    have hie:i=p.bods.length:=by omega
    subst hie
    have ht:p.bods.take p.bods.length=p.bods:=List.take_length
    simp only [go_sem,seval,ht]
    refine ⟨_,Sub.refl _,jM (by simp) ?_⟩; simp [-List.drop_one]
    simp [dZ,hok,hk,he]
theorem qGq (p:wN):(dZ p).1.length≤4∧∀c∈(dZ p).1,c.length≤960:=by
 unfold dZ
 split
 ·rename_i h
  simp only [Bool.and_eq_true] at h
  have hc:=iY h.1.1
  refine ⟨by simpa using hc.2.2.1,fun c hm=>?_⟩
  simp only [List.mem_map] at hm
  obtain ⟨b,hb,rfl⟩:=hm
  exact oQ p.caps b b.length (qI0 (hc.2.2.2.2 b hb)).2 (Nat.le_refl _)
 ·simp
end Go.Sep
