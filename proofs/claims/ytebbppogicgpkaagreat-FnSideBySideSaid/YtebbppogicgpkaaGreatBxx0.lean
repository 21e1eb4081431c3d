/- Contracts of functions. -/
import Derived.Test.YtebbppogicgpkaaGreatBzFns
namespace Go.Sep
set_option maxHeartbeats 16000000
open Go.Proofs
set_option linter.unusedSimpArgs false
set_option linter.unusedVariables false
set_option maxRecDepth 100000
def m5:MFn:=⟨22,[.t 2],kr [xo 2 (.mv (.c (.nil)))] (kr [xv 5 0,xe 6 5,xo 7 (.mkS [xz] 8 (.t 6) (.t 6)),xv 3 7] (.seq (kr [xI 4 0] (.blk 0 (.loop (.seq (kr [xv 8 4,xv 9 0,xe 10 9,bT 11 .lss 8 10] (kX 11 0)) (.seq (.blk 1 (xr [xv 14 3,xv 15 4,xv 16 0,xv 17 4,xD 18 1 16 17,xl 19 18,xD 20 1 14 15,xS 1 20 19])) (xr [xv 12 4,bI 13 .add 12 1,xv 4 13])))))) (kR [xv 21 3,xv 2 21])))⟩
def m44:MFn:=⟨5,[.t 2],kr [xF 2] (kR [xv 3 0,xc3 4 59 (.t 3) (xi 5) (xi 9),xv 2 4])⟩
def m59:MFn:=⟨15,[.t 6],kr [xF 6] (kR [xv 7 0,xv 8 1,bT 9 .geq 7 8,xv 10 9,yv 11 0 10,yv 12 2 10,xg 13 (.bin .leq (.t 11) (.t 12)) 10 true,xP 14 10 13,xv 6 14])⟩
def m64:MFn:=⟨15,[.t 6],kr [xF 6] (kR [xv 7 0,xv 8 1,bT 9 .geq 7 8,xv 10 9,yv 11 0 10,yv 12 2 10,xg 13 (.bin .leq (.t 11) (.t 12)) 10 true,xP 14 10 13,xv 6 14])⟩
def m72:MFn:=⟨14,[.t 2],kr [xb 1 0,xF 2] (kR [xa 3 0 1,xl 4 3,xc3 5 59 (.t 4) (xi 1) (xi 4),xv 6 5,ya 7 1 1 6,yl 8 1 7 6,ye 9 8 6,ya 10 0 1 6,yl 11 1 10 6,xg 12 (.bin .leq (.t 9) (.t 11)) 6 true,xP 13 6 12,xv 2 13])⟩
def m78:MFn:=⟨4,[.t 2],kr [xI 2 0] (.seq (kr [xv 3 0] (kF 3 [xI 2 1])) (kR [xI 2 0]))⟩
def m83:MFn:=⟨14,[.t 2],kr [xb 1 0,xF 2] (kR [xa 3 0 1,xl 4 3,xc3 5 64 (.t 4) (xi 1) (xi 4),xv 6 5,ya 7 1 1 6,yl 8 1 7 6,ye 9 8 6,ya 10 0 1 6,yl 11 1 10 6,xg 12 (.bin .leq (.t 9) (.t 11)) 6 true,xP 13 6 12,xv 2 13])⟩
def m84:MFn:=⟨12,[.cell 2 3 true],kr [xb 1 0,xo 2 (.alloc [.int .i64 0,.nil,.bool false])] (.seq (.dreg (.take 0 (xa 3 0 1) (.take 1 (xl 4 3) (.take 3 (xa 6 1 1) (.take 4 (xl 7 6) (.take 6 (xa 9 2 1) (.take 7 (xl 10 9) (.only 2 [] (xo 5 (.mkSl [xz] 0 [])) (.only 5 [4,3] (xA 8 1 8 5 7) (.only 8 [1,5,7,0,4,6,3] (xo 11 (.build [.int .i64 0,.nil,.bool false] [(0,1,.t 4),(1,1,.t 8),(2,1,.t 10)])) (.only 9 [0,1,3,4,6,7] (xS 3 2 11) (.done)))))))))))) (.ret))⟩
def m85:MFn:=⟨4,[.t 2],kr [xI 2 0] (.seq (kr [xv 3 0] (kF 3 [xI 2 1])) (kR [xI 2 0]))⟩
def m96:MFn:=⟨74,[.cell 2 5 true],kr [xb 1 0,xo 2 (.alloc [xz,xz,xz,xz,xz])] (kr [xa 4 0 1,xl 5 4,xo 6 (.build [xz,xz,xz,xz,xz] [(0,1,.t 5)]),xo 3 (.alloc [xz,xz,xz,xz,xz]),xS 5 3 6] (.seq (kr [xa 7 0 1,xl 8 7] (.blk 0 (kr [bI 10 .eql 8 1,xv 9 10] (.cond 9 (.dreg (.take 0 (xa 11 1 1) (.take 1 (xl 12 11) (.take 2 (xa 13 4 1) (.take 3 (xl 14 13) (.only 4 [0,1] (xa 15 1 3) (.only 5 [0,1] (xS 1 15 12) (.only 6 [0,1,2,3] (xa 16 4 3) (.only 7 [0,1,2,3] (xS 1 16 14) (.done)))))))))) (.seq (kr [bI 18 .eql 8 2,xv 17 18] (.cond 17 (.skip) (kr [bI 19 .eql 8 3,xv 17 19] (.cond 17 (.skip) (xr [bI 20 .eql 8 4,xv 17 20]))))) (.cond 17 (.dreg (.take 0 (xa 21 1 1) (.take 1 (xl 22 21) (.take 2 (xa 23 2 1) (.take 3 (xl 24 23) (.take 4 (xa 25 3 1) (.take 5 (xl 26 25) (.only 6 [0,1] (xa 27 1 3) (.only 7 [0,1] (xS 1 27 22) (.only 8 [0,1,2,3] (xa 28 2 3) (.only 9 [0,1,2,3] (xS 1 28 24) (.only 10 [0,1,2,3,4,5] (xa 29 3 3) (.only 11 [0,1,2,3,4,5] (xS 1 29 26) (.done)))))))))))))) (.seq (kr [bI 31 .eql 8 5,xv 30 31] (.cond 30 (.skip) (xr [bI 32 .eql 8 12,xv 30 32]))) (.cond 30 (.dreg (.take 0 (xa 33 2 1) (.take 1 (xl 34 33) (.take 2 (xa 35 4 1) (.take 3 (xl 36 35) (.only 4 [0,1] (xa 37 2 3) (.only 5 [0,1] (xS 1 37 34) (.only 6 [0,1,2,3] (xa 38 4 3) (.only 7 [0,1,2,3] (xS 1 38 36) (.done)))))))))) (.seq (kr [bI 40 .eql 8 6,xv 39 40] (.cond 39 (.skip) (xr [bI 41 .eql 8 8,xv 39 41]))) (.cond 39 (.dreg (.take 0 (xa 42 1 1) (.take 1 (xl 43 42) (.take 2 (xa 44 3 1) (.take 3 (xl 45 44) (.take 4 (xa 46 4 1) (.take 5 (xl 47 46) (.only 6 [0,1] (xa 48 1 3) (.only 7 [0,1] (xS 1 48 43) (.only 8 [0,1,2,3] (xa 49 3 3) (.only 9 [0,1,2,3] (xS 1 49 45) (.only 10 [0,1,2,3,4,5] (xa 50 4 3) (.only 11 [0,1,2,3,4,5] (xS 1 50 47) (.done)))))))))))))) (kr [bI 52 .eql 8 7,xv 51 52] (.cond 51 (.dreg (.take 0 (xa 53 1 1) (.take 1 (xl 54 53) (.take 2 (xa 55 2 1) (.take 3 (xl 56 55) (.take 4 (xa 57 4 1) (.take 5 (xl 58 57) (.only 6 [0,1] (xa 59 1 3) (.only 7 [0,1] (xS 1 59 54) (.only 8 [0,1,2,3] (xa 60 2 3) (.only 9 [0,1,2,3] (xS 1 60 56) (.only 10 [0,1,2,3,4,5] (xa 61 4 3) (.only 11 [0,1,2,3,4,5] (xS 1 61 58) (.done)))))))))))))) (.seq (kr [bI 63 .eql 8 9,xv 62 63] (.cond 62 (.skip) (xr [bI 64 .eql 8 11,xv 62 64]))) (.cond 62 (xr [xa 65 4 1,xl 66 65,xa 67 4 3,xS 1 67 66]) (kr [bI 69 .eql 8 10,xv 68 69] (.cond 68 (xr [xa 70 2 1,xl 71 70,xa 72 2 3,xS 1 72 71]) (.skip))))))))))))))))) (kR [xm 73 5 3,xS 5 2 73])))⟩
def m97:MFn:=⟨5,[.t 2],kr [xF 2] (kR [xv 3 0,xc3 4 59 (.t 3) (xi 0) (xi 3),xv 2 4])⟩
attribute [local go_sem] kP vR qWr qWt qRf qV7 qWu qV5 qWs qVb qRe qVc qV6 wU qR2 qJo Arg.ev wK dN qW5 if_false if_true aE put del kB qDt Option.map_some Option.bind_some qW Int.toNat_natCast qWv qV4 qV8 zY true_and and_true qNe qNc qNd qEl qCi Bool.false_eq_true fM cellsOf jV List.isEmpty_nil List.isEmpty_cons fresh List.map_nil List.map_cons List.cons_append List.nil_append zF List.take_zero List.drop_zero List.take_succ_cons List.getD_cons_zero List.length_cons List.length_nil List.drop_succ_cons List.drop_nil List.append_nil List.all_cons List.all_nil jN Bool.and_self Nat.zero_add qV9 qVa qV3 qRd qRc qRa qRb qVd qWq qHc qO1 qK4 qOz qP1 qHy uU uW cM qKh kW yZ apart List.filter_nil List.filter_cons Option.isSome_some Option.isSome_none List.contains_nil List.contains_cons List.forall_mem_cons List.mem_cons List.not_mem_nil false_implies implies_true forall_const forall_eq_or_imp forall_eq or_false beq_self_eq_true Bool.or_false Bool.false_or Bool.true_or Bool.or_true Bool.not_true Bool.not_false xv xo xg xr xi xz List.set_set qGm qEg qK2 qK3 qC8 tW qK0 qDn nY eqC iS qEb List.replicate_zero decide_true decide_false qNr qN5 List.replicate_succ Int.toNat_zero Int.toNat_one eq_self Bool.and_true Bool.true_and Bool.and_false Bool.false_and List.set_cons_zero List.set_cons_succ List.getD_cons_succ rnm ixm vU cZ yM uB cond_true cond_false tS tR qC9
attribute [local simp] mB bwT bwC bwL dC tR wK Arg.ev zX qB1 qAj qHr eT qDb tK vH okV okL nb nbs nbr gT qW kB bnd vN jW vU cZ ixm rnm apart kW uU uW fresh yM uB dT qHw dW mC vV del qBz eM tS qC9 shp okB qN3 qJu
theorem yR {rs:List qA3} {fp:FP} {vs:List AV} {t:List (Nat×AV)} {h:wW} {nx:Nat} (h0:vs.length≠1) (h1:qHw (rs.map fun r=>(dT t h r).2)∧(dW h (rs.map fun r=>(dT t h r).1)).2.2∧qQ (dW h (rs.map fun r=>(dT t h r).1)).1 vs∧∀x∈fp,qW (dW h (rs.map fun r=>(dT t h r).1)).2.1 x.1=qW (vV fp) x.1):qZ rs fp (.tup vs) (.mk t h nx):=by
 refine ⟨h1.1,h1.2.1,⟨vs,h1.2.2.1,?_⟩,h1.2.2.2⟩
 match vs,h0 with
 | [],_=>rfl
 | [_],h0=>exact absurd rfl h0
 | _::_::_,_=>rfl
theorem yX {rs:List qA3} {fp:FP} {v:AV} {t:List (Nat×AV)} {h:wW} {nx:Nat} (h1:qHw (rs.map fun r=>(dT t h r).2)∧(dW h (rs.map fun r=>(dT t h r).1)).2.2∧qQ (dW h (rs.map fun r=>(dT t h r).1)).1 [v]∧∀x∈fp,qW (dW h (rs.map fun r=>(dT t h r).1)).2.1 x.1=qW (vV fp) x.1):qZ rs fp v (.mk t h nx) :=
 ⟨h1.1,h1.2.1,⟨[v],h1.2.2.1,rfl⟩,h1.2.2.2⟩
theorem qSm (c d:AV) (cs ds:List AV):qQ (c::cs) (d::ds)↔qR c d∧qQ cs ds:=by
 simp only [qQ,List.cons.injEq]
 exact ⟨fun ⟨_,_,⟨h1,h2⟩,h3,h4⟩=>by subst h1 h2; exact ⟨h3,h4⟩,fun ⟨h3,h4⟩=>⟨_,_,⟨rfl,rfl⟩,h3,h4⟩⟩
theorem qUh:qQ [] []↔True:=by simp [qQ]
theorem qUg (cs ds:List AV):qR (.agg cs) (.agg ds)↔qQ cs ds:=by simp [qR]
theorem qUb (cs ds:List AV):qR (.tup cs) (.tup ds)↔qQ cs ds:=by simp [qR]
theorem qP5 (m:Mode) (sz:Nat):qR .nil (.sl m sz [])↔True:=by simp [qR]
theorem qUe:qR .nil .nil↔True:=by simp [qR]
theorem qW7 (m:Mode) (sz:Nat) (rows:List (List AV)) (d:AV):qR (.sl m sz rows) d↔.sl m sz rows=d:=by simp [qR]
theorem qUf (k:IntKind) (n:Int) (d:AV):qR (.int k n) d↔.int k n=d:=by simp [qR]
theorem qSl (b:Bool) (d:AV):qR (.bool b) d↔.bool b=d:=by simp [qR]
theorem qUc (s:ByteArray) (d:AV):qR (.str s) d↔.str s=d:=by simp [qR]
theorem qW9 (k o l:Nat) (d:AV):qR (.ns k o l) d↔.ns k o l=d:=by simp [qR]
theorem qUd (k o l:Nat) (d:AV):qR (.ptr k o l) d↔.ptr k o l=d:=by simp [qR]
theorem pH (r d:List AV) (rs ds:List (List AV)):eN (r::rs) (d::ds)↔qQ r d∧eN rs ds:=by
 simp only [eN,List.cons.injEq]
 exact ⟨fun ⟨_,_,⟨h1,h2⟩,h3,h4⟩=>by subst h1 h2; exact ⟨h3,h4⟩,fun ⟨h3,h4⟩=>⟨_,_,⟨rfl,rfl⟩,h3,h4⟩⟩
theorem qJm:eN [] []↔True:=by simp [eN]
theorem qUz:free []↔True:=by simp [free]
theorem qT3 (r:List AV) (rs:List (List AV)):free (r::rs)↔(∀c∈r,qBz c=false)∧free rs:=by simp [free]
structure Ins where
 op:Int
 r:Int
 a:Int
 b:Int
 n:Int
 deriving DecidableEq,Inhabited
def zB (x:Ins):List AV:=[.int .i64 x.op,.int .i64 x.r,.int .i64 x.a,.int .i64 x.b,.int .i64 x.n]
def dI (l:List Ins):List (List AV):=l.map zB
theorem qUu:dI []=[]:=rfl
theorem sN (l:List Ins):(dI l).length=l.length:=by simp [dI]
theorem qNt (l k:List Ins):dI l++dI k=dI (l++k):=by simp [dI]
theorem qJw (l:List Ins) (n:Nat):(dI l).drop n=dI (l.drop n):=by simp [dI]
theorem qJv (l:List Ins) (n:Nat):(dI l).take n=dI (l.take n):=by simp [dI]
theorem qUt (l:List Ins) (i:Nat) (op_:Int) (r_:Int) (a_:Int) (b_:Int) (n_:Int):(dI l).set i [.int .i64 op_,.int .i64 r_,.int .i64 a_,.int .i64 b_,.int .i64 n_]=dI (l.set i ⟨op_,r_,a_,b_,n_⟩):=by simp [dI,zB]
theorem xC (l:List Ins) (i:Nat) (h:i<l.length):(dI l).getD i []=[.int .i64 (l.getD i default).op,.int .i64 (l.getD i default).r,.int .i64 (l.getD i default).a,.int .i64 (l.getD i default).b,.int .i64 (l.getD i default).n]:=by simp [dI,zB,List.getD_eq_getElem?_getD,h]
theorem gZ (A:Nat→Prop) (l:List Ins):jW A (dI l)↔True:=by
 simp only [iff_true]
 induction l with
 | nil=>trivial
 | cons x l ih=>exact ⟨by simp [zB,vN,bnd,eT,vH],ih⟩
theorem xR (l:List Ins):nbr (dI l)↔True:=by
 simp only [iff_true]
 induction l with
 | nil=>trivial
 | cons x l ih=>exact ⟨by simp [zB,nbs,nb,gT],ih⟩
theorem zT :∀(l:List Ins),bwR (dI l)=dI l
 | []=>rfl
 | x::l=>by
  have:=zT l
  simp only [dI,List.map_cons,bwR] at this⊢
  rw [this]
  simp [zB,bwL,bwC,dC]
theorem qT1 (l:List Ins):free (dI l)↔True:=by
 simp only [iff_true]
 intro r hr c hc
 simp only [dI,List.mem_map] at hr
 obtain ⟨x,_,rfl⟩:=hr
 simp [zB] at hc
 rcases hc with rfl | rfl | rfl | rfl | rfl<;>rfl
def uL (m:Mode) (l:List (List Ins)):List (List AV):=l.map fun b=>[.sl m 5 (dI b)]
theorem qQ9 (m:Mode):uL m []=[]:=rfl
theorem nT (m:Mode) (l:List (List Ins)):(uL m l).length=l.length:=by simp [uL]
theorem qJ4 (m:Mode) (l k:List (List Ins)):uL m l++uL m k=uL m (l++k):=by simp [uL]
theorem qEn (m:Mode) (l:List (List Ins)) (n:Nat):(uL m l).drop n=uL m (l.drop n):=by simp [uL]
theorem qEm (m:Mode) (l:List (List Ins)) (n:Nat):(uL m l).take n=uL m (l.take n):=by simp [uL]
theorem qQ8 (m:Mode) (l:List (List Ins)) (i:Nat) (b_:List Ins):(uL m l).set i [.sl m 5 (dI b_)]=uL m (l.set i b_):=by simp [uL]
theorem wN (m:Mode) (l:List (List Ins)) (i:Nat) (h:i<l.length):(uL m l).getD i []=[.sl m 5 (dI (l.getD i []))]:=by simp [uL,List.getD_eq_getElem?_getD,h]
theorem uZ (A:Nat→Prop) (m:Mode) (l:List (List Ins)):jW A (uL m l)↔True:=by
 simp only [iff_true]
 induction l with
 | nil=>trivial
 | cons x l ih=>exact ⟨by simp [vN,bnd,eT,vH,gZ],ih⟩
theorem bZ (l:List (List Ins)):nbr (uL .own l)↔True:=by
 simp only [iff_true]
 induction l with
 | nil=>trivial
 | cons x l ih=>exact ⟨by simp [nbs,nb,gT,xR],ih⟩
theorem bM (m:Mode) :∀(l:List (List Ins)),bwR (uL m l)=uL .bw l
 | []=>rfl
 | x::l=>by
  have:=bM m l
  simp only [uL,List.map_cons,bwR] at this⊢
  rw [this]
  simp [bwL,bwC,dC,zT]
theorem qOe (l:List (List Ins)):free (uL .bw l)↔True:=by
 simp only [iff_true]
 intro r hr c hc
 simp only [uL,List.mem_map] at hr
 obtain ⟨x,_,rfl⟩:=hr
 simp [] at hc
 rcases hc with rfl<;>rfl
def eO (m:Mode) (l:List (List Int)):List (List AV):=l.map fun b=>[.sl m 1 (wT b)]
theorem qT0 (m:Mode):eO m []=[]:=rfl
theorem pN (m:Mode) (l:List (List Int)):(eO m l).length=l.length:=by simp [eO]
theorem qLp (m:Mode) (l k:List (List Int)):eO m l++eO m k=eO m (l++k):=by simp [eO]
theorem qH0 (m:Mode) (l:List (List Int)) (n:Nat):(eO m l).drop n=eO m (l.drop n):=by simp [eO]
theorem qGz (m:Mode) (l:List (List Int)) (n:Nat):(eO m l).take n=eO m (l.take n):=by simp [eO]
theorem qSz (m:Mode) (l:List (List Int)) (i:Nat) (b_:List Int):(eO m l).set i [.sl m 1 (wT b_)]=eO m (l.set i b_):=by simp [eO]
theorem gN (A:Nat→Prop) (m:Mode) (l:List (List Int)):jW A (eO m l)↔True:=by
 simp only [iff_true]
 induction l with
 | nil=>trivial
 | cons x l ih=>exact ⟨by simp [vN,bnd,eT,vH,gZ,uZ],ih⟩
theorem zJ (l:List (List Int)):nbr (eO .own l)↔True:=by
 simp only [iff_true]
 induction l with
 | nil=>trivial
 | cons x l ih=>exact ⟨by simp [nbs,nb,gT,xR,bZ],ih⟩
theorem dL (m:Mode) :∀(l:List (List Int)),bwR (eO m l)=eO .bw l
 | []=>rfl
 | x::l=>by
  have:=dL m l
  simp only [eO,List.map_cons,bwR] at this⊢
  rw [this]
  simp [bwL,bwC,dC,zT,bM]
theorem qPn (l:List (List Int)):free (eO .bw l)↔True:=by
 simp only [iff_true]
 intro r hr c hc
 simp only [eO,List.mem_map] at hr
 obtain ⟨x,_,rfl⟩:=hr
 simp [] at hc
 rcases hc with rfl<;>rfl
structure bH where
 cap:Int
 list:List Int
 closed:Bool
 deriving DecidableEq,Inhabited
def gI (m:Mode) (x:bH):List AV:=[.int .i64 x.cap,.sl m 1 (wT x.list),.bool x.closed]
def wM (m:Mode) (l:List bH):List (List AV):=l.map (gI m)
theorem qTc (m:Mode):wM m []=[]:=rfl
theorem hY (m:Mode) (l:List bH):(wM m l).length=l.length:=by simp [wM]
theorem lF (m:Mode) (l k:List bH):wM m l++wM m k=wM m (l++k):=by simp [wM]
theorem qHk (m:Mode) (l:List bH) (n:Nat):(wM m l).drop n=wM m (l.drop n):=by simp [wM]
theorem qHj (m:Mode) (l:List bH) (n:Nat):(wM m l).take n=wM m (l.take n):=by simp [wM]
theorem vF (m:Mode) (l:List bH) (i:Nat) (cap_:Int) (list_:List Int) (closed_:Bool):(wM m l).set i [.int .i64 cap_,.sl m 1 (wT list_),.bool closed_]=wM m (l.set i ⟨cap_,list_,closed_⟩):=by simp [wM,gI]
theorem eY (m:Mode) (l:List bH) (i:Nat) (h:i<l.length):(wM m l).getD i []=[.int .i64 (l.getD i default).cap,.sl m 1 (wT (l.getD i default).list),.bool (l.getD i default).closed]:=by simp [wM,gI,List.getD_eq_getElem?_getD,h]
theorem dD (A:Nat→Prop) (m:Mode) (l:List bH):jW A (wM m l)↔True:=by
 simp only [iff_true]
 induction l with
 | nil=>trivial
 | cons x l ih=>exact ⟨by simp [gI,vN,bnd,eT,vH,gZ,uZ,gN],ih⟩
theorem xW (l:List bH):nbr (wM .own l)↔True:=by
 simp only [iff_true]
 induction l with
 | nil=>trivial
 | cons x l ih=>exact ⟨by simp [gI,nbs,nb,gT,xR,bZ,zJ],ih⟩
theorem zL (m:Mode) :∀(l:List bH),bwR (wM m l)=wM .bw l
 | []=>rfl
 | x::l=>by
  have:=zL m l
  simp only [wM,List.map_cons,bwR] at this⊢
  rw [this]
  simp [gI,bwL,bwC,dC,zT,bM,dL]
theorem qQ1 (l:List bH):free (wM .bw l)↔True:=by
 simp only [iff_true]
 intro r hr c hc
 simp only [wM,List.mem_map] at hr
 obtain ⟨x,_,rfl⟩:=hr
 simp [gI] at hc
 rcases hc with rfl | rfl | rfl<;>rfl
structure aT where
 who:Int
 v:Int
 deriving DecidableEq,Inhabited
def rH (x:aT):List AV:=[.int .i64 x.who,.int .i64 x.v]
def jL (l:List aT):List (List AV):=l.map rH
theorem qSh:jL []=[]:=rfl
theorem pF (l:List aT):(jL l).length=l.length:=by simp [jL]
theorem jG (l k:List aT):jL l++jL k=jL (l++k):=by simp [jL]
theorem uQ (who_:Int) (v_:Int):[[.int .i64 who_,.int .i64 v_]]=jL [⟨who_,v_⟩]:=rfl
theorem qGd (l:List aT) (n:Nat):(jL l).drop n=jL (l.drop n):=by simp [jL]
theorem qGc (l:List aT) (n:Nat):(jL l).take n=jL (l.take n):=by simp [jL]
theorem qSf (l:List aT) (i:Nat) (who_:Int) (v_:Int):(jL l).set i [.int .i64 who_,.int .i64 v_]=jL (l.set i ⟨who_,v_⟩):=by simp [jL,rH]
theorem aP (l:List aT) (i:Nat) (h:i<l.length):(jL l).getD i []=[.int .i64 (l.getD i default).who,.int .i64 (l.getD i default).v]:=by simp [jL,rH,List.getD_eq_getElem?_getD,h]
theorem zA (A:Nat→Prop) (l:List aT):jW A (jL l)↔True:=by
 simp only [iff_true]
 induction l with
 | nil=>trivial
 | cons x l ih=>exact ⟨by simp [rH,vN,bnd,eT,vH,gZ,uZ,gN,dD],ih⟩
theorem zG (l:List aT):nbr (jL l)↔True:=by
 simp only [iff_true]
 induction l with
 | nil=>trivial
 | cons x l ih=>exact ⟨by simp [rH,nbs,nb,gT,xR,bZ,zJ,xW],ih⟩
theorem xO :∀(l:List aT),bwR (jL l)=jL l
 | []=>rfl
 | x::l=>by
  have:=xO l
  simp only [jL,List.map_cons,bwR] at this⊢
  rw [this]
  simp [rH,bwL,bwC,dC,zT,bM,dL,zL]
theorem qP4 (l:List aT):free (jL l)↔True:=by
 simp only [iff_true]
 intro r hr c hc
 simp only [jL,List.mem_map] at hr
 obtain ⟨x,_,rfl⟩:=hr
 simp [rH] at hc
 rcases hc with rfl | rfl<;>rfl
structure jJ where
 at_:Int
 regs:List Int
 st:Int
 deriving DecidableEq,Inhabited
def fP (m:Mode) (x:jJ):List AV:=[.int .i64 x.at_,.sl m 1 (wT x.regs),.int .i64 x.st]
def yS (m:Mode) (l:List jJ):List (List AV):=l.map (fP m)
theorem qMj (m:Mode):yS m []=[]:=rfl
theorem zE (m:Mode) (l:List jJ):(yS m l).length=l.length:=by simp [yS]
theorem fO (m:Mode) (l k:List jJ):yS m l++yS m k=yS m (l++k):=by simp [yS]
theorem qBc (m:Mode) (l:List jJ) (n:Nat):(yS m l).drop n=yS m (l.drop n):=by simp [yS]
theorem qBb (m:Mode) (l:List jJ) (n:Nat):(yS m l).take n=yS m (l.take n):=by simp [yS]
theorem wP (m:Mode) (l:List jJ) (i:Nat) (at__:Int) (regs_:List Int) (st_:Int):(yS m l).set i [.int .i64 at__,.sl m 1 (wT regs_),.int .i64 st_]=yS m (l.set i ⟨at__,regs_,st_⟩):=by simp [yS,fP]
theorem wH (m:Mode) (l:List jJ) (i:Nat) (h:i<l.length):(yS m l).getD i []=[.int .i64 (l.getD i default).at_,.sl m 1 (wT (l.getD i default).regs),.int .i64 (l.getD i default).st]:=by simp [yS,fP,List.getD_eq_getElem?_getD,h]
theorem gA (A:Nat→Prop) (m:Mode) (l:List jJ):jW A (yS m l)↔True:=by
 simp only [iff_true]
 induction l with
 | nil=>trivial
 | cons x l ih=>exact ⟨by simp [fP,vN,bnd,eT,vH,gZ,uZ,gN,dD,zA],ih⟩
theorem dG (l:List jJ):nbr (yS .own l)↔True:=by
 simp only [iff_true]
 induction l with
 | nil=>trivial
 | cons x l ih=>exact ⟨by simp [fP,nbs,nb,gT,xR,bZ,zJ,xW,zG],ih⟩
theorem gL (m:Mode) :∀(l:List jJ),bwR (yS m l)=yS .bw l
 | []=>rfl
 | x::l=>by
  have:=gL m l
  simp only [yS,List.map_cons,bwR] at this⊢
  rw [this]
  simp [fP,bwL,bwC,dC,zT,bM,dL,zL,xO]
theorem qKu (l:List jJ):free (yS .bw l)↔True:=by
 simp only [iff_true]
 intro r hr c hc
 simp only [yS,List.mem_map] at hr
 obtain ⟨x,_,rfl⟩:=hr
 simp [fP] at hc
 rcases hc with rfl | rfl | rfl<;>rfl
structure qHz where
 sent:List Int
 taken:List Int
 deriving DecidableEq,Inhabited
def qE1 (m:Mode) (x:qHz):List AV:=[.sl m 1 (wT x.sent),.sl m 1 (wT x.taken)]
def eJ (m:Mode) (l:List qHz):List (List AV):=l.map (qE1 m)
theorem qRl (m:Mode):eJ m []=[]:=rfl
theorem oU (m:Mode) (l:List qHz):(eJ m l).length=l.length:=by simp [eJ]
theorem qKq (m:Mode) (l k:List qHz):eJ m l++eJ m k=eJ m (l++k):=by simp [eJ]
theorem qFd (m:Mode) (l:List qHz) (n:Nat):(eJ m l).drop n=eJ m (l.drop n):=by simp [eJ]
theorem qFc (m:Mode) (l:List qHz) (n:Nat):(eJ m l).take n=eJ m (l.take n):=by simp [eJ]
theorem qRk (m:Mode) (l:List qHz) (i:Nat) (sent_:List Int) (taken_:List Int):(eJ m l).set i [.sl m 1 (wT sent_),.sl m 1 (wT taken_)]=eJ m (l.set i ⟨sent_,taken_⟩):=by simp [eJ,qE1]
theorem aH (A:Nat→Prop) (m:Mode) (l:List qHz):jW A (eJ m l)↔True:=by
 simp only [iff_true]
 induction l with
 | nil=>trivial
 | cons x l ih=>exact ⟨by simp [qE1,vN,bnd,eT,vH,gZ,uZ,gN,dD,zA,gA],ih⟩
theorem eQ (l:List qHz):nbr (eJ .own l)↔True:=by
 simp only [iff_true]
 induction l with
 | nil=>trivial
 | cons x l ih=>exact ⟨by simp [qE1,nbs,nb,gT,xR,bZ,zJ,xW,zG,dG],ih⟩
theorem aU (m:Mode) :∀(l:List qHz),bwR (eJ m l)=eJ .bw l
 | []=>rfl
 | x::l=>by
  have:=aU m l
  simp only [eJ,List.map_cons,bwR] at this⊢
  rw [this]
  simp [qE1,bwL,bwC,dC,zT,bM,dL,zL,xO,gL]
theorem qOr (l:List qHz):free (eJ .bw l)↔True:=by
 simp only [iff_true]
 intro r hr c hc
 simp only [eJ,List.mem_map] at hr
 obtain ⟨x,_,rfl⟩:=hr
 simp [qE1] at hc
 rcases hc with rfl | rfl<;>rfl
structure wR where
 caps:List Int
 bods:List (List Ins)
 deriving DecidableEq,Inhabited
def jS (m:Mode) (x:wR):List AV:=[.sl m 1 (wT x.caps),.sl m 1 (uL m x.bods)]
def eL (m:Mode) (l:List wR):List (List AV):=l.map (jS m)
theorem qS7 (m:Mode):eL m []=[]:=rfl
theorem pB (m:Mode) (l:List wR):(eL m l).length=l.length:=by simp [eL]
theorem qL6 (m:Mode) (l k:List wR):eL m l++eL m k=eL m (l++k):=by simp [eL]
theorem qG2 (m:Mode) (l:List wR) (n:Nat):(eL m l).drop n=eL m (l.drop n):=by simp [eL]
theorem qG1 (m:Mode) (l:List wR) (n:Nat):(eL m l).take n=eL m (l.take n):=by simp [eL]
theorem qS6 (m:Mode) (l:List wR) (i:Nat) (caps_:List Int) (bods_:List (List Ins)):(eL m l).set i [.sl m 1 (wT caps_),.sl m 1 (uL m bods_)]=eL m (l.set i ⟨caps_,bods_⟩):=by simp [eL,jS]
theorem eD (A:Nat→Prop) (m:Mode) (l:List wR):jW A (eL m l)↔True:=by
 simp only [iff_true]
 induction l with
 | nil=>trivial
 | cons x l ih=>exact ⟨by simp [jS,vN,bnd,eT,vH,gZ,uZ,gN,dD,zA,gA,aH],ih⟩
theorem cR (l:List wR):nbr (eL .own l)↔True:=by
 simp only [iff_true]
 induction l with
 | nil=>trivial
 | cons x l ih=>exact ⟨by simp [jS,nbs,nb,gT,xR,bZ,zJ,xW,zG,dG,eQ],ih⟩
theorem eS (m:Mode) :∀(l:List wR),bwR (eL m l)=eL .bw l
 | []=>rfl
 | x::l=>by
  have:=eS m l
  simp only [eL,List.map_cons,bwR] at this⊢
  rw [this]
  simp [jS,bwL,bwC,dC,zT,bM,dL,zL,xO,gL,aU]
theorem qP0 (l:List wR):free (eL .bw l)↔True:=by
 simp only [iff_true]
 intro r hr c hc
 simp only [eL,List.mem_map] at hr
 obtain ⟨x,_,rfl⟩:=hr
 simp [jS] at hc
 rcases hc with rfl | rfl<;>rfl
structure wC where
 ths:List jJ
 chs:List bH
 tr:List aT
 deriving DecidableEq,Inhabited
def jB (m:Mode) (x:wC):List AV:=[.sl m 3 (yS m x.ths),.sl m 3 (wM m x.chs),.sl m 2 (jL x.tr)]
def bO (m:Mode) (l:List wC):List (List AV):=l.map (jB m)
theorem qMr (m:Mode):bO m []=[]:=rfl
theorem lT (m:Mode) (l:List wC):(bO m l).length=l.length:=by simp [bO]
theorem qFn (m:Mode) (l k:List wC):bO m l++bO m k=bO m (l++k):=by simp [bO]
theorem qBj (m:Mode) (l:List wC) (n:Nat):(bO m l).drop n=bO m (l.drop n):=by simp [bO]
theorem qBi (m:Mode) (l:List wC) (n:Nat):(bO m l).take n=bO m (l.take n):=by simp [bO]
theorem qMq (m:Mode) (l:List wC) (i:Nat) (ths_:List jJ) (chs_:List bH) (tr_:List aT):(bO m l).set i [.sl m 3 (yS m ths_),.sl m 3 (wM m chs_),.sl m 2 (jL tr_)]=bO m (l.set i ⟨ths_,chs_,tr_⟩):=by simp [bO,jB]
theorem xK (A:Nat→Prop) (m:Mode) (l:List wC):jW A (bO m l)↔True:=by
 simp only [iff_true]
 induction l with
 | nil=>trivial
 | cons x l ih=>exact ⟨by simp [jB,vN,bnd,eT,vH,gZ,uZ,gN,dD,zA,gA,aH,eD],ih⟩
theorem aO (l:List wC):nbr (bO .own l)↔True:=by
 simp only [iff_true]
 induction l with
 | nil=>trivial
 | cons x l ih=>exact ⟨by simp [jB,nbs,nb,gT,xR,bZ,zJ,xW,zG,dG,eQ,cR],ih⟩
theorem xZ (m:Mode) :∀(l:List wC),bwR (bO m l)=bO .bw l
 | []=>rfl
 | x::l=>by
  have:=xZ m l
  simp only [bO,List.map_cons,bwR] at this⊢
  rw [this]
  simp [jB,bwL,bwC,dC,zT,bM,dL,zL,xO,gL,aU,eS]
theorem qKy (l:List wC):free (bO .bw l)↔True:=by
 simp only [iff_true]
 intro r hr c hc
 simp only [bO,List.mem_map] at hr
 obtain ⟨x,_,rfl⟩:=hr
 simp [jB] at hc
 rcases hc with rfl | rfl | rfl<;>rfl
def bys (l:List Int):List (List AV):=l.map fun b=>[.int .u8 b]
theorem qWh:bys []=[]:=rfl
theorem qB0 (l:List Int):(bys l).length=l.length:=by simp [bys]
theorem qQ5 (l k:List Int):bys l++bys k=bys (l++k):=by simp [bys]
theorem qOb (l:List Int) (n:Nat):(bys l).drop n=bys (l.drop n):=by simp [bys]
theorem qO9 (l:List Int) (n:Nat):(bys l).take n=bys (l.take n):=by simp [bys]
theorem qWg (l:List Int) (i:Nat) (b_:Int):(bys l).set i [.int .u8 b_]=bys (l.set i b_):=by simp [bys]
theorem qOa (l:List Int) (i:Nat) (h:i<l.length):(bys l).getD i []=[.int .u8 (l.getD i 0)]:=by simp [bys,List.getD_eq_getElem?_getD,h]
theorem nF (A:Nat→Prop) (l:List Int):jW A (bys l)↔True:=by
 simp only [iff_true]
 induction l with
 | nil=>trivial
 | cons x l ih=>exact ⟨by simp [vN,bnd,eT,vH,gZ,uZ,gN,dD,zA,gA,aH,eD,xK],ih⟩
theorem sX (l:List Int):nbr (bys l)↔True:=by
 simp only [iff_true]
 induction l with
 | nil=>trivial
 | cons x l ih=>exact ⟨by simp [nbs,nb,gT,xR,bZ,zJ,xW,zG,dG,eQ,cR,aO],ih⟩
theorem pX :∀(l:List Int),bwR (bys l)=bys l
 | []=>rfl
 | x::l=>by
  have:=pX l
  simp only [bys,List.map_cons,bwR] at this⊢
  rw [this]
  simp [bwL,bwC,dC,zT,bM,dL,zL,xO,gL,aU,eS,xZ]
theorem qVj (l:List Int):free (bys l)↔True:=by
 simp only [iff_true]
 intro r hr c hc
 simp only [bys,List.mem_map] at hr
 obtain ⟨x,_,rfl⟩:=hr
 simp [] at hc
 rcases hc with rfl<;>rfl
structure Cur where
 i:Nat
 h:Int
 deriving Inhabited
def kG (code:List Int) (c:Cur):List AV:=[.sl .fz 1 (bys code),.int .i64 c.i,.int .i64 c.h]
theorem fS:(∀n,del [] n=[])∧(∀m s h n,del ((m,s)::h) n=if n=m then del h n else (m,s)::del h n)∧(∀n r,put [] n r=[(n,r)])∧(∀m s h n r,put ((m,s)::h) n r=if n=m then (m,r)::h else (m,s)::put h n r)∧(∀{α:Type} (a b:α) (l:List α),(a::l).set 0 b=b::l)∧(∀{α:Type} (a b:α) (l:List α) (n:Nat),(a::l).set (n+1) b=a::l.set n b)∧(∀{α:Type} (a b:α),(if True then a else b)=a)∧(∀{α:Type} (a b:α),(if False then a else b)=b)∧(∀l,(wT l).length=l.length)∧(∀l n,(wT l).take n=wT (l.take n))∧(∀l n,(wT l).drop n=wT (l.drop n))∧(∀o l rows,eM o l rows=if o=0∧rows.length=l then rows else (rows.drop o).take l)∧(∀{α:Type} (a:α) (l:List α),(a::l).length=l.length+1)∧(∀{α:Type},([]:List α).length=0)∧(∀p:Prop,(p∧p)=p)∧(∀p:Prop,(p∧True)=p)∧(∀p:Prop,(True∧p)=p)∧(∀l,(dI l).length=l.length)∧(∀m l,(uL m l).length=l.length)∧(∀m l,(eO m l).length=l.length)∧(∀m l,(wM m l).length=l.length)∧(∀l,(jL l).length=l.length)∧(∀m l,(yS m l).length=l.length)∧(∀m l,(eJ m l).length=l.length)∧(∀m l,(eL m l).length=l.length)∧(∀m l,(bO m l).length=l.length)∧(∀l,(bys l).length=l.length)∧(∀{α:Type} (a b:List α),(a++b).length=a.length+b.length)∧(∀{α:Type} (n:Nat) (a:α),(List.replicate n a).length=n)∧(∀{α:Type} (l:List α) (n:Nat) (a:α),(l.set n a).length=l.length):=by
 refine ⟨?_,?_,?_,?_,?_,?_,?_,?_,?_,?_,?_,?_,?_,?_,?_,?_,?_,?_,?_,?_,?_,?_,?_,?_,?_,?_,?_,?_,?_,?_⟩<;>intros<;>simp [del,put,eM,kB,sN,nT,pN,hY,pF,zE,oU,pB,lT,qB0]
attribute [go_sem] kP vR qWr qWt qRf qV7 qWu qV5 qWs qVb qRe qVc qV6 wU qR2 qJo Arg.ev wK dN qW5 if_false if_true aE put del kB qDt Option.map_some Option.bind_some qW Int.toNat_natCast qWv qV4 qV8 zY true_and and_true qNe qNc qNd qEl qCi Bool.false_eq_true fM cellsOf jV List.isEmpty_nil List.isEmpty_cons fresh List.map_nil List.map_cons List.cons_append List.nil_append zF List.take_zero List.drop_zero List.take_succ_cons List.getD_cons_zero List.length_cons List.length_nil List.drop_succ_cons List.drop_nil List.append_nil List.all_cons List.all_nil jN Bool.and_self Nat.zero_add qV9 qVa qV3 qRd qRc qRa qRb qVd qWq qHc qO1 qK4 qOz qP1 qHy uU uW cM qKh kW yZ apart List.filter_nil List.filter_cons Option.isSome_some Option.isSome_none List.contains_nil List.contains_cons List.forall_mem_cons List.mem_cons List.not_mem_nil false_implies implies_true forall_const forall_eq_or_imp forall_eq or_false beq_self_eq_true Bool.or_false Bool.false_or Bool.true_or Bool.or_true Bool.not_true Bool.not_false xv xo xg xr xi xz List.set_set qGm qEg qK2 qK3 qC8 tW qK0 qDn nY eqC iS qEb List.replicate_zero decide_true decide_false qNr qN5 List.replicate_succ Int.toNat_zero Int.toNat_one eq_self Bool.and_true Bool.true_and Bool.and_false Bool.false_and List.set_cons_zero List.set_cons_succ List.getD_cons_succ rnm ixm vU cZ yM uB cond_true cond_false tS tR qC9 sN qNt qJw qJv qUt zB nT qJ4 qEn qEm qQ8 pN qLp qH0 qGz qSz hY lF qHk qHj vF gI pF jG qGd qGc qSf rH zE fO qBc qBb wP fP oU qKq qFd qFc qRk qE1 pB qL6 qG2 qG1 qS6 jS lT qFn qBj qBi qMq jB qB0 qQ5 qOb qO9 qWg
attribute [simp] mB bwT bwC bwL dC tR wK Arg.ev zX qB1 qAj qHr eT qDb tK vH okV okL nb nbs nbr gT qW kB bnd vN jW vU cZ ixm rnm apart kW uU uW fresh yM uB dT qHw dW mC vV del qBz eM tS qC9 shp okB qN3 qJu qSm qUh qUg qUb qP5 qUe qW7 qUf qSl qUc qW9 qUd pH qJm qUz qT3 qUu zT gZ xR sN qJv qJw qT1 qQ9 bM uZ bZ nT qEm qEn qOe qT0 dL gN zJ pN qGz qH0 qPn qTc zL dD xW hY qHj qHk qQ1 qSh xO zA zG pF qGc qGd qP4 qMj gL gA dG zE qBb qBc qKu qRl aU aH eQ oU qFc qFd qOr qS7 eS eD cR pB qG1 qG2 qP0 qMr xZ xK aO lT qBi qBj qKy qWh pX nF sX qB0 qO9 qOb qVj kG zB gI rH fP qE1 jS jB
theorem qGg :∀(l:List (List AV)),eN l l
 | []=>by simp [eN]
 | r::l=>(pH r r l l).2 ⟨oE r,qGg l⟩
theorem qJn :∀{a a' b b':List (List AV)},eN a a'→eN b b'→eN (a++b) (a'++b')
 | [],a',b,b',h1,h2=>by
  simp only [eN] at h1
  subst h1
  exact h2
 | r::a,a',b,b',h1,h2=>by
  simp only [eN] at h1
  obtain ⟨d,ds,rfl,h3,h4⟩:=h1
  exact (pH r d _ _).2 ⟨h3,qJn h4 h2⟩
theorem Sub.nilRow (nm:Nat) {t:List (Nat×AV)} {h:wW} {nx sz:Nat} {rows rows':List (List AV)} (hl:qW h nm=some (sz,rows)) (hn:eN rows rows') (hbn:jW (· < nx) rows'):Sub (.mk t h nx) (.mk t (put h nm (sz,rows')) nx):=by
 rintro B a w ⟨h1,h2,hb,hbt,φ,Lf,hl'⟩
 have hlk :∀n,qW (put h nm (sz,rows')) n=if n=nm then some (sz,rows') else qW h n:=fun n=>qGo n
 have hne :∀n,qW (put h nm (sz,rows')) n≠none→qW h n≠none:=fun n hn'=>by
  rw [hlk] at hn'
  split at hn'
  ·rename_i he; rw [he,hl]; simp
  ·exact hn'
 refine ⟨h1,h2,?_,hbt,φ,Lf,⟨hl'.ok.size0,hl'.ok.io0,hl'.ok.fr,hl'.ok.keep0,fun n hn'=>hl'.ok.own0 n (hne n hn'),?_,fun n hn'=>hl'.ok.rh.nodup n (hne n hn'),fun n hn'=>hl'.ok.rh.blk n (hne n hn'),fun n m hn' hm=>hl'.ok.rh.dis n m (hne n hn') (hne m hm),?_⟩,hl'.tm,hl'.φ0,hl'.ten⟩
 ·intro n row hr
  rw [hlk] at hr
  split at hr
  ·rename_i he
   simp only [Option.some.injEq] at hr
   subst hr he
   exact ⟨(hb n _ hl).1,hbn⟩
  ·exact hb n row hr
 ·intro n row hr
  rw [hlk] at hr
  split at hr
  ·rename_i he
   simp only [Option.some.injEq] at hr
   subst hr he
   have:=hl'.ok.rh.row n _ hl
   unfold gQ zP at this⊢
   cases hq:(B.env w φ).φ n with
   | dead=>rw [hq] at this; exact this.elim
   | nilp =>
    rw [hq] at this
    simp only at this
    obtain ⟨h3,h4⟩:=this
    rw [h3] at hn
    simp only [eN] at hn
    exact ⟨hn,h4⟩
   | «at» p =>
    rw [hq] at this
    obtain ⟨h3,h4,Lr,h5,h6⟩:=this
    exact ⟨h3,by rw [pG hn]; exact h4,Lr,qGh hn h5,h6⟩
  ·exact hl'.ok.rh.row n row hr
 ·intro n hn'
  rw [hlk] at hn'
  split at hn'
  ·simp at hn'
  ·exact hl'.ok.rh.dead n hn'
theorem Sub.nilLast (nm:Nat) {t:List (Nat×AV)} {h:wW} {nx sz:Nat} {front:List (List AV)} {r r':List AV} (hl:qW h nm=some (sz,front++[r])) (hn:qQ r r') (hbn:jW (· < nx) (front++[r'])):Sub (.mk t h nx) (.mk t (put h nm (sz,front++[r'])) nx) :=
 Sub.nilRow nm hl (qJn (qGg front) ((pH r r' [] []).2 ⟨hn,(qJm).2 trivial⟩)) hbn
theorem vE {rs:List qA3} {fp:FP} {v:AV} {s:AS} {t:List (Nat×AV)} {h:wW} {nx:Nat} (hs:Sub s (.mk t h nx)) (h1:qHw (rs.map fun r=>(dT t h r).2)∧(dW h (rs.map fun r=>(dT t h r).1)).2.2∧qQ (dW h (rs.map fun r=>(dT t h r).1)).1 [v]∧∀x∈fp,qW (dW h (rs.map fun r=>(dT t h r).1)).2.1 x.1=qW (vV fp) x.1):Fin rs fp v s :=
 ⟨_,hs,yX h1⟩
theorem wA {rs:List qA3} {fp:FP} {vs:List AV} {s:AS} {t:List (Nat×AV)} {h:wW} {nx:Nat} (h0:vs.length≠1) (hs:Sub s (.mk t h nx)) (h1:qHw (rs.map fun r=>(dT t h r).2)∧(dW h (rs.map fun r=>(dT t h r).1)).2.2∧qQ (dW h (rs.map fun r=>(dT t h r).1)).1 vs∧∀x∈fp,qW (dW h (rs.map fun r=>(dT t h r).1)).2.1 x.1=qW (vV fp) x.1):Fin rs fp (.tup vs) s :=
 ⟨_,hs,yR h0 h1⟩
theorem gJ {P:Program} {num:Nat→Nat} {fin:AS→Prop} {op:MOp} {dst:Option Nat} {k:List It} {s:AS} {t:List (Nat×AV)} {h:wW} {nx:Nat} (hs:Sub s (.mk t h nx)) (h1:qAi P num fin op dst k (.mk t h nx)):qAi P num fin op dst k s:=qTf hs h1
theorem K {p q:Prop} (k:q) (h:p:=by first | omega | (simp [-List.getD_eq_getElem?_getD]; first | done | omega)):p∧q:=⟨h,k⟩
theorem CA {P:Program} {num:Nat→Nat} {fin:AS→Prop} {f nx:Nat} {ps:List Bool} {xs:List Arg} {t:List (Nat×AV)} {h:wW} {fp:FP} {res:AV} {vargs:List AV} {dst:Option Nat} {k:List It} (σ:List (Nat×Nat)) (hc:qU P num f vargs fp res)
  (hk:vc P num fin k (.mk (dN t dst (yM nx (vU (rnm σ) res)).1) (aE h (fp.map (fun x=>(rnm σ x.1,x.2))++fresh (yM nx (vU (rnm σ) res)).2.1)) (yM nx (vU (rnm σ) res)).2.2))
  (hv:qQ (mB (ixm σ) h ps (xs.map (Arg.ev (wK t)))) vargs:=by first | omega | (simp [qQ,qR]; done) | (simp [qQ,qR, *]; done))
  (hvo:zX h (fun n =>∃x∈fp,x.2.1≠none∧n=rnm σ x.1∧ixm σ n=x.1) (fun n =>∃x∈fp,n=rnm σ x.1) ps (xs.map (Arg.ev (wK t))):=by first | omega | (simp [qQ,qR]; done) | (simp [qQ,qR, *]; done))
  (hnd:(fp.map (fun x=>rnm σ x.1)).Nodup:=by first | (simp [qQ,qR]; done) | (simp [qQ,qR, *]; done))
  (hpre :∀x∈fp,qW h (rnm σ x.1)=x.2.1∧(x.2.1=none→nx≤rnm σ x.1)∧rnm σ x.1<nx:=by first | (simp [qQ,qR]; done) | (simp [qQ,qR, *]; done))
  (hnb :∀x∈fp,(∀r,x.2.1=some r→nbr r.2)∧(∀r,x.2.2=some r→nbr r.2):=by first | (simp [qQ,qR]; done) | (simp [qQ,qR, *]; done))
  (hres:okV (fun k =>∃x∈fp,x.1=k∧x.2.2≠none) res:=by first | (simp [qQ,qR]; done) | (simp [qQ,qR, *]; done)):qAi P num fin (.call f ps xs) dst k (.mk t h nx) :=
 nE (qHp σ hc hv hvo hnd hpre hnb hres) hk
theorem DA {P:Program} {num:Nat→Nat} {fin:AS→Prop} {f nx:Nat} {ps:List Bool} {xs:List Arg} {t:List (Nat×AV)} {h:wW} {fp:FP} {res:AV} {vargs:List AV} {pend:List (Nat×List Nat)} {dst:Option Nat} {tr:bY} {k:List It} (σ:List (Nat×Nat)) (hc:qU P num f vargs fp res)
  (hk:vc P num fin (.draw tr pend::k) (.mk (dN t dst (yM nx (vU (rnm σ) res)).1) (aE h (fp.map (fun x=>(rnm σ x.1,x.2))++fresh (yM nx (vU (rnm σ) res)).2.1)) (yM nx (vU (rnm σ) res)).2.2))
  (hv:qQ (mB (ixm σ) h ps (xs.map (Arg.ev (wK t)))) vargs:=by first | omega | (simp [qQ,qR]; done) | (simp [qQ,qR, *]; done))
  (hvo:zX h (fun n =>∃x∈fp,x.2.1≠none∧n=rnm σ x.1∧ixm σ n=x.1) (fun n =>∃x∈fp,n=rnm σ x.1) ps (xs.map (Arg.ev (wK t))):=by first | omega | (simp [qQ,qR]; done) | (simp [qQ,qR, *]; done))
  (hnd:(fp.map (fun x=>rnm σ x.1)).Nodup:=by first | (simp [qQ,qR]; done) | (simp [qQ,qR, *]; done))
  (hpre :∀x∈fp,qW h (rnm σ x.1)=x.2.1∧(x.2.1=none→nx≤rnm σ x.1)∧rnm σ x.1<nx:=by first | (simp [qQ,qR]; done) | (simp [qQ,qR, *]; done))
  (hnb :∀x∈fp,(∀r,x.2.1=some r→nbr r.2)∧(∀r,x.2.2=some r→nbr r.2):=by first | (simp [qQ,qR]; done) | (simp [qQ,qR, *]; done))
  (hres:okV (fun k =>∃x∈fp,x.1=k∧x.2.2≠none) res:=by first | (simp [qQ,qR]; done) | (simp [qQ,qR, *]; done))
  (ha:apart pend (fp.map (fun x=>(rnm σ x.1,x.2))++fresh (yM nx (vU (rnm σ) res)).2.1):=by first | (simp [qQ,qR]; done) | (simp [qQ,qR, *]; done)):qO2 P num fin (.call f ps xs) pend dst tr k t h nx :=
 sU (qHp σ hc hv hvo hnd hpre hnb hres) ha hk
def qGn (k:Int) (n:Nat):List Int:=(List.range n).map fun (i:Nat)=>k+i
@[simp] theorem qWd (k:Int) (n:Nat):(qGn k n).length=n:=by simp [qGn]
@[simp] theorem qX8 (k:Int) (n:Nat):(qGn k n).take n=qGn k n:=List.take_of_length_le (by simp)
def qL (n lo hi:Int):Bool:=decide (lo≤n)&&decide (n≤hi)
theorem qK {n lo hi:Int}:qL n lo hi=true↔lo≤n∧n≤hi:=by simp [qL]
def vI (b:Bool):Int:=if b then 1 else 0
theorem wX (n lo hi:Int):qU Tryz.prog num 59 [.int .i64 n,.int .i64 lo,.int .i64 hi] [] (.bool (qL n lo hi)):=by
 refine EN m59 Tryz.func91 ?_
 unfold m59
 by_cases h1:lo≤n<;>by_cases h2:n≤hi<;>(simp only [go_sem,seval,h1,h2]; refine fz ?_; simp [qZ,qQ,qR,qN,-List.drop_one]; simp [qL,h1,h2])
theorem yD (n lo hi:Int):qU Tryz.prog num 64 [.int .i64 n,.int .i64 lo,.int .i64 hi] [] (.bool (qL n lo hi)):=by
 refine EN m64 Tryz.func69 ?_
 unfold m64
 by_cases h1:lo≤n<;>by_cases h2:n≤hi<;>(simp only [go_sem,seval,h1,h2]; refine fz ?_; simp [qZ,qQ,qR,qN,-List.drop_one]; simp [qL,h1,h2])
theorem lL (b:Bool):qU Tryz.prog num 78 [.bool b] [] (.int .i64 (vI b)):=by
 refine EN m78 Tryz.func175 ?_
 unfold m78
 cases b<;>(simp only [go_sem,seval]; refine fz ?_; simp [qZ,qQ,qR,qN,-List.drop_one]; simp [vI])
theorem kA (b:Bool):qU Tryz.prog num 85 [.bool b] [] (.int .i64 (vI b)):=by
 refine EN m85 Tryz.func104 ?_
 unfold m85
 cases b<;>(simp only [go_sem,seval]; refine fz ?_; simp [qZ,qQ,qR,qN,-List.drop_one]; simp [vI])
theorem qNq (n:Int):qU Tryz.prog num 97 [.int .i64 n] [] (.bool (qL n 0 3)):=by
 refine EN m97 Tryz.func216 ?_
 unfold m97
 simp only [go_sem,seval]
 refine CA [] (wX n 0 3) ?_
 try simp only [go_sem,seval]
 refine fz ?_; simp [qZ,qQ,qR,qN,-List.drop_one]
theorem qDa (n:Int):qU Tryz.prog num 44 [.int .i64 n] [] (.bool (qL n 5 9)):=by
 refine EN m44 Tryz.func199 ?_
 unfold m44
 simp only [go_sem,seval]
 refine CA [] (wX n 5 9) ?_
 try simp only [go_sem,seval]
 refine fz ?_; simp [qZ,qQ,qR,qN,-List.drop_one]
theorem tO (c:bH) (hx:8*c.list.length≤2^47):qU Tryz.prog num 84 [.agg (gI .bw c)] [] (.agg (gI .own c)):=by
 refine EN m84 Tryz.func218 ?_
 unfold m84
 simp only [go_sem,seval]
 repeat refine K ?_
 refine fz ?_; simp [qZ,qQ,qR,qN,-List.drop_one]
def vC (c:bH):Bool:=qL c.cap 1 4&&decide ((c.list.length:Int)≤c.cap)
theorem qIv (c:bH):qU Tryz.prog num 72 [.agg (gI .bw c)] [] (.bool (vC c)):=by
 refine EN m72 Tryz.func145 ?_
 unfold m72
 simp only [go_sem,seval]
 refine CA [] (wX c.cap 1 4) ?_
 try simp only [go_sem,seval]
 cases h:qL c.cap 1 4
 ·simp only [go_sem,seval,h]
  refine fz ?_; simp [qZ,qQ,qR,qN,-List.drop_one]
  simp [vC,h]
 ·simp only [go_sem,seval,h]
  refine fz ?_; simp [qZ,qQ,qR,qN,-List.drop_one]
  simp [vC,h]
theorem iN (c:bH):qU Tryz.prog num 83 [.agg (gI .bw c)] [] (.bool (vC c)):=by
 refine EN m83 Tryz.func165 ?_
 unfold m83
 simp only [go_sem,seval]
 refine CA [] (yD c.cap 1 4) ?_
 try simp only [go_sem,seval]
 cases h:qL c.cap 1 4
 ·simp only [go_sem,seval,h]
  refine fz ?_; simp [qZ,qQ,qR,qN,-List.drop_one]
  simp [vC,h]
 ·simp only [go_sem,seval,h]
  refine fz ?_; simp [qZ,qQ,qR,qN,-List.drop_one]
  simp [vC,h]
def vW (x:Ins) (pl ch:Int):Bool :=
 qL x.r 0 3&&qL x.a 0 3&&qL x.b 0 3&&qL ch 0 3 &&
 (if x.op=1 then qL x.n (-1000000000) 1000000000&&decide (x.a=0)&&decide (x.b=0)
  else if x.op=2∨x.op=3∨x.op=4 then decide (x.n=0)
  else if x.op=5 then qL x.n 0 (ch-1)&&decide (x.r=0)&&decide (x.b=0)
  else if x.op=6∨x.op=8 then qL x.n 0 (ch-1)&&decide (x.a=0)&&!decide (x.r=x.b)
  else if x.op=7 then qL x.n 0 (ch-1)&&decide (x.b=0)
  else if x.op=9 then qL x.n 0 (ch-1)&&decide (x.r=0)&&decide (x.a=0)&&decide (x.b=0)
  else if x.op=10 then decide (x.r=0)&&decide (x.b=0)&&decide (x.n=0)
  else if x.op=11 then decide (0≤x.n)&&decide (x.n<pl)&&decide (x.r=0)&&decide (x.a=0)&&decide (x.b=0)
  else if x.op=12 then decide (0≤x.n)&&decide (x.n<pl)&&decide (x.r=0)&&decide (x.b=0)
  else if x.op=13 then decide (x.op=13)&&(decide (x.r=0)&&(decide (x.a=0)&&(decide (x.b=0)&&decide (x.n=0))))
  else false)
def qE9 (x:Ins):Ins :=
 if x.op=1 then ⟨x.op,x.r,0,0,x.n⟩
 else if x.op=2∨x.op=3∨x.op=4 then ⟨x.op,x.r,x.a,x.b,0⟩
 else if x.op=5∨x.op=12 then ⟨x.op,0,x.a,0,x.n⟩
 else if x.op=6∨x.op=8 then ⟨x.op,x.r,0,x.b,x.n⟩
 else if x.op=7 then ⟨x.op,x.r,x.a,0,x.n⟩
 else if x.op=9∨x.op=11 then ⟨x.op,0,0,0,x.n⟩
 else if x.op=10 then ⟨x.op,0,x.a,0,0⟩
 else ⟨x.op,0,0,0,0⟩
def sP (x:Ins) (pl ch:Int):Bool :=
 qL ch 0 3&&qL x.op 1 13&&(decide (x.op=(qE9 x).op)&&(decide (x.r=(qE9 x).r)&&(decide (x.a=(qE9 x).a)&&(decide (x.b=(qE9 x).b)&&decide (x.n=(qE9 x).n))))) &&
 qL x.r 0 3&&qL x.a 0 3&&qL x.b 0 3 &&
 (if x.op=1 then qL x.n (-1000000000) 1000000000
  else if x.op=11∨x.op=12 then qL x.n 0 (pl-1)
  else if (x.op=6∨x.op=8)∧x.r=x.b then false
  else !qL x.op 5 9||qL x.n 0 (ch-1))
theorem qN6 (x:Ins):qU Tryz.prog num 96 [.agg (zB x)] [] (.agg (zB (qE9 x))):=by
 refine EN m96 Tryz.func215 ?_
 unfold m96
 repeat' (first
  | (simp only [go_sem,seval])
  | (refine qP (fun hc=>?_) (fun hc=>?_)<;>((try simp only [Bool.not_eq_true',Bool.not_eq_false',ne_eq,Bool.not_eq_true,Bool.not_eq_false] at hc)<;>(try simp only [hc])))
  | (refine gX (fun hc=>?_) (fun hc=>?_)<;>((try simp only [Bool.not_eq_true',Bool.not_eq_false',ne_eq,Bool.not_eq_true,Bool.not_eq_false] at hc)<;>(try simp only [hc])))
  | (refine bS (fun hc=>?_) (fun hc=>?_)<;>((try simp only [Bool.not_eq_true',Bool.not_eq_false',ne_eq,Bool.not_eq_true,Bool.not_eq_false] at hc)<;>(try simp only [hc])))
  | (refine ⟨by first | omega | (simp; done),?_⟩)
  | fail)
 all_goals (refine fz ?_; simp [qZ,qQ,qR,qN,-List.drop_one])
 all_goals (try (simp_all [qE9]; done))
theorem iA (n lo hi:Int):qL n lo hi=decide (lo≤n∧n≤hi):=by simp [qL]
theorem tT (x:Ins) (pl ch:Int):sP x pl ch=vW x pl ch:=by
 obtain ⟨op,r,a,b,n⟩:=x
 by_cases h:1≤op∧op≤13
 ·obtain rfl | rfl | rfl | rfl | rfl | rfl | rfl | rfl | rfl | rfl | rfl | rfl | rfl:op=1∨op=2∨op=3∨op=4∨op=5∨op=6∨op=7∨op=8∨op=9∨op=10∨op=11∨op=12∨op=13:=by omega
  all_goals (rw [Bool.eq_iff_iff]; simp [sP,vW,qE9,iA]; try omega)
 ·have h1 :¬op=1:=by omega
  have h2 :¬op=2:=by omega
  have h3 :¬op=3:=by omega
  have h4 :¬op=4:=by omega
  have h5 :¬op=5:=by omega
  have h6 :¬op=6:=by omega
  have h7 :¬op=7:=by omega
  have h8 :¬op=8:=by omega
  have h9 :¬op=9:=by omega
  have h10 :¬op=10:=by omega
  have h11 :¬op=11:=by omega
  have h12 :¬op=12:=by omega
  have h13 :¬op=13:=by omega
  have hw:qL op 1 13=false:=by rw [iA]; simp; omega
  simp [sP,vW,hw,h1,h2,h3,h4,h5,h6,h7,h8,h9,h10,h11,h12,h13]
end Go.Sep
