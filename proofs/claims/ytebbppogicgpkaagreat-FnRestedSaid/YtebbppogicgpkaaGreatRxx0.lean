/- Contracts of functions. -/
import Derived.Test.YtebbppogicgpkaaGreatRzFns
namespace Go.Sep
set_option maxHeartbeats 16000000
open Go.Proofs
set_option linter.unusedSimpArgs false
set_option linter.unusedVariables false
set_option maxRecDepth 100000
def m5:MFn:=⟨22,[.t 2],kr [xo 2 (.mv (.c (.nil)))] (kr [xv 5 0,xe 6 5,xo 7 (.mkS [xz] 8 (.t 6) (.t 6)),xv 3 7] (.seq (kr [xI 4 0] (.blk 0 (.loop (.seq (kr [xv 8 4,xv 9 0,xe 10 9,bT 11 .lss 8 10] (kX 11 0)) (.seq (.blk 1 (xr [xv 14 3,xv 15 4,xv 16 0,xv 17 4,xD 18 1 16 17,xl 19 18,xD 20 1 14 15,xS 1 20 19])) (xr [xv 12 4,bI 13 .add 12 1,xv 4 13])))))) (kR [xv 21 3,xv 2 21])))⟩
def m36:MFn:=⟨6,[.t 2],kr [xo 2 (.mv (.c (.nil)))] (kR [xo 3 (.mkSl [xz] 0 []),xv 4 0,xA 5 1 8 3 4,xv 2 5])⟩
def m44:MFn:=⟨5,[.t 2],kr [xF 2] (kR [xv 3 0,xc3 4 59 (.t 3) (xi 5) (xi 9),xv 2 4])⟩
def m59:MFn:=⟨15,[.t 6],kr [xF 6] (kR [xv 7 0,xv 8 1,bT 9 .geq 7 8,xv 10 9,yv 11 0 10,yv 12 2 10,xg 13 (.bin .leq (.t 11) (.t 12)) 10 true,xP 14 10 13,xv 6 14])⟩
def m64:MFn:=⟨15,[.t 6],kr [xF 6] (kR [xv 7 0,xv 8 1,bT 9 .geq 7 8,xv 10 9,yv 11 0 10,yv 12 2 10,xg 13 (.bin .leq (.t 11) (.t 12)) 10 true,xP 14 10 13,xv 6 14])⟩
def m69:MFn:=⟨6,[.t 2],kr [xo 2 (.mv (.c (.nil)))] (kR [xo 3 (.mkSl [xz,xz] 0 []),xv 4 0,xA 5 2 16 3 4,xv 2 5])⟩
def m78:MFn:=⟨4,[.t 2],kr [xI 2 0] (.seq (kr [xv 3 0] (kF 3 [xI 2 1])) (kR [xI 2 0]))⟩
def m85:MFn:=⟨4,[.t 2],kr [xI 2 0] (.seq (kr [xv 3 0] (kF 3 [xI 2 1])) (kR [xI 2 0]))⟩
def m96:MFn:=⟨74,[.cell 2 5 true],kr [xb 1 0,xo 2 (.alloc [xz,xz,xz,xz,xz])] (kr [xa 4 0 1,xl 5 4,xo 6 (.build [xz,xz,xz,xz,xz] [(0,1,.t 5)]),xo 3 (.alloc [xz,xz,xz,xz,xz]),xS 5 3 6] (.seq (kr [xa 7 0 1,xl 8 7] (.blk 0 (kr [bI 10 .eql 8 1,xv 9 10] (.cond 9 (.dreg (.take 0 (xa 11 1 1) (.take 1 (xl 12 11) (.take 2 (xa 13 4 1) (.take 3 (xl 14 13) (.only 4 [0,1] (xa 15 1 3) (.only 5 [0,1] (xS 1 15 12) (.only 6 [0,1,2,3] (xa 16 4 3) (.only 7 [0,1,2,3] (xS 1 16 14) (.done)))))))))) (.seq (kr [bI 18 .eql 8 2,xv 17 18] (.cond 17 (.skip) (kr [bI 19 .eql 8 3,xv 17 19] (.cond 17 (.skip) (xr [bI 20 .eql 8 4,xv 17 20]))))) (.cond 17 (.dreg (.take 0 (xa 21 1 1) (.take 1 (xl 22 21) (.take 2 (xa 23 2 1) (.take 3 (xl 24 23) (.take 4 (xa 25 3 1) (.take 5 (xl 26 25) (.only 6 [0,1] (xa 27 1 3) (.only 7 [0,1] (xS 1 27 22) (.only 8 [0,1,2,3] (xa 28 2 3) (.only 9 [0,1,2,3] (xS 1 28 24) (.only 10 [0,1,2,3,4,5] (xa 29 3 3) (.only 11 [0,1,2,3,4,5] (xS 1 29 26) (.done)))))))))))))) (.seq (kr [bI 31 .eql 8 5,xv 30 31] (.cond 30 (.skip) (xr [bI 32 .eql 8 12,xv 30 32]))) (.cond 30 (.dreg (.take 0 (xa 33 2 1) (.take 1 (xl 34 33) (.take 2 (xa 35 4 1) (.take 3 (xl 36 35) (.only 4 [0,1] (xa 37 2 3) (.only 5 [0,1] (xS 1 37 34) (.only 6 [0,1,2,3] (xa 38 4 3) (.only 7 [0,1,2,3] (xS 1 38 36) (.done)))))))))) (.seq (kr [bI 40 .eql 8 6,xv 39 40] (.cond 39 (.skip) (xr [bI 41 .eql 8 8,xv 39 41]))) (.cond 39 (.dreg (.take 0 (xa 42 1 1) (.take 1 (xl 43 42) (.take 2 (xa 44 3 1) (.take 3 (xl 45 44) (.take 4 (xa 46 4 1) (.take 5 (xl 47 46) (.only 6 [0,1] (xa 48 1 3) (.only 7 [0,1] (xS 1 48 43) (.only 8 [0,1,2,3] (xa 49 3 3) (.only 9 [0,1,2,3] (xS 1 49 45) (.only 10 [0,1,2,3,4,5] (xa 50 4 3) (.only 11 [0,1,2,3,4,5] (xS 1 50 47) (.done)))))))))))))) (kr [bI 52 .eql 8 7,xv 51 52] (.cond 51 (.dreg (.take 0 (xa 53 1 1) (.take 1 (xl 54 53) (.take 2 (xa 55 2 1) (.take 3 (xl 56 55) (.take 4 (xa 57 4 1) (.take 5 (xl 58 57) (.only 6 [0,1] (xa 59 1 3) (.only 7 [0,1] (xS 1 59 54) (.only 8 [0,1,2,3] (xa 60 2 3) (.only 9 [0,1,2,3] (xS 1 60 56) (.only 10 [0,1,2,3,4,5] (xa 61 4 3) (.only 11 [0,1,2,3,4,5] (xS 1 61 58) (.done)))))))))))))) (.seq (kr [bI 63 .eql 8 9,xv 62 63] (.cond 62 (.skip) (xr [bI 64 .eql 8 11,xv 62 64]))) (.cond 62 (xr [xa 65 4 1,xl 66 65,xa 67 4 3,xS 1 67 66]) (kr [bI 69 .eql 8 10,xv 68 69] (.cond 68 (xr [xa 70 2 1,xl 71 70,xa 72 2 3,xS 1 72 71]) (.skip))))))))))))))))) (kR [xm 73 5 3,xS 5 2 73])))⟩
def m97:MFn:=⟨5,[.t 2],kr [xF 2] (kR [xv 3 0,xc3 4 59 (.t 3) (xi 0) (xi 3),xv 2 4])⟩
attribute [local go_sem] iL vF qXq qXs qSb qW1 qXt qVz qXr qW5 qSa qW6 qW0 wW qRz qK1 Arg.ev wH gM qX1 if_false if_true zW put del iD qDl Option.map_some Option.bind_some qU Int.toNat_natCast qXu qVy qW2 dY true_and and_true qO8 qO6 qO7 qEt qCb Bool.false_eq_true cP cellsOf jN List.isEmpty_nil List.isEmpty_cons fresh List.map_nil List.map_cons List.cons_append List.nil_append dI List.take_zero List.drop_zero List.take_succ_cons List.getD_cons_zero List.length_cons List.length_nil List.drop_succ_cons List.drop_nil List.append_nil List.all_cons List.all_nil jD Bool.and_self Nat.zero_add qW3 qW4 qVx qS9 qS8 qS6 qS7 qW7 qXp qHd qOw qKg qPu qPw qI3 uF uH eQ qKs iV yX apart List.filter_nil List.filter_cons Option.isSome_some Option.isSome_none List.contains_nil List.contains_cons List.forall_mem_cons List.mem_cons List.not_mem_nil false_implies implies_true forall_const forall_eq_or_imp forall_eq or_false beq_self_eq_true Bool.or_false Bool.false_or Bool.true_or Bool.or_true Bool.not_true Bool.not_false xv xo xg xr xi xz List.set_set qGt qEl qKe qKf qBy sS qKd qDd mY eqC hD qEd List.replicate_zero decide_true decide_false qOm qO0 List.replicate_succ Int.toNat_zero Int.toNat_one eq_self Bool.and_true Bool.true_and Bool.and_false Bool.false_and List.set_cons_zero List.set_cons_succ List.getD_cons_succ rnm ixm jK xU yG vP cond_true cond_false sP sO qC0
attribute [local simp] kB bwT bwC bwL gH sO wH Arg.ev dN qAj tV qHt eE qD1 sI yR okV okL nb nbs nbr bX qU iD bnd jX jL jK xU ixm rnm apart iV uF uH fresh yG vP gX qI1 dC lD vI del qBp bV sP qC0 shp okB pX qK6
theorem vT {rs:List tG} {fp:FP} {vs:List AV} {t:List (Nat×AV)} {h:wZ} {nx:Nat} (h0:vs.length≠1) (h1:qI1 (rs.map fun r=>(gX t h r).2)∧(dC h (rs.map fun r=>(gX t h r).1)).2.2∧wA (dC h (rs.map fun r=>(gX t h r).1)).1 vs∧∀x∈fp,qU (dC h (rs.map fun r=>(gX t h r).1)).2.1 x.1=qU (vI fp) x.1):wJ rs fp (.tup vs) (.mk t h nx):=by
 refine ⟨h1.1,h1.2.1,⟨vs,h1.2.2.1,?_⟩,h1.2.2.2⟩
 match vs,h0 with
 | [],_=>rfl
 | [_],h0=>exact absurd rfl h0
 | _::_::_,_=>rfl
theorem yJ {rs:List tG} {fp:FP} {v:AV} {t:List (Nat×AV)} {h:wZ} {nx:Nat} (h1:qI1 (rs.map fun r=>(gX t h r).2)∧(dC h (rs.map fun r=>(gX t h r).1)).2.2∧wA (dC h (rs.map fun r=>(gX t h r).1)).1 [v]∧∀x∈fp,qU (dC h (rs.map fun r=>(gX t h r).1)).2.1 x.1=qU (vI fp) x.1):wJ rs fp v (.mk t h nx) :=
 ⟨h1.1,h1.2.1,⟨[v],h1.2.2.1,rfl⟩,h1.2.2.2⟩
theorem qTf (c d:AV) (cs ds:List AV):wA (c::cs) (d::ds)↔wB c d∧wA cs ds:=by
 simp only [wA,List.cons.injEq]
 exact ⟨fun ⟨_,_,⟨h1,h2⟩,h3,h4⟩=>by subst h1 h2; exact ⟨h3,h4⟩,fun ⟨h3,h4⟩=>⟨_,_,⟨rfl,rfl⟩,h3,h4⟩⟩
theorem qVc:wA [] []↔True:=by simp [wA]
theorem qVb (cs ds:List AV):wB (.agg cs) (.agg ds)↔wA cs ds:=by simp [wB]
theorem qV6 (cs ds:List AV):wB (.tup cs) (.tup ds)↔wA cs ds:=by simp [wB]
theorem qQ1 (m:Mode) (sz:Nat):wB .nil (.sl m sz [])↔True:=by simp [wB]
theorem qV9:wB .nil .nil↔True:=by simp [wB]
theorem qX3 (m:Mode) (sz:Nat) (rows:List (List AV)) (d:AV):wB (.sl m sz rows) d↔.sl m sz rows=d:=by simp [wB]
theorem qVa (k:IntKind) (n:Int) (d:AV):wB (.int k n) d↔.int k n=d:=by simp [wB]
theorem qTd (b:Bool) (d:AV):wB (.bool b) d↔.bool b=d:=by simp [wB]
theorem qV7 (s:ByteArray) (d:AV):wB (.str s) d↔.str s=d:=by simp [wB]
theorem qX5 (k o l:Nat) (d:AV):wB (.ns k o l) d↔.ns k o l=d:=by simp [wB]
theorem qV8 (k o l:Nat) (d:AV):wB (.ptr k o l) d↔.ptr k o l=d:=by simp [wB]
theorem qQ2 (r d:List AV) (rs ds:List (List AV)):kY (r::rs) (d::ds)↔wA r d∧kY rs ds:=by
 simp only [kY,List.cons.injEq]
 exact ⟨fun ⟨_,_,⟨h1,h2⟩,h3,h4⟩=>by subst h1 h2; exact ⟨h3,h4⟩,fun ⟨h3,h4⟩=>⟨_,_,⟨rfl,rfl⟩,h3,h4⟩⟩
theorem qTe:kY [] []↔True:=by simp [kY]
theorem qVs:free []↔True:=by simp [free]
theorem qTy (r:List AV) (rs:List (List AV)):free (r::rs)↔(∀c∈r,qBp c=false)∧free rs:=by simp [free]
structure Ins where
 op:Int
 r:Int
 a:Int
 b:Int
 n:Int
 deriving DecidableEq,Inhabited
def gU (x:Ins):List AV:=[.int .i64 x.op,.int .i64 x.r,.int .i64 x.a,.int .i64 x.b,.int .i64 x.n]
def gO (l:List Ins):List (List AV):=l.map gU
theorem qVn:gO []=[]:=rfl
theorem rF (l:List Ins):(gO l).length=l.length:=by simp [gO]
theorem qOo (l k:List Ins):gO l++gO k=gO (l++k):=by simp [gO]
theorem qK8 (l:List Ins) (n:Nat):(gO l).drop n=gO (l.drop n):=by simp [gO]
theorem qK7 (l:List Ins) (n:Nat):(gO l).take n=gO (l.take n):=by simp [gO]
theorem qVm (l:List Ins) (i:Nat) (op_:Int) (r_:Int) (a_:Int) (b_:Int) (n_:Int):(gO l).set i [.int .i64 op_,.int .i64 r_,.int .i64 a_,.int .i64 b_,.int .i64 n_]=gO (l.set i ⟨op_,r_,a_,b_,n_⟩):=by simp [gO,gU]
theorem zB (l:List Ins) (i:Nat) (h:i<l.length):(gO l).getD i []=[.int .i64 (l.getD i default).op,.int .i64 (l.getD i default).r,.int .i64 (l.getD i default).a,.int .i64 (l.getD i default).b,.int .i64 (l.getD i default).n]:=by simp [gO,gU,List.getD_eq_getElem?_getD,h]
theorem gF (A:Nat→Prop) (l:List Ins):jL A (gO l)↔True:=by
 simp only [iff_true]
 induction l with
 | nil=>trivial
 | cons x l ih=>exact ⟨by simp [gU,jX,bnd,eE,yR],ih⟩
theorem zO (l:List Ins):nbr (gO l)↔True:=by
 simp only [iff_true]
 induction l with
 | nil=>trivial
 | cons x l ih=>exact ⟨by simp [gU,nbs,nb,bX],ih⟩
theorem dU :∀(l:List Ins),bwR (gO l)=gO l
 | []=>rfl
 | x::l=>by
  have:=dU l
  simp only [gO,List.map_cons,bwR] at this⊢
  rw [this]
  simp [gU,bwL,bwC,gH]
theorem qTw (l:List Ins):free (gO l)↔True:=by
 simp only [iff_true]
 intro r hr c hc
 simp only [gO,List.mem_map] at hr
 obtain ⟨x,_,rfl⟩:=hr
 simp [gU] at hc
 rcases hc with rfl | rfl | rfl | rfl | rfl<;>rfl
def uC (m:Mode) (l:List (List Ins)):List (List AV):=l.map fun b=>[.sl m 5 (gO b)]
theorem qHx (m:Mode):uC m []=[]:=rfl
theorem hO (m:Mode) (l:List (List Ins)):(uC m l).length=l.length:=by simp [uC]
theorem qJe (m:Mode) (l k:List (List Ins)):uC m l++uC m k=uC m (l++k):=by simp [uC]
theorem qEv (m:Mode) (l:List (List Ins)) (n:Nat):(uC m l).drop n=uC m (l.drop n):=by simp [uC]
theorem qEu (m:Mode) (l:List (List Ins)) (n:Nat):(uC m l).take n=uC m (l.take n):=by simp [uC]
theorem qHw (m:Mode) (l:List (List Ins)) (i:Nat) (b_:List Ins):(uC m l).set i [.sl m 5 (gO b_)]=uC m (l.set i b_):=by simp [uC]
theorem dE (m:Mode) (l:List (List Ins)) (i:Nat) (h:i<l.length):(uC m l).getD i []=[.sl m 5 (gO (l.getD i []))]:=by simp [uC,List.getD_eq_getElem?_getD,h]
theorem uK (A:Nat→Prop) (m:Mode) (l:List (List Ins)):jL A (uC m l)↔True:=by
 simp only [iff_true]
 induction l with
 | nil=>trivial
 | cons x l ih=>exact ⟨by simp [jX,bnd,eE,yR,gF],ih⟩
theorem bD (l:List (List Ins)):nbr (uC .own l)↔True:=by
 simp only [iff_true]
 induction l with
 | nil=>trivial
 | cons x l ih=>exact ⟨by simp [nbs,nb,bX,zO],ih⟩
theorem uW (m:Mode) :∀(l:List (List Ins)),bwR (uC m l)=uC .bw l
 | []=>rfl
 | x::l=>by
  have:=uW m l
  simp only [uC,List.map_cons,bwR] at this⊢
  rw [this]
  simp [bwL,bwC,gH,dU]
theorem qP9 (l:List (List Ins)):free (uC .bw l)↔True:=by
 simp only [iff_true]
 intro r hr c hc
 simp only [uC,List.mem_map] at hr
 obtain ⟨x,_,rfl⟩:=hr
 simp [] at hc
 rcases hc with rfl<;>rfl
def aZ (m:Mode) (l:List (List Int)):List (List AV):=l.map fun b=>[.sl m 1 (wK b)]
theorem qTu (m:Mode):aZ m []=[]:=rfl
theorem oH (m:Mode) (l:List (List Int)):(aZ m l).length=l.length:=by simp [aZ]
theorem qM4 (m:Mode) (l k:List (List Int)):aZ m l++aZ m k=aZ m (l++k):=by simp [aZ]
theorem qH5 (m:Mode) (l:List (List Int)) (n:Nat):(aZ m l).drop n=aZ m (l.drop n):=by simp [aZ]
theorem qH4 (m:Mode) (l:List (List Int)) (n:Nat):(aZ m l).take n=aZ m (l.take n):=by simp [aZ]
theorem qTt (m:Mode) (l:List (List Int)) (i:Nat) (b_:List Int):(aZ m l).set i [.sl m 1 (wK b_)]=aZ m (l.set i b_):=by simp [aZ]
theorem bR (A:Nat→Prop) (m:Mode) (l:List (List Int)):jL A (aZ m l)↔True:=by
 simp only [iff_true]
 induction l with
 | nil=>trivial
 | cons x l ih=>exact ⟨by simp [jX,bnd,eE,yR,gF,uK],ih⟩
theorem dM (l:List (List Int)):nbr (aZ .own l)↔True:=by
 simp only [iff_true]
 induction l with
 | nil=>trivial
 | cons x l ih=>exact ⟨by simp [nbs,nb,bX,zO,bD],ih⟩
theorem gN (m:Mode) :∀(l:List (List Int)),bwR (aZ m l)=aZ .bw l
 | []=>rfl
 | x::l=>by
  have:=gN m l
  simp only [aZ,List.map_cons,bwR] at this⊢
  rw [this]
  simp [bwL,bwC,gH,dU,uW]
theorem qQh (l:List (List Int)):free (aZ .bw l)↔True:=by
 simp only [iff_true]
 intro r hr c hc
 simp only [aZ,List.mem_map] at hr
 obtain ⟨x,_,rfl⟩:=hr
 simp [] at hc
 rcases hc with rfl<;>rfl
structure gL where
 cap:Int
 list:List Int
 closed:Bool
 deriving DecidableEq,Inhabited
def qEq (m:Mode) (x:gL):List AV:=[.int .i64 x.cap,.sl m 1 (wK x.list),.bool x.closed]
def wY (m:Mode) (l:List gL):List (List AV):=l.map (qEq m)
theorem qU8 (m:Mode):wY m []=[]:=rfl
theorem oO (m:Mode) (l:List gL):(wY m l).length=l.length:=by simp [wY]
theorem qMh (m:Mode) (l k:List gL):wY m l++wY m k=wY m (l++k):=by simp [wY]
theorem qHn (m:Mode) (l:List gL) (n:Nat):(wY m l).drop n=wY m (l.drop n):=by simp [wY]
theorem qHm (m:Mode) (l:List gL) (n:Nat):(wY m l).take n=wY m (l.take n):=by simp [wY]
theorem qU7 (m:Mode) (l:List gL) (i:Nat) (cap_:Int) (list_:List Int) (closed_:Bool):(wY m l).set i [.int .i64 cap_,.sl m 1 (wK list_),.bool closed_]=wY m (l.set i ⟨cap_,list_,closed_⟩):=by simp [wY,qEq]
theorem gI (A:Nat→Prop) (m:Mode) (l:List gL):jL A (wY m l)↔True:=by
 simp only [iff_true]
 induction l with
 | nil=>trivial
 | cons x l ih=>exact ⟨by simp [qEq,jX,bnd,eE,yR,gF,uK,bR],ih⟩
theorem zQ (l:List gL):nbr (wY .own l)↔True:=by
 simp only [iff_true]
 induction l with
 | nil=>trivial
 | cons x l ih=>exact ⟨by simp [qEq,nbs,nb,bX,zO,bD,dM],ih⟩
theorem dP (m:Mode) :∀(l:List gL),bwR (wY m l)=wY .bw l
 | []=>rfl
 | x::l=>by
  have:=dP m l
  simp only [wY,List.map_cons,bwR] at this⊢
  rw [this]
  simp [qEq,bwL,bwC,gH,dU,uW,gN]
theorem qQv (l:List gL):free (wY .bw l)↔True:=by
 simp only [iff_true]
 intro r hr c hc
 simp only [wY,List.mem_map] at hr
 obtain ⟨x,_,rfl⟩:=hr
 simp [qEq] at hc
 rcases hc with rfl | rfl | rfl<;>rfl
structure xO where
 who:Int
 v:Int
 deriving DecidableEq,Inhabited
def tN (x:xO):List AV:=[.int .i64 x.who,.int .i64 x.v]
def jG (l:List xO):List (List AV):=l.map tN
theorem qT9:jG []=[]:=rfl
theorem nZ (l:List xO):(jG l).length=l.length:=by simp [jG]
theorem wO (l k:List xO):jG l++jG k=jG (l++k):=by simp [jG]
theorem yT (who_:Int) (v_:Int):[[.int .i64 who_,.int .i64 v_]]=jG [⟨who_,v_⟩]:=rfl
theorem qGl (l:List xO) (n:Nat):(jG l).drop n=jG (l.drop n):=by simp [jG]
theorem qGk (l:List xO) (n:Nat):(jG l).take n=jG (l.take n):=by simp [jG]
theorem qT7 (l:List xO) (i:Nat) (who_:Int) (v_:Int):(jG l).set i [.int .i64 who_,.int .i64 v_]=jG (l.set i ⟨who_,v_⟩):=by simp [jG,tN]
theorem oA (l:List xO) (i:Nat) (h:i<l.length):(jG l).getD i []=[.int .i64 (l.getD i default).who,.int .i64 (l.getD i default).v]:=by simp [jG,tN,List.getD_eq_getElem?_getD,h]
theorem dF (A:Nat→Prop) (l:List xO):jL A (jG l)↔True:=by
 simp only [iff_true]
 induction l with
 | nil=>trivial
 | cons x l ih=>exact ⟨by simp [tN,jX,bnd,eE,yR,gF,uK,bR,gI],ih⟩
theorem dJ (l:List xO):nbr (jG l)↔True:=by
 simp only [iff_true]
 induction l with
 | nil=>trivial
 | cons x l ih=>exact ⟨by simp [tN,nbs,nb,bX,zO,bD,dM,zQ],ih⟩
theorem zJ :∀(l:List xO),bwR (jG l)=jG l
 | []=>rfl
 | x::l=>by
  have:=zJ l
  simp only [jG,List.map_cons,bwR] at this⊢
  rw [this]
  simp [tN,bwL,bwC,gH,dU,uW,gN,dP]
theorem qPz (l:List xO):free (jG l)↔True:=by
 simp only [iff_true]
 intro r hr c hc
 simp only [jG,List.mem_map] at hr
 obtain ⟨x,_,rfl⟩:=hr
 simp [tN] at hc
 rcases hc with rfl | rfl<;>rfl
structure jY where
 at_:Int
 regs:List Int
 st:Int
 deriving DecidableEq,Inhabited
def lQ (m:Mode) (x:jY):List AV:=[.int .i64 x.at_,.sl m 1 (wK x.regs),.int .i64 x.st]
def vZ (m:Mode) (l:List jY):List (List AV):=l.map (lQ m)
theorem qN6 (m:Mode):vZ m []=[]:=rfl
theorem kO (m:Mode) (l:List jY):(vZ m l).length=l.length:=by simp [vZ]
theorem qFq (m:Mode) (l k:List jY):vZ m l++vZ m k=vZ m (l++k):=by simp [vZ]
theorem qAr (m:Mode) (l:List jY) (n:Nat):(vZ m l).drop n=vZ m (l.drop n):=by simp [vZ]
theorem qAq (m:Mode) (l:List jY) (n:Nat):(vZ m l).take n=vZ m (l.take n):=by simp [vZ]
theorem qN5 (m:Mode) (l:List jY) (i:Nat) (at__:Int) (regs_:List Int) (st_:Int):(vZ m l).set i [.int .i64 at__,.sl m 1 (wK regs_),.int .i64 st_]=vZ m (l.set i ⟨at__,regs_,st_⟩):=by simp [vZ,lQ]
theorem bE (A:Nat→Prop) (m:Mode) (l:List jY):jL A (vZ m l)↔True:=by
 simp only [iff_true]
 induction l with
 | nil=>trivial
 | cons x l ih=>exact ⟨by simp [lQ,jX,bnd,eE,yR,gF,uK,bR,gI,dF],ih⟩
theorem gK (l:List jY):nbr (vZ .own l)↔True:=by
 simp only [iff_true]
 induction l with
 | nil=>trivial
 | cons x l ih=>exact ⟨by simp [lQ,nbs,nb,bX,zO,bD,dM,zQ,dJ],ih⟩
theorem bP (m:Mode) :∀(l:List jY),bwR (vZ m l)=vZ .bw l
 | []=>rfl
 | x::l=>by
  have:=bP m l
  simp only [vZ,List.map_cons,bwR] at this⊢
  rw [this]
  simp [lQ,bwL,bwC,gH,dU,uW,gN,dP,zJ]
theorem qL4 (l:List jY):free (vZ .bw l)↔True:=by
 simp only [iff_true]
 intro r hr c hc
 simp only [vZ,List.mem_map] at hr
 obtain ⟨x,_,rfl⟩:=hr
 simp [lQ] at hc
 rcases hc with rfl | rfl | rfl<;>rfl
structure qI4 where
 sent:List Int
 taken:List Int
 deriving DecidableEq,Inhabited
def qDv (m:Mode) (x:qI4):List AV:=[.sl m 1 (wK x.sent),.sl m 1 (wK x.taken)]
def aX (m:Mode) (l:List qI4):List (List AV):=l.map (qDv m)
theorem qSh (m:Mode):aX m []=[]:=rfl
theorem nN (m:Mode) (l:List qI4):(aX m l).length=l.length:=by simp [aX]
theorem qL1 (m:Mode) (l k:List qI4):aX m l++aX m k=aX m (l++k):=by simp [aX]
theorem qFm (m:Mode) (l:List qI4) (n:Nat):(aX m l).drop n=aX m (l.drop n):=by simp [aX]
theorem qFl (m:Mode) (l:List qI4) (n:Nat):(aX m l).take n=aX m (l.take n):=by simp [aX]
theorem qSg (m:Mode) (l:List qI4) (i:Nat) (sent_:List Int) (taken_:List Int):(aX m l).set i [.sl m 1 (wK sent_),.sl m 1 (wK taken_)]=aX m (l.set i ⟨sent_,taken_⟩):=by simp [aX,qDv]
theorem xE (A:Nat→Prop) (m:Mode) (l:List qI4):jL A (aX m l)↔True:=by
 simp only [iff_true]
 induction l with
 | nil=>trivial
 | cons x l ih=>exact ⟨by simp [qDv,jX,bnd,eE,yR,gF,uK,bR,gI,dF,bE],ih⟩
theorem eC (l:List qI4):nbr (aX .own l)↔True:=by
 simp only [iff_true]
 induction l with
 | nil=>trivial
 | cons x l ih=>exact ⟨by simp [qDv,nbs,nb,bX,zO,bD,dM,zQ,dJ,gK],ih⟩
theorem aH (m:Mode) :∀(l:List qI4),bwR (aX m l)=aX .bw l
 | []=>rfl
 | x::l=>by
  have:=aH m l
  simp only [aX,List.map_cons,bwR] at this⊢
  rw [this]
  simp [qDv,bwL,bwC,gH,dU,uW,gN,dP,zJ,bP]
theorem qPm (l:List qI4):free (aX .bw l)↔True:=by
 simp only [iff_true]
 intro r hr c hc
 simp only [aX,List.mem_map] at hr
 obtain ⟨x,_,rfl⟩:=hr
 simp [qDv] at hc
 rcases hc with rfl | rfl<;>rfl
structure wV where
 caps:List Int
 bods:List (List Ins)
 deriving DecidableEq,Inhabited
def vC (m:Mode) (x:wV):List AV:=[.sl m 1 (wK x.caps),.sl m 1 (uC m x.bods)]
def aY (m:Mode) (l:List wV):List (List AV):=l.map (vC m)
theorem qT0 (m:Mode):aY m []=[]:=rfl
theorem nV (m:Mode) (l:List wV):(aY m l).length=l.length:=by simp [aY]
theorem qLl (m:Mode) (l k:List wV):aY m l++aY m k=aY m (l++k):=by simp [aY]
theorem qGb (m:Mode) (l:List wV) (n:Nat):(aY m l).drop n=aY m (l.drop n):=by simp [aY]
theorem qGa (m:Mode) (l:List wV) (n:Nat):(aY m l).take n=aY m (l.take n):=by simp [aY]
theorem qSz (m:Mode) (l:List wV) (i:Nat) (caps_:List Int) (bods_:List (List Ins)):(aY m l).set i [.sl m 1 (wK caps_),.sl m 1 (uC m bods_)]=aY m (l.set i ⟨caps_,bods_⟩):=by simp [aY,vC]
theorem aQ (A:Nat→Prop) (m:Mode) (l:List wV):jL A (aY m l)↔True:=by
 simp only [iff_true]
 induction l with
 | nil=>trivial
 | cons x l ih=>exact ⟨by simp [vC,jX,bnd,eE,yR,gF,uK,bR,gI,dF,bE,xE],ih⟩
theorem eX (l:List wV):nbr (aY .own l)↔True:=by
 simp only [iff_true]
 induction l with
 | nil=>trivial
 | cons x l ih=>exact ⟨by simp [vC,nbs,nb,bX,zO,bD,dM,zQ,dJ,gK,eC],ih⟩
theorem eD (m:Mode) :∀(l:List wV),bwR (aY m l)=aY .bw l
 | []=>rfl
 | x::l=>by
  have:=eD m l
  simp only [aY,List.map_cons,bwR] at this⊢
  rw [this]
  simp [vC,bwL,bwC,gH,dU,uW,gN,dP,zJ,bP,aH]
theorem qPv (l:List wV):free (aY .bw l)↔True:=by
 simp only [iff_true]
 intro r hr c hc
 simp only [aY,List.mem_map] at hr
 obtain ⟨x,_,rfl⟩:=hr
 simp [vC] at hc
 rcases hc with rfl | rfl<;>rfl
structure wS where
 ths:List jY
 chs:List gL
 tr:List xO
 deriving DecidableEq,Inhabited
def lR (m:Mode) (x:wS):List AV:=[.sl m 3 (vZ m x.ths),.sl m 3 (wY m x.chs),.sl m 2 (jG x.tr)]
def uX (m:Mode) (l:List wS):List (List AV):=l.map (lR m)
theorem qNf (m:Mode):uX m []=[]:=rfl
theorem kQ (m:Mode) (l:List wS):(uX m l).length=l.length:=by simp [uX]
theorem qFy (m:Mode) (l k:List wS):uX m l++uX m k=uX m (l++k):=by simp [uX]
theorem qAy (m:Mode) (l:List wS) (n:Nat):(uX m l).drop n=uX m (l.drop n):=by simp [uX]
theorem qAx (m:Mode) (l:List wS) (n:Nat):(uX m l).take n=uX m (l.take n):=by simp [uX]
theorem qNe (m:Mode) (l:List wS) (i:Nat) (ths_:List jY) (chs_:List gL) (tr_:List xO):(uX m l).set i [.sl m 3 (vZ m ths_),.sl m 3 (wY m chs_),.sl m 2 (jG tr_)]=uX m (l.set i ⟨ths_,chs_,tr_⟩):=by simp [uX,lR]
theorem zG (A:Nat→Prop) (m:Mode) (l:List wS):jL A (uX m l)↔True:=by
 simp only [iff_true]
 induction l with
 | nil=>trivial
 | cons x l ih=>exact ⟨by simp [lR,jX,bnd,eE,yR,gF,uK,bR,gI,dF,bE,xE,aQ],ih⟩
theorem aB (l:List wS):nbr (uX .own l)↔True:=by
 simp only [iff_true]
 induction l with
 | nil=>trivial
 | cons x l ih=>exact ⟨by simp [lR,nbs,nb,bX,zO,bD,dM,zQ,dJ,gK,eC,eX],ih⟩
theorem zR (m:Mode) :∀(l:List wS),bwR (uX m l)=uX .bw l
 | []=>rfl
 | x::l=>by
  have:=zR m l
  simp only [uX,List.map_cons,bwR] at this⊢
  rw [this]
  simp [lR,bwL,bwC,gH,dU,uW,gN,dP,zJ,bP,aH,eD]
theorem qL8 (l:List wS):free (uX .bw l)↔True:=by
 simp only [iff_true]
 intro r hr c hc
 simp only [uX,List.mem_map] at hr
 obtain ⟨x,_,rfl⟩:=hr
 simp [lR] at hc
 rcases hc with rfl | rfl | rfl<;>rfl
def bys (l:List Int):List (List AV):=l.map fun b=>[.int .u8 b]
theorem qXg:bys []=[]:=rfl
theorem qAi (l:List Int):(bys l).length=l.length:=by simp [bys]
theorem qR1 (l k:List Int):bys l++bys k=bys (l++k):=by simp [bys]
theorem qP6 (l:List Int) (n:Nat):(bys l).drop n=bys (l.drop n):=by simp [bys]
theorem qP4 (l:List Int) (n:Nat):(bys l).take n=bys (l.take n):=by simp [bys]
theorem qXf (l:List Int) (i:Nat) (b_:Int):(bys l).set i [.int .u8 b_]=bys (l.set i b_):=by simp [bys]
theorem qP5 (l:List Int) (i:Nat) (h:i<l.length):(bys l).getD i []=[.int .u8 (l.getD i 0)]:=by simp [bys,List.getD_eq_getElem?_getD,h]
theorem mF (A:Nat→Prop) (l:List Int):jL A (bys l)↔True:=by
 simp only [iff_true]
 induction l with
 | nil=>trivial
 | cons x l ih=>exact ⟨by simp [jX,bnd,eE,yR,gF,uK,bR,gI,dF,bE,xE,aQ,zG],ih⟩
theorem rV (l:List Int):nbr (bys l)↔True:=by
 simp only [iff_true]
 induction l with
 | nil=>trivial
 | cons x l ih=>exact ⟨by simp [nbs,nb,bX,zO,bD,dM,zQ,dJ,gK,eC,eX,aB],ih⟩
theorem oS :∀(l:List Int),bwR (bys l)=bys l
 | []=>rfl
 | x::l=>by
  have:=oS l
  simp only [bys,List.map_cons,bwR] at this⊢
  rw [this]
  simp [bwL,bwC,gH,dU,uW,gN,dP,zJ,bP,aH,eD,zR]
theorem qWd (l:List Int):free (bys l)↔True:=by
 simp only [iff_true]
 intro r hr c hc
 simp only [bys,List.mem_map] at hr
 obtain ⟨x,_,rfl⟩:=hr
 simp [] at hc
 rcases hc with rfl<;>rfl
structure Cur where
 i:Nat
 h:Int
 deriving Inhabited
def xV (code:List Int) (c:Cur):List AV:=[.sl .fz 1 (bys code),.int .i64 c.i,.int .i64 c.h]
theorem fS:(∀n,del [] n=[])∧(∀m s h n,del ((m,s)::h) n=if n=m then del h n else (m,s)::del h n)∧(∀n r,put [] n r=[(n,r)])∧(∀m s h n r,put ((m,s)::h) n r=if n=m then (m,r)::h else (m,s)::put h n r)∧(∀{α:Type} (a b:α) (l:List α),(a::l).set 0 b=b::l)∧(∀{α:Type} (a b:α) (l:List α) (n:Nat),(a::l).set (n+1) b=a::l.set n b)∧(∀{α:Type} (a b:α),(if True then a else b)=a)∧(∀{α:Type} (a b:α),(if False then a else b)=b)∧(∀l,(wK l).length=l.length)∧(∀l n,(wK l).take n=wK (l.take n))∧(∀l n,(wK l).drop n=wK (l.drop n))∧(∀o l rows,bV o l rows=if o=0∧rows.length=l then rows else (rows.drop o).take l)∧(∀{α:Type} (a:α) (l:List α),(a::l).length=l.length+1)∧(∀{α:Type},([]:List α).length=0)∧(∀p:Prop,(p∧p)=p)∧(∀p:Prop,(p∧True)=p)∧(∀p:Prop,(True∧p)=p)∧(∀l,(gO l).length=l.length)∧(∀m l,(uC m l).length=l.length)∧(∀m l,(aZ m l).length=l.length)∧(∀m l,(wY m l).length=l.length)∧(∀l,(jG l).length=l.length)∧(∀m l,(vZ m l).length=l.length)∧(∀m l,(aX m l).length=l.length)∧(∀m l,(aY m l).length=l.length)∧(∀m l,(uX m l).length=l.length)∧(∀l,(bys l).length=l.length)∧(∀{α:Type} (a b:List α),(a++b).length=a.length+b.length)∧(∀{α:Type} (n:Nat) (a:α),(List.replicate n a).length=n)∧(∀{α:Type} (l:List α) (n:Nat) (a:α),(l.set n a).length=l.length):=by
 refine ⟨?_,?_,?_,?_,?_,?_,?_,?_,?_,?_,?_,?_,?_,?_,?_,?_,?_,?_,?_,?_,?_,?_,?_,?_,?_,?_,?_,?_,?_,?_⟩<;>intros<;>simp [del,put,bV,iD,rF,hO,oH,oO,nZ,kO,nN,nV,kQ,qAi]
attribute [go_sem] iL vF qXq qXs qSb qW1 qXt qVz qXr qW5 qSa qW6 qW0 wW qRz qK1 Arg.ev wH gM qX1 if_false if_true zW put del iD qDl Option.map_some Option.bind_some qU Int.toNat_natCast qXu qVy qW2 dY true_and and_true qO8 qO6 qO7 qEt qCb Bool.false_eq_true cP cellsOf jN List.isEmpty_nil List.isEmpty_cons fresh List.map_nil List.map_cons List.cons_append List.nil_append dI List.take_zero List.drop_zero List.take_succ_cons List.getD_cons_zero List.length_cons List.length_nil List.drop_succ_cons List.drop_nil List.append_nil List.all_cons List.all_nil jD Bool.and_self Nat.zero_add qW3 qW4 qVx qS9 qS8 qS6 qS7 qW7 qXp qHd qOw qKg qPu qPw qI3 uF uH eQ qKs iV yX apart List.filter_nil List.filter_cons Option.isSome_some Option.isSome_none List.contains_nil List.contains_cons List.forall_mem_cons List.mem_cons List.not_mem_nil false_implies implies_true forall_const forall_eq_or_imp forall_eq or_false beq_self_eq_true Bool.or_false Bool.false_or Bool.true_or Bool.or_true Bool.not_true Bool.not_false xv xo xg xr xi xz List.set_set qGt qEl qKe qKf qBy sS qKd qDd mY eqC hD qEd List.replicate_zero decide_true decide_false qOm qO0 List.replicate_succ Int.toNat_zero Int.toNat_one eq_self Bool.and_true Bool.true_and Bool.and_false Bool.false_and List.set_cons_zero List.set_cons_succ List.getD_cons_succ rnm ixm jK xU yG vP cond_true cond_false sP sO qC0 rF qOo qK8 qK7 qVm gU hO qJe qEv qEu qHw oH qM4 qH5 qH4 qTt oO qMh qHn qHm qU7 qEq nZ wO qGl qGk qT7 tN kO qFq qAr qAq qN5 lQ nN qL1 qFm qFl qSg qDv nV qLl qGb qGa qSz vC kQ qFy qAy qAx qNe lR qAi qR1 qP6 qP4 qXf
attribute [simp] kB bwT bwC bwL gH sO wH Arg.ev dN qAj tV qHt eE qD1 sI yR okV okL nb nbs nbr bX qU iD bnd jX jL jK xU ixm rnm apart iV uF uH fresh yG vP gX qI1 dC lD vI del qBp bV sP qC0 shp okB pX qK6 qTf qVc qVb qV6 qQ1 qV9 qX3 qVa qTd qV7 qX5 qV8 qQ2 qTe qVs qTy qVn dU gF zO rF qK7 qK8 qTw qHx uW uK bD hO qEu qEv qP9 qTu gN bR dM oH qH4 qH5 qQh qU8 dP gI zQ oO qHm qHn qQv qT9 zJ dF dJ nZ qGk qGl qPz qN6 bP bE gK kO qAq qAr qL4 qSh aH xE eC nN qFl qFm qPm qT0 eD aQ eX nV qGa qGb qPv qNf zR zG aB kQ qAx qAy qL8 qXg oS mF rV qAi qP4 qP6 qWd xV gU qEq tN lQ qDv vC lR
theorem wD {rs:List tG} {fp:FP} {v:AV} {s:AS} {t:List (Nat×AV)} {h:wZ} {nx:Nat} (hs:Sub s (.mk t h nx)) (h1:qI1 (rs.map fun r=>(gX t h r).2)∧(dC h (rs.map fun r=>(gX t h r).1)).2.2∧wA (dC h (rs.map fun r=>(gX t h r).1)).1 [v]∧∀x∈fp,qU (dC h (rs.map fun r=>(gX t h r).1)).2.1 x.1=qU (vI fp) x.1):Fin rs fp v s :=
 ⟨_,hs,yJ h1⟩
theorem wN {rs:List tG} {fp:FP} {vs:List AV} {s:AS} {t:List (Nat×AV)} {h:wZ} {nx:Nat} (h0:vs.length≠1) (hs:Sub s (.mk t h nx)) (h1:qI1 (rs.map fun r=>(gX t h r).2)∧(dC h (rs.map fun r=>(gX t h r).1)).2.2∧wA (dC h (rs.map fun r=>(gX t h r).1)).1 vs∧∀x∈fp,qU (dC h (rs.map fun r=>(gX t h r).1)).2.1 x.1=qU (vI fp) x.1):Fin rs fp (.tup vs) s :=
 ⟨_,hs,vT h0 h1⟩
theorem xM {P:Program} {num:Nat→Nat} {fin:AS→Prop} {op:MOp} {dst:Option Nat} {k:List It} {s:AS} {t:List (Nat×AV)} {h:wZ} {nx:Nat} (hs:Sub s (.mk t h nx)) (h1:rT P num fin op dst k (.mk t h nx)):rT P num fin op dst k s:=qUd hs h1
theorem K {p q:Prop} (k:q) (h:p:=by first | omega | (simp [-List.getD_eq_getElem?_getD]; first | done | omega)):p∧q:=⟨h,k⟩
theorem CA {P:Program} {num:Nat→Nat} {fin:AS→Prop} {f nx:Nat} {ps:List Bool} {xs:List Arg} {t:List (Nat×AV)} {h:wZ} {fp:FP} {res:AV} {vargs:List AV} {dst:Option Nat} {k:List It} (σ:List (Nat×Nat)) (hc:qZ P num f vargs fp res)
  (hk:vc P num fin k (.mk (gM t dst (yG nx (jK (rnm σ) res)).1) (zW h (fp.map (fun x=>(rnm σ x.1,x.2))++fresh (yG nx (jK (rnm σ) res)).2.1)) (yG nx (jK (rnm σ) res)).2.2))
  (hv:wA (kB (ixm σ) h ps (xs.map (Arg.ev (wH t)))) vargs:=by first | omega | (simp [wA,wB]; done) | (simp [wA,wB, *]; done))
  (hvo:dN h (fun n =>∃x∈fp,x.2.1≠none∧n=rnm σ x.1∧ixm σ n=x.1) (fun n =>∃x∈fp,n=rnm σ x.1) ps (xs.map (Arg.ev (wH t))):=by first | omega | (simp [wA,wB]; done) | (simp [wA,wB, *]; done))
  (hnd:(fp.map (fun x=>rnm σ x.1)).Nodup:=by first | (simp [wA,wB]; done) | (simp [wA,wB, *]; done))
  (hpre :∀x∈fp,qU h (rnm σ x.1)=x.2.1∧(x.2.1=none→nx≤rnm σ x.1)∧rnm σ x.1<nx:=by first | (simp [wA,wB]; done) | (simp [wA,wB, *]; done))
  (hnb :∀x∈fp,(∀r,x.2.1=some r→nbr r.2)∧(∀r,x.2.2=some r→nbr r.2):=by first | (simp [wA,wB]; done) | (simp [wA,wB, *]; done))
  (hres:okV (fun k =>∃x∈fp,x.1=k∧x.2.2≠none) res:=by first | (simp [wA,wB]; done) | (simp [wA,wB, *]; done)):rT P num fin (.call f ps xs) dst k (.mk t h nx) :=
 mE (qHr σ hc hv hvo hnd hpre hnb hres) hk
theorem DA {P:Program} {num:Nat→Nat} {fin:AS→Prop} {f nx:Nat} {ps:List Bool} {xs:List Arg} {t:List (Nat×AV)} {h:wZ} {fp:FP} {res:AV} {vargs:List AV} {pend:List (Nat×List Nat)} {dst:Option Nat} {tr:bC} {k:List It} (σ:List (Nat×Nat)) (hc:qZ P num f vargs fp res)
  (hk:vc P num fin (.draw tr pend::k) (.mk (gM t dst (yG nx (jK (rnm σ) res)).1) (zW h (fp.map (fun x=>(rnm σ x.1,x.2))++fresh (yG nx (jK (rnm σ) res)).2.1)) (yG nx (jK (rnm σ) res)).2.2))
  (hv:wA (kB (ixm σ) h ps (xs.map (Arg.ev (wH t)))) vargs:=by first | omega | (simp [wA,wB]; done) | (simp [wA,wB, *]; done))
  (hvo:dN h (fun n =>∃x∈fp,x.2.1≠none∧n=rnm σ x.1∧ixm σ n=x.1) (fun n =>∃x∈fp,n=rnm σ x.1) ps (xs.map (Arg.ev (wH t))):=by first | omega | (simp [wA,wB]; done) | (simp [wA,wB, *]; done))
  (hnd:(fp.map (fun x=>rnm σ x.1)).Nodup:=by first | (simp [wA,wB]; done) | (simp [wA,wB, *]; done))
  (hpre :∀x∈fp,qU h (rnm σ x.1)=x.2.1∧(x.2.1=none→nx≤rnm σ x.1)∧rnm σ x.1<nx:=by first | (simp [wA,wB]; done) | (simp [wA,wB, *]; done))
  (hnb :∀x∈fp,(∀r,x.2.1=some r→nbr r.2)∧(∀r,x.2.2=some r→nbr r.2):=by first | (simp [wA,wB]; done) | (simp [wA,wB, *]; done))
  (hres:okV (fun k =>∃x∈fp,x.1=k∧x.2.2≠none) res:=by first | (simp [wA,wB]; done) | (simp [wA,wB, *]; done))
  (ha:apart pend (fp.map (fun x=>(rnm σ x.1,x.2))++fresh (yG nx (jK (rnm σ) res)).2.1):=by first | (simp [wA,wB]; done) | (simp [wA,wB, *]; done)):qOx P num fin (.call f ps xs) pend dst tr k t h nx :=
 mB (qHr σ hc hv hvo hnd hpre hnb hres) ha hk
def qGu (k:Int) (n:Nat):List Int:=(List.range n).map fun (i:Nat)=>k+i
@[simp] theorem qXa (k:Int) (n:Nat):(qGu k n).length=n:=by simp [qGu]
@[simp] theorem qY6 (k:Int) (n:Nat):(qGu k n).take n=qGu k n:=List.take_of_length_le (by simp)
theorem xY (xs:List Int) (hx:8*xs.length≤2^47):qZ Tryz.prog num 36 [.sl .bw 1 (wK xs)] [] (.sl .own 1 (wK xs)):=by
 refine EN m36 Tryz.func143 ?_
 unfold m36
 simp only [go_sem,seval]
 repeat refine K ?_
 refine fz ?_; simp [wJ,wA,wB,qY,-List.drop_one]
def qO (n lo hi:Int):Bool:=decide (lo≤n)&&decide (n≤hi)
theorem qM {n lo hi:Int}:qO n lo hi=true↔lo≤n∧n≤hi:=by simp [qO]
def vQ (b:Bool):Int:=if b then 1 else 0
theorem yO (n lo hi:Int):qZ Tryz.prog num 59 [.int .i64 n,.int .i64 lo,.int .i64 hi] [] (.bool (qO n lo hi)):=by
 refine EN m59 Tryz.func91 ?_
 unfold m59
 by_cases h1:lo≤n<;>by_cases h2:n≤hi<;>(simp only [go_sem,seval,h1,h2]; refine fz ?_; simp [wJ,wA,wB,qY,-List.drop_one]; simp [qO,h1,h2])
theorem jA (n lo hi:Int):qZ Tryz.prog num 64 [.int .i64 n,.int .i64 lo,.int .i64 hi] [] (.bool (qO n lo hi)):=by
 refine EN m64 Tryz.func69 ?_
 unfold m64
 by_cases h1:lo≤n<;>by_cases h2:n≤hi<;>(simp only [go_sem,seval,h1,h2]; refine fz ?_; simp [wJ,wA,wB,qY,-List.drop_one]; simp [qO,h1,h2])
theorem qD0 (b:Bool):qZ Tryz.prog num 78 [.bool b] [] (.int .i64 (vQ b)):=by
 refine EN m78 Tryz.func175 ?_
 unfold m78
 cases b<;>(simp only [go_sem,seval]; refine fz ?_; simp [wJ,wA,wB,qY,-List.drop_one]; simp [vQ])
theorem lB (b:Bool):qZ Tryz.prog num 85 [.bool b] [] (.int .i64 (vQ b)):=by
 refine EN m85 Tryz.func104 ?_
 unfold m85
 cases b<;>(simp only [go_sem,seval]; refine fz ?_; simp [wJ,wA,wB,qY,-List.drop_one]; simp [vQ])
theorem qOl (n:Int):qZ Tryz.prog num 97 [.int .i64 n] [] (.bool (qO n 0 3)):=by
 refine EN m97 Tryz.func216 ?_
 unfold m97
 simp only [go_sem,seval]
 refine CA [] (yO n 0 3) ?_
 try simp only [go_sem,seval]
 refine fz ?_; simp [wJ,wA,wB,qY,-List.drop_one]
theorem qJy (n:Int):qZ Tryz.prog num 44 [.int .i64 n] [] (.bool (qO n 5 9)):=by
 refine EN m44 Tryz.func199 ?_
 unfold m44
 simp only [go_sem,seval]
 refine CA [] (yO n 5 9) ?_
 try simp only [go_sem,seval]
 refine fz ?_; simp [wJ,wA,wB,qY,-List.drop_one]
theorem qMe (l:List xO) (hx:16*l.length≤2^47):qZ Tryz.prog num 69 [.sl .bw 2 (jG l)] [] (.sl .own 2 (jG l)):=by
 refine EN m69 Tryz.func142 ?_
 unfold m69
 simp only [go_sem,seval]
 repeat refine K ?_
 refine fz ?_; simp [wJ,wA,wB,qY,-List.drop_one]
def dQ (c:gL):Bool:=qO c.cap 1 4&&decide ((c.list.length:Int)≤c.cap)
def vN (x:Ins) (pl ch:Int):Bool :=
 qO x.r 0 3&&qO x.a 0 3&&qO x.b 0 3&&qO ch 0 3 &&
 (if x.op=1 then qO x.n (-1000000000) 1000000000&&decide (x.a=0)&&decide (x.b=0)
  else if x.op=2∨x.op=3∨x.op=4 then decide (x.n=0)
  else if x.op=5 then qO x.n 0 (ch-1)&&decide (x.r=0)&&decide (x.b=0)
  else if x.op=6∨x.op=8 then qO x.n 0 (ch-1)&&decide (x.a=0)&&!decide (x.r=x.b)
  else if x.op=7 then qO x.n 0 (ch-1)&&decide (x.b=0)
  else if x.op=9 then qO x.n 0 (ch-1)&&decide (x.r=0)&&decide (x.a=0)&&decide (x.b=0)
  else if x.op=10 then decide (x.r=0)&&decide (x.b=0)&&decide (x.n=0)
  else if x.op=11 then decide (0≤x.n)&&decide (x.n<pl)&&decide (x.r=0)&&decide (x.a=0)&&decide (x.b=0)
  else if x.op=12 then decide (0≤x.n)&&decide (x.n<pl)&&decide (x.r=0)&&decide (x.b=0)
  else if x.op=13 then decide (x.op=13)&&(decide (x.r=0)&&(decide (x.a=0)&&(decide (x.b=0)&&decide (x.n=0))))
  else false)
def qE4 (x:Ins):Ins :=
 if x.op=1 then ⟨x.op,x.r,0,0,x.n⟩
 else if x.op=2∨x.op=3∨x.op=4 then ⟨x.op,x.r,x.a,x.b,0⟩
 else if x.op=5∨x.op=12 then ⟨x.op,0,x.a,0,x.n⟩
 else if x.op=6∨x.op=8 then ⟨x.op,x.r,0,x.b,x.n⟩
 else if x.op=7 then ⟨x.op,x.r,x.a,0,x.n⟩
 else if x.op=9∨x.op=11 then ⟨x.op,0,0,0,x.n⟩
 else if x.op=10 then ⟨x.op,0,x.a,0,0⟩
 else ⟨x.op,0,0,0,0⟩
def rH (x:Ins) (pl ch:Int):Bool :=
 qO ch 0 3&&qO x.op 1 13&&(decide (x.op=(qE4 x).op)&&(decide (x.r=(qE4 x).r)&&(decide (x.a=(qE4 x).a)&&(decide (x.b=(qE4 x).b)&&decide (x.n=(qE4 x).n))))) &&
 qO x.r 0 3&&qO x.a 0 3&&qO x.b 0 3 &&
 (if x.op=1 then qO x.n (-1000000000) 1000000000
  else if x.op=11∨x.op=12 then qO x.n 0 (pl-1)
  else if (x.op=6∨x.op=8)∧x.r=x.b then false
  else !qO x.op 5 9||qO x.n 0 (ch-1))
theorem qO2 (x:Ins):qZ Tryz.prog num 96 [.agg (gU x)] [] (.agg (gU (qE4 x))):=by
 refine EN m96 Tryz.func215 ?_
 unfold m96
 repeat' (first
  | (simp only [go_sem,seval])
  | (refine qS (fun hc=>?_) (fun hc=>?_)<;>((try simp only [Bool.not_eq_true',Bool.not_eq_false',ne_eq,Bool.not_eq_true,Bool.not_eq_false] at hc)<;>(try simp only [hc])))
  | (refine dA (fun hc=>?_) (fun hc=>?_)<;>((try simp only [Bool.not_eq_true',Bool.not_eq_false',ne_eq,Bool.not_eq_true,Bool.not_eq_false] at hc)<;>(try simp only [hc])))
  | (refine bY (fun hc=>?_) (fun hc=>?_)<;>((try simp only [Bool.not_eq_true',Bool.not_eq_false',ne_eq,Bool.not_eq_true,Bool.not_eq_false] at hc)<;>(try simp only [hc])))
  | (refine ⟨by first | omega | (simp; done),?_⟩)
  | fail)
 all_goals (refine fz ?_; simp [wJ,wA,wB,qY,-List.drop_one])
 all_goals (try (simp_all [qE4]; done))
theorem fG (n lo hi:Int):qO n lo hi=decide (lo≤n∧n≤hi):=by simp [qO]
theorem sQ (x:Ins) (pl ch:Int):rH x pl ch=vN x pl ch:=by
 obtain ⟨op,r,a,b,n⟩:=x
 by_cases h:1≤op∧op≤13
 ·obtain rfl | rfl | rfl | rfl | rfl | rfl | rfl | rfl | rfl | rfl | rfl | rfl | rfl:op=1∨op=2∨op=3∨op=4∨op=5∨op=6∨op=7∨op=8∨op=9∨op=10∨op=11∨op=12∨op=13:=by omega
  all_goals (rw [Bool.eq_iff_iff]; simp [rH,vN,qE4,fG]; try omega)
 ·have h1 :¬op=1:=by omega
  have h2 :¬op=2:=by omega
  have h3 :¬op=3:=by omega
  have h4 :¬op=4:=by omega
  have h5 :¬op=5:=by omega
  have h6 :¬op=6:=by omega
  have h7 :¬op=7:=by omega
  have h8 :¬op=8:=by omega
  have h9 :¬op=9:=by omega
  have h10 :¬op=10:=by omega
  have h11 :¬op=11:=by omega
  have h12 :¬op=12:=by omega
  have h13 :¬op=13:=by omega
  have hw:qO op 1 13=false:=by rw [fG]; simp; omega
  simp [rH,vN,hw,h1,h2,h3,h4,h5,h6,h7,h8,h9,h10,h11,h12,h13]
end Go.Sep
