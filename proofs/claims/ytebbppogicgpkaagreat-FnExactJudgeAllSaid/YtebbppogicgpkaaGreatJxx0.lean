/- Contracts of functions. -/
import Derived.Test.YtebbppogicgpkaaGreatJzFns
open Bool renaming not_eq_false → qYo, not_eq_false' → qYm, not_eq_true → qYn, not_eq_true' → qYl
open List renaming drop_one → qYj, getD_cons_succ → qYh, getD_eq_getElem?_getD → qWw, map_cons → qWr, replicate → qWo, replicate_succ → qXc, set_cons_succ → qYg, set_cons_zero → qYf, take_length → qYk, take_succ_eq_append_getElem → qYi
namespace Go.Sep
set_option maxHeartbeats 16000000
open Go.Proofs
set_option linter.unusedSimpArgs false
set_option linter.unusedVariables false
set_option maxRecDepth 100000
open Nat renaming reduceAdd → qA, reduceMul → qB, reduceEqDiff → qC, reduceBEq → qD
open Int renaming reduceToNat → qE, reduceEq → qF, reduceLT → qG, reduceLE → qH
def m5:MFn:=⟨22,[.t 2],kr [xo 2 (.mv (.c (.nil)))] (kr [xv 5 0,xe 6 5,xo 7 (.mkS [xz] 8 (.t 6) (.t 6)),xv 3 7] (.seq (kr [xI 4 0] (.blk 0 (.loop (.seq (kr [xv 8 4,xv 9 0,xe 10 9,bT 11 .lss 8 10] (kX 11 0)) (.seq (.blk 1 (xr [xv 14 3,xv 15 4,xv 16 0,xv 17 4,xD 18 1 16 17,xl 19 18,xD 20 1 14 15,xS 1 20 19])) (xr [xv 12 4,bI 13 .add 12 1,xv 4 13])))))) (kR [xv 21 3,xv 2 21])))⟩
def m8:MFn:=⟨26,[.t 4],kr [xF 4] (.seq (kr [xv 6 0,xe 7 6,xv 8 1,xe 9 8,bT 10 .neq 7 9] (kF 10 [xF 4])) (.seq (kr [xI 5 0] (.blk 0 (.loop (.seq (kr [xv 11 5,xv 12 0,xe 13 12,bT 14 .lss 11 13] (kX 14 0)) (.seq (.blk 1 (.seq (.dreg (.take 0 (xv 17 0) (.take 1 (xv 18 5) (.take 2 (xD 19 1 17 18) (.take 3 (xl 20 19) (.take 4 (xv 21 1) (.only 5 [] (xv 22 5) (.only 6 [4] (xD 23 1 21 22) (.only 7 [6,4] (xl 24 23) (.only 8 [3,7,2,6,0,1,4] (bT 25 .neq 20 24) (.done))))))))))) (kF 25 [xF 4]))) (xr [xv 15 5,bI 16 .add 15 1,xv 5 16])))))) (kR [xT 4])))⟩
def m35:MFn:=⟨12,[.t 4],kr [xI 4 0] (kr [xv 5 1,xv 6 0,xe 7 6,bT 8 .sub 5 7,xv 1 8] (.seq (kr [xv 9 1,bI 10 .lss 9 0] (kF 10 [xo 4 (.mv (.c (.int .i64 (-1))))])) (kR [xv 11 1,xv 4 11])))⟩
def m36:MFn:=⟨6,[.t 2],kr [xo 2 (.mv (.c (.nil)))] (kR [xo 3 (.mkSl [xz] 0 []),xv 4 0,xA 5 1 8 3 4,xv 2 5])⟩
def m44:MFn:=⟨5,[.t 2],kr [xF 2] (kR [xv 3 0,xc3 4 59 (.t 3) (xi 5) (xi 9),xv 2 4])⟩
def m59:MFn:=⟨15,[.t 6],kr [xF 6] (kR [xv 7 0,xv 8 1,bT 9 .geq 7 8,xv 10 9,yv 11 0 10,yv 12 2 10,xg 13 (.bin .leq (.t 11) (.t 12)) 10 true,xP 14 10 13,xv 6 14])⟩
def m64:MFn:=⟨15,[.t 6],kr [xF 6] (kR [xv 7 0,xv 8 1,bT 9 .geq 7 8,xv 10 9,yv 11 0 10,yv 12 2 10,xg 13 (.bin .leq (.t 11) (.t 12)) 10 true,xP 14 10 13,xv 6 14])⟩
def m69:MFn:=⟨6,[.t 2],kr [xo 2 (.mv (.c (.nil)))] (kR [xo 3 (.mkSl [xz,xz] 0 []),xv 4 0,xA 5 2 16 3 4,xv 2 5])⟩
def m70:MFn:=⟨8,[.cell 2 3 true],kr [xb 1 0,xo 2 (.alloc [.int .i64 0,.nil,.bool false])] (kr [xa 3 1 1,xl 4 3,xc1 5 36 (.t 4),xa 6 1 1,xS 1 6 5] (kR [xm 7 3 1,xS 3 2 7]))⟩
def m72:MFn:=⟨14,[.t 2],kr [xb 1 0,xF 2] (kR [xa 3 0 1,xl 4 3,xc3 5 59 (.t 4) (xi 1) (xi 4),xv 6 5,ya 7 1 1 6,yl 8 1 7 6,ye 9 8 6,ya 10 0 1 6,yl 11 1 10 6,xg 12 (.bin .leq (.t 9) (.t 11)) 6 true,xP 13 6 12,xv 2 13])⟩
def m78:MFn:=⟨4,[.t 2],kr [xI 2 0] (.seq (kr [xv 3 0] (kF 3 [xI 2 1])) (kR [xI 2 0]))⟩
def m83:MFn:=⟨14,[.t 2],kr [xb 1 0,xF 2] (kR [xa 3 0 1,xl 4 3,xc3 5 64 (.t 4) (xi 1) (xi 4),xv 6 5,ya 7 1 1 6,yl 8 1 7 6,ye 9 8 6,ya 10 0 1 6,yl 11 1 10 6,xg 12 (.bin .leq (.t 9) (.t 11)) 6 true,xP 13 6 12,xv 2 13])⟩
def m84:MFn:=⟨12,[.cell 2 3 true],kr [xb 1 0,xo 2 (.alloc [.int .i64 0,.nil,.bool false])] (.seq (.dreg (.take 0 (xa 3 0 1) (.take 1 (xl 4 3) (.take 3 (xa 6 1 1) (.take 4 (xl 7 6) (.take 6 (xa 9 2 1) (.take 7 (xl 10 9) (.only 2 [] (xo 5 (.mkSl [xz] 0 [])) (.only 5 [4,3] (xA 8 1 8 5 7) (.only 8 [1,5,7,0,4,6,3] (xo 11 (.build [.int .i64 0,.nil,.bool false] [(0,1,.t 4),(1,1,.t 8),(2,1,.t 10)])) (.only 9 [0,1,3,4,6,7] (xS 3 2 11) (.done)))))))))))) (.ret))⟩
def m85:MFn:=⟨4,[.t 2],kr [xI 2 0] (.seq (kr [xv 3 0] (kF 3 [xI 2 1])) (kR [xI 2 0]))⟩
def m96:MFn:=⟨74,[.cell 2 5 true],kr [xb 1 0,xo 2 (.alloc [xz,xz,xz,xz,xz])] (kr [xa 4 0 1,xl 5 4,xo 6 (.build [xz,xz,xz,xz,xz] [(0,1,.t 5)]),xo 3 (.alloc [xz,xz,xz,xz,xz]),xS 5 3 6] (.seq (kr [xa 7 0 1,xl 8 7] (.blk 0 (kr [bI 10 .eql 8 1,xv 9 10] (.cond 9 (.dreg (.take 0 (xa 11 1 1) (.take 1 (xl 12 11) (.take 2 (xa 13 4 1) (.take 3 (xl 14 13) (.only 4 [0,1] (xa 15 1 3) (.only 5 [0,1] (xS 1 15 12) (.only 6 [0,1,2,3] (xa 16 4 3) (.only 7 [0,1,2,3] (xS 1 16 14) (.done)))))))))) (.seq (kr [bI 18 .eql 8 2,xv 17 18] (.cond 17 (.skip) (kr [bI 19 .eql 8 3,xv 17 19] (.cond 17 (.skip) (xr [bI 20 .eql 8 4,xv 17 20]))))) (.cond 17 (.dreg (.take 0 (xa 21 1 1) (.take 1 (xl 22 21) (.take 2 (xa 23 2 1) (.take 3 (xl 24 23) (.take 4 (xa 25 3 1) (.take 5 (xl 26 25) (.only 6 [0,1] (xa 27 1 3) (.only 7 [0,1] (xS 1 27 22) (.only 8 [0,1,2,3] (xa 28 2 3) (.only 9 [0,1,2,3] (xS 1 28 24) (.only 10 [0,1,2,3,4,5] (xa 29 3 3) (.only 11 [0,1,2,3,4,5] (xS 1 29 26) (.done)))))))))))))) (.seq (kr [bI 31 .eql 8 5,xv 30 31] (.cond 30 (.skip) (xr [bI 32 .eql 8 12,xv 30 32]))) (.cond 30 (.dreg (.take 0 (xa 33 2 1) (.take 1 (xl 34 33) (.take 2 (xa 35 4 1) (.take 3 (xl 36 35) (.only 4 [0,1] (xa 37 2 3) (.only 5 [0,1] (xS 1 37 34) (.only 6 [0,1,2,3] (xa 38 4 3) (.only 7 [0,1,2,3] (xS 1 38 36) (.done)))))))))) (.seq (kr [bI 40 .eql 8 6,xv 39 40] (.cond 39 (.skip) (xr [bI 41 .eql 8 8,xv 39 41]))) (.cond 39 (.dreg (.take 0 (xa 42 1 1) (.take 1 (xl 43 42) (.take 2 (xa 44 3 1) (.take 3 (xl 45 44) (.take 4 (xa 46 4 1) (.take 5 (xl 47 46) (.only 6 [0,1] (xa 48 1 3) (.only 7 [0,1] (xS 1 48 43) (.only 8 [0,1,2,3] (xa 49 3 3) (.only 9 [0,1,2,3] (xS 1 49 45) (.only 10 [0,1,2,3,4,5] (xa 50 4 3) (.only 11 [0,1,2,3,4,5] (xS 1 50 47) (.done)))))))))))))) (kr [bI 52 .eql 8 7,xv 51 52] (.cond 51 (.dreg (.take 0 (xa 53 1 1) (.take 1 (xl 54 53) (.take 2 (xa 55 2 1) (.take 3 (xl 56 55) (.take 4 (xa 57 4 1) (.take 5 (xl 58 57) (.only 6 [0,1] (xa 59 1 3) (.only 7 [0,1] (xS 1 59 54) (.only 8 [0,1,2,3] (xa 60 2 3) (.only 9 [0,1,2,3] (xS 1 60 56) (.only 10 [0,1,2,3,4,5] (xa 61 4 3) (.only 11 [0,1,2,3,4,5] (xS 1 61 58) (.done)))))))))))))) (.seq (kr [bI 63 .eql 8 9,xv 62 63] (.cond 62 (.skip) (xr [bI 64 .eql 8 11,xv 62 64]))) (.cond 62 (xr [xa 65 4 1,xl 66 65,xa 67 4 3,xS 1 67 66]) (kr [bI 69 .eql 8 10,xv 68 69] (.cond 68 (xr [xa 70 2 1,xl 71 70,xa 72 2 3,xS 1 72 71]) (.skip))))))))))))))))) (kR [xm 73 5 3,xS 5 2 73])))⟩
def m97:MFn:=⟨5,[.t 2],kr [xF 2] (kR [xv 3 0,xc3 4 59 (.t 3) (xi 0) (xi 3),xv 2 4])⟩
attribute [local go_sem] kN vU qVb qVd qQh qTw qVe qTu qVc qU0 qQg qU1 qTv yA qQ6 qJm Arg.ev wO dO qUq if_false if_true xW put del iZ qE5 Option.map_some Option.bind_some wE Int.toNat_natCast qVf qTt qTx zY true_and and_true qMt qMr qMs qEv qCn Bool.false_eq_true fO cellsOf jY List.isEmpty_nil List.isEmpty_cons fresh List.map_nil qWr List.cons_append List.nil_append zH List.take_zero List.drop_zero List.take_succ_cons List.getD_cons_zero List.length_cons List.length_nil List.drop_succ_cons List.drop_nil List.append_nil List.all_cons List.all_nil jM Bool.and_self Nat.zero_add qTy qTz qTs qQf qQe qQc qQd qU2 qVa qHg qNe qJx qOa qOb qI2 bA bC cI qKb kV jC apart List.filter_nil List.filter_cons Option.isSome_some Option.isSome_none List.contains_nil List.contains_cons List.forall_mem_cons List.mem_cons List.not_mem_nil false_implies implies_true forall_const forall_eq_or_imp forall_eq or_false beq_self_eq_true Bool.or_false Bool.false_or Bool.true_or Bool.or_true Bool.not_true Bool.not_false xv xo xg xr xi xz List.set_set qGv qEq qJv qJw qCf tP qJu qDz nX eqC iV qEm List.replicate_zero decide_true decide_false qH5 qMk qXc Int.toNat_zero Int.toNat_one eq_self Bool.and_true Bool.true_and Bool.and_false Bool.false_and qYf qYg qYh rnm ixm vM cY yG uJ cond_true cond_false tL tK qCg
attribute [local simp] kC bwT bwC bwL dU tK wO Arg.ev dP qB4 qAf qHu eM qDg tF yZ okV okL nb nbs nbr dF wE iZ bnd vI jS vM cY ixm rnm apart kV bA bC fresh yG uJ dX qI0 zB mD uC del qC4 aS tL qCg shp okB qMg qJr
theorem yO {rs:List tX} {fp:FP} {vs:List AV} {t:List (Nat×AV)} {h:yB} {nx:Nat} (h0:vs.length≠1) (h1:qI0 (rs.map fun r=>(dX t h r).2)∧(zB h (rs.map fun r=>(dX t h r).1)).2.2∧qQ (zB h (rs.map fun r=>(dX t h r).1)).1 vs∧∀x∈fp,wE (zB h (rs.map fun r=>(dX t h r).1)).2.1 x.1=wE (uC fp) x.1):qX rs fp (.tup vs) (.mk t h nx):=by
 refine ⟨h1.1,h1.2.1,⟨vs,h1.2.2.1,?_⟩,h1.2.2.2⟩
 match vs,h0 with
 | [],_=>rfl
 | [_],h0=>exact absurd rfl h0
 | _::_::_,_=>rfl
theorem yR {rs:List tX} {fp:FP} {v:AV} {t:List (Nat×AV)} {h:yB} {nx:Nat} (h1:qI0 (rs.map fun r=>(dX t h r).2)∧(zB h (rs.map fun r=>(dX t h r).1)).2.2∧qQ (zB h (rs.map fun r=>(dX t h r).1)).1 [v]∧∀x∈fp,wE (zB h (rs.map fun r=>(dX t h r).1)).2.1 x.1=wE (uC fp) x.1):qX rs fp v (.mk t h nx) :=
 ⟨h1.1,h1.2.1,⟨[v],h1.2.2.1,rfl⟩,h1.2.2.2⟩
theorem qRj (c d:AV) (cs ds:List AV):qQ (c::cs) (d::ds)↔qR c d∧qQ cs ds:=by
 simp only [qQ,List.cons.injEq]
 exact ⟨fun ⟨_,_,⟨h1,h2⟩,h3,h4⟩=>by subst h1 h2; exact ⟨h3,h4⟩,fun ⟨h3,h4⟩=>⟨_,_,⟨rfl,rfl⟩,h3,h4⟩⟩
theorem qT7:qQ [] []↔True:=by simp [qQ]
theorem qT6 (cs ds:List AV):qR (.agg cs) (.agg ds)↔qQ cs ds:=by simp [qR]
theorem qOe (m:Mode) (sz:Nat):qR .nil (.sl m sz [])↔True:=by simp [qR]
theorem qT4:qR .nil .nil↔True:=by simp [qR]
theorem qUr (m:Mode) (sz:Nat) (rows:List (List AV)) (d:AV):qR (.sl m sz rows) d↔.sl m sz rows=d:=by simp [qR]
theorem qT5 (k:IntKind) (n:Int) (d:AV):qR (.int k n) d↔.int k n=d:=by simp [qR]
theorem qRi (b:Bool) (d:AV):qR (.bool b) d↔.bool b=d:=by simp [qR]
theorem qUt (k o l:Nat) (d:AV):qR (.ns k o l) d↔.ns k o l=d:=by simp [qR]
theorem lX (r d:List AV) (rs ds:List (List AV)):aT (r::rs) (d::ds)↔qQ r d∧aT rs ds:=by
 simp only [aT,List.cons.injEq]
 exact ⟨fun ⟨_,_,⟨h1,h2⟩,h3,h4⟩=>by subst h1 h2; exact ⟨h3,h4⟩,fun ⟨h3,h4⟩=>⟨_,_,⟨rfl,rfl⟩,h3,h4⟩⟩
theorem qJk:aT [] []↔True:=by simp [aT]
theorem qTo:free []↔True:=by simp [free]
theorem qRw (r:List AV) (rs:List (List AV)):free (r::rs)↔(∀c∈r,qC4 c=false)∧free rs:=by simp [free]
structure Ins where
 op:Int
 r:Int
 a:Int
 b:Int
 n:Int
 deriving DecidableEq,Inhabited
def cJ (x:Ins):List AV:=[.int .i64 x.op,.int .i64 x.r,.int .i64 x.a,.int .i64 x.b,.int .i64 x.n]
def aA (l:List Ins):List (List AV):=l.map cJ
theorem qTm:aA []=[]:=rfl
theorem sI (l:List Ins):(aA l).length=l.length:=by simp [aA]
theorem qTl (n:Nat) (op_:Int) (r_:Int) (a_:Int) (b_:Int) (n_:Int):List.replicate n [.int .i64 op_,.int .i64 r_,.int .i64 a_,.int .i64 b_,.int .i64 n_]=aA (List.replicate n ⟨op_,r_,a_,b_,n_⟩):=by simp [aA,cJ]
theorem qTk (l:List Ins) (i:Nat) (op_:Int) (r_:Int) (a_:Int) (b_:Int) (n_:Int):(aA l).set i [.int .i64 op_,.int .i64 r_,.int .i64 a_,.int .i64 b_,.int .i64 n_]=aA (l.set i ⟨op_,r_,a_,b_,n_⟩):=by simp [aA,cJ]
theorem uW (l:List Ins) (i:Nat) (h:i<l.length):(aA l).getD i []=[.int .i64 (l.getD i default).op,.int .i64 (l.getD i default).r,.int .i64 (l.getD i default).a,.int .i64 (l.getD i default).b,.int .i64 (l.getD i default).n]:=by simp [aA,cJ,List.getD_eq_getElem?_getD,h]
theorem dI (A:Nat→Prop) (l:List Ins):jS A (aA l)↔True:=by
 simp only [iff_true]
 induction l with
 | nil=>trivial
 | cons x l ih=>exact ⟨by simp [cJ,vI,bnd,eM,yZ],ih⟩
theorem xM (l:List Ins):nbr (aA l)↔True:=by
 simp only [iff_true]
 induction l with
 | nil=>trivial
 | cons x l ih=>exact ⟨by simp [cJ,nbs,nb,dF],ih⟩
theorem xO :∀(l:List Ins),bwR (aA l)=aA l
 | []=>rfl
 | x::l=>by
  have:=xO l
  simp only [aA,qWr,bwR] at this⊢
  rw [this]
  simp [cJ,bwL,bwC,dU]
theorem qRu (l:List Ins):free (aA l)↔True:=by
 simp only [iff_true]
 intro r hr c hc
 simp only [aA,List.mem_map] at hr
 obtain ⟨x,_,rfl⟩:=hr
 simp [cJ] at hc
 rcases hc with rfl | rfl | rfl | rfl | rfl<;>rfl
def uX (m:Mode) (l:List (List Ins)):List (List AV):=l.map fun b=>[.sl m 5 (aA b)]
theorem qP9 (m:Mode):uX m []=[]:=rfl
theorem nS (m:Mode) (l:List (List Ins)):(uX m l).length=l.length:=by simp [uX]
theorem qEw (m:Mode) (l:List (List Ins)) (n:Nat):(uX m l).take n=uX m (l.take n):=by simp [uX]
theorem qHx (m:Mode) (l:List (List Ins)) (i:Nat) (b_:List Ins):(uX m l).set i [.sl m 5 (aA b_)]=uX m (l.set i b_):=by simp [uX]
theorem qZ (m:Mode) (l:List (List Ins)) (i:Nat) (h:i<l.length):(uX m l).getD i []=[.sl m 5 (aA (l.getD i []))]:=by simp [uX,List.getD_eq_getElem?_getD,h]
theorem bE (A:Nat→Prop) (m:Mode) (l:List (List Ins)):jS A (uX m l)↔True:=by
 simp only [iff_true]
 induction l with
 | nil=>trivial
 | cons x l ih=>exact ⟨by simp [vI,bnd,eM,yZ,dI],ih⟩
theorem gL (l:List (List Ins)):nbr (uX .own l)↔True:=by
 simp only [iff_true]
 induction l with
 | nil=>trivial
 | cons x l ih=>exact ⟨by simp [nbs,nb,dF,xM],ih⟩
theorem gM (m:Mode) :∀(l:List (List Ins)),bwR (uX m l)=uX .bw l
 | []=>rfl
 | x::l=>by
  have:=gM m l
  simp only [uX,qWr,bwR] at this⊢
  rw [this]
  simp [bwL,bwC,dU,xO]
def qC6 (m:Mode) (l:List (List Int)):List (List AV):=l.map fun b=>[.sl m 1 (wQ b)]
theorem qRt (m:Mode):qC6 m []=[]:=rfl
theorem pR (m:Mode) (l:List (List Int)):(qC6 m l).length=l.length:=by simp [qC6]
theorem gX (A:Nat→Prop) (m:Mode) (l:List (List Int)):jS A (qC6 m l)↔True:=by
 simp only [iff_true]
 induction l with
 | nil=>trivial
 | cons x l ih=>exact ⟨by simp [vI,bnd,eM,yZ,dI,bE],ih⟩
theorem zL (l:List (List Int)):nbr (qC6 .own l)↔True:=by
 simp only [iff_true]
 induction l with
 | nil=>trivial
 | cons x l ih=>exact ⟨by simp [nbs,nb,dF,xM,gL],ih⟩
theorem zM (m:Mode) :∀(l:List (List Int)),bwR (qC6 m l)=qC6 .bw l
 | []=>rfl
 | x::l=>by
  have:=zM m l
  simp only [qC6,qWr,bwR] at this⊢
  rw [this]
  simp [bwL,bwC,dU,xO,gM]
structure bR where
 cap:Int
 list:List Int
 closed:Bool
 deriving DecidableEq,Inhabited
def bK (m:Mode) (x:bR):List AV:=[.int .i64 x.cap,.sl m 1 (wQ x.list),.bool x.closed]
def bJ (m:Mode) (l:List bR):List (List AV):=l.map (bK m)
theorem qS7 (m:Mode):bJ m []=[]:=rfl
theorem hU (m:Mode) (l:List bR):(bJ m l).length=l.length:=by simp [bJ]
theorem lC (m:Mode) (l k:List bR):bJ m l++bJ m k=bJ m (l++k):=by simp [bJ]
theorem qHm (m:Mode) (l:List bR) (n:Nat):(bJ m l).take n=bJ m (l.take n):=by simp [bJ]
theorem jD (m:Mode) (l:List bR) (i:Nat) (cap_:Int) (list_:List Int) (closed_:Bool):(bJ m l).set i [.int .i64 cap_,.sl m 1 (wQ list_),.bool closed_]=bJ m (l.set i ⟨cap_,list_,closed_⟩):=by simp [bJ,bK]
theorem uT (m:Mode) (l:List bR) (i:Nat) (h:i<l.length):(bJ m l).getD i []=[.int .i64 (l.getD i default).cap,.sl m 1 (wQ (l.getD i default).list),.bool (l.getD i default).closed]:=by simp [bJ,bK,List.getD_eq_getElem?_getD,h]
theorem dJ (A:Nat→Prop) (m:Mode) (l:List bR):jS A (bJ m l)↔True:=by
 simp only [iff_true]
 induction l with
 | nil=>trivial
 | cons x l ih=>exact ⟨by simp [bK,vI,bnd,eM,yZ,dI,bE,gX],ih⟩
theorem xU (l:List bR):nbr (bJ .own l)↔True:=by
 simp only [iff_true]
 induction l with
 | nil=>trivial
 | cons x l ih=>exact ⟨by simp [bK,nbs,nb,dF,xM,gL,zL],ih⟩
theorem xV (m:Mode) :∀(l:List bR),bwR (bJ m l)=bJ .bw l
 | []=>rfl
 | x::l=>by
  have:=xV m l
  simp only [bJ,qWr,bwR] at this⊢
  rw [this]
  simp [bK,bwL,bwC,dU,xO,gM,zM]
structure aH where
 who:Int
 v:Int
 deriving DecidableEq,Inhabited
def qEj (x:aH):List AV:=[.int .i64 x.who,.int .i64 x.v]
def jW (l:List aH):List (List AV):=l.map qEj
theorem qRf:jW []=[]:=rfl
theorem pJ (l:List aH):(jW l).length=l.length:=by simp [jW]
theorem wR (l k:List aH):jW l++jW k=jW (l++k):=by simp [jW]
theorem yP (who_:Int) (v_:Int):[[.int .i64 who_,.int .i64 v_]]=jW [⟨who_,v_⟩]:=rfl
theorem qGj (l:List aH) (n:Nat):(jW l).take n=jW (l.take n):=by simp [jW]
theorem cZ (l:List aH) (i:Nat) (h:i<l.length):(jW l).getD i []=[.int .i64 (l.getD i default).who,.int .i64 (l.getD i default).v]:=by simp [jW,qEj,List.getD_eq_getElem?_getD,h]
theorem zF (A:Nat→Prop) (l:List aH):jS A (jW l)↔True:=by
 simp only [iff_true]
 induction l with
 | nil=>trivial
 | cons x l ih=>exact ⟨by simp [qEj,vI,bnd,eM,yZ,dI,bE,gX,dJ],ih⟩
theorem zJ (l:List aH):nbr (jW l)↔True:=by
 simp only [iff_true]
 induction l with
 | nil=>trivial
 | cons x l ih=>exact ⟨by simp [qEj,nbs,nb,dF,xM,gL,zL,xU],ih⟩
theorem aF :∀(l:List aH),bwR (jW l)=jW l
 | []=>rfl
 | x::l=>by
  have:=aF l
  simp only [jW,qWr,bwR] at this⊢
  rw [this]
  simp [qEj,bwL,bwC,dU,xO,gM,zM,xV]
theorem qOd (l:List aH):free (jW l)↔True:=by
 simp only [iff_true]
 intro r hr c hc
 simp only [jW,List.mem_map] at hr
 obtain ⟨x,_,rfl⟩:=hr
 simp [qEj] at hc
 rcases hc with rfl | rfl<;>rfl
structure jX where
 at_:Int
 regs:List Int
 st:Int
 deriving DecidableEq,Inhabited
def iO (m:Mode) (x:jX):List AV:=[.int .i64 x.at_,.sl m 1 (wQ x.regs),.int .i64 x.st]
def yS (m:Mode) (l:List jX):List (List AV):=l.map (iO m)
theorem qLw (m:Mode):yS m []=[]:=rfl
theorem gA (m:Mode) (l:List jX):(yS m l).length=l.length:=by simp [yS]
theorem fQ (m:Mode) (l k:List jX):yS m l++yS m k=yS m (l++k):=by simp [yS]
theorem qBe (m:Mode) (l:List jX) (n:Nat):(yS m l).take n=yS m (l.take n):=by simp [yS]
theorem qS (m:Mode) (l:List jX) (i:Nat) (at__:Int) (regs_:List Int) (st_:Int):(yS m l).set i [.int .i64 at__,.sl m 1 (wQ regs_),.int .i64 st_]=yS m (l.set i ⟨at__,regs_,st_⟩):=by simp [yS,iO]
theorem qT (m:Mode) (l:List jX) (i:Nat) (h:i<l.length):(yS m l).getD i []=[.int .i64 (l.getD i default).at_,.sl m 1 (wQ (l.getD i default).regs),.int .i64 (l.getD i default).st]:=by simp [yS,iO,List.getD_eq_getElem?_getD,h]
theorem gN (A:Nat→Prop) (m:Mode) (l:List jX):jS A (yS m l)↔True:=by
 simp only [iff_true]
 induction l with
 | nil=>trivial
 | cons x l ih=>exact ⟨by simp [iO,vI,bnd,eM,yZ,dI,bE,gX,dJ,zF],ih⟩
theorem dM (l:List jX):nbr (yS .own l)↔True:=by
 simp only [iff_true]
 induction l with
 | nil=>trivial
 | cons x l ih=>exact ⟨by simp [iO,nbs,nb,dF,xM,gL,zL,xU,zJ],ih⟩
theorem dN (m:Mode) :∀(l:List jX),bwR (yS m l)=yS .bw l
 | []=>rfl
 | x::l=>by
  have:=dN m l
  simp only [yS,qWr,bwR] at this⊢
  rw [this]
  simp [iO,bwL,bwC,dU,xO,gM,zM,xV,aF]
structure qSf where
 sent:List Int
 taken:List Int
 deriving DecidableEq,Inhabited
def qJ1 (m:Mode) (x:qSf):List AV:=[.sl m 1 (wQ x.sent),.sl m 1 (wQ x.taken)]
def qBb (m:Mode) (l:List qSf):List (List AV):=l.map (qJ1 m)
theorem qQm (m:Mode):qBb m []=[]:=rfl
theorem oX (m:Mode) (l:List qSf):(qBb m l).length=l.length:=by simp [qBb]
theorem aC (A:Nat→Prop) (m:Mode) (l:List qSf):jS A (qBb m l)↔True:=by
 simp only [iff_true]
 induction l with
 | nil=>trivial
 | cons x l ih=>exact ⟨by simp [qJ1,vI,bnd,eM,yZ,dI,bE,gX,dJ,zF,gN],ih⟩
theorem eI (l:List qSf):nbr (qBb .own l)↔True:=by
 simp only [iff_true]
 induction l with
 | nil=>trivial
 | cons x l ih=>exact ⟨by simp [qJ1,nbs,nb,dF,xM,gL,zL,xU,zJ,dM],ih⟩
theorem eJ (m:Mode) :∀(l:List qSf),bwR (qBb m l)=qBb .bw l
 | []=>rfl
 | x::l=>by
  have:=eJ m l
  simp only [qBb,qWr,bwR] at this⊢
  rw [this]
  simp [qJ1,bwL,bwC,dU,xO,gM,zM,xV,aF,dN]
structure wU where
 caps:List Int
 bods:List (List Ins)
 deriving DecidableEq,Inhabited
def yT (m:Mode) (x:wU):List AV:=[.sl m 1 (wQ x.caps),.sl m 1 (uX m x.bods)]
def qBs (m:Mode) (l:List wU):List (List AV):=l.map (yT m)
theorem qRb (m:Mode):qBs m []=[]:=rfl
theorem pF (m:Mode) (l:List wU):(qBs m l).length=l.length:=by simp [qBs]
theorem eB (A:Nat→Prop) (m:Mode) (l:List wU):jS A (qBs m l)↔True:=by
 simp only [iff_true]
 induction l with
 | nil=>trivial
 | cons x l ih=>exact ⟨by simp [yT,vI,bnd,eM,yZ,dI,bE,gX,dJ,zF,gN,aC],ih⟩
theorem cQ (l:List wU):nbr (qBs .own l)↔True:=by
 simp only [iff_true]
 induction l with
 | nil=>trivial
 | cons x l ih=>exact ⟨by simp [yT,nbs,nb,dF,xM,gL,zL,xU,zJ,dM,eI],ih⟩
theorem cR (m:Mode) :∀(l:List wU),bwR (qBs m l)=qBs .bw l
 | []=>rfl
 | x::l=>by
  have:=cR m l
  simp only [qBs,qWr,bwR] at this⊢
  rw [this]
  simp [yT,bwL,bwC,dU,xO,gM,zM,xV,aF,dN,eJ]
structure wI where
 ths:List jX
 chs:List bR
 tr:List aH
 deriving DecidableEq,Inhabited
def yL (m:Mode) (x:wI):List AV:=[.sl m 3 (yS m x.ths),.sl m 3 (bJ m x.chs),.sl m 2 (jW x.tr)]
def kY (m:Mode) (l:List wI):List (List AV):=l.map (yL m)
theorem qM2 (m:Mode):kY m []=[]:=rfl
theorem lT (m:Mode) (l:List wI):(kY m l).length=l.length:=by simp [kY]
theorem xK (A:Nat→Prop) (m:Mode) (l:List wI):jS A (kY m l)↔True:=by
 simp only [iff_true]
 induction l with
 | nil=>trivial
 | cons x l ih=>exact ⟨by simp [yL,vI,bnd,eM,yZ,dI,bE,gX,dJ,zF,gN,aC,eB],ih⟩
theorem aM (l:List wI):nbr (kY .own l)↔True:=by
 simp only [iff_true]
 induction l with
 | nil=>trivial
 | cons x l ih=>exact ⟨by simp [yL,nbs,nb,dF,xM,gL,zL,xU,zJ,dM,eI,cQ],ih⟩
theorem aN (m:Mode) :∀(l:List wI),bwR (kY m l)=kY .bw l
 | []=>rfl
 | x::l=>by
  have:=aN m l
  simp only [kY,qWr,bwR] at this⊢
  rw [this]
  simp [yL,bwL,bwC,dU,xO,gM,zM,xV,aF,dN,eJ,cR]
def bys (l:List Int):List (List AV):=l.map fun b=>[.int .u8 b]
theorem qV0:bys []=[]:=rfl
theorem qB3 (l:List Int):(bys l).length=l.length:=by simp [bys]
theorem nD (A:Nat→Prop) (l:List Int):jS A (bys l)↔True:=by
 simp only [iff_true]
 induction l with
 | nil=>trivial
 | cons x l ih=>exact ⟨by simp [vI,bnd,eM,yZ,dI,bE,gX,dJ,zF,gN,aC,eB,xK],ih⟩
theorem sT (l:List Int):nbr (bys l)↔True:=by
 simp only [iff_true]
 induction l with
 | nil=>trivial
 | cons x l ih=>exact ⟨by simp [nbs,nb,dF,xM,gL,zL,xU,zJ,dM,eI,cQ,aM],ih⟩
theorem sU :∀(l:List Int),bwR (bys l)=bys l
 | []=>rfl
 | x::l=>by
  have:=sU l
  simp only [bys,qWr,bwR] at this⊢
  rw [this]
  simp [bwL,bwC,dU,xO,gM,zM,xV,aF,dN,eJ,cR,aN]
structure Cur where
 i:Nat
 h:Int
 deriving Inhabited
def qWh (code:List Int) (c:Cur):List AV:=[.sl .fz 1 (bys code),.int .i64 c.i,.int .i64 c.h]
theorem fS:(∀n,del [] n=[])∧(∀m s h n,del ((m,s)::h) n=if n=m then del h n else (m,s)::del h n)∧(∀n r,put [] n r=[(n,r)])∧(∀m s h n r,put ((m,s)::h) n r=if n=m then (m,r)::h else (m,s)::put h n r)∧(∀{α:Type} (a b:α) (l:List α),(a::l).set 0 b=b::l)∧(∀{α:Type} (a b:α) (l:List α) (n:Nat),(a::l).set (n+1) b=a::l.set n b)∧(∀{α:Type} (a b:α),(if True then a else b)=a)∧(∀{α:Type} (a b:α),(if False then a else b)=b)∧(∀l,(wQ l).length=l.length)∧(∀l n,(wQ l).take n=wQ (l.take n))∧(∀l n,(wQ l).drop n=wQ (l.drop n))∧(∀o l rows,aS o l rows=if o=0∧rows.length=l then rows else (rows.drop o).take l)∧(∀{α:Type} (a:α) (l:List α),(a::l).length=l.length+1)∧(∀{α:Type},([]:List α).length=0)∧(∀p:Prop,(p∧p)=p)∧(∀p:Prop,(p∧True)=p)∧(∀p:Prop,(True∧p)=p)∧(∀l,(aA l).length=l.length)∧(∀m l,(uX m l).length=l.length)∧(∀m l,(qC6 m l).length=l.length)∧(∀m l,(bJ m l).length=l.length)∧(∀l,(jW l).length=l.length)∧(∀m l,(yS m l).length=l.length)∧(∀m l,(qBb m l).length=l.length)∧(∀m l,(qBs m l).length=l.length)∧(∀m l,(kY m l).length=l.length)∧(∀l,(bys l).length=l.length)∧(∀{α:Type} (a b:List α),(a++b).length=a.length+b.length)∧(∀{α:Type} (n:Nat) (a:α),(qWo n a).length=n)∧(∀{α:Type} (l:List α) (n:Nat) (a:α),(l.set n a).length=l.length):=by
 refine ⟨?_,?_,?_,?_,?_,?_,?_,?_,?_,?_,?_,?_,?_,?_,?_,?_,?_,?_,?_,?_,?_,?_,?_,?_,?_,?_,?_,?_,?_,?_⟩<;>intros<;>simp [del,put,aS,iZ,sI,nS,pR,hU,pJ,gA,oX,pF,lT,qB3]
attribute [go_sem] kN vU qVb qVd qQh qTw qVe qTu qVc qU0 qQg qU1 qTv yA qQ6 qJm Arg.ev wO dO qUq if_false if_true xW put del iZ qE5 Option.map_some Option.bind_some wE Int.toNat_natCast qVf qTt qTx zY true_and and_true qMt qMr qMs qEv qCn Bool.false_eq_true fO cellsOf jY List.isEmpty_nil List.isEmpty_cons fresh List.map_nil qWr List.cons_append List.nil_append zH List.take_zero List.drop_zero List.take_succ_cons List.getD_cons_zero List.length_cons List.length_nil List.drop_succ_cons List.drop_nil List.append_nil List.all_cons List.all_nil jM Bool.and_self Nat.zero_add qTy qTz qTs qQf qQe qQc qQd qU2 qVa qHg qNe qJx qOa qOb qI2 bA bC cI qKb kV jC apart List.filter_nil List.filter_cons Option.isSome_some Option.isSome_none List.contains_nil List.contains_cons List.forall_mem_cons List.mem_cons List.not_mem_nil false_implies implies_true forall_const forall_eq_or_imp forall_eq or_false beq_self_eq_true Bool.or_false Bool.false_or Bool.true_or Bool.or_true Bool.not_true Bool.not_false xv xo xg xr xi xz List.set_set qGv qEq qJv qJw qCf tP qJu qDz nX eqC iV qEm List.replicate_zero decide_true decide_false qH5 qMk qXc Int.toNat_zero Int.toNat_one eq_self Bool.and_true Bool.true_and Bool.and_false Bool.false_and qYf qYg qYh rnm ixm vM cY yG uJ cond_true cond_false tL tK qCg sI qTk cJ nS qEw qHx pR hU lC qHm jD bK pJ wR qGj qEj gA fQ qBe qS iO oX qJ1 pF yT lT yL qB3
attribute [simp] kC bwT bwC bwL dU tK wO Arg.ev dP qB4 qAf qHu eM qDg tF yZ okV okL nb nbs nbr dF wE iZ bnd vI jS vM cY ixm rnm apart kV bA bC fresh yG uJ dX qI0 zB mD uC del qC4 aS tL qCg shp okB qMg qJr qRj qT7 qT6 qOe qT4 qUr qT5 qRi qUt lX qJk qTo qRw qTm xO dI xM sI qRu qP9 gM bE gL nS qEw qRt zM gX zL pR qS7 xV dJ xU hU qHm qRf aF zF zJ pJ qGj qOd qLw dN gN dM gA qBe qQm eJ aC eI oX qRb cR eB cQ pF qM2 aN xK aM lT qV0 sU nD sT qB3 qWh cJ bK qEj iO qJ1 yT yL
theorem qGm :∀(l:List (List AV)),aT l l
 | []=>by simp [aT]
 | r::l=>(lX r r l l).2 ⟨oG r,qGm l⟩
theorem qJl :∀{a a' b b':List (List AV)},aT a a'→aT b b'→aT (a++b) (a'++b')
 | [],a',b,b',h1,h2=>by
  simp only [aT] at h1
  subst h1
  exact h2
 | r::a,a',b,b',h1,h2=>by
  simp only [aT] at h1
  obtain ⟨d,ds,rfl,h3,h4⟩:=h1
  exact (lX r d _ _).2 ⟨h3,qJl h4 h2⟩
theorem Sub.nilRow (nm:Nat) {t:List (Nat×AV)} {h:yB} {nx sz:Nat} {rows rows':List (List AV)} (hl:wE h nm=some (sz,rows)) (hn:aT rows rows') (hbn:jS (· < nx) rows'):Sub (.mk t h nx) (.mk t (put h nm (sz,rows')) nx):=by
 rintro B a w ⟨h1,h2,hb,hbt,φ,Lf,hl'⟩
 have hlk :∀n,wE (put h nm (sz,rows')) n=if n=nm then some (sz,rows') else wE h n:=fun n=>qGw n
 have hne :∀n,wE (put h nm (sz,rows')) n≠none→wE h n≠none:=fun n hn'=>by
  rw [hlk] at hn'
  split at hn'
  ·rename_i he; rw [he,hl]; simp
  ·exact hn'
 refine ⟨h1,h2,?_,hbt,φ,Lf,⟨hl'.ok.size0,hl'.ok.io0,hl'.ok.fr,hl'.ok.keep0,fun n hn'=>hl'.ok.own0 n (hne n hn'),?_,fun n hn'=>hl'.ok.rh.nodup n (hne n hn'),fun n hn'=>hl'.ok.rh.blk n (hne n hn'),fun n m hn' hm=>hl'.ok.rh.dis n m (hne n hn') (hne m hm),?_⟩,hl'.tm,hl'.φ0,hl'.ten⟩
 ·intro n row hr
  rw [hlk] at hr
  split at hr
  ·rename_i he
   simp only [Option.some.injEq] at hr
   subst hr he
   exact ⟨(hb n _ hl).1,hbn⟩
  ·exact hb n row hr
 ·intro n row hr
  rw [hlk] at hr
  split at hr
  ·rename_i he
   simp only [Option.some.injEq] at hr
   subst hr he
   have:=hl'.ok.rh.row n _ hl
   unfold dA zS at this⊢
   cases hq:(B.env w φ).φ n with
   | dead=>rw [hq] at this; exact this.elim
   | nilp =>
    rw [hq] at this
    simp only at this
    obtain ⟨h3,h4⟩:=this
    rw [h3] at hn
    simp only [aT] at hn
    exact ⟨hn,h4⟩
   | «at» p =>
    rw [hq] at this
    obtain ⟨h3,h4,Lr,h5,h6⟩:=this
    exact ⟨h3,by rw [pK hn]; exact h4,Lr,qGn hn h5,h6⟩
  ·exact hl'.ok.rh.row n row hr
 ·intro n hn'
  rw [hlk] at hn'
  split at hn'
  ·simp at hn'
  ·exact hl'.ok.rh.dead n hn'
theorem Sub.nilLast (nm:Nat) {t:List (Nat×AV)} {h:yB} {nx sz:Nat} {front:List (List AV)} {r r':List AV} (hl:wE h nm=some (sz,front++[r])) (hn:qQ r r') (hbn:jS (· < nx) (front++[r'])):Sub (.mk t h nx) (.mk t (put h nm (sz,front++[r'])) nx) :=
 Sub.nilRow nm hl (qJl (qGm front) ((lX r r' [] []).2 ⟨hn,(qJk).2 trivial⟩)) hbn
theorem wS {rs:List tX} {fp:FP} {v:AV} {s:AS} {t:List (Nat×AV)} {h:yB} {nx:Nat} (hs:Sub s (.mk t h nx)) (h1:qI0 (rs.map fun r=>(dX t h r).2)∧(zB h (rs.map fun r=>(dX t h r).1)).2.2∧qQ (zB h (rs.map fun r=>(dX t h r).1)).1 [v]∧∀x∈fp,wE (zB h (rs.map fun r=>(dX t h r).1)).2.1 x.1=wE (uC fp) x.1):Fin rs fp v s :=
 ⟨_,hs,yR h1⟩
theorem wG {rs:List tX} {fp:FP} {vs:List AV} {s:AS} {t:List (Nat×AV)} {h:yB} {nx:Nat} (h0:vs.length≠1) (hs:Sub s (.mk t h nx)) (h1:qI0 (rs.map fun r=>(dX t h r).2)∧(zB h (rs.map fun r=>(dX t h r).1)).2.2∧qQ (zB h (rs.map fun r=>(dX t h r).1)).1 vs∧∀x∈fp,wE (zB h (rs.map fun r=>(dX t h r).1)).2.1 x.1=wE (uC fp) x.1):Fin rs fp (.tup vs) s :=
 ⟨_,hs,yO h0 h1⟩
theorem uU {P:Program} {num:Nat→Nat} {fin:AS→Prop} {op:MOp} {dst:Option Nat} {k:List It} {s:AS} {t:List (Nat×AV)} {h:yB} {nx:Nat} (hs:Sub s (.mk t h nx)) (h1:oQ P num fin op dst k (.mk t h nx)):oQ P num fin op dst k s:=qS9 hs h1
theorem K {p q:Prop} (k:q) (h:p:=by first | omega | (simp [-List.getD_eq_getElem?_getD]; first | done | omega)):p∧q:=⟨h,k⟩
theorem CA {P:Program} {num:Nat→Nat} {fin:AS→Prop} {f nx:Nat} {ps:List Bool} {xs:List Arg} {t:List (Nat×AV)} {h:yB} {fp:FP} {res:AV} {vargs:List AV} {dst:Option Nat} {k:List It} (σ:List (Nat×Nat)) (hc:qU P num f vargs fp res)
  (hk:vc P num fin k (.mk (dO t dst (yG nx (vM (rnm σ) res)).1) (xW h (fp.map (fun x=>(rnm σ x.1,x.2))++fresh (yG nx (vM (rnm σ) res)).2.1)) (yG nx (vM (rnm σ) res)).2.2))
  (hv:qQ (kC (ixm σ) h ps (xs.map (Arg.ev (wO t)))) vargs:=by first | omega | (simp [qQ,qR]; done) | (simp [qQ,qR, *]; done))
  (hvo:dP h (fun n =>∃x∈fp,x.2.1≠none∧n=rnm σ x.1∧ixm σ n=x.1) (fun n =>∃x∈fp,n=rnm σ x.1) ps (xs.map (Arg.ev (wO t))):=by first | omega | (simp [qQ,qR]; done) | (simp [qQ,qR, *]; done))
  (hnd:(fp.map (fun x=>rnm σ x.1)).Nodup:=by first | (simp [qQ,qR]; done) | (simp [qQ,qR, *]; done))
  (hpre :∀x∈fp,wE h (rnm σ x.1)=x.2.1∧(x.2.1=none→nx≤rnm σ x.1)∧rnm σ x.1<nx:=by first | (simp [qQ,qR]; done) | (simp [qQ,qR, *]; done))
  (hnb :∀x∈fp,(∀r,x.2.1=some r→nbr r.2)∧(∀r,x.2.2=some r→nbr r.2):=by first | (simp [qQ,qR]; done) | (simp [qQ,qR, *]; done))
  (hres:okV (fun k =>∃x∈fp,x.1=k∧x.2.2≠none) res:=by first | (simp [qQ,qR]; done) | (simp [qQ,qR, *]; done)):oQ P num fin (.call f ps xs) dst k (.mk t h nx) :=
 nC (qHs σ hc hv hvo hnd hpre hnb hres) hk
theorem DA {P:Program} {num:Nat→Nat} {fin:AS→Prop} {f nx:Nat} {ps:List Bool} {xs:List Arg} {t:List (Nat×AV)} {h:yB} {fp:FP} {res:AV} {vargs:List AV} {pend:List (Nat×List Nat)} {dst:Option Nat} {tr:gK} {k:List It} (σ:List (Nat×Nat)) (hc:qU P num f vargs fp res)
  (hk:vc P num fin (.draw tr pend::k) (.mk (dO t dst (yG nx (vM (rnm σ) res)).1) (xW h (fp.map (fun x=>(rnm σ x.1,x.2))++fresh (yG nx (vM (rnm σ) res)).2.1)) (yG nx (vM (rnm σ) res)).2.2))
  (hv:qQ (kC (ixm σ) h ps (xs.map (Arg.ev (wO t)))) vargs:=by first | omega | (simp [qQ,qR]; done) | (simp [qQ,qR, *]; done))
  (hvo:dP h (fun n =>∃x∈fp,x.2.1≠none∧n=rnm σ x.1∧ixm σ n=x.1) (fun n =>∃x∈fp,n=rnm σ x.1) ps (xs.map (Arg.ev (wO t))):=by first | omega | (simp [qQ,qR]; done) | (simp [qQ,qR, *]; done))
  (hnd:(fp.map (fun x=>rnm σ x.1)).Nodup:=by first | (simp [qQ,qR]; done) | (simp [qQ,qR, *]; done))
  (hpre :∀x∈fp,wE h (rnm σ x.1)=x.2.1∧(x.2.1=none→nx≤rnm σ x.1)∧rnm σ x.1<nx:=by first | (simp [qQ,qR]; done) | (simp [qQ,qR, *]; done))
  (hnb :∀x∈fp,(∀r,x.2.1=some r→nbr r.2)∧(∀r,x.2.2=some r→nbr r.2):=by first | (simp [qQ,qR]; done) | (simp [qQ,qR, *]; done))
  (hres:okV (fun k =>∃x∈fp,x.1=k∧x.2.2≠none) res:=by first | (simp [qQ,qR]; done) | (simp [qQ,qR, *]; done))
  (ha:apart pend (fp.map (fun x=>(rnm σ x.1,x.2))++fresh (yG nx (vM (rnm σ) res)).2.1):=by first | (simp [qQ,qR]; done) | (simp [qQ,qR, *]; done)):qNf P num fin (.call f ps xs) pend dst tr k t h nx :=
 sR (qHs σ hc hv hvo hnd hpre hnb hres) ha hk
theorem CAV {P:Program} {num:Nat→Nat} {fin:AS→Prop} {f nx:Nat} {y:Arg} {xs:List Arg} {t:List (Nat×AV)} {h:yB} {fp:FP} {res:AV} {vargs:List AV} {dst:Option Nat} {k:List It} (σ:List (Nat×Nat)) (hc:qU P num f vargs fp res)
  (hk:vc P num fin k (.mk (dO t dst (yG nx (vM (rnm σ) res)).1) (xW h (fp.map (fun x=>(rnm σ x.1,x.2))++fresh (yG nx (vM (rnm σ) res)).2.1)) (yG nx (vM (rnm σ) res)).2.2))
  (hy:y.ev (wO t)=.fn f []:=by first | rfl | (simp; done) | (simp [*]; done))
  (hv:qQ (kC (ixm σ) h (xs.map fun _=>false) (xs.map (Arg.ev (wO t)))) vargs:=by first | omega | (simp [qQ,qR]; done) | (simp [qQ,qR, *]; done))
  (hvo:dP h (fun n =>∃x∈fp,x.2.1≠none∧n=rnm σ x.1∧ixm σ n=x.1) (fun n =>∃x∈fp,n=rnm σ x.1) (xs.map fun _=>false) (xs.map (Arg.ev (wO t))):=by first | omega | (simp [qQ,qR]; done) | (simp [qQ,qR, *]; done))
  (hnd:(fp.map (fun x=>rnm σ x.1)).Nodup:=by first | (simp [qQ,qR]; done) | (simp [qQ,qR, *]; done))
  (hpre :∀x∈fp,wE h (rnm σ x.1)=x.2.1∧(x.2.1=none→nx≤rnm σ x.1)∧rnm σ x.1<nx:=by first | (simp [qQ,qR]; done) | (simp [qQ,qR, *]; done))
  (hnb :∀x∈fp,(∀r,x.2.1=some r→nbr r.2)∧(∀r,x.2.2=some r→nbr r.2):=by first | (simp [qQ,qR]; done) | (simp [qQ,qR, *]; done))
  (hres:okV (fun k =>∃x∈fp,x.1=k∧x.2.2≠none) res:=by first | (simp [qQ,qR]; done) | (simp [qQ,qR, *]; done)):oQ P num fin (.calv y xs) dst k (.mk t h nx) :=
 nC (qUy σ hc hv hvo hnd hpre hnb hres (Nat.le_refl _) hy) hk
theorem qQr (xs:List Int) (hx:8*xs.length≤2^47):qU Tryz.prog num 5 [.sl .bw 1 (wQ xs)] [] (.sl .own 1 (wQ xs)):=by
 refine EN m5 Tryz.func112 ?_
 unfold m5
 simp only [go_sem,qA,qB,qC,qD,qE,qF,qG,qH]
 refine ⟨by omega,wB (ι:=Nat) (fun i=>.mk [(0,.sl .bw 1 (wQ xs)),(3,.ns 10 0 xs.length),(4,.int .i64 i)] [(10,1,wQ (xs.take i++qWo (xs.length-i) 0))] 11) (fun i=>i≤xs.length) (fun i=>xs.length-i) 0 (by omega) ?_ ?_⟩
 ·refine Sub.shape [] id (by omega) ?_ ?_ ?_ ?_<;>simp [qN]
 ·intro i hi
  simp only [go_sem,qA,qB,qC,qD,qE,qF,qG,qH]
  refine qM (fun hc=>?_) (fun hc=>?_)
  ·simp only [decide_eq_true_eq] at hc
   have hl:i<xs.length:=by omega
   have hm:(xs.take i++List.replicate (xs.length-i) (0:Int)).length=xs.length:=by simp; omega
   have hs:(xs.take i++qWo (xs.length-i) (0:Int)).set i (xs.getD i 0)=xs.take (i+1)++qWo (xs.length-(i+1)) 0:=by
    have h1:xs.length-i=(xs.length-(i+1))+1:=by omega
    rw [List.set_append_right _ _ (by simp; omega),List.length_take,Nat.min_eq_left hi,Nat.sub_self,h1,qXc,qYf,qYi hl,List.append_assoc]
    congr 1
    simp [qWw,hl]
   have hw:=qW (i:=i) (by omega)
   simp only [go_sem,qA,qB,qC,qD,qE,qF,qG,qH,qI xs i hl,qI _ i (hm▸hl),hm,qH5,hs,hw]
   refine ⟨by omega,by omega,by omega,by omega,qV (i+1) (Sub.shape [] id (by omega) ?_ ?_ ?_ ?_) hl (by omega)⟩<;>simp [qN]
  ·simp only [decide_eq_false_iff_not] at hc
   have:i=xs.length:=by omega
   subst this
   simp only [go_sem,qA,qB,qC,qD,qE,qF,qG,qH]
   refine ⟨_,Sub.refl _,?_⟩
   simp [qX,qQ,qR,qL,-qYj]
theorem qS0 (xs ys:List Int) (hx:xs.length≤2^47):qU Tryz.prog num 8 [.sl .bw 1 (wQ xs),.sl .bw 1 (wQ ys)] [] (.bool (decide (xs=ys))):=by
 refine EN m8 Tryz.func115 ?_
 unfold m8
 simp only [go_sem,qA,qB,qC,qD,qE,qF,qG,qH]
 refine qM (fun hc=>?_) (fun hc=>?_)
 ·have hne:xs≠ys:=fun he=>by subst he; simp at hc
  simp only [go_sem,qA,qB,qC,qD,qE,qF,qG,qH]
  refine ⟨_,Sub.refl _,?_⟩
  simp [qX,qQ,qR,qL,-qYj]
  exact hne
 ·have hl:xs.length=ys.length:=by simp at hc; omega
  simp only [go_sem,qA,qB,qC,qD,qE,qF,qG,qH]
  refine wB (ι:=Nat) (fun i=>.mk [(0,.sl .bw 1 (wQ xs)),(1,.sl .bw 1 (wQ ys)),(5,.int .i64 i)] [] 10) (fun i=>i≤xs.length∧xs.take i=ys.take i) (fun i=>xs.length-i) 0 (by simp) ?_ ?_
  ·refine Sub.shape [] id (by omega) ?_ ?_ ?_ ?_<;>simp [qN]
  ·rintro i ⟨hi,hp⟩
   simp only [go_sem,qA,qB,qC,qD,qE,qF,qG,qH]
   refine qM (fun hc=>?_) (fun hc=>?_)
   ·simp only [decide_eq_true_eq] at hc
    have hil:i<xs.length:=by omega
    have hjl:i<ys.length:=by omega
    simp only [go_sem,qA,qB,qC,qD,qE,qF,qG,qH,qI xs i hil,qI ys i hjl]
    refine ⟨by omega,by omega,by omega,by omega,qM (fun hc=>?_) (fun hc=>?_)⟩
    ·have hne:xs≠ys:=fun he=>by subst he; simp at hc
     simp only [go_sem,qA,qB,qC,qD,qE,qF,qG,qH]
     refine ⟨_,Sub.refl _,?_⟩
     simp [qX,qQ,qR,qL,-qYj]
     exact hne
    ·have hw:=qW (i:=i) (by omega)
     simp only [go_sem,qA,qB,qC,qD,qE,qF,qG,qH,hw]
     have he:xs.getD i 0=ys.getD i 0:=by simpa using hc
     refine qV (i+1) (Sub.shape [] id (by omega) ?_ ?_ ?_ ?_) ⟨hil,?_⟩ (by omega)
     case refine_5 =>
      rw [qYi hil,qYi hjl,hp]
      have he':xs[i]=ys[i]:=by simpa [qWw,hil,hjl] using he
      rw [he']
     all_goals simp [qN]
   ·simp only [decide_eq_false_iff_not] at hc
    have hi':i=xs.length:=by omega
    have he:xs=ys:=by
     rw [hi',qYk,hl,qYk] at hp
     exact hp
    simp only [go_sem,qA,qB,qC,qD,qE,qF,qG,qH]
    refine ⟨_,Sub.refl _,?_⟩
    simp [qX,qQ,qR,qL,-qYj]
    exact he
def szL (k:Nat) (n:Int):Int:=if n-k<0 then -1 else n-k
theorem qQw (xs:List Int) (n:Int) (hx:xs.length<2^63) (h0:0≤n) (h1:n≤2^62):qU Tryz.prog num 35 [.sl .bw 1 (wQ xs),.int .i64 n] [] (.int .i64 (szL xs.length n)):=by
 refine EN m35 Tryz.func108 ?_
 unfold m35
 have hw:IntKind.i64.wrap (n-xs.length)=n-xs.length:=wM (by omega) (by omega)
 simp only [go_sem,seval,hw]
 refine qM (fun hc=>?_) (fun hc=>?_)
 ·simp only [go_sem,seval]
  refine fz ?_; simp [qX,qQ,qR,qL,-qYj]
  simp only [decide_eq_true_eq] at hc
  simp [szL,hc]
 ·simp only [go_sem,seval]
  refine fz ?_; simp [qX,qQ,qR,qL,-qYj]
  simp only [decide_eq_false_iff_not] at hc
  simp [szL,hc]
def qTe (k:Int) (n:Nat):List Int:=(List.range n).map fun (i:Nat)=>k+i
theorem eS (xs:List Int) (hx:8*xs.length≤2^47):qU Tryz.prog num 36 [.sl .bw 1 (wQ xs)] [] (.sl .own 1 (wQ xs)):=by
 refine EN m36 Tryz.func143 ?_
 unfold m36
 simp only [go_sem,seval]
 repeat refine K ?_
 refine fz ?_; simp [qX,qQ,qR,qL,-qYj]
theorem qO1 {k:Nat} {n:Int} (h:0≤n):szL k n≤n:=by unfold szL; split<;>omega
def qO (n lo hi:Int):Bool:=decide (lo≤n)&&decide (n≤hi)
theorem qP {n lo hi:Int}:qO n lo hi=true↔lo≤n∧n≤hi:=by simp [qO]
def uK (b:Bool):Int:=if b then 1 else 0
theorem yD (n lo hi:Int):qU Tryz.prog num 59 [.int .i64 n,.int .i64 lo,.int .i64 hi] [] (.bool (qO n lo hi)):=by
 refine EN m59 Tryz.func91 ?_
 unfold m59
 by_cases h1:lo≤n<;>by_cases h2:n≤hi<;>(simp only [go_sem,seval,h1,h2]; refine fz ?_; simp [qX,qQ,qR,qL,-qYj]; simp [qO,h1,h2])
theorem yM (n lo hi:Int):qU Tryz.prog num 64 [.int .i64 n,.int .i64 lo,.int .i64 hi] [] (.bool (qO n lo hi)):=by
 refine EN m64 Tryz.func69 ?_
 unfold m64
 by_cases h1:lo≤n<;>by_cases h2:n≤hi<;>(simp only [go_sem,seval,h1,h2]; refine fz ?_; simp [qX,qQ,qR,qL,-qYj]; simp [qO,h1,h2])
theorem xC (b:Bool):qU Tryz.prog num 78 [.bool b] [] (.int .i64 (uK b)):=by
 refine EN m78 Tryz.func175 ?_
 unfold m78
 cases b<;>(simp only [go_sem,seval]; refine fz ?_; simp [qX,qQ,qR,qL,-qYj]; simp [uK])
theorem iY (b:Bool):qU Tryz.prog num 85 [.bool b] [] (.int .i64 (uK b)):=by
 refine EN m85 Tryz.func104 ?_
 unfold m85
 cases b<;>(simp only [go_sem,seval]; refine fz ?_; simp [qX,qQ,qR,qL,-qYj]; simp [uK])
theorem qN5 (n:Int):qU Tryz.prog num 97 [.int .i64 n] [] (.bool (qO n 0 3)):=by
 refine EN m97 Tryz.func216 ?_
 unfold m97
 simp only [go_sem,seval]
 refine CA [] (yD n 0 3) ?_
 try simp only [go_sem,seval]
 refine fz ?_; simp [qX,qQ,qR,qL,-qYj]
theorem qDf (n:Int):qU Tryz.prog num 44 [.int .i64 n] [] (.bool (qO n 5 9)):=by
 refine EN m44 Tryz.func199 ?_
 unfold m44
 simp only [go_sem,seval]
 refine CA [] (yD n 5 9) ?_
 try simp only [go_sem,seval]
 refine fz ?_; simp [qX,qQ,qR,qL,-qYj]
theorem qLd (l:List aH) (hx:16*l.length≤2^47):qU Tryz.prog num 69 [.sl .bw 2 (jW l)] [] (.sl .own 2 (jW l)):=by
 refine EN m69 Tryz.func142 ?_
 unfold m69
 simp only [go_sem,seval]
 repeat refine K ?_
 refine fz ?_; simp [qX,qQ,qR,qL,-qYj]
theorem mZ (c:bR) (hx:8*c.list.length≤2^47):qU Tryz.prog num 70 [.agg (bK .bw c)] [] (.agg (bK .own c)):=by
 refine EN m70 Tryz.func144 ?_
 unfold m70
 simp only [go_sem,seval]
 refine CA [] (eS c.list hx) ?_
 try simp only [go_sem,seval]
 refine fz ?_; simp [qX,qQ,qR,qL,-qYj]
theorem tJ (c:bR) (hx:8*c.list.length≤2^47):qU Tryz.prog num 84 [.agg (bK .bw c)] [] (.agg (bK .own c)):=by
 refine EN m84 Tryz.func218 ?_
 unfold m84
 simp only [go_sem,seval]
 repeat refine K ?_
 refine fz ?_; simp [qX,qQ,qR,qL,-qYj]
def vH (c:bR):Bool:=qO c.cap 1 4&&decide ((c.list.length:Int)≤c.cap)
theorem iS (c:bR):qU Tryz.prog num 72 [.agg (bK .bw c)] [] (.bool (vH c)):=by
 refine EN m72 Tryz.func145 ?_
 unfold m72
 simp only [go_sem,seval]
 refine CA [] (yD c.cap 1 4) ?_
 try simp only [go_sem,seval]
 cases h:qO c.cap 1 4
 ·simp only [go_sem,seval,h]
  refine fz ?_; simp [qX,qQ,qR,qL,-qYj]
  simp [vH,h]
 ·simp only [go_sem,seval,h]
  refine fz ?_; simp [qX,qQ,qR,qL,-qYj]
  simp [vH,h]
theorem iP (c:bR):qU Tryz.prog num 83 [.agg (bK .bw c)] [] (.bool (vH c)):=by
 refine EN m83 Tryz.func165 ?_
 unfold m83
 simp only [go_sem,seval]
 refine CA [] (yM c.cap 1 4) ?_
 try simp only [go_sem,seval]
 cases h:qO c.cap 1 4
 ·simp only [go_sem,seval,h]
  refine fz ?_; simp [qX,qQ,qR,qL,-qYj]
  simp [vH,h]
 ·simp only [go_sem,seval,h]
  refine fz ?_; simp [qX,qQ,qR,qL,-qYj]
  simp [vH,h]
def zA (x:Ins) (pl ch:Int):Bool :=
 qO x.r 0 3&&qO x.a 0 3&&qO x.b 0 3&&qO ch 0 3 &&
 (if x.op=1 then qO x.n (-1000000000) 1000000000&&decide (x.a=0)&&decide (x.b=0)
  else if x.op=2∨x.op=3∨x.op=4 then decide (x.n=0)
  else if x.op=5 then qO x.n 0 (ch-1)&&decide (x.r=0)&&decide (x.b=0)
  else if x.op=6∨x.op=8 then qO x.n 0 (ch-1)&&decide (x.a=0)&&!decide (x.r=x.b)
  else if x.op=7 then qO x.n 0 (ch-1)&&decide (x.b=0)
  else if x.op=9 then qO x.n 0 (ch-1)&&decide (x.r=0)&&decide (x.a=0)&&decide (x.b=0)
  else if x.op=10 then decide (x.r=0)&&decide (x.b=0)&&decide (x.n=0)
  else if x.op=11 then decide (0≤x.n)&&decide (x.n<pl)&&decide (x.r=0)&&decide (x.a=0)&&decide (x.b=0)
  else if x.op=12 then decide (0≤x.n)&&decide (x.n<pl)&&decide (x.r=0)&&decide (x.b=0)
  else if x.op=13 then decide (x.op=13)&&(decide (x.r=0)&&(decide (x.a=0)&&(decide (x.b=0)&&decide (x.n=0))))
  else false)
def qEl (x:Ins):Ins :=
 if x.op=1 then ⟨x.op,x.r,0,0,x.n⟩
 else if x.op=2∨x.op=3∨x.op=4 then ⟨x.op,x.r,x.a,x.b,0⟩
 else if x.op=5∨x.op=12 then ⟨x.op,0,x.a,0,x.n⟩
 else if x.op=6∨x.op=8 then ⟨x.op,x.r,0,x.b,x.n⟩
 else if x.op=7 then ⟨x.op,x.r,x.a,0,x.n⟩
 else if x.op=9∨x.op=11 then ⟨x.op,0,0,0,x.n⟩
 else if x.op=10 then ⟨x.op,0,x.a,0,0⟩
 else ⟨x.op,0,0,0,0⟩
def sK (x:Ins) (pl ch:Int):Bool :=
 qO ch 0 3&&qO x.op 1 13&&(decide (x.op=(qEl x).op)&&(decide (x.r=(qEl x).r)&&(decide (x.a=(qEl x).a)&&(decide (x.b=(qEl x).b)&&decide (x.n=(qEl x).n))))) &&
 qO x.r 0 3&&qO x.a 0 3&&qO x.b 0 3 &&
 (if x.op=1 then qO x.n (-1000000000) 1000000000
  else if x.op=11∨x.op=12 then qO x.n 0 (pl-1)
  else if (x.op=6∨x.op=8)∧x.r=x.b then false
  else !qO x.op 5 9||qO x.n 0 (ch-1))
theorem qMl (x:Ins):qU Tryz.prog num 96 [.agg (cJ x)] [] (.agg (cJ (qEl x))):=by
 refine EN m96 Tryz.func215 ?_
 unfold m96
 repeat' (first
  | (simp only [go_sem,seval])
  | (refine qM (fun hc=>?_) (fun hc=>?_)<;>((try simp only [qYl,qYm,ne_eq,qYn,qYo] at hc)<;>(try simp only [hc])))
  | (refine uH (fun hc=>?_) (fun hc=>?_)<;>((try simp only [qYl,qYm,ne_eq,qYn,qYo] at hc)<;>(try simp only [hc])))
  | (refine vP (fun hc=>?_) (fun hc=>?_)<;>((try simp only [qYl,qYm,ne_eq,qYn,qYo] at hc)<;>(try simp only [hc])))
  | (refine ⟨by first | omega | (simp; done),?_⟩)
  | fail)
 all_goals (refine fz ?_; simp [qX,qQ,qR,qL,-qYj])
 all_goals (try (simp_all [qEl]; done))
theorem iB (n lo hi:Int):qO n lo hi=decide (lo≤n∧n≤hi):=by simp [qO]
theorem tM (x:Ins) (pl ch:Int):sK x pl ch=zA x pl ch:=by
 obtain ⟨op,r,a,b,n⟩:=x
 by_cases h:1≤op∧op≤13
 ·obtain rfl | rfl | rfl | rfl | rfl | rfl | rfl | rfl | rfl | rfl | rfl | rfl | rfl:op=1∨op=2∨op=3∨op=4∨op=5∨op=6∨op=7∨op=8∨op=9∨op=10∨op=11∨op=12∨op=13:=by omega
  all_goals (rw [Bool.eq_iff_iff]; simp [sK,zA,qEl,iB]; try omega)
 ·have h1 :¬op=1:=by omega
  have h2 :¬op=2:=by omega
  have h3 :¬op=3:=by omega
  have h4 :¬op=4:=by omega
  have h5 :¬op=5:=by omega
  have h6 :¬op=6:=by omega
  have h7 :¬op=7:=by omega
  have h8 :¬op=8:=by omega
  have h9 :¬op=9:=by omega
  have h10 :¬op=10:=by omega
  have h11 :¬op=11:=by omega
  have h12 :¬op=12:=by omega
  have h13 :¬op=13:=by omega
  have hw:qO op 1 13=false:=by rw [iB]; simp; omega
  simp [sK,zA,hw,h1,h2,h3,h4,h5,h6,h7,h8,h9,h10,h11,h12,h13]
end Go.Sep
