/- Contracts of functions. -/
import Derived.Test.YtfecojefbnnknaaMzFns
open Bool renaming not_eq_false → wEg, not_eq_false' → wEe, not_eq_true → wEf, not_eq_true' → wEd
open List renaming drop_one → wEc, getD_eq_getElem?_getD → wCu, map_cons → wCp, mem_map → wE8
namespace Go.Sep
set_option maxHeartbeats 16000000
open Go.Proofs
set_option linter.unusedSimpArgs false
set_option linter.unusedVariables false
set_option maxRecDepth 100000
def m36:MFn:=⟨6,[.t 2],kr [xo 2 (.mv (.c (.nil)))] (kR [xo 3 (.mkSl [xz] 0 []),xv 4 0,xA 5 1 8 3 4,xv 2 5])⟩
def m44:MFn:=⟨5,[.t 2],kr [xF 2] (kR [xv 3 0,xc3 4 59 (.t 3) (xi 5) (xi 9),xv 2 4])⟩
def m59:MFn:=⟨15,[.t 6],kr [xF 6] (kR [xv 7 0,xv 8 1,bT 9 .geq 7 8,xv 10 9,yv 11 0 10,yv 12 2 10,xg 13 (.bin .leq (.t 11) (.t 12)) 10 true,xP 14 10 13,xv 6 14])⟩
def m69:MFn:=⟨6,[.t 2],kr [xo 2 (.mv (.c (.nil)))] (kR [xo 3 (.mkSl [xz,xz] 0 []),xv 4 0,xA 5 2 16 3 4,xv 2 5])⟩
def m70:MFn:=⟨8,[.cell 2 3 true],kr [xb 1 0,xo 2 (.alloc [.int .i64 0,.nil,.bool false])] (kr [xa 3 1 1,xl 4 3,xc1 5 36 (.t 4),xa 6 1 1,xS 1 6 5] (kR [xm 7 3 1,xS 3 2 7]))⟩
def m72:MFn:=⟨14,[.t 2],kr [xb 1 0,xF 2] (kR [xa 3 0 1,xl 4 3,xc3 5 59 (.t 4) (xi 1) (xi 4),xv 6 5,ya 7 1 1 6,yl 8 1 7 6,ye 9 8 6,ya 10 0 1 6,yl 11 1 10 6,xg 12 (.bin .leq (.t 9) (.t 11)) 6 true,xP 13 6 12,xv 2 13])⟩
def m78:MFn:=⟨4,[.t 2],kr [xI 2 0] (.seq (kr [xv 3 0] (kF 3 [xI 2 1])) (kR [xI 2 0]))⟩
def m96:MFn:=⟨74,[.cell 2 5 true],kr [xb 1 0,xo 2 (.alloc [xz,xz,xz,xz,xz])] (kr [xa 4 0 1,xl 5 4,xo 6 (.build [xz,xz,xz,xz,xz] [(0,1,.t 5)]),xo 3 (.alloc [xz,xz,xz,xz,xz]),xS 5 3 6] (.seq (kr [xa 7 0 1,xl 8 7] (.blk 0 (kr [bI 10 .eql 8 1,xv 9 10] (.cond 9 (.dreg (.take 0 (xa 11 1 1) (.take 1 (xl 12 11) (.take 2 (xa 13 4 1) (.take 3 (xl 14 13) (.only 4 [0,1] (xa 15 1 3) (.only 5 [0,1] (xS 1 15 12) (.only 6 [0,1,2,3] (xa 16 4 3) (.only 7 [0,1,2,3] (xS 1 16 14) (.done)))))))))) (.seq (kr [bI 18 .eql 8 2,xv 17 18] (.cond 17 (.skip) (kr [bI 19 .eql 8 3,xv 17 19] (.cond 17 (.skip) (xr [bI 20 .eql 8 4,xv 17 20]))))) (.cond 17 (.dreg (.take 0 (xa 21 1 1) (.take 1 (xl 22 21) (.take 2 (xa 23 2 1) (.take 3 (xl 24 23) (.take 4 (xa 25 3 1) (.take 5 (xl 26 25) (.only 6 [0,1] (xa 27 1 3) (.only 7 [0,1] (xS 1 27 22) (.only 8 [0,1,2,3] (xa 28 2 3) (.only 9 [0,1,2,3] (xS 1 28 24) (.only 10 [0,1,2,3,4,5] (xa 29 3 3) (.only 11 [0,1,2,3,4,5] (xS 1 29 26) (.done)))))))))))))) (.seq (kr [bI 31 .eql 8 5,xv 30 31] (.cond 30 (.skip) (xr [bI 32 .eql 8 12,xv 30 32]))) (.cond 30 (.dreg (.take 0 (xa 33 2 1) (.take 1 (xl 34 33) (.take 2 (xa 35 4 1) (.take 3 (xl 36 35) (.only 4 [0,1] (xa 37 2 3) (.only 5 [0,1] (xS 1 37 34) (.only 6 [0,1,2,3] (xa 38 4 3) (.only 7 [0,1,2,3] (xS 1 38 36) (.done)))))))))) (.seq (kr [bI 40 .eql 8 6,xv 39 40] (.cond 39 (.skip) (xr [bI 41 .eql 8 8,xv 39 41]))) (.cond 39 (.dreg (.take 0 (xa 42 1 1) (.take 1 (xl 43 42) (.take 2 (xa 44 3 1) (.take 3 (xl 45 44) (.take 4 (xa 46 4 1) (.take 5 (xl 47 46) (.only 6 [0,1] (xa 48 1 3) (.only 7 [0,1] (xS 1 48 43) (.only 8 [0,1,2,3] (xa 49 3 3) (.only 9 [0,1,2,3] (xS 1 49 45) (.only 10 [0,1,2,3,4,5] (xa 50 4 3) (.only 11 [0,1,2,3,4,5] (xS 1 50 47) (.done)))))))))))))) (kr [bI 52 .eql 8 7,xv 51 52] (.cond 51 (.dreg (.take 0 (xa 53 1 1) (.take 1 (xl 54 53) (.take 2 (xa 55 2 1) (.take 3 (xl 56 55) (.take 4 (xa 57 4 1) (.take 5 (xl 58 57) (.only 6 [0,1] (xa 59 1 3) (.only 7 [0,1] (xS 1 59 54) (.only 8 [0,1,2,3] (xa 60 2 3) (.only 9 [0,1,2,3] (xS 1 60 56) (.only 10 [0,1,2,3,4,5] (xa 61 4 3) (.only 11 [0,1,2,3,4,5] (xS 1 61 58) (.done)))))))))))))) (.seq (kr [bI 63 .eql 8 9,xv 62 63] (.cond 62 (.skip) (xr [bI 64 .eql 8 11,xv 62 64]))) (.cond 62 (xr [xa 65 4 1,xl 66 65,xa 67 4 3,xS 1 67 66]) (kr [bI 69 .eql 8 10,xv 68 69] (.cond 68 (xr [xa 70 2 1,xl 71 70,xa 72 2 3,xS 1 72 71]) (.skip))))))))))))))))) (kR [xm 73 5 3,xS 5 2 73])))⟩
def m97:MFn:=⟨5,[.t 2],kr [xF 2] (kR [xv 3 0,xc3 4 59 (.t 3) (xi 0) (xi 3),xv 2 4])⟩
attribute [local go_sem] lF vU wAv wAx qSs qY5 wAy qY2 wAw qY9 qSr qYa qY3 wP qSc qJj Arg.ev wA bR qZi if_false if_true dS put del aS qCv Option.map_some Option.bind_some qO Int.toNat_natCast wAz qY1 qY6 gY true_and and_true qNo qNm qNn qE1 qBj Bool.false_eq_true aX cellsOf yW List.isEmpty_nil List.isEmpty_cons fresh List.map_nil wCp List.cons_append List.nil_append gG List.take_zero List.drop_zero List.take_succ_cons List.getD_cons_zero List.length_cons List.length_nil List.drop_succ_cons List.drop_nil List.append_nil List.all_cons List.all_nil yQ Bool.and_self Nat.zero_add qY7 qY8 qY0 qSq qSp qSn qSo qYb wAu qGy qOj qK2 qPq qPu qHk vD vF xW qKe fE yK apart List.filter_nil List.filter_cons Option.isSome_some Option.isSome_none List.contains_nil List.contains_cons List.forall_mem_cons List.mem_cons List.not_mem_nil false_implies implies_true forall_const forall_eq_or_imp forall_eq or_false beq_self_eq_true Bool.or_false Bool.false_or Bool.true_or Bool.or_true Bool.not_true Bool.not_false xv xo xg xr xi xz List.set_set qG8 qDs qK0 qK1 qB5 rX qJy qCp lU eqC cF qDm List.replicate_zero decide_true decide_false qNz qNg List.replicate_succ Int.toNat_zero Int.toNat_one eq_self Bool.and_true Bool.true_and Bool.and_false Bool.false_and List.set_cons_zero List.set_cons_succ List.getD_cons_succ rnm ixm jT eM yC jP cond_true cond_false rU rT qB8
attribute [local simp] iK bwT bwC bwL uN rT wA Arg.ev gX tP sO qHd zX qLe qEp yZ okV okL nb nbs nbr uA qO aS bnd jK yY jT eM ixm rnm apart fE vD vF fresh yC jP dP qMf gB iL uU del qAx aB rU qB8 shp okB qNe qJp
theorem qHy {rs:List qEj} {fp:FP} {vs:List AV} {t:List (Nat×AV)} {h:wU} {nx:Nat} (h0:vs.length≠1) (h1:qMf (rs.map fun r=>(dP t h r).2)∧(gB h (rs.map fun r=>(dP t h r).1)).2.2∧wL (gB h (rs.map fun r=>(dP t h r).1)).1 vs∧∀x∈fp,qO (gB h (rs.map fun r=>(dP t h r).1)).2.1 x.1=qO (uU fp) x.1):yS rs fp (.tup vs) (.mk t h nx):=by
 refine ⟨h1.1,h1.2.1,⟨vs,h1.2.2.1,?_⟩,h1.2.2.2⟩
 match vs,h0 with
 | [],_=>rfl
 | [_],h0=>exact absurd rfl h0
 | _::_::_,_=>rfl
theorem wG {rs:List qEj} {fp:FP} {v:AV} {t:List (Nat×AV)} {h:wU} {nx:Nat} (h1:qMf (rs.map fun r=>(dP t h r).2)∧(gB h (rs.map fun r=>(dP t h r).1)).2.2∧wL (gB h (rs.map fun r=>(dP t h r).1)).1 [v]∧∀x∈fp,qO (gB h (rs.map fun r=>(dP t h r).1)).2.1 x.1=qO (uU fp) x.1):yS rs fp v (.mk t h nx) :=
 ⟨h1.1,h1.2.1,⟨[v],h1.2.2.1,rfl⟩,h1.2.2.2⟩
theorem qU4 (c d:AV) (cs ds:List AV):wL (c::cs) (d::ds)↔wM c d∧wL cs ds:=by
 simp only [wL,List.cons.injEq]
 exact ⟨fun ⟨_,_,⟨h1,h2⟩,h3,h4⟩=>by subst h1 h2; exact ⟨h3,h4⟩,fun ⟨h3,h4⟩=>⟨_,_,⟨rfl,rfl⟩,h3,h4⟩⟩
theorem qWy:wL [] []↔True:=by simp [wL]
theorem qWx (cs ds:List AV):wM (.agg cs) (.agg ds)↔wL cs ds:=by simp [wM]
theorem qWs (cs ds:List AV):wM (.tup cs) (.tup ds)↔wL cs ds:=by simp [wM]
theorem qQ1 (m:Mode) (sz:Nat):wM .nil (.sl m sz [])↔True:=by simp [wM]
theorem qWv:wM .nil .nil↔True:=by simp [wM]
theorem qZl (m:Mode) (sz:Nat) (rows:List (List AV)) (d:AV):wM (.sl m sz rows) d↔.sl m sz rows=d:=by simp [wM]
theorem qWw (k:IntKind) (n:Int) (d:AV):wM (.int k n) d↔.int k n=d:=by simp [wM]
theorem qU3 (b:Bool) (d:AV):wM (.bool b) d↔.bool b=d:=by simp [wM]
theorem qWt (s:ByteArray) (d:AV):wM (.str s) d↔.str s=d:=by simp [wM]
theorem qZn (k o l:Nat) (d:AV):wM (.ns k o l) d↔.ns k o l=d:=by simp [wM]
theorem qWu (k o l:Nat) (d:AV):wM (.ptr k o l) d↔.ptr k o l=d:=by simp [wM]
theorem aL (r d:List AV) (rs ds:List (List AV)):bO (r::rs) (d::ds)↔wL r d∧bO rs ds:=by
 simp only [bO,List.cons.injEq]
 exact ⟨fun ⟨_,_,⟨h1,h2⟩,h3,h4⟩=>by subst h1 h2; exact ⟨h3,h4⟩,fun ⟨h3,h4⟩=>⟨_,_,⟨rfl,rfl⟩,h3,h4⟩⟩
theorem qJh:bO [] []↔True:=by simp [bO]
theorem qXr:free []↔True:=by simp [free]
theorem qUt (r:List AV) (rs:List (List AV)):free (r::rs)↔(∀c∈r,qAx c=false)∧free rs:=by simp [free]
structure Ins where
 op:Int
 r:Int
 a:Int
 b:Int
 n:Int
 deriving DecidableEq,Inhabited
def dL (x:Ins):List AV:=[.int .i64 x.op,.int .i64 x.r,.int .i64 x.a,.int .i64 x.b,.int .i64 x.n]
def yX (l:List Ins):List (List AV):=l.map dL
theorem qXk:yX []=[]:=rfl
theorem pK (l:List Ins):(yX l).length=l.length:=by simp [yX]
theorem qO2 (l k:List Ins):yX l++yX k=yX (l++k):=by simp [yX]
theorem qJr (l:List Ins) (n:Nat):(yX l).drop n=yX (l.drop n):=by simp [yX]
theorem qJq (l:List Ins) (n:Nat):(yX l).take n=yX (l.take n):=by simp [yX]
theorem qXj (l:List Ins) (i:Nat) (op_:Int) (r_:Int) (a_:Int) (b_:Int) (n_:Int):(yX l).set i [.int .i64 op_,.int .i64 r_,.int .i64 a_,.int .i64 b_,.int .i64 n_]=yX (l.set i ⟨op_,r_,a_,b_,n_⟩):=by simp [yX,dL]
theorem uS (l:List Ins) (i:Nat) (h:i<l.length):(yX l).getD i []=[.int .i64 (l.getD i default).op,.int .i64 (l.getD i default).r,.int .i64 (l.getD i default).a,.int .i64 (l.getD i default).b,.int .i64 (l.getD i default).n]:=by simp [yX,dL,List.getD_eq_getElem?_getD,h]
theorem uB (A:Nat→Prop) (l:List Ins):yY A (yX l)↔True:=by
 simp only [iff_true]
 induction l with
 | nil=>trivial
 | cons x l ih=>exact ⟨by simp [dL,jK,bnd,zX,yZ],ih⟩
theorem bX (l:List Ins):nbr (yX l)↔True:=by
 simp only [iff_true]
 induction l with
 | nil=>trivial
 | cons x l ih=>exact ⟨by simp [dL,nbs,nb,uA],ih⟩
theorem bJ :∀(l:List Ins),bwR (yX l)=yX l
 | []=>rfl
 | x::l=>by
  have:=bJ l
  simp only [yX,wCp,bwR] at this⊢
  rw [this]
  simp [dL,bwL,bwC,uN]
theorem qUp (l:List Ins):free (yX l)↔True:=by
 simp only [iff_true]
 intro r hr c hc
 simp only [yX,wE8] at hr
 obtain ⟨x,_,rfl⟩:=hr
 simp [dL] at hc
 rcases hc with rfl | rfl | rfl | rfl | rfl<;>rfl
def yR (m:Mode) (l:List (List Ins)):List (List AV):=l.map fun b=>[.sl m 5 (yX b)]
theorem qRb (m:Mode):yR m []=[]:=rfl
theorem dN (m:Mode) (l:List (List Ins)):(yR m l).length=l.length:=by simp [yR]
theorem qIn (m:Mode) (l k:List (List Ins)):yR m l++yR m k=yR m (l++k):=by simp [yR]
theorem qE5 (m:Mode) (l:List (List Ins)) (n:Nat):(yR m l).drop n=yR m (l.drop n):=by simp [yR]
theorem qE4 (m:Mode) (l:List (List Ins)) (n:Nat):(yR m l).take n=yR m (l.take n):=by simp [yR]
theorem qRa (m:Mode) (l:List (List Ins)) (i:Nat) (b_:List Ins):(yR m l).set i [.sl m 5 (yX b_)]=yR m (l.set i b_):=by simp [yR]
theorem wF (m:Mode) (l:List (List Ins)) (i:Nat) (h:i<l.length):(yR m l).getD i []=[.sl m 5 (yX (l.getD i []))]:=by simp [yR,List.getD_eq_getElem?_getD,h]
theorem jR (A:Nat→Prop) (m:Mode) (l:List (List Ins)):yY A (yR m l)↔True:=by
 simp only [iff_true]
 induction l with
 | nil=>trivial
 | cons x l ih=>exact ⟨by simp [jK,bnd,zX,yZ,uB],ih⟩
theorem vN (l:List (List Ins)):nbr (yR .own l)↔True:=by
 simp only [iff_true]
 induction l with
 | nil=>trivial
 | cons x l ih=>exact ⟨by simp [nbs,nb,uA,bX],ih⟩
theorem jZ (m:Mode) :∀(l:List (List Ins)),bwR (yR m l)=yR .bw l
 | []=>rfl
 | x::l=>by
  have:=jZ m l
  simp only [yR,wCp,bwR] at this⊢
  rw [this]
  simp [bwL,bwC,uN,bJ]
theorem qP2 (l:List (List Ins)):free (yR .bw l)↔True:=by
 simp only [iff_true]
 intro r hr c hc
 simp only [yR,wE8] at hr
 obtain ⟨x,_,rfl⟩:=hr
 simp [] at hc
 rcases hc with rfl<;>rfl
def vB (m:Mode) (l:List (List Int)):List (List AV):=l.map fun b=>[.sl m 1 (wR b)]
theorem qUo (m:Mode):vB m []=[]:=rfl
theorem bW (m:Mode) (l:List (List Int)):(vB m l).length=l.length:=by simp [vB]
theorem qLo (m:Mode) (l k:List (List Int)):vB m l++vB m k=vB m (l++k):=by simp [vB]
theorem qGm (m:Mode) (l:List (List Int)) (n:Nat):(vB m l).drop n=vB m (l.drop n):=by simp [vB]
theorem qGl (m:Mode) (l:List (List Int)) (n:Nat):(vB m l).take n=vB m (l.take n):=by simp [vB]
theorem qJn (m:Mode) (l:List (List Int)) (i:Nat) (b_:List Int):(vB m l).set i [.sl m 1 (wR b_)]=vB m (l.set i b_):=by simp [vB]
theorem tF (m:Mode) (l:List (List Int)) (i:Nat) (h:i<l.length):(vB m l).getD i []=[.sl m 1 (wR (l.getD i []))]:=by simp [vB,List.getD_eq_getElem?_getD,h]
theorem vL (A:Nat→Prop) (m:Mode) (l:List (List Int)):yY A (vB m l)↔True:=by
 simp only [iff_true]
 induction l with
 | nil=>trivial
 | cons x l ih=>exact ⟨by simp [jK,bnd,zX,yZ,uB,jR],ih⟩
theorem bD (l:List (List Int)):nbr (vB .own l)↔True:=by
 simp only [iff_true]
 induction l with
 | nil=>trivial
 | cons x l ih=>exact ⟨by simp [nbs,nb,uA,bX,vN],ih⟩
theorem uP (m:Mode) :∀(l:List (List Int)),bwR (vB m l)=vB .bw l
 | []=>rfl
 | x::l=>by
  have:=uP m l
  simp only [vB,wCp,bwR] at this⊢
  rw [this]
  simp [bwL,bwC,uN,bJ,jZ]
theorem qQg (l:List (List Int)):free (vB .bw l)↔True:=by
 simp only [iff_true]
 intro r hr c hc
 simp only [vB,wE8] at hr
 obtain ⟨x,_,rfl⟩:=hr
 simp [] at hc
 rcases hc with rfl<;>rfl
structure jU where
 cap:Int
 list:List Int
 closed:Bool
 deriving DecidableEq,Inhabited
def eP (m:Mode) (x:jU):List AV:=[.int .i64 x.cap,.sl m 1 (wR x.list),.bool x.closed]
def wI (m:Mode) (l:List jU):List (List AV):=l.map (eP m)
theorem qK8 (m:Mode):wI m []=[]:=rfl
theorem fR (m:Mode) (l:List jU):(wI m l).length=l.length:=by simp [wI]
theorem nP (m:Mode) (l k:List jU):wI m l++wI m k=wI m (l++k):=by simp [wI]
theorem qH7 (m:Mode) (l:List jU) (n:Nat):(wI m l).drop n=wI m (l.drop n):=by simp [wI]
theorem qH6 (m:Mode) (l:List jU) (n:Nat):(wI m l).take n=wI m (l.take n):=by simp [wI]
theorem dA (m:Mode) (l:List jU) (i:Nat) (cap_:Int) (list_:List Int) (closed_:Bool):(wI m l).set i [.int .i64 cap_,.sl m 1 (wR list_),.bool closed_]=wI m (l.set i ⟨cap_,list_,closed_⟩):=by simp [wI,eP]
theorem gK (m:Mode) (l:List jU) (i:Nat) (h:i<l.length):(wI m l).getD i []=[.int .i64 (l.getD i default).cap,.sl m 1 (wR (l.getD i default).list),.bool (l.getD i default).closed]:=by simp [wI,eP,List.getD_eq_getElem?_getD,h]
theorem uG (A:Nat→Prop) (m:Mode) (l:List jU):yY A (wI m l)↔True:=by
 simp only [iff_true]
 induction l with
 | nil=>trivial
 | cons x l ih=>exact ⟨by simp [eP,jK,bnd,zX,yZ,uB,jR,vL],ih⟩
theorem bP (l:List jU):nbr (wI .own l)↔True:=by
 simp only [iff_true]
 induction l with
 | nil=>trivial
 | cons x l ih=>exact ⟨by simp [eP,nbs,nb,uA,bX,vN,bD],ih⟩
theorem bE (m:Mode) :∀(l:List jU),bwR (wI m l)=wI .bw l
 | []=>rfl
 | x::l=>by
  have:=bE m l
  simp only [wI,wCp,bwR] at this⊢
  rw [this]
  simp [eP,bwL,bwC,uN,bJ,jZ,uP]
theorem qQx (l:List jU):free (wI .bw l)↔True:=by
 simp only [iff_true]
 intro r hr c hc
 simp only [wI,wE8] at hr
 obtain ⟨x,_,rfl⟩:=hr
 simp [eP] at hc
 rcases hc with rfl | rfl | rfl<;>rfl
structure bM where
 who:Int
 v:Int
 deriving DecidableEq,Inhabited
def qAl (x:bM):List AV:=[.int .i64 x.who,.int .i64 x.v]
def jC (l:List bM):List (List AV):=l.map qAl
theorem qJg:jC []=[]:=rfl
theorem nA (l:List bM):(jC l).length=l.length:=by simp [jC]
theorem nB (l k:List bM):jC l++jC k=jC (l++k):=by simp [jC]
theorem qJf (who_:Int) (v_:Int):[[.int .i64 who_,.int .i64 v_]]=jC [⟨who_,v_⟩]:=rfl
theorem qG3 (l:List bM) (n:Nat):(jC l).drop n=jC (l.drop n):=by simp [jC]
theorem qG2 (l:List bM) (n:Nat):(jC l).take n=jC (l.take n):=by simp [jC]
theorem qTw (l:List bM) (i:Nat) (who_:Int) (v_:Int):(jC l).set i [.int .i64 who_,.int .i64 v_]=jC (l.set i ⟨who_,v_⟩):=by simp [jC,qAl]
theorem sZ (l:List bM) (i:Nat) (h:i<l.length):(jC l).getD i []=[.int .i64 (l.getD i default).who,.int .i64 (l.getD i default).v]:=by simp [jC,qAl,List.getD_eq_getElem?_getD,h]
theorem uR (A:Nat→Prop) (l:List bM):yY A (jC l)↔True:=by
 simp only [iff_true]
 induction l with
 | nil=>trivial
 | cons x l ih=>exact ⟨by simp [qAl,jK,bnd,zX,yZ,uB,jR,vL,uG],ih⟩
theorem bC (l:List bM):nbr (jC l)↔True:=by
 simp only [iff_true]
 induction l with
 | nil=>trivial
 | cons x l ih=>exact ⟨by simp [qAl,nbs,nb,uA,bX,vN,bD,bP],ih⟩
theorem bN :∀(l:List bM),bwR (jC l)=jC l
 | []=>rfl
 | x::l=>by
  have:=bN l
  simp only [jC,wCp,bwR] at this⊢
  rw [this]
  simp [qAl,bwL,bwC,uN,bJ,jZ,uP,bE]
theorem qPz (l:List bM):free (jC l)↔True:=by
 simp only [iff_true]
 intro r hr c hc
 simp only [jC,wE8] at hr
 obtain ⟨x,_,rfl⟩:=hr
 simp [qAl] at hc
 rcases hc with rfl | rfl<;>rfl
structure yO where
 at_:Int
 regs:List Int
 st:Int
 deriving DecidableEq,Inhabited
def aZ (m:Mode) (x:yO):List AV:=[.int .i64 x.at_,.sl m 1 (wR x.regs),.int .i64 x.st]
def yJ (m:Mode) (l:List yO):List (List AV):=l.map (aZ m)
theorem qD5 (m:Mode):yJ m []=[]:=rfl
theorem dW (m:Mode) (l:List yO):(yJ m l).length=l.length:=by simp [yJ]
theorem hX (m:Mode) (l k:List yO):yJ m l++yJ m k=yJ m (l++k):=by simp [yJ]
theorem tZ (m:Mode) (l:List yO) (n:Nat):(yJ m l).drop n=yJ m (l.drop n):=by simp [yJ]
theorem tY (m:Mode) (l:List yO) (n:Nat):(yJ m l).take n=yJ m (l.take n):=by simp [yJ]
theorem qN (m:Mode) (l:List yO) (i:Nat) (at__:Int) (regs_:List Int) (st_:Int):(yJ m l).set i [.int .i64 at__,.sl m 1 (wR regs_),.int .i64 st_]=yJ m (l.set i ⟨at__,regs_,st_⟩):=by simp [yJ,aZ]
theorem qS (m:Mode) (l:List yO) (i:Nat) (h:i<l.length):(yJ m l).getD i []=[.int .i64 (l.getD i default).at_,.sl m 1 (wR (l.getD i default).regs),.int .i64 (l.getD i default).st]:=by simp [yJ,aZ,List.getD_eq_getElem?_getD,h]
theorem vI (A:Nat→Prop) (m:Mode) (l:List yO):yY A (yJ m l)↔True:=by
 simp only [iff_true]
 induction l with
 | nil=>trivial
 | cons x l ih=>exact ⟨by simp [aZ,jK,bnd,zX,yZ,uB,jR,vL,uG,uR],ih⟩
theorem vY (l:List yO):nbr (yJ .own l)↔True:=by
 simp only [iff_true]
 induction l with
 | nil=>trivial
 | cons x l ih=>exact ⟨by simp [aZ,nbs,nb,uA,bX,vN,bD,bP,bC],ih⟩
theorem vR (m:Mode) :∀(l:List yO),bwR (yJ m l)=yJ .bw l
 | []=>rfl
 | x::l=>by
  have:=vR m l
  simp only [yJ,wCp,bwR] at this⊢
  rw [this]
  simp [aZ,bwL,bwC,uN,bJ,jZ,uP,bE,bN]
theorem qKw (l:List yO):free (yJ .bw l)↔True:=by
 simp only [iff_true]
 intro r hr c hc
 simp only [yJ,wE8] at hr
 obtain ⟨x,_,rfl⟩:=hr
 simp [aZ] at hc
 rcases hc with rfl | rfl | rfl<;>rfl
structure qHl where
 sent:List Int
 taken:List Int
 deriving DecidableEq,Inhabited
def qD4 (m:Mode) (x:qHl):List AV:=[.sl m 1 (wR x.sent),.sl m 1 (wR x.taken)]
def zT (m:Mode) (l:List qHl):List (List AV):=l.map (qD4 m)
theorem qT4 (m:Mode):zT m []=[]:=rfl
theorem mP (m:Mode) (l:List qHl):(zT m l).length=l.length:=by simp [zT]
theorem qKo (m:Mode) (l k:List qHl):zT m l++zT m k=zT m (l++k):=by simp [zT]
theorem qF0 (m:Mode) (l:List qHl) (n:Nat):(zT m l).drop n=zT m (l.drop n):=by simp [zT]
theorem qEz (m:Mode) (l:List qHl) (n:Nat):(zT m l).take n=zT m (l.take n):=by simp [zT]
theorem qT3 (m:Mode) (l:List qHl) (i:Nat) (sent_:List Int) (taken_:List Int):(zT m l).set i [.sl m 1 (wR sent_),.sl m 1 (wR taken_)]=zT m (l.set i ⟨sent_,taken_⟩):=by simp [zT,qD4]
theorem gE (A:Nat→Prop) (m:Mode) (l:List qHl):yY A (zT m l)↔True:=by
 simp only [iff_true]
 induction l with
 | nil=>trivial
 | cons x l ih=>exact ⟨by simp [qD4,jK,bnd,zX,yZ,uB,jR,vL,uG,uR,vI],ih⟩
theorem dV (l:List qHl):nbr (zT .own l)↔True:=by
 simp only [iff_true]
 induction l with
 | nil=>trivial
 | cons x l ih=>exact ⟨by simp [qD4,nbs,nb,uA,bX,vN,bD,bP,bC,vY],ih⟩
theorem dC (m:Mode) :∀(l:List qHl),bwR (zT m l)=zT .bw l
 | []=>rfl
 | x::l=>by
  have:=dC m l
  simp only [zT,wCp,bwR] at this⊢
  rw [this]
  simp [qD4,bwL,bwC,uN,bJ,jZ,uP,bE,bN,vR]
theorem qPh (l:List qHl):free (zT .bw l)↔True:=by
 simp only [iff_true]
 intro r hr c hc
 simp only [zT,wE8] at hr
 obtain ⟨x,_,rfl⟩:=hr
 simp [qD4] at hc
 rcases hc with rfl | rfl<;>rfl
structure wK where
 caps:List Int
 bods:List (List Ins)
 deriving DecidableEq,Inhabited
def bH (m:Mode) (x:wK):List AV:=[.sl m 1 (wR x.caps),.sl m 1 (yR m x.bods)]
def zU (m:Mode) (l:List wK):List (List AV):=l.map (bH m)
theorem qTr (m:Mode):zU m []=[]:=rfl
theorem mV (m:Mode) (l:List wK):(zU m l).length=l.length:=by simp [zU]
theorem qLa (m:Mode) (l k:List wK):zU m l++zU m k=zU m (l++k):=by simp [zU]
theorem qFr (m:Mode) (l:List wK) (n:Nat):(zU m l).drop n=zU m (l.drop n):=by simp [zU]
theorem qFq (m:Mode) (l:List wK) (n:Nat):(zU m l).take n=zU m (l.take n):=by simp [zU]
theorem qTq (m:Mode) (l:List wK) (i:Nat) (caps_:List Int) (bods_:List (List Ins)):(zU m l).set i [.sl m 1 (wR caps_),.sl m 1 (yR m bods_)]=zU m (l.set i ⟨caps_,bods_⟩):=by simp [zU,bH]
theorem gZ (A:Nat→Prop) (m:Mode) (l:List wK):yY A (zU m l)↔True:=by
 simp only [iff_true]
 induction l with
 | nil=>trivial
 | cons x l ih=>exact ⟨by simp [bH,jK,bnd,zX,yZ,uB,jR,vL,uG,uR,vI,gE],ih⟩
theorem zG (l:List wK):nbr (zU .own l)↔True:=by
 simp only [iff_true]
 induction l with
 | nil=>trivial
 | cons x l ih=>exact ⟨by simp [bH,nbs,nb,uA,bX,vN,bD,bP,bC,vY,dV],ih⟩
theorem dY (m:Mode) :∀(l:List wK),bwR (zU m l)=zU .bw l
 | []=>rfl
 | x::l=>by
  have:=dY m l
  simp only [zU,wCp,bwR] at this⊢
  rw [this]
  simp [bH,bwL,bwC,uN,bJ,jZ,uP,bE,bN,vR,dC]
theorem qPr (l:List wK):free (zU .bw l)↔True:=by
 simp only [iff_true]
 intro r hr c hc
 simp only [zU,wE8] at hr
 obtain ⟨x,_,rfl⟩:=hr
 simp [bH] at hc
 rcases hc with rfl | rfl<;>rfl
structure qU where
 ths:List yO
 chs:List jU
 tr:List bM
 deriving DecidableEq,Inhabited
def uL (m:Mode) (x:qU):List AV:=[.sl m 3 (yJ m x.ths),.sl m 3 (wI m x.chs),.sl m 2 (jC x.tr)]
def vT (m:Mode) (l:List qU):List (List AV):=l.map (uL m)
theorem qMz (m:Mode):vT m []=[]:=rfl
theorem hZ (m:Mode) (l:List qU):(vT m l).length=l.length:=by simp [vT]
theorem qFa (m:Mode) (l k:List qU):vT m l++vT m k=vT m (l++k):=by simp [vT]
theorem qA6 (m:Mode) (l:List qU) (n:Nat):(vT m l).drop n=vT m (l.drop n):=by simp [vT]
theorem qA5 (m:Mode) (l:List qU) (n:Nat):(vT m l).take n=vT m (l.take n):=by simp [vT]
theorem qMy (m:Mode) (l:List qU) (i:Nat) (ths_:List yO) (chs_:List jU) (tr_:List bM):(vT m l).set i [.sl m 3 (yJ m ths_),.sl m 3 (wI m chs_),.sl m 2 (jC tr_)]=vT m (l.set i ⟨ths_,chs_,tr_⟩):=by simp [vT,uL]
theorem bA (A:Nat→Prop) (m:Mode) (l:List qU):yY A (vT m l)↔True:=by
 simp only [iff_true]
 induction l with
 | nil=>trivial
 | cons x l ih=>exact ⟨by simp [uL,jK,bnd,zX,yZ,uB,jR,vL,uG,uR,vI,gE,gZ],ih⟩
theorem gH (l:List qU):nbr (vT .own l)↔True:=by
 simp only [iff_true]
 induction l with
 | nil=>trivial
 | cons x l ih=>exact ⟨by simp [uL,nbs,nb,uA,bX,vN,bD,bP,bC,vY,dV,zG],ih⟩
theorem bL (m:Mode) :∀(l:List qU),bwR (vT m l)=vT .bw l
 | []=>rfl
 | x::l=>by
  have:=bL m l
  simp only [vT,wCp,bwR] at this⊢
  rw [this]
  simp [uL,bwL,bwC,uN,bJ,jZ,uP,bE,bN,vR,dC,dY]
theorem qL1 (l:List qU):free (vT .bw l)↔True:=by
 simp only [iff_true]
 intro r hr c hc
 simp only [vT,wE8] at hr
 obtain ⟨x,_,rfl⟩:=hr
 simp [uL] at hc
 rcases hc with rfl | rfl | rfl<;>rfl
def bys (l:List Int):List (List AV):=l.map fun b=>[.int .u8 b]
theorem wAf:bys []=[]:=rfl
theorem tO (l:List Int):(bys l).length=l.length:=by simp [bys]
theorem qR4 (l k:List Int):bys l++bys k=bys (l++k):=by simp [bys]
theorem qOy (l:List Int) (n:Nat):(bys l).drop n=bys (l.drop n):=by simp [bys]
theorem qOw (l:List Int) (n:Nat):(bys l).take n=bys (l.take n):=by simp [bys]
theorem wAe (l:List Int) (i:Nat) (b_:Int):(bys l).set i [.int .u8 b_]=bys (l.set i b_):=by simp [bys]
theorem qOx (l:List Int) (i:Nat) (h:i<l.length):(bys l).getD i []=[.int .u8 (l.getD i 0)]:=by simp [bys,List.getD_eq_getElem?_getD,h]
theorem cG (A:Nat→Prop) (l:List Int):yY A (bys l)↔True:=by
 simp only [iff_true]
 induction l with
 | nil=>trivial
 | cons x l ih=>exact ⟨by simp [jK,bnd,zX,yZ,uB,jR,vL,uG,uR,vI,gE,gZ,bA],ih⟩
theorem lN (l:List Int):nbr (bys l)↔True:=by
 simp only [iff_true]
 induction l with
 | nil=>trivial
 | cons x l ih=>exact ⟨by simp [nbs,nb,uA,bX,vN,bD,bP,bC,vY,dV,zG,gH],ih⟩
theorem iR :∀(l:List Int),bwR (bys l)=bys l
 | []=>rfl
 | x::l=>by
  have:=iR l
  simp only [bys,wCp,bwR] at this⊢
  rw [this]
  simp [bwL,bwC,uN,bJ,jZ,uP,bE,bN,vR,dC,dY,bL]
theorem qYp (l:List Int):free (bys l)↔True:=by
 simp only [iff_true]
 intro r hr c hc
 simp only [bys,wE8] at hr
 obtain ⟨x,_,rfl⟩:=hr
 simp [] at hc
 rcases hc with rfl<;>rfl
structure Cur where
 i:Nat
 h:Int
 deriving Inhabited
def mG (code:List Int) (c:Cur):List AV:=[.sl .fz 1 (bys code),.int .i64 c.i,.int .i64 c.h]
theorem fS:(∀n,del [] n=[])∧(∀m s h n,del ((m,s)::h) n=if n=m then del h n else (m,s)::del h n)∧(∀n r,put [] n r=[(n,r)])∧(∀m s h n r,put ((m,s)::h) n r=if n=m then (m,r)::h else (m,s)::put h n r)∧(∀{α:Type} (a b:α) (l:List α),(a::l).set 0 b=b::l)∧(∀{α:Type} (a b:α) (l:List α) (n:Nat),(a::l).set (n+1) b=a::l.set n b)∧(∀{α:Type} (a b:α),(if True then a else b)=a)∧(∀{α:Type} (a b:α),(if False then a else b)=b)∧(∀l,(wR l).length=l.length)∧(∀l n,(wR l).take n=wR (l.take n))∧(∀l n,(wR l).drop n=wR (l.drop n))∧(∀o l rows,aB o l rows=if o=0∧rows.length=l then rows else (rows.drop o).take l)∧(∀{α:Type} (a:α) (l:List α),(a::l).length=l.length+1)∧(∀{α:Type},([]:List α).length=0)∧(∀p:Prop,(p∧p)=p)∧(∀p:Prop,(p∧True)=p)∧(∀p:Prop,(True∧p)=p)∧(∀l,(yX l).length=l.length)∧(∀m l,(yR m l).length=l.length)∧(∀m l,(vB m l).length=l.length)∧(∀m l,(wI m l).length=l.length)∧(∀l,(jC l).length=l.length)∧(∀m l,(yJ m l).length=l.length)∧(∀m l,(zT m l).length=l.length)∧(∀m l,(zU m l).length=l.length)∧(∀m l,(vT m l).length=l.length)∧(∀l,(bys l).length=l.length)∧(∀{α:Type} (a b:List α),(a++b).length=a.length+b.length)∧(∀{α:Type} (n:Nat) (a:α),(List.replicate n a).length=n)∧(∀{α:Type} (l:List α) (n:Nat) (a:α),(l.set n a).length=l.length):=by
 refine ⟨?_,?_,?_,?_,?_,?_,?_,?_,?_,?_,?_,?_,?_,?_,?_,?_,?_,?_,?_,?_,?_,?_,?_,?_,?_,?_,?_,?_,?_,?_⟩<;>intros<;>simp [del,put,aB,aS,pK,dN,bW,fR,nA,dW,mP,mV,hZ,tO]
attribute [go_sem] lF vU wAv wAx qSs qY5 wAy qY2 wAw qY9 qSr qYa qY3 wP qSc qJj Arg.ev wA bR qZi if_false if_true dS put del aS qCv Option.map_some Option.bind_some qO Int.toNat_natCast wAz qY1 qY6 gY true_and and_true qNo qNm qNn qE1 qBj Bool.false_eq_true aX cellsOf yW List.isEmpty_nil List.isEmpty_cons fresh List.map_nil wCp List.cons_append List.nil_append gG List.take_zero List.drop_zero List.take_succ_cons List.getD_cons_zero List.length_cons List.length_nil List.drop_succ_cons List.drop_nil List.append_nil List.all_cons List.all_nil yQ Bool.and_self Nat.zero_add qY7 qY8 qY0 qSq qSp qSn qSo qYb wAu qGy qOj qK2 qPq qPu qHk vD vF xW qKe fE yK apart List.filter_nil List.filter_cons Option.isSome_some Option.isSome_none List.contains_nil List.contains_cons List.forall_mem_cons List.mem_cons List.not_mem_nil false_implies implies_true forall_const forall_eq_or_imp forall_eq or_false beq_self_eq_true Bool.or_false Bool.false_or Bool.true_or Bool.or_true Bool.not_true Bool.not_false xv xo xg xr xi xz List.set_set qG8 qDs qK0 qK1 qB5 rX qJy qCp lU eqC cF qDm List.replicate_zero decide_true decide_false qNz qNg List.replicate_succ Int.toNat_zero Int.toNat_one eq_self Bool.and_true Bool.true_and Bool.and_false Bool.false_and List.set_cons_zero List.set_cons_succ List.getD_cons_succ rnm ixm jT eM yC jP cond_true cond_false rU rT qB8 pK qO2 qJr qJq qXj dL dN qIn qE5 qE4 qRa bW qLo qGm qGl qJn fR nP qH7 qH6 dA eP nA nB qG3 qG2 qTw qAl dW hX tZ tY qN aZ mP qKo qF0 qEz qT3 qD4 mV qLa qFr qFq qTq bH hZ qFa qA6 qA5 qMy uL tO qR4 qOy qOw wAe
attribute [simp] iK bwT bwC bwL uN rT wA Arg.ev gX tP sO qHd zX qLe qEp yZ okV okL nb nbs nbr uA qO aS bnd jK yY jT eM ixm rnm apart fE vD vF fresh yC jP dP qMf gB iL uU del qAx aB rU qB8 shp okB qNe qJp qU4 qWy qWx qWs qQ1 qWv qZl qWw qU3 qWt qZn qWu aL qJh qXr qUt qXk bJ uB bX pK qJq qJr qUp qRb jZ jR vN dN qE4 qE5 qP2 qUo uP vL bD bW qGl qGm qQg qK8 bE uG bP fR qH6 qH7 qQx qJg bN uR bC nA qG2 qG3 qPz qD5 vR vI vY dW tY tZ qKw qT4 dC gE dV mP qEz qF0 qPh qTr dY gZ zG mV qFq qFr qPr qMz bL bA gH hZ qA5 qA6 qL1 wAf iR cG lN tO qOw qOy qYp mG dL eP qAl aZ qD4 bH uL
theorem qG4 :∀(l:List (List AV)),bO l l
 | []=>by simp [bO]
 | r::l=>(aL r r l l).2 ⟨lZ r,qG4 l⟩
theorem qJi :∀{a a' b b':List (List AV)},bO a a'→bO b b'→bO (a++b) (a'++b')
 | [],a',b,b',h1,h2=>by
  simp only [bO] at h1
  subst h1
  exact h2
 | r::a,a',b,b',h1,h2=>by
  simp only [bO] at h1
  obtain ⟨d,ds,rfl,h3,h4⟩:=h1
  exact (aL r d _ _).2 ⟨h3,qJi h4 h2⟩
theorem Sub.nilRow (nm:Nat) {t:List (Nat×AV)} {h:wU} {nx sz:Nat} {rows rows':List (List AV)} (hl:qO h nm=some (sz,rows)) (hn:bO rows rows') (hbn:yY (· < nx) rows'):Sub (.mk t h nx) (.mk t (put h nm (sz,rows')) nx):=by
 rintro B a w ⟨h1,h2,hb,hbt,φ,Lf,hl'⟩
 have hlk :∀n,qO (put h nm (sz,rows')) n=if n=nm then some (sz,rows') else qO h n:=fun n=>qGa n
 have hne :∀n,qO (put h nm (sz,rows')) n≠none→qO h n≠none:=fun n hn'=>by
  rw [hlk] at hn'
  split at hn'
  ·rename_i he; rw [he,hl]; simp
  ·exact hn'
 refine ⟨h1,h2,?_,hbt,φ,Lf,⟨hl'.ok.size0,hl'.ok.io0,hl'.ok.fr,hl'.ok.keep0,fun n hn'=>hl'.ok.own0 n (hne n hn'),?_,fun n hn'=>hl'.ok.rh.nodup n (hne n hn'),fun n hn'=>hl'.ok.rh.blk n (hne n hn'),fun n m hn' hm=>hl'.ok.rh.dis n m (hne n hn') (hne m hm),?_⟩,hl'.tm,hl'.φ0,hl'.ten⟩
 ·intro n row hr
  rw [hlk] at hr
  split at hr
  ·rename_i he
   simp only [Option.some.injEq] at hr
   subst hr he
   exact ⟨(hb n _ hl).1,hbn⟩
  ·exact hb n row hr
 ·intro n row hr
  rw [hlk] at hr
  split at hr
  ·rename_i he
   simp only [Option.some.injEq] at hr
   subst hr he
   have:=hl'.ok.rh.row n _ hl
   unfold uV gM at this⊢
   cases hq:(B.env w φ).φ n with
   | dead=>rw [hq] at this; exact this.elim
   | nilp =>
    rw [hq] at this
    simp only at this
    obtain ⟨h3,h4⟩:=this
    rw [h3] at hn
    simp only [bO] at hn
    exact ⟨hn,h4⟩
   | «at» p =>
    rw [hq] at this
    obtain ⟨h3,h4,Lr,h5,h6⟩:=this
    exact ⟨h3,by rw [fL hn]; exact h4,Lr,qAm hn h5,h6⟩
  ·exact hl'.ok.rh.row n row hr
 ·intro n hn'
  rw [hlk] at hn'
  split at hn'
  ·simp at hn'
  ·exact hl'.ok.rh.dead n hn'
theorem Sub.nilLast (nm:Nat) {t:List (Nat×AV)} {h:wU} {nx sz:Nat} {front:List (List AV)} {r r':List AV} (hl:qO h nm=some (sz,front++[r])) (hn:wL r r') (hbn:yY (· < nx) (front++[r'])):Sub (.mk t h nx) (.mk t (put h nm (sz,front++[r'])) nx) :=
 Sub.nilRow nm hl (qJi (qG4 front) ((aL r r' [] []).2 ⟨hn,(qJh).2 trivial⟩)) hbn
theorem wT {rs:List qEj} {fp:FP} {v:AV} {s:AS} {t:List (Nat×AV)} {h:wU} {nx:Nat} (hs:Sub s (.mk t h nx)) (h1:qMf (rs.map fun r=>(dP t h r).2)∧(gB h (rs.map fun r=>(dP t h r).1)).2.2∧wL (gB h (rs.map fun r=>(dP t h r).1)).1 [v]∧∀x∈fp,qO (gB h (rs.map fun r=>(dP t h r).1)).2.1 x.1=qO (uU fp) x.1):Fin rs fp v s :=
 ⟨_,hs,wG h1⟩
theorem qLs {rs:List qEj} {fp:FP} {vs:List AV} {s:AS} {t:List (Nat×AV)} {h:wU} {nx:Nat} (h0:vs.length≠1) (hs:Sub s (.mk t h nx)) (h1:qMf (rs.map fun r=>(dP t h r).2)∧(gB h (rs.map fun r=>(dP t h r).1)).2.2∧wL (gB h (rs.map fun r=>(dP t h r).1)).1 vs∧∀x∈fp,qO (gB h (rs.map fun r=>(dP t h r).1)).2.1 x.1=qO (uU fp) x.1):Fin rs fp (.tup vs) s :=
 ⟨_,hs,qHy h0 h1⟩
theorem qYn {P:Program} {num:Nat→Nat} {fin:AS→Prop} {op:MOp} {dst:Option Nat} {k:List It} {s:AS} {t:List (Nat×AV)} {h:wU} {nx:Nat} (hs:Sub s (.mk t h nx)) (h1:sN P num fin op dst k (.mk t h nx)):sN P num fin op dst k s:=qVf hs h1
theorem K {p q:Prop} (k:q) (h:p:=by first | omega | (simp [-List.getD_eq_getElem?_getD]; first | done | omega)):p∧q:=⟨h,k⟩
theorem CA {P:Program} {num:Nat→Nat} {fin:AS→Prop} {f nx:Nat} {ps:List Bool} {xs:List Arg} {t:List (Nat×AV)} {h:wU} {fp:FP} {res:AV} {vargs:List AV} {dst:Option Nat} {k:List It} (σ:List (Nat×Nat)) (hc:wD P num f vargs fp res)
  (hk:vc P num fin k (.mk (bR t dst (yC nx (jT (rnm σ) res)).1) (dS h (fp.map (fun x=>(rnm σ x.1,x.2))++fresh (yC nx (jT (rnm σ) res)).2.1)) (yC nx (jT (rnm σ) res)).2.2))
  (hv:wL (iK (ixm σ) h ps (xs.map (Arg.ev (wA t)))) vargs:=by first | omega | (simp [wL,wM]; done) | (simp [wL,wM, *]; done))
  (hvo:gX h (fun n =>∃x∈fp,x.2.1≠none∧n=rnm σ x.1∧ixm σ n=x.1) (fun n =>∃x∈fp,n=rnm σ x.1) ps (xs.map (Arg.ev (wA t))):=by first | omega | (simp [wL,wM]; done) | (simp [wL,wM, *]; done))
  (hnd:(fp.map (fun x=>rnm σ x.1)).Nodup:=by first | (simp [wL,wM]; done) | (simp [wL,wM, *]; done))
  (hpre :∀x∈fp,qO h (rnm σ x.1)=x.2.1∧(x.2.1=none→nx≤rnm σ x.1)∧rnm σ x.1<nx:=by first | (simp [wL,wM]; done) | (simp [wL,wM, *]; done))
  (hnb :∀x∈fp,(∀r,x.2.1=some r→nbr r.2)∧(∀r,x.2.2=some r→nbr r.2):=by first | (simp [wL,wM]; done) | (simp [wL,wM, *]; done))
  (hres:okV (fun k =>∃x∈fp,x.1=k∧x.2.2≠none) res:=by first | (simp [wL,wM]; done) | (simp [wL,wM, *]; done)):sN P num fin (.call f ps xs) dst k (.mk t h nx) :=
 pY (qHb σ hc hv hvo hnd hpre hnb hres) hk
theorem DA {P:Program} {num:Nat→Nat} {fin:AS→Prop} {f nx:Nat} {ps:List Bool} {xs:List Arg} {t:List (Nat×AV)} {h:wU} {fp:FP} {res:AV} {vargs:List AV} {pend:List (Nat×List Nat)} {dst:Option Nat} {tr:vV} {k:List It} (σ:List (Nat×Nat)) (hc:wD P num f vargs fp res)
  (hk:vc P num fin (.draw tr pend::k) (.mk (bR t dst (yC nx (jT (rnm σ) res)).1) (dS h (fp.map (fun x=>(rnm σ x.1,x.2))++fresh (yC nx (jT (rnm σ) res)).2.1)) (yC nx (jT (rnm σ) res)).2.2))
  (hv:wL (iK (ixm σ) h ps (xs.map (Arg.ev (wA t)))) vargs:=by first | omega | (simp [wL,wM]; done) | (simp [wL,wM, *]; done))
  (hvo:gX h (fun n =>∃x∈fp,x.2.1≠none∧n=rnm σ x.1∧ixm σ n=x.1) (fun n =>∃x∈fp,n=rnm σ x.1) ps (xs.map (Arg.ev (wA t))):=by first | omega | (simp [wL,wM]; done) | (simp [wL,wM, *]; done))
  (hnd:(fp.map (fun x=>rnm σ x.1)).Nodup:=by first | (simp [wL,wM]; done) | (simp [wL,wM, *]; done))
  (hpre :∀x∈fp,qO h (rnm σ x.1)=x.2.1∧(x.2.1=none→nx≤rnm σ x.1)∧rnm σ x.1<nx:=by first | (simp [wL,wM]; done) | (simp [wL,wM, *]; done))
  (hnb :∀x∈fp,(∀r,x.2.1=some r→nbr r.2)∧(∀r,x.2.2=some r→nbr r.2):=by first | (simp [wL,wM]; done) | (simp [wL,wM, *]; done))
  (hres:okV (fun k =>∃x∈fp,x.1=k∧x.2.2≠none) res:=by first | (simp [wL,wM]; done) | (simp [wL,wM, *]; done))
  (ha:apart pend (fp.map (fun x=>(rnm σ x.1,x.2))++fresh (yC nx (jT (rnm σ) res)).2.1):=by first | (simp [wL,wM]; done) | (simp [wL,wM, *]; done)):qK4 P num fin (.call f ps xs) pend dst tr k t h nx :=
 pU (qHb σ hc hv hvo hnd hpre hnb hres) ha hk
theorem DAV {P:Program} {num:Nat→Nat} {fin:AS→Prop} {f nx:Nat} {y:Arg} {xs:List Arg} {t:List (Nat×AV)} {h:wU} {fp:FP} {res:AV} {vargs:List AV} {pend:List (Nat×List Nat)} {dst:Option Nat} {tr:vV} {k:List It} (σ:List (Nat×Nat)) (hc:wD P num f vargs fp res)
  (hk:vc P num fin (.draw tr pend::k) (.mk (bR t dst (yC nx (jT (rnm σ) res)).1) (dS h (fp.map (fun x=>(rnm σ x.1,x.2))++fresh (yC nx (jT (rnm σ) res)).2.1)) (yC nx (jT (rnm σ) res)).2.2))
  (hy:y.ev (wA t)=.fn f []:=by first | rfl | (simp; done) | (simp [*]; done))
  (hv:wL (iK (ixm σ) h (xs.map fun _=>false) (xs.map (Arg.ev (wA t)))) vargs:=by first | omega | (simp [wL,wM]; done) | (simp [wL,wM, *]; done))
  (hvo:gX h (fun n =>∃x∈fp,x.2.1≠none∧n=rnm σ x.1∧ixm σ n=x.1) (fun n =>∃x∈fp,n=rnm σ x.1) (xs.map fun _=>false) (xs.map (Arg.ev (wA t))):=by first | omega | (simp [wL,wM]; done) | (simp [wL,wM, *]; done))
  (hnd:(fp.map (fun x=>rnm σ x.1)).Nodup:=by first | (simp [wL,wM]; done) | (simp [wL,wM, *]; done))
  (hpre :∀x∈fp,qO h (rnm σ x.1)=x.2.1∧(x.2.1=none→nx≤rnm σ x.1)∧rnm σ x.1<nx:=by first | (simp [wL,wM]; done) | (simp [wL,wM, *]; done))
  (hnb :∀x∈fp,(∀r,x.2.1=some r→nbr r.2)∧(∀r,x.2.2=some r→nbr r.2):=by first | (simp [wL,wM]; done) | (simp [wL,wM, *]; done))
  (hres:okV (fun k =>∃x∈fp,x.1=k∧x.2.2≠none) res:=by first | (simp [wL,wM]; done) | (simp [wL,wM, *]; done))
  (ha:apart pend (fp.map (fun x=>(rnm σ x.1,x.2))++fresh (yC nx (jT (rnm σ) res)).2.1):=by first | (simp [wL,wM]; done) | (simp [wL,wM, *]; done)):qK4 P num fin (.calv y xs) pend dst tr k t h nx :=
 pU (wAd σ hc hv hvo hnd hpre hnb hres (Nat.le_refl _) hy) ha hk
def qG9 (k:Int) (n:Nat):List Int:=(List.range n).map fun (i:Nat)=>k+i
@[simp] theorem qZq (k:Int) (n:Nat):(qG9 k n).length=n:=by simp [qG9]
@[simp] theorem wBc (k:Int) (n:Nat):(qG9 k n).take n=qG9 k n:=List.take_of_length_le (by simp)
theorem cT (xs:List Int) (hx:8*xs.length≤2^47):wD Try.prog num 36 [.sl .bw 1 (wR xs)] [] (.sl .own 1 (wR xs)):=by
 refine EN m36 Try.func32 ?_
 unfold m36
 simp only [go_sem,seval]
 repeat refine K ?_
 refine fz ?_; simp [yS,wL,wM,wV,-wEc]
def qR (n lo hi:Int):Bool:=decide (lo≤n)&&decide (n≤hi)
theorem qK {n lo hi:Int}:qR n lo hi=true↔lo≤n∧n≤hi:=by simp [qR]
def uO (b:Bool):Int:=if b then 1 else 0
theorem uF (n lo hi:Int):wD Try.prog num 59 [.int .i64 n,.int .i64 lo,.int .i64 hi] [] (.bool (qR n lo hi)):=by
 refine EN m59 Try.func52 ?_
 unfold m59
 by_cases h1:lo≤n<;>by_cases h2:n≤hi<;>(simp only [go_sem,seval,h1,h2]; refine fz ?_; simp [yS,wL,wM,wV,-wEc]; simp [qR,h1,h2])
theorem lY (b:Bool):wD Try.prog num 78 [.bool b] [] (.int .i64 (uO b)):=by
 refine EN m78 Try.func76 ?_
 unfold m78
 cases b<;>(simp only [go_sem,seval]; refine fz ?_; simp [yS,wL,wM,wV,-wEc]; simp [uO])
theorem qAw (n:Int):wD Try.prog num 97 [.int .i64 n] [] (.bool (qR n 0 3)):=by
 refine EN m97 Try.func81 ?_
 unfold m97
 simp only [go_sem,seval]
 refine CA [] (uF n 0 3) ?_
 try simp only [go_sem,seval]
 refine fz ?_; simp [yS,wL,wM,wV,-wEc]
theorem qJb (n:Int):wD Try.prog num 44 [.int .i64 n] [] (.bool (qR n 5 9)):=by
 refine EN m44 Try.func82 ?_
 unfold m44
 simp only [go_sem,seval]
 refine CA [] (uF n 5 9) ?_
 try simp only [go_sem,seval]
 refine fz ?_; simp [yS,wL,wM,wV,-wEc]
theorem qLx (l:List bM) (hx:16*l.length≤2^47):wD Try.prog num 69 [.sl .bw 2 (jC l)] [] (.sl .own 2 (jC l)):=by
 refine EN m69 Try.func53 ?_
 unfold m69
 simp only [go_sem,seval]
 repeat refine K ?_
 refine fz ?_; simp [yS,wL,wM,wV,-wEc]
theorem kN (c:jU) (hx:8*c.list.length≤2^47):wD Try.prog num 70 [.agg (eP .bw c)] [] (.agg (eP .own c)):=by
 refine EN m70 Try.func54 ?_
 unfold m70
 simp only [go_sem,seval]
 refine CA [] (cT c.list hx) ?_
 try simp only [go_sem,seval]
 refine fz ?_; simp [yS,wL,wM,wV,-wEc]
def jQ (c:jU):Bool:=qR c.cap 1 4&&decide ((c.list.length:Int)≤c.cap)
theorem cD (c:jU):wD Try.prog num 72 [.agg (eP .bw c)] [] (.bool (jQ c)):=by
 refine EN m72 Try.func56 ?_
 unfold m72
 simp only [go_sem,seval]
 refine CA [] (uF c.cap 1 4) ?_
 try simp only [go_sem,seval]
 cases h:qR c.cap 1 4
 ·simp only [go_sem,seval,h]
  refine fz ?_; simp [yS,wL,wM,wV,-wEc]
  simp [jQ,h]
 ·simp only [go_sem,seval,h]
  refine fz ?_; simp [yS,wL,wM,wV,-wEc]
  simp [jQ,h]
def jE (x:Ins) (pl ch:Int):Bool :=
 qR x.r 0 3&&qR x.a 0 3&&qR x.b 0 3&&qR ch 0 3 &&
 (if x.op=1 then qR x.n (-1000000000) 1000000000&&decide (x.a=0)&&decide (x.b=0)
  else if x.op=2∨x.op=3∨x.op=4 then decide (x.n=0)
  else if x.op=5 then qR x.n 0 (ch-1)&&decide (x.r=0)&&decide (x.b=0)
  else if x.op=6∨x.op=8 then qR x.n 0 (ch-1)&&decide (x.a=0)&&!decide (x.r=x.b)
  else if x.op=7 then qR x.n 0 (ch-1)&&decide (x.b=0)
  else if x.op=9 then qR x.n 0 (ch-1)&&decide (x.r=0)&&decide (x.a=0)&&decide (x.b=0)
  else if x.op=10 then decide (x.r=0)&&decide (x.b=0)&&decide (x.n=0)
  else if x.op=11 then decide (0≤x.n)&&decide (x.n<pl)&&decide (x.r=0)&&decide (x.a=0)&&decide (x.b=0)
  else if x.op=12 then decide (0≤x.n)&&decide (x.n<pl)&&decide (x.r=0)&&decide (x.b=0)
  else if x.op=13 then decide (x.op=13)&&(decide (x.r=0)&&(decide (x.a=0)&&(decide (x.b=0)&&decide (x.n=0))))
  else false)
def qDh (x:Ins):Ins :=
 if x.op=1 then ⟨x.op,x.r,0,0,x.n⟩
 else if x.op=2∨x.op=3∨x.op=4 then ⟨x.op,x.r,x.a,x.b,0⟩
 else if x.op=5∨x.op=12 then ⟨x.op,0,x.a,0,x.n⟩
 else if x.op=6∨x.op=8 then ⟨x.op,x.r,0,x.b,x.n⟩
 else if x.op=7 then ⟨x.op,x.r,x.a,0,x.n⟩
 else if x.op=9∨x.op=11 then ⟨x.op,0,0,0,x.n⟩
 else if x.op=10 then ⟨x.op,0,x.a,0,0⟩
 else ⟨x.op,0,0,0,0⟩
def pM (x:Ins) (pl ch:Int):Bool :=
 qR ch 0 3&&qR x.op 1 13&&(decide (x.op=(qDh x).op)&&(decide (x.r=(qDh x).r)&&(decide (x.a=(qDh x).a)&&(decide (x.b=(qDh x).b)&&decide (x.n=(qDh x).n))))) &&
 qR x.r 0 3&&qR x.a 0 3&&qR x.b 0 3 &&
 (if x.op=1 then qR x.n (-1000000000) 1000000000
  else if x.op=11∨x.op=12 then qR x.n 0 (pl-1)
  else if (x.op=6∨x.op=8)∧x.r=x.b then false
  else !qR x.op 5 9||qR x.n 0 (ch-1))
theorem qNh (x:Ins):wD Try.prog num 96 [.agg (dL x)] [] (.agg (dL (qDh x))):=by
 refine EN m96 Try.func80 ?_
 unfold m96
 repeat' (first
  | (simp only [go_sem,seval])
  | (refine qX (fun hc=>?_) (fun hc=>?_)<;>((try simp only [wEd,wEe,ne_eq,wEf,wEg] at hc)<;>(try simp only [hc])))
  | (refine cO (fun hc=>?_) (fun hc=>?_)<;>((try simp only [wEd,wEe,ne_eq,wEf,wEg] at hc)<;>(try simp only [hc])))
  | (refine eI (fun hc=>?_) (fun hc=>?_)<;>((try simp only [wEd,wEe,ne_eq,wEf,wEg] at hc)<;>(try simp only [hc])))
  | (refine ⟨by first | omega | (simp; done),?_⟩)
  | fail)
 all_goals (refine fz ?_; simp [yS,wL,wM,wV,-wEc])
 all_goals (try (simp_all [qDh]; done))
theorem qBs (n lo hi:Int):qR n lo hi=decide (lo≤n∧n≤hi):=by simp [qR]
theorem rV (x:Ins) (pl ch:Int):pM x pl ch=jE x pl ch:=by
 obtain ⟨op,r,a,b,n⟩:=x
 by_cases h:1≤op∧op≤13
 ·obtain rfl | rfl | rfl | rfl | rfl | rfl | rfl | rfl | rfl | rfl | rfl | rfl | rfl:op=1∨op=2∨op=3∨op=4∨op=5∨op=6∨op=7∨op=8∨op=9∨op=10∨op=11∨op=12∨op=13:=by omega
  all_goals (rw [Bool.eq_iff_iff]; simp [pM,jE,qDh,qBs]; try omega)
 ·have h1 :¬op=1:=by omega
  have h2 :¬op=2:=by omega
  have h3 :¬op=3:=by omega
  have h4 :¬op=4:=by omega
  have h5 :¬op=5:=by omega
  have h6 :¬op=6:=by omega
  have h7 :¬op=7:=by omega
  have h8 :¬op=8:=by omega
  have h9 :¬op=9:=by omega
  have h10 :¬op=10:=by omega
  have h11 :¬op=11:=by omega
  have h12 :¬op=12:=by omega
  have h13 :¬op=13:=by omega
  have hw:qR op 1 13=false:=by rw [qBs]; simp; omega
  simp [pM,jE,hw,h1,h2,h3,h4,h5,h6,h7,h8,h9,h10,h11,h12,h13]
end Go.Sep
