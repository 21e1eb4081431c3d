/- Contracts of functions. -/
import Derived.Test.YtebbppogicgpkaaOzFns
namespace Go.Sep
set_option maxHeartbeats 16000000
open Go.Proofs
set_option linter.unusedSimpArgs false
set_option linter.unusedVariables false
set_option maxRecDepth 100000
def m36:MFn:=⟨6,[.t 2],kr [xo 2 (.mv (.c (.nil)))] (kR [xo 3 (.mkSl [xz] 0 []),xv 4 0,xA 5 1 8 3 4,xv 2 5])⟩
def m44:MFn:=⟨5,[.t 2],kr [xF 2] (kR [xv 3 0,xc3 4 59 (.t 3) (xi 5) (xi 9),xv 2 4])⟩
def m59:MFn:=⟨15,[.t 6],kr [xF 6] (kR [xv 7 0,xv 8 1,bT 9 .geq 7 8,xv 10 9,yv 11 0 10,yv 12 2 10,xg 13 (.bin .leq (.t 11) (.t 12)) 10 true,xP 14 10 13,xv 6 14])⟩
def m69:MFn:=⟨6,[.t 2],kr [xo 2 (.mv (.c (.nil)))] (kR [xo 3 (.mkSl [xz,xz] 0 []),xv 4 0,xA 5 2 16 3 4,xv 2 5])⟩
def m70:MFn:=⟨8,[.cell 2 3 true],kr [xb 1 0,xo 2 (.alloc [.int .i64 0,.nil,.bool false])] (kr [xa 3 1 1,xl 4 3,xc1 5 36 (.t 4),xa 6 1 1,xS 1 6 5] (kR [xm 7 3 1,xS 3 2 7]))⟩
def m72:MFn:=⟨14,[.t 2],kr [xb 1 0,xF 2] (kR [xa 3 0 1,xl 4 3,xc3 5 59 (.t 4) (xi 1) (xi 4),xv 6 5,ya 7 1 1 6,yl 8 1 7 6,ye 9 8 6,ya 10 0 1 6,yl 11 1 10 6,xg 12 (.bin .leq (.t 9) (.t 11)) 6 true,xP 13 6 12,xv 2 13])⟩
def m78:MFn:=⟨4,[.t 2],kr [xI 2 0] (.seq (kr [xv 3 0] (kF 3 [xI 2 1])) (kR [xI 2 0]))⟩
def m96:MFn:=⟨74,[.cell 2 5 true],kr [xb 1 0,xo 2 (.alloc [xz,xz,xz,xz,xz])] (kr [xa 4 0 1,xl 5 4,xo 6 (.build [xz,xz,xz,xz,xz] [(0,1,.t 5)]),xo 3 (.alloc [xz,xz,xz,xz,xz]),xS 5 3 6] (.seq (kr [xa 7 0 1,xl 8 7] (.blk 0 (kr [bI 10 .eql 8 1,xv 9 10] (.cond 9 (.dreg (.take 0 (xa 11 1 1) (.take 1 (xl 12 11) (.take 2 (xa 13 4 1) (.take 3 (xl 14 13) (.only 4 [0,1] (xa 15 1 3) (.only 5 [0,1] (xS 1 15 12) (.only 6 [0,1,2,3] (xa 16 4 3) (.only 7 [0,1,2,3] (xS 1 16 14) (.done)))))))))) (.seq (kr [bI 18 .eql 8 2,xv 17 18] (.cond 17 (.skip) (kr [bI 19 .eql 8 3,xv 17 19] (.cond 17 (.skip) (xr [bI 20 .eql 8 4,xv 17 20]))))) (.cond 17 (.dreg (.take 0 (xa 21 1 1) (.take 1 (xl 22 21) (.take 2 (xa 23 2 1) (.take 3 (xl 24 23) (.take 4 (xa 25 3 1) (.take 5 (xl 26 25) (.only 6 [0,1] (xa 27 1 3) (.only 7 [0,1] (xS 1 27 22) (.only 8 [0,1,2,3] (xa 28 2 3) (.only 9 [0,1,2,3] (xS 1 28 24) (.only 10 [0,1,2,3,4,5] (xa 29 3 3) (.only 11 [0,1,2,3,4,5] (xS 1 29 26) (.done)))))))))))))) (.seq (kr [bI 31 .eql 8 5,xv 30 31] (.cond 30 (.skip) (xr [bI 32 .eql 8 12,xv 30 32]))) (.cond 30 (.dreg (.take 0 (xa 33 2 1) (.take 1 (xl 34 33) (.take 2 (xa 35 4 1) (.take 3 (xl 36 35) (.only 4 [0,1] (xa 37 2 3) (.only 5 [0,1] (xS 1 37 34) (.only 6 [0,1,2,3] (xa 38 4 3) (.only 7 [0,1,2,3] (xS 1 38 36) (.done)))))))))) (.seq (kr [bI 40 .eql 8 6,xv 39 40] (.cond 39 (.skip) (xr [bI 41 .eql 8 8,xv 39 41]))) (.cond 39 (.dreg (.take 0 (xa 42 1 1) (.take 1 (xl 43 42) (.take 2 (xa 44 3 1) (.take 3 (xl 45 44) (.take 4 (xa 46 4 1) (.take 5 (xl 47 46) (.only 6 [0,1] (xa 48 1 3) (.only 7 [0,1] (xS 1 48 43) (.only 8 [0,1,2,3] (xa 49 3 3) (.only 9 [0,1,2,3] (xS 1 49 45) (.only 10 [0,1,2,3,4,5] (xa 50 4 3) (.only 11 [0,1,2,3,4,5] (xS 1 50 47) (.done)))))))))))))) (kr [bI 52 .eql 8 7,xv 51 52] (.cond 51 (.dreg (.take 0 (xa 53 1 1) (.take 1 (xl 54 53) (.take 2 (xa 55 2 1) (.take 3 (xl 56 55) (.take 4 (xa 57 4 1) (.take 5 (xl 58 57) (.only 6 [0,1] (xa 59 1 3) (.only 7 [0,1] (xS 1 59 54) (.only 8 [0,1,2,3] (xa 60 2 3) (.only 9 [0,1,2,3] (xS 1 60 56) (.only 10 [0,1,2,3,4,5] (xa 61 4 3) (.only 11 [0,1,2,3,4,5] (xS 1 61 58) (.done)))))))))))))) (.seq (kr [bI 63 .eql 8 9,xv 62 63] (.cond 62 (.skip) (xr [bI 64 .eql 8 11,xv 62 64]))) (.cond 62 (xr [xa 65 4 1,xl 66 65,xa 67 4 3,xS 1 67 66]) (kr [bI 69 .eql 8 10,xv 68 69] (.cond 68 (xr [xa 70 2 1,xl 71 70,xa 72 2 3,xS 1 72 71]) (.skip))))))))))))))))) (kR [xm 73 5 3,xS 5 2 73])))⟩
def m97:MFn:=⟨5,[.t 2],kr [xF 2] (kR [xv 3 0,xc3 4 59 (.t 3) (xi 0) (xi 3),xv 2 4])⟩
attribute [local go_sem] kV vW qU8 qUa qOy qSm qUb qSk qU9 qSq qOx qSr qSl wP qOo qHg Arg.ev wA bQ qTk if_false if_true dR put del fG qBk Option.map_some Option.bind_some qO Int.toNat_natCast qUc qSj qSn dA true_and and_true qKz qKx qKy qCi qAc Bool.false_eq_true eL cellsOf jD List.isEmpty_nil List.isEmpty_cons fresh List.map_nil List.map_cons List.cons_append List.nil_append gJ List.take_zero List.drop_zero List.take_succ_cons List.getD_cons_zero List.length_cons List.length_nil List.drop_succ_cons List.drop_nil List.append_nil List.all_cons List.all_nil yU Bool.and_self Nat.zero_add qSo qSp qSi qOw qOv qOt qOu qSs qU7 qF3 qLk qHr qMg qMi qFp vG vI aR qI3 fP yM apart List.filter_nil List.filter_cons Option.isSome_some Option.isSome_none List.contains_nil List.contains_cons List.forall_mem_cons List.mem_cons List.not_mem_nil false_implies implies_true forall_const forall_eq_or_imp forall_eq or_false beq_self_eq_true Bool.or_false Bool.false_or Bool.true_or Bool.or_true Bool.not_true Bool.not_false xv xo xg xr xi xz List.set_set qEi qCb qHp qHq qA0 pQ qHo qBd lE eqC cW qC4 List.replicate_zero decide_true decide_false qL8 qKr List.replicate_succ Int.toNat_zero Int.toNat_one eq_self Bool.and_true Bool.true_and Bool.and_false Bool.false_and List.set_cons_zero List.set_cons_succ List.getD_cons_succ rnm ixm jA zF wY jS cond_true cond_false pN pM qA1
attribute [local simp] fV bwT bwC bwL bM pM wA Arg.ev gM sF rK qFj aW qJ1 qCy yS okV okL nb nbs nbr bC qO fG bnd jJ yV jA zF ixm rnm apart fP vG vI fresh wY jS dT qJt gA iL bA del tO zO pN qA1 shp okB oB qHj
theorem jM {rs:List qCs} {fp:FP} {vs:List AV} {t:List (Nat×AV)} {h:wQ} {nx:Nat} (h0:vs.length≠1) (h1:qJt (rs.map fun r=>(dT t h r).2)∧(gA h (rs.map fun r=>(dT t h r).1)).2.2∧qW (gA h (rs.map fun r=>(dT t h r).1)).1 vs∧∀x∈fp,qO (gA h (rs.map fun r=>(dT t h r).1)).2.1 x.1=qO (bA fp) x.1):yB rs fp (.tup vs) (.mk t h nx):=by
 refine ⟨h1.1,h1.2.1,⟨vs,h1.2.2.1,?_⟩,h1.2.2.2⟩
 match vs,h0 with
 | [],_=>rfl
 | [_],h0=>exact absurd rfl h0
 | _::_::_,_=>rfl
theorem dN {rs:List qCs} {fp:FP} {v:AV} {t:List (Nat×AV)} {h:wQ} {nx:Nat} (h1:qJt (rs.map fun r=>(dT t h r).2)∧(gA h (rs.map fun r=>(dT t h r).1)).2.2∧qW (gA h (rs.map fun r=>(dT t h r).1)).1 [v]∧∀x∈fp,qO (gA h (rs.map fun r=>(dT t h r).1)).2.1 x.1=qO (bA fp) x.1):yB rs fp v (.mk t h nx) :=
 ⟨h1.1,h1.2.1,⟨[v],h1.2.2.1,rfl⟩,h1.2.2.2⟩
theorem qQ3 (c d:AV) (cs ds:List AV):qW (c::cs) (d::ds)↔qZ c d∧qW cs ds:=by
 simp only [qW,List.cons.injEq]
 exact ⟨fun ⟨_,_,⟨h1,h2⟩,h3,h4⟩=>by subst h1 h2; exact ⟨h3,h4⟩,fun ⟨h3,h4⟩=>⟨_,_,⟨rfl,rfl⟩,h3,h4⟩⟩
theorem qRy:qW [] []↔True:=by simp [qW]
theorem qRx (cs ds:List AV):qZ (.agg cs) (.agg ds)↔qW cs ds:=by simp [qZ]
theorem qRs (cs ds:List AV):qZ (.tup cs) (.tup ds)↔qW cs ds:=by simp [qZ]
theorem qMp (m:Mode) (sz:Nat):qZ .nil (.sl m sz [])↔True:=by simp [qZ]
theorem qRv:qZ .nil .nil↔True:=by simp [qZ]
theorem qTn (m:Mode) (sz:Nat) (rows:List (List AV)) (d:AV):qZ (.sl m sz rows) d↔.sl m sz rows=d:=by simp [qZ]
theorem qRw (k:IntKind) (n:Int) (d:AV):qZ (.int k n) d↔.int k n=d:=by simp [qZ]
theorem qQ2 (b:Bool) (d:AV):qZ (.bool b) d↔.bool b=d:=by simp [qZ]
theorem qRt (s:ByteArray) (d:AV):qZ (.str s) d↔.str s=d:=by simp [qZ]
theorem qTp (k o l:Nat) (d:AV):qZ (.ns k o l) d↔.ns k o l=d:=by simp [qZ]
theorem qRu (k o l:Nat) (d:AV):qZ (.ptr k o l) d↔.ptr k o l=d:=by simp [qZ]
theorem mN (r d:List AV) (rs ds:List (List AV)):xK (r::rs) (d::ds)↔qW r d∧xK rs ds:=by
 simp only [xK,List.cons.injEq]
 exact ⟨fun ⟨_,_,⟨h1,h2⟩,h3,h4⟩=>by subst h1 h2; exact ⟨h3,h4⟩,fun ⟨h3,h4⟩=>⟨_,_,⟨rfl,rfl⟩,h3,h4⟩⟩
theorem qHe:xK [] []↔True:=by simp [xK]
theorem qSf:free []↔True:=by simp [free]
theorem qQh (r:List AV) (rs:List (List AV)):free (r::rs)↔(∀c∈r,tO c=false)∧free rs:=by simp [free]
structure Ins where
 op:Int
 r:Int
 a:Int
 b:Int
 n:Int
 deriving DecidableEq,Inhabited
def lM (x:Ins):List AV:=[.int .i64 x.op,.int .i64 x.r,.int .i64 x.a,.int .i64 x.b,.int .i64 x.n]
def zT (l:List Ins):List (List AV):=l.map lM
theorem qSd:zT []=[]:=rfl
theorem oH (l:List Ins):(zT l).length=l.length:=by simp [zT]
theorem qLa (l k:List Ins):zT l++zT k=zT (l++k):=by simp [zT]
theorem qHl (l:List Ins) (n:Nat):(zT l).drop n=zT (l.drop n):=by simp [zT]
theorem qHk (l:List Ins) (n:Nat):(zT l).take n=zT (l.take n):=by simp [zT]
theorem qSc (l:List Ins) (i:Nat) (op_:Int) (r_:Int) (a_:Int) (b_:Int) (n_:Int):(zT l).set i [.int .i64 op_,.int .i64 r_,.int .i64 a_,.int .i64 b_,.int .i64 n_]=zT (l.set i ⟨op_,r_,a_,b_,n_⟩):=by simp [zT,lM]
theorem eI (l:List Ins) (i:Nat) (h:i<l.length):(zT l).getD i []=[.int .i64 (l.getD i default).op,.int .i64 (l.getD i default).r,.int .i64 (l.getD i default).a,.int .i64 (l.getD i default).b,.int .i64 (l.getD i default).n]:=by simp [zT,lM,List.getD_eq_getElem?_getD,h]
theorem bJ (A:Nat→Prop) (l:List Ins):yV A (zT l)↔True:=by
 simp only [iff_true]
 induction l with
 | nil=>trivial
 | cons x l ih=>exact ⟨by simp [lM,jJ,bnd,aW,yS],ih⟩
theorem dK (l:List Ins):nbr (zT l)↔True:=by
 simp only [iff_true]
 induction l with
 | nil=>trivial
 | cons x l ih=>exact ⟨by simp [lM,nbs,nb,bC],ih⟩
theorem gV :∀(l:List Ins),bwR (zT l)=zT l
 | []=>rfl
 | x::l=>by
  have:=gV l
  simp only [zT,List.map_cons,bwR] at this⊢
  rw [this]
  simp [lM,bwL,bwC,bM]
theorem qQf (l:List Ins):free (zT l)↔True:=by
 simp only [iff_true]
 intro r hr c hc
 simp only [zT,List.mem_map] at hr
 obtain ⟨x,_,rfl⟩:=hr
 simp [lM] at hc
 rcases hc with rfl | rfl | rfl | rfl | rfl<;>rfl
def vZ (m:Mode) (l:List (List Ins)):List (List AV):=l.map fun b=>[.sl m 5 (zT b)]
theorem qNs (m:Mode):vZ m []=[]:=rfl
theorem lA (m:Mode) (l:List (List Ins)):(vZ m l).length=l.length:=by simp [vZ]
theorem qGt (m:Mode) (l k:List (List Ins)):vZ m l++vZ m k=vZ m (l++k):=by simp [vZ]
theorem qCk (m:Mode) (l:List (List Ins)) (n:Nat):(vZ m l).drop n=vZ m (l.drop n):=by simp [vZ]
theorem qCj (m:Mode) (l:List (List Ins)) (n:Nat):(vZ m l).take n=vZ m (l.take n):=by simp [vZ]
theorem qNr (m:Mode) (l:List (List Ins)) (i:Nat) (b_:List Ins):(vZ m l).set i [.sl m 5 (zT b_)]=vZ m (l.set i b_):=by simp [vZ]
theorem wH (m:Mode) (l:List (List Ins)) (i:Nat) (h:i<l.length):(vZ m l).getD i []=[.sl m 5 (zT (l.getD i []))]:=by simp [vZ,List.getD_eq_getElem?_getD,h]
theorem vJ (A:Nat→Prop) (m:Mode) (l:List (List Ins)):yV A (vZ m l)↔True:=by
 simp only [iff_true]
 induction l with
 | nil=>trivial
 | cons x l ih=>exact ⟨by simp [jJ,bnd,aW,yS,bJ],ih⟩
theorem uN (l:List (List Ins)):nbr (vZ .own l)↔True:=by
 simp only [iff_true]
 induction l with
 | nil=>trivial
 | cons x l ih=>exact ⟨by simp [nbs,nb,bC,dK],ih⟩
theorem uB (m:Mode) :∀(l:List (List Ins)),bwR (vZ m l)=vZ .bw l
 | []=>rfl
 | x::l=>by
  have:=uB m l
  simp only [vZ,List.map_cons,bwR] at this⊢
  rw [this]
  simp [bwL,bwC,bM,gV]
theorem qLw (l:List (List Ins)):free (vZ .bw l)↔True:=by
 simp only [iff_true]
 intro r hr c hc
 simp only [vZ,List.mem_map] at hr
 obtain ⟨x,_,rfl⟩:=hr
 simp [] at hc
 rcases hc with rfl<;>rfl
def xM (m:Mode) (l:List (List Int)):List (List AV):=l.map fun b=>[.sl m 1 (wT b)]
theorem qQd (m:Mode):xM m []=[]:=rfl
theorem mQ (m:Mode) (l:List (List Int)):(xM m l).length=l.length:=by simp [xM]
theorem qJe (m:Mode) (l k:List (List Int)):xM m l++xM m k=xM m (l++k):=by simp [xM]
theorem qEt (m:Mode) (l:List (List Int)) (n:Nat):(xM m l).drop n=xM m (l.drop n):=by simp [xM]
theorem qEs (m:Mode) (l:List (List Int)) (n:Nat):(xM m l).take n=xM m (l.take n):=by simp [xM]
theorem qQc (m:Mode) (l:List (List Int)) (i:Nat) (b_:List Int):(xM m l).set i [.sl m 1 (wT b_)]=xM m (l.set i b_):=by simp [xM]
theorem uY (A:Nat→Prop) (m:Mode) (l:List (List Int)):yV A (xM m l)↔True:=by
 simp only [iff_true]
 induction l with
 | nil=>trivial
 | cons x l ih=>exact ⟨by simp [jJ,bnd,aW,yS,bJ,vJ],ih⟩
theorem gL (l:List (List Int)):nbr (xM .own l)↔True:=by
 simp only [iff_true]
 induction l with
 | nil=>trivial
 | cons x l ih=>exact ⟨by simp [nbs,nb,bC,dK,uN],ih⟩
theorem bS (m:Mode) :∀(l:List (List Int)),bwR (xM m l)=xM .bw l
 | []=>rfl
 | x::l=>by
  have:=bS m l
  simp only [xM,List.map_cons,bwR] at this⊢
  rw [this]
  simp [bwL,bwC,bM,gV,uB]
theorem qN1 (l:List (List Int)):free (xM .bw l)↔True:=by
 simp only [iff_true]
 intro r hr c hc
 simp only [xM,List.mem_map] at hr
 obtain ⟨x,_,rfl⟩:=hr
 simp [] at hc
 rcases hc with rfl<;>rfl
structure uE where
 cap:Int
 list:List Int
 closed:Bool
 deriving DecidableEq,Inhabited
def cA (m:Mode) (x:uE):List AV:=[.int .i64 x.cap,.sl m 1 (wT x.list),.bool x.closed]
def vR (m:Mode) (l:List uE):List (List AV):=l.map (cA m)
theorem qQq (m:Mode):vR m []=[]:=rfl
theorem fY (m:Mode) (l:List uE):(vR m l).length=l.length:=by simp [vR]
theorem mV (m:Mode) (l k:List uE):vR m l++vR m k=vR m (l++k):=by simp [vR]
theorem qFc (m:Mode) (l:List uE) (n:Nat):(vR m l).drop n=vR m (l.drop n):=by simp [vR]
theorem qFb (m:Mode) (l:List uE) (n:Nat):(vR m l).take n=vR m (l.take n):=by simp [vR]
theorem dD (m:Mode) (l:List uE) (i:Nat) (cap_:Int) (list_:List Int) (closed_:Bool):(vR m l).set i [.int .i64 cap_,.sl m 1 (wT list_),.bool closed_]=vR m (l.set i ⟨cap_,list_,closed_⟩):=by simp [vR,cA]
theorem gO (m:Mode) (l:List uE) (i:Nat) (h:i<l.length):(vR m l).getD i []=[.int .i64 (l.getD i default).cap,.sl m 1 (wT (l.getD i default).list),.bool (l.getD i default).closed]:=by simp [vR,cA,List.getD_eq_getElem?_getD,h]
theorem bN (A:Nat→Prop) (m:Mode) (l:List uE):yV A (vR m l)↔True:=by
 simp only [iff_true]
 induction l with
 | nil=>trivial
 | cons x l ih=>exact ⟨by simp [cA,jJ,bnd,aW,yS,bJ,vJ,uY],ih⟩
theorem dM (l:List uE):nbr (vR .own l)↔True:=by
 simp only [iff_true]
 induction l with
 | nil=>trivial
 | cons x l ih=>exact ⟨by simp [cA,nbs,nb,bC,dK,uN,gL],ih⟩
theorem gP (m:Mode) :∀(l:List uE),bwR (vR m l)=vR .bw l
 | []=>rfl
 | x::l=>by
  have:=gP m l
  simp only [vR,List.map_cons,bwR] at this⊢
  rw [this]
  simp [cA,bwL,bwC,bM,gV,uB,bS]
theorem qNj (l:List uE):free (vR .bw l)↔True:=by
 simp only [iff_true]
 intro r hr c hc
 simp only [vR,List.mem_map] at hr
 obtain ⟨x,_,rfl⟩:=hr
 simp [cA] at hc
 rcases hc with rfl | rfl | rfl<;>rfl
structure dW where
 who:Int
 v:Int
 deriving DecidableEq,Inhabited
def tK (x:dW):List AV:=[.int .i64 x.who,.int .i64 x.v]
def yW (l:List dW):List (List AV):=l.map tK
theorem qPy:yW []=[]:=rfl
theorem mK (l:List dW):(yW l).length=l.length:=by simp [yW]
theorem yY (l k:List dW):yW l++yW k=yW (l++k):=by simp [yW]
theorem vN (who_:Int) (v_:Int):[[.int .i64 who_,.int .i64 v_]]=yW [⟨who_,v_⟩]:=rfl
theorem qE9 (l:List dW) (n:Nat):(yW l).drop n=yW (l.drop n):=by simp [yW]
theorem qE8 (l:List dW) (n:Nat):(yW l).take n=yW (l.take n):=by simp [yW]
theorem qPw (l:List dW) (i:Nat) (who_:Int) (v_:Int):(yW l).set i [.int .i64 who_,.int .i64 v_]=yW (l.set i ⟨who_,v_⟩):=by simp [yW,tK]
theorem mL (l:List dW) (i:Nat) (h:i<l.length):(yW l).getD i []=[.int .i64 (l.getD i default).who,.int .i64 (l.getD i default).v]:=by simp [yW,tK,List.getD_eq_getElem?_getD,h]
theorem gH (A:Nat→Prop) (l:List dW):yV A (yW l)↔True:=by
 simp only [iff_true]
 induction l with
 | nil=>trivial
 | cons x l ih=>exact ⟨by simp [tK,jJ,bnd,aW,yS,bJ,vJ,uY,bN],ih⟩
theorem gK (l:List dW):nbr (yW l)↔True:=by
 simp only [iff_true]
 induction l with
 | nil=>trivial
 | cons x l ih=>exact ⟨by simp [tK,nbs,nb,bC,dK,uN,gL,dM],ih⟩
theorem dI :∀(l:List dW),bwR (yW l)=yW l
 | []=>rfl
 | x::l=>by
  have:=dI l
  simp only [yW,List.map_cons,bwR] at this⊢
  rw [this]
  simp [tK,bwL,bwC,bM,gV,uB,bS,gP]
theorem qMn (l:List dW):free (yW l)↔True:=by
 simp only [iff_true]
 intro r hr c hc
 simp only [yW,List.mem_map] at hr
 obtain ⟨x,_,rfl⟩:=hr
 simp [tK] at hc
 rcases hc with rfl | rfl<;>rfl
structure yZ where
 at_:Int
 regs:List Int
 st:Int
 deriving DecidableEq,Inhabited
def fR (m:Mode) (x:yZ):List AV:=[.int .i64 x.at_,.sl m 1 (wT x.regs),.int .i64 x.st]
def yK (m:Mode) (l:List yZ):List (List AV):=l.map (fR m)
theorem qK4 (m:Mode):yK m []=[]:=rfl
theorem zB (m:Mode) (l:List yZ):(yK m l).length=l.length:=by simp [yK]
theorem iD (m:Mode) (l k:List yZ):yK m l++yK m k=yK m (l++k):=by simp [yK]
theorem sP (m:Mode) (l:List yZ) (n:Nat):(yK m l).drop n=yK m (l.drop n):=by simp [yK]
theorem sO (m:Mode) (l:List yZ) (n:Nat):(yK m l).take n=yK m (l.take n):=by simp [yK]
theorem qN (m:Mode) (l:List yZ) (i:Nat) (at__:Int) (regs_:List Int) (st_:Int):(yK m l).set i [.int .i64 at__,.sl m 1 (wT regs_),.int .i64 st_]=yK m (l.set i ⟨at__,regs_,st_⟩):=by simp [yK,fR]
theorem qU (m:Mode) (l:List yZ) (i:Nat) (h:i<l.length):(yK m l).getD i []=[.int .i64 (l.getD i default).at_,.sl m 1 (wT (l.getD i default).regs),.int .i64 (l.getD i default).st]:=by simp [yK,fR,List.getD_eq_getElem?_getD,h]
theorem uP (A:Nat→Prop) (m:Mode) (l:List yZ):yV A (yK m l)↔True:=by
 simp only [iff_true]
 induction l with
 | nil=>trivial
 | cons x l ih=>exact ⟨by simp [fR,jJ,bnd,aW,yS,bJ,vJ,uY,bN,gH],ih⟩
theorem bO (l:List yZ):nbr (yK .own l)↔True:=by
 simp only [iff_true]
 induction l with
 | nil=>trivial
 | cons x l ih=>exact ⟨by simp [fR,nbs,nb,bC,dK,uN,gL,dM,gK],ih⟩
theorem uX (m:Mode) :∀(l:List yZ),bwR (yK m l)=yK .bw l
 | []=>rfl
 | x::l=>by
  have:=uX m l
  simp only [yK,List.map_cons,bwR] at this⊢
  rw [this]
  simp [fR,bwL,bwC,bM,gV,uB,bS,gP,dI]
theorem qIh (l:List yZ):free (yK .bw l)↔True:=by
 simp only [iff_true]
 intro r hr c hc
 simp only [yK,List.mem_map] at hr
 obtain ⟨x,_,rfl⟩:=hr
 simp [fR] at hc
 rcases hc with rfl | rfl | rfl<;>rfl
structure qFq where
 sent:List Int
 taken:List Int
 deriving DecidableEq,Inhabited
def qBs (m:Mode) (x:qFq):List AV:=[.sl m 1 (wT x.sent),.sl m 1 (wT x.taken)]
def xG (m:Mode) (l:List qFq):List (List AV):=l.map (qBs m)
theorem qP3 (m:Mode):xG m []=[]:=rfl
theorem lY (m:Mode) (l:List qFq):(xG m l).length=l.length:=by simp [xG]
theorem qId (m:Mode) (l k:List qFq):xG m l++xG m k=xG m (l++k):=by simp [xG]
theorem qDc (m:Mode) (l:List qFq) (n:Nat):(xG m l).drop n=xG m (l.drop n):=by simp [xG]
theorem qDb (m:Mode) (l:List qFq) (n:Nat):(xG m l).take n=xG m (l.take n):=by simp [xG]
theorem qP2 (m:Mode) (l:List qFq) (i:Nat) (sent_:List Int) (taken_:List Int):(xG m l).set i [.sl m 1 (wT sent_),.sl m 1 (wT taken_)]=xG m (l.set i ⟨sent_,taken_⟩):=by simp [xG,qBs]
theorem zA (A:Nat→Prop) (m:Mode) (l:List qFq):yV A (xG m l)↔True:=by
 simp only [iff_true]
 induction l with
 | nil=>trivial
 | cons x l ih=>exact ⟨by simp [qBs,jJ,bnd,aW,yS,bJ,vJ,uY,bN,gH,uP],ih⟩
theorem xR (l:List qFq):nbr (xG .own l)↔True:=by
 simp only [iff_true]
 induction l with
 | nil=>trivial
 | cons x l ih=>exact ⟨by simp [qBs,nbs,nb,bC,dK,uN,gL,dM,gK,bO],ih⟩
theorem zM (m:Mode) :∀(l:List qFq),bwR (xG m l)=xG .bw l
 | []=>rfl
 | x::l=>by
  have:=zM m l
  simp only [xG,List.map_cons,bwR] at this⊢
  rw [this]
  simp [qBs,bwL,bwC,bM,gV,uB,bS,gP,dI,uX]
theorem qM8 (l:List qFq):free (xG .bw l)↔True:=by
 simp only [iff_true]
 intro r hr c hc
 simp only [xG,List.mem_map] at hr
 obtain ⟨x,_,rfl⟩:=hr
 simp [qBs] at hc
 rcases hc with rfl | rfl<;>rfl
structure wN where
 caps:List Int
 bods:List (List Ins)
 deriving DecidableEq,Inhabited
def vP (m:Mode) (x:wN):List AV:=[.sl m 1 (wT x.caps),.sl m 1 (vZ m x.bods)]
def xH (m:Mode) (l:List wN):List (List AV):=l.map (vP m)
theorem qPo (m:Mode):xH m []=[]:=rfl
theorem mG (m:Mode) (l:List wN):(xH m l).length=l.length:=by simp [xH]
theorem qIv (m:Mode) (l k:List wN):xH m l++xH m k=xH m (l++k):=by simp [xH]
theorem qDz (m:Mode) (l:List wN) (n:Nat):(xH m l).drop n=xH m (l.drop n):=by simp [xH]
theorem qDy (m:Mode) (l:List wN) (n:Nat):(xH m l).take n=xH m (l.take n):=by simp [xH]
theorem qPn (m:Mode) (l:List wN) (i:Nat) (caps_:List Int) (bods_:List (List Ins)):(xH m l).set i [.sl m 1 (wT caps_),.sl m 1 (vZ m bods_)]=xH m (l.set i ⟨caps_,bods_⟩):=by simp [xH,vP]
theorem xB (A:Nat→Prop) (m:Mode) (l:List wN):yV A (xH m l)↔True:=by
 simp only [iff_true]
 induction l with
 | nil=>trivial
 | cons x l ih=>exact ⟨by simp [vP,jJ,bnd,aW,yS,bJ,vJ,uY,bN,gH,uP,zA],ih⟩
theorem aV (l:List wN):nbr (xH .own l)↔True:=by
 simp only [iff_true]
 induction l with
 | nil=>trivial
 | cons x l ih=>exact ⟨by simp [vP,nbs,nb,bC,dK,uN,gL,dM,gK,bO,xR],ih⟩
theorem xV (m:Mode) :∀(l:List wN),bwR (xH m l)=xH .bw l
 | []=>rfl
 | x::l=>by
  have:=xV m l
  simp only [xH,List.map_cons,bwR] at this⊢
  rw [this]
  simp [vP,bwL,bwC,bM,gV,uB,bS,gP,dI,uX,zM]
theorem qMh (l:List wN):free (xH .bw l)↔True:=by
 simp only [iff_true]
 intro r hr c hc
 simp only [xH,List.mem_map] at hr
 obtain ⟨x,_,rfl⟩:=hr
 simp [vP] at hc
 rcases hc with rfl | rfl<;>rfl
structure qV where
 ths:List yZ
 chs:List uE
 tr:List dW
 deriving DecidableEq,Inhabited
def uD (m:Mode) (x:qV):List AV:=[.sl m 3 (yK m x.ths),.sl m 3 (vR m x.chs),.sl m 2 (yW x.tr)]
def uC (m:Mode) (l:List qV):List (List AV):=l.map (uD m)
theorem qK8 (m:Mode):uC m []=[]:=rfl
theorem iE (m:Mode) (l:List qV):(uC m l).length=l.length:=by simp [uC]
theorem qDl (m:Mode) (l k:List qV):uC m l++uC m k=uC m (l++k):=by simp [uC]
theorem sT (m:Mode) (l:List qV) (n:Nat):(uC m l).drop n=uC m (l.drop n):=by simp [uC]
theorem sS (m:Mode) (l:List qV) (n:Nat):(uC m l).take n=uC m (l.take n):=by simp [uC]
theorem qK7 (m:Mode) (l:List qV) (i:Nat) (ths_:List yZ) (chs_:List uE) (tr_:List dW):(uC m l).set i [.sl m 3 (yK m ths_),.sl m 3 (vR m chs_),.sl m 2 (yW tr_)]=uC m (l.set i ⟨ths_,chs_,tr_⟩):=by simp [uC,uD]
theorem dG (A:Nat→Prop) (m:Mode) (l:List qV):yV A (uC m l)↔True:=by
 simp only [iff_true]
 induction l with
 | nil=>trivial
 | cons x l ih=>exact ⟨by simp [uD,jJ,bnd,aW,yS,bJ,vJ,uY,bN,gH,uP,zA,xB],ih⟩
theorem zJ (l:List qV):nbr (uC .own l)↔True:=by
 simp only [iff_true]
 induction l with
 | nil=>trivial
 | cons x l ih=>exact ⟨by simp [uD,nbs,nb,bC,dK,uN,gL,dM,gK,bO,xR,aV],ih⟩
theorem dO (m:Mode) :∀(l:List qV),bwR (uC m l)=uC .bw l
 | []=>rfl
 | x::l=>by
  have:=dO m l
  simp only [uC,List.map_cons,bwR] at this⊢
  rw [this]
  simp [uD,bwL,bwC,bM,gV,uB,bS,gP,dI,uX,zM,xV]
theorem qIm (l:List qV):free (uC .bw l)↔True:=by
 simp only [iff_true]
 intro r hr c hc
 simp only [uC,List.mem_map] at hr
 obtain ⟨x,_,rfl⟩:=hr
 simp [uD] at hc
 rcases hc with rfl | rfl | rfl<;>rfl
def bys (l:List Int):List (List AV):=l.map fun b=>[.int .u8 b]
theorem qTy:bys []=[]:=rfl
theorem sE (l:List Int):(bys l).length=l.length:=by simp [bys]
theorem qNo (l k:List Int):bys l++bys k=bys (l++k):=by simp [bys]
theorem qLu (l:List Int) (n:Nat):(bys l).drop n=bys (l.drop n):=by simp [bys]
theorem qLt (l:List Int) (n:Nat):(bys l).take n=bys (l.take n):=by simp [bys]
theorem qTx (l:List Int) (i:Nat) (b_:Int):(bys l).set i [.int .u8 b_]=bys (l.set i b_):=by simp [bys]
theorem qSy (l:List Int) (i:Nat) (h:i<l.length):(bys l).getD i []=[.int .u8 (l.getD i 0)]:=by simp [bys,List.getD_eq_getElem?_getD,h]
theorem kH (A:Nat→Prop) (l:List Int):yV A (bys l)↔True:=by
 simp only [iff_true]
 induction l with
 | nil=>trivial
 | cons x l ih=>exact ⟨by simp [jJ,bnd,aW,yS,bJ,vJ,uY,bN,gH,uP,zA,xB,dG],ih⟩
theorem oV (l:List Int):nbr (bys l)↔True:=by
 simp only [iff_true]
 induction l with
 | nil=>trivial
 | cons x l ih=>exact ⟨by simp [nbs,nb,bC,dK,uN,gL,dM,gK,bO,xR,aV,zJ],ih⟩
theorem mX :∀(l:List Int),bwR (bys l)=bys l
 | []=>rfl
 | x::l=>by
  have:=mX l
  simp only [bys,List.map_cons,bwR] at this⊢
  rw [this]
  simp [bwL,bwC,bM,gV,uB,bS,gP,dI,uX,zM,xV,dO]
theorem qSz (l:List Int):free (bys l)↔True:=by
 simp only [iff_true]
 intro r hr c hc
 simp only [bys,List.mem_map] at hr
 obtain ⟨x,_,rfl⟩:=hr
 simp [] at hc
 rcases hc with rfl<;>rfl
theorem fS:(∀n,del [] n=[])∧(∀m s h n,del ((m,s)::h) n=if n=m then del h n else (m,s)::del h n)∧(∀n r,put [] n r=[(n,r)])∧(∀m s h n r,put ((m,s)::h) n r=if n=m then (m,r)::h else (m,s)::put h n r)∧(∀{α:Type} (a b:α) (l:List α),(a::l).set 0 b=b::l)∧(∀{α:Type} (a b:α) (l:List α) (n:Nat),(a::l).set (n+1) b=a::l.set n b)∧(∀{α:Type} (a b:α),(if True then a else b)=a)∧(∀{α:Type} (a b:α),(if False then a else b)=b)∧(∀l,(wT l).length=l.length)∧(∀l n,(wT l).take n=wT (l.take n))∧(∀l n,(wT l).drop n=wT (l.drop n))∧(∀o l rows,zO o l rows=if o=0∧rows.length=l then rows else (rows.drop o).take l)∧(∀{α:Type} (a:α) (l:List α),(a::l).length=l.length+1)∧(∀{α:Type},([]:List α).length=0)∧(∀p:Prop,(p∧p)=p)∧(∀p:Prop,(p∧True)=p)∧(∀p:Prop,(True∧p)=p)∧(∀l,(zT l).length=l.length)∧(∀m l,(vZ m l).length=l.length)∧(∀m l,(xM m l).length=l.length)∧(∀m l,(vR m l).length=l.length)∧(∀l,(yW l).length=l.length)∧(∀m l,(yK m l).length=l.length)∧(∀m l,(xG m l).length=l.length)∧(∀m l,(xH m l).length=l.length)∧(∀m l,(uC m l).length=l.length)∧(∀l,(bys l).length=l.length)∧(∀{α:Type} (a b:List α),(a++b).length=a.length+b.length)∧(∀{α:Type} (n:Nat) (a:α),(List.replicate n a).length=n)∧(∀{α:Type} (l:List α) (n:Nat) (a:α),(l.set n a).length=l.length):=by
 refine ⟨?_,?_,?_,?_,?_,?_,?_,?_,?_,?_,?_,?_,?_,?_,?_,?_,?_,?_,?_,?_,?_,?_,?_,?_,?_,?_,?_,?_,?_,?_⟩<;>intros<;>simp [del,put,zO,fG,oH,lA,mQ,fY,mK,zB,lY,mG,iE,sE]
attribute [go_sem] kV vW qU8 qUa qOy qSm qUb qSk qU9 qSq qOx qSr qSl wP qOo qHg Arg.ev wA bQ qTk if_false if_true dR put del fG qBk Option.map_some Option.bind_some qO Int.toNat_natCast qUc qSj qSn dA true_and and_true qKz qKx qKy qCi qAc Bool.false_eq_true eL cellsOf jD List.isEmpty_nil List.isEmpty_cons fresh List.map_nil List.map_cons List.cons_append List.nil_append gJ List.take_zero List.drop_zero List.take_succ_cons List.getD_cons_zero List.length_cons List.length_nil List.drop_succ_cons List.drop_nil List.append_nil List.all_cons List.all_nil yU Bool.and_self Nat.zero_add qSo qSp qSi qOw qOv qOt qOu qSs qU7 qF3 qLk qHr qMg qMi qFp vG vI aR qI3 fP yM apart List.filter_nil List.filter_cons Option.isSome_some Option.isSome_none List.contains_nil List.contains_cons List.forall_mem_cons List.mem_cons List.not_mem_nil false_implies implies_true forall_const forall_eq_or_imp forall_eq or_false beq_self_eq_true Bool.or_false Bool.false_or Bool.true_or Bool.or_true Bool.not_true Bool.not_false xv xo xg xr xi xz List.set_set qEi qCb qHp qHq qA0 pQ qHo qBd lE eqC cW qC4 List.replicate_zero decide_true decide_false qL8 qKr List.replicate_succ Int.toNat_zero Int.toNat_one eq_self Bool.and_true Bool.true_and Bool.and_false Bool.false_and List.set_cons_zero List.set_cons_succ List.getD_cons_succ rnm ixm jA zF wY jS cond_true cond_false pN pM qA1 oH qLa qHl qHk qSc lM lA qGt qCk qCj qNr mQ qJe qEt qEs qQc fY mV qFc qFb dD cA mK yY qE9 qE8 qPw tK zB iD sP sO qN fR lY qId qDc qDb qP2 qBs mG qIv qDz qDy qPn vP iE qDl sT sS qK7 uD sE qNo qLu qLt qTx
attribute [simp] fV bwT bwC bwL bM pM wA Arg.ev gM sF rK qFj aW qJ1 qCy yS okV okL nb nbs nbr bC qO fG bnd jJ yV jA zF ixm rnm apart fP vG vI fresh wY jS dT qJt gA iL bA del tO zO pN qA1 shp okB oB qHj qQ3 qRy qRx qRs qMp qRv qTn qRw qQ2 qRt qTp qRu mN qHe qSf qQh qSd gV bJ dK oH qHk qHl qQf qNs uB vJ uN lA qCj qCk qLw qQd bS uY gL mQ qEs qEt qN1 qQq gP bN dM fY qFb qFc qNj qPy dI gH gK mK qE8 qE9 qMn qK4 uX uP bO zB sO sP qIh qP3 zM zA xR lY qDb qDc qM8 qPo xV xB aV mG qDy qDz qMh qK8 dO dG zJ iE sS sT qIm qTy mX kH oV sE qLt qLu qSz lM cA tK fR qBs vP uD
theorem qEb :∀(l:List (List AV)),xK l l
 | []=>by simp [xK]
 | r::l=>(mN r r l l).2 ⟨lI r,qEb l⟩
theorem qHf :∀{a a' b b':List (List AV)},xK a a'→xK b b'→xK (a++b) (a'++b')
 | [],a',b,b',h1,h2=>by
  simp only [xK] at h1
  subst h1
  exact h2
 | r::a,a',b,b',h1,h2=>by
  simp only [xK] at h1
  obtain ⟨d,ds,rfl,h3,h4⟩:=h1
  exact (mN r d _ _).2 ⟨h3,qHf h4 h2⟩
theorem Sub.nilRow (nm:Nat) {t:List (Nat×AV)} {h:wQ} {nx sz:Nat} {rows rows':List (List AV)} (hl:qO h nm=some (sz,rows)) (hn:xK rows rows') (hbn:yV (· < nx) rows'):Sub (.mk t h nx) (.mk t (put h nm (sz,rows')) nx):=by
 rintro B a w ⟨h1,h2,hb,hbt,φ,Lf,hl'⟩
 have hlk :∀n,qO (put h nm (sz,rows')) n=if n=nm then some (sz,rows') else qO h n:=fun n=>qEk n
 have hne :∀n,qO (put h nm (sz,rows')) n≠none→qO h n≠none:=fun n hn'=>by
  rw [hlk] at hn'
  split at hn'
  ·rename_i he; rw [he,hl]; simp
  ·exact hn'
 refine ⟨h1,h2,?_,hbt,φ,Lf,⟨hl'.ok.size0,hl'.ok.io0,hl'.ok.fr,hl'.ok.keep0,fun n hn'=>hl'.ok.own0 n (hne n hn'),?_,fun n hn'=>hl'.ok.rh.nodup n (hne n hn'),fun n hn'=>hl'.ok.rh.blk n (hne n hn'),fun n m hn' hm=>hl'.ok.rh.dis n m (hne n hn') (hne m hm),?_⟩,hl'.tm,hl'.φ0,hl'.ten⟩
 ·intro n row hr
  rw [hlk] at hr
  split at hr
  ·rename_i he
   simp only [Option.some.injEq] at hr
   subst hr he
   exact ⟨(hb n _ hl).1,hbn⟩
  ·exact hb n row hr
 ·intro n row hr
  rw [hlk] at hr
  split at hr
  ·rename_i he
   simp only [Option.some.injEq] at hr
   subst hr he
   have:=hl'.ok.rh.row n _ hl
   unfold bB gR at this⊢
   cases hq:(B.env w φ).φ n with
   | dead=>rw [hq] at this; exact this.elim
   | nilp =>
    rw [hq] at this
    simp only at this
    obtain ⟨h3,h4⟩:=this
    rw [h3] at hn
    simp only [xK] at hn
    exact ⟨hn,h4⟩
   | «at» p =>
    rw [hq] at this
    obtain ⟨h3,h4,Lr,h5,h6⟩:=this
    exact ⟨h3,by rw [mM hn]; exact h4,Lr,qEc hn h5,h6⟩
  ·exact hl'.ok.rh.row n row hr
 ·intro n hn'
  rw [hlk] at hn'
  split at hn'
  ·simp at hn'
  ·exact hl'.ok.rh.dead n hn'
theorem Sub.nilLast (nm:Nat) {t:List (Nat×AV)} {h:wQ} {nx sz:Nat} {front:List (List AV)} {r r':List AV} (hl:qO h nm=some (sz,front++[r])) (hn:qW r r') (hbn:yV (· < nx) (front++[r'])):Sub (.mk t h nx) (.mk t (put h nm (sz,front++[r'])) nx) :=
 Sub.nilRow nm hl (qHf (qEb front) ((mN r r' [] []).2 ⟨hn,(qHe).2 trivial⟩)) hbn
theorem wI {rs:List qCs} {fp:FP} {v:AV} {s:AS} {t:List (Nat×AV)} {h:wQ} {nx:Nat} (hs:Sub s (.mk t h nx)) (h1:qJt (rs.map fun r=>(dT t h r).2)∧(gA h (rs.map fun r=>(dT t h r).1)).2.2∧qW (gA h (rs.map fun r=>(dT t h r).1)).1 [v]∧∀x∈fp,qO (gA h (rs.map fun r=>(dT t h r).1)).2.1 x.1=qO (bA fp) x.1):Fin rs fp v s :=
 ⟨_,hs,dN h1⟩
theorem jV {rs:List qCs} {fp:FP} {vs:List AV} {s:AS} {t:List (Nat×AV)} {h:wQ} {nx:Nat} (h0:vs.length≠1) (hs:Sub s (.mk t h nx)) (h1:qJt (rs.map fun r=>(dT t h r).2)∧(gA h (rs.map fun r=>(dT t h r).1)).2.2∧qW (gA h (rs.map fun r=>(dT t h r).1)).1 vs∧∀x∈fp,qO (gA h (rs.map fun r=>(dT t h r).1)).2.1 x.1=qO (bA fp) x.1):Fin rs fp (.tup vs) s :=
 ⟨_,hs,jM h0 h1⟩
theorem zV {P:Program} {num:Nat→Nat} {fin:AS→Prop} {op:MOp} {dst:Option Nat} {k:List It} {s:AS} {t:List (Nat×AV)} {h:wQ} {nx:Nat} (hs:Sub s (.mk t h nx)) (h1:oU P num fin op dst k (.mk t h nx)):oU P num fin op dst k s:=qQv hs h1
theorem K {p q:Prop} (k:q) (h:p:=by first | omega | (simp [-List.getD_eq_getElem?_getD]; first | done | omega)):p∧q:=⟨h,k⟩
theorem CA {P:Program} {num:Nat→Nat} {fin:AS→Prop} {f nx:Nat} {ps:List Bool} {xs:List Arg} {t:List (Nat×AV)} {h:wQ} {fp:FP} {res:AV} {vargs:List AV} {dst:Option Nat} {k:List It} (σ:List (Nat×Nat)) (hc:wD P num f vargs fp res)
  (hk:vc P num fin k (.mk (bQ t dst (wY nx (jA (rnm σ) res)).1) (dR h (fp.map (fun x=>(rnm σ x.1,x.2))++fresh (wY nx (jA (rnm σ) res)).2.1)) (wY nx (jA (rnm σ) res)).2.2))
  (hv:qW (fV (ixm σ) h ps (xs.map (Arg.ev (wA t)))) vargs:=by first | omega | (simp [qW,qZ]; done) | (simp [qW,qZ, *]; done))
  (hvo:gM h (fun n =>∃x∈fp,x.2.1≠none∧n=rnm σ x.1∧ixm σ n=x.1) (fun n =>∃x∈fp,n=rnm σ x.1) ps (xs.map (Arg.ev (wA t))):=by first | omega | (simp [qW,qZ]; done) | (simp [qW,qZ, *]; done))
  (hnd:(fp.map (fun x=>rnm σ x.1)).Nodup:=by first | (simp [qW,qZ]; done) | (simp [qW,qZ, *]; done))
  (hpre :∀x∈fp,qO h (rnm σ x.1)=x.2.1∧(x.2.1=none→nx≤rnm σ x.1)∧rnm σ x.1<nx:=by first | (simp [qW,qZ]; done) | (simp [qW,qZ, *]; done))
  (hnb :∀x∈fp,(∀r,x.2.1=some r→nbr r.2)∧(∀r,x.2.2=some r→nbr r.2):=by first | (simp [qW,qZ]; done) | (simp [qW,qZ, *]; done))
  (hres:okV (fun k =>∃x∈fp,x.1=k∧x.2.2≠none) res:=by first | (simp [qW,qZ]; done) | (simp [qW,qZ, *]; done)):oU P num fin (.call f ps xs) dst k (.mk t h nx) :=
 oT (qFh σ hc hv hvo hnd hpre hnb hres) hk
theorem DA {P:Program} {num:Nat→Nat} {fin:AS→Prop} {f nx:Nat} {ps:List Bool} {xs:List Arg} {t:List (Nat×AV)} {h:wQ} {fp:FP} {res:AV} {vargs:List AV} {pend:List (Nat×List Nat)} {dst:Option Nat} {tr:uM} {k:List It} (σ:List (Nat×Nat)) (hc:wD P num f vargs fp res)
  (hk:vc P num fin (.draw tr pend::k) (.mk (bQ t dst (wY nx (jA (rnm σ) res)).1) (dR h (fp.map (fun x=>(rnm σ x.1,x.2))++fresh (wY nx (jA (rnm σ) res)).2.1)) (wY nx (jA (rnm σ) res)).2.2))
  (hv:qW (fV (ixm σ) h ps (xs.map (Arg.ev (wA t)))) vargs:=by first | omega | (simp [qW,qZ]; done) | (simp [qW,qZ, *]; done))
  (hvo:gM h (fun n =>∃x∈fp,x.2.1≠none∧n=rnm σ x.1∧ixm σ n=x.1) (fun n =>∃x∈fp,n=rnm σ x.1) ps (xs.map (Arg.ev (wA t))):=by first | omega | (simp [qW,qZ]; done) | (simp [qW,qZ, *]; done))
  (hnd:(fp.map (fun x=>rnm σ x.1)).Nodup:=by first | (simp [qW,qZ]; done) | (simp [qW,qZ, *]; done))
  (hpre :∀x∈fp,qO h (rnm σ x.1)=x.2.1∧(x.2.1=none→nx≤rnm σ x.1)∧rnm σ x.1<nx:=by first | (simp [qW,qZ]; done) | (simp [qW,qZ, *]; done))
  (hnb :∀x∈fp,(∀r,x.2.1=some r→nbr r.2)∧(∀r,x.2.2=some r→nbr r.2):=by first | (simp [qW,qZ]; done) | (simp [qW,qZ, *]; done))
  (hres:okV (fun k =>∃x∈fp,x.1=k∧x.2.2≠none) res:=by first | (simp [qW,qZ]; done) | (simp [qW,qZ, *]; done))
  (ha:apart pend (fp.map (fun x=>(rnm σ x.1,x.2))++fresh (wY nx (jA (rnm σ) res)).2.1):=by first | (simp [qW,qZ]; done) | (simp [qW,qZ, *]; done)):qLl P num fin (.call f ps xs) pend dst tr k t h nx :=
 oO (qFh σ hc hv hvo hnd hpre hnb hres) ha hk
def qEj (k:Int) (n:Nat):List Int:=(List.range n).map fun (i:Nat)=>k+i
@[simp] theorem qTs (k:Int) (n:Nat):(qEj k n).length=n:=by simp [qEj]
@[simp] theorem qUn (k:Int) (n:Nat):(qEj k n).take n=qEj k n:=List.take_of_length_le (by simp)
theorem gF (xs:List Int) (hx:8*xs.length≤2^47):wD Try.prog num 36 [.sl .bw 1 (wT xs)] [] (.sl .own 1 (wT xs)):=by
 refine EN m36 Try.func27 ?_
 unfold m36
 simp only [go_sem,seval]
 repeat refine K ?_
 refine fz ?_; simp [yB,qW,qZ,wG,-List.drop_one]
def qL (n lo hi:Int):Bool:=decide (lo≤n)&&decide (n≤hi)
theorem qM {n lo hi:Int}:qL n lo hi=true↔lo≤n∧n≤hi:=by simp [qL]
def vQ (b:Bool):Int:=if b then 1 else 0
theorem wU (n lo hi:Int):wD Try.prog num 59 [.int .i64 n,.int .i64 lo,.int .i64 hi] [] (.bool (qL n lo hi)):=by
 refine EN m59 Try.func35 ?_
 unfold m59
 by_cases h1:lo≤n<;>by_cases h2:n≤hi<;>(simp only [go_sem,seval,h1,h2]; refine fz ?_; simp [yB,qW,qZ,wG,-List.drop_one]; simp [qL,h1,h2])
theorem dB (b:Bool):wD Try.prog num 78 [.bool b] [] (.int .i64 (vQ b)):=by
 refine EN m78 Try.func36 ?_
 unfold m78
 cases b<;>(simp only [go_sem,seval]; refine fz ?_; simp [yB,qW,qZ,wG,-List.drop_one]; simp [vQ])
theorem qL7 (n:Int):wD Try.prog num 97 [.int .i64 n] [] (.bool (qL n 0 3)):=by
 refine EN m97 Try.func68 ?_
 unfold m97
 simp only [go_sem,seval]
 refine CA [] (wU n 0 3) ?_
 try simp only [go_sem,seval]
 refine fz ?_; simp [yB,qW,qZ,wG,-List.drop_one]
theorem qAz (n:Int):wD Try.prog num 44 [.int .i64 n] [] (.bool (qL n 5 9)):=by
 refine EN m44 Try.func52 ?_
 unfold m44
 simp only [go_sem,seval]
 refine CA [] (wU n 5 9) ?_
 try simp only [go_sem,seval]
 refine fz ?_; simp [yB,qW,qZ,wG,-List.drop_one]
theorem qA5 (l:List dW) (hx:16*l.length≤2^47):wD Try.prog num 69 [.sl .bw 2 (yW l)] [] (.sl .own 2 (yW l)):=by
 refine EN m69 Try.func26 ?_
 unfold m69
 simp only [go_sem,seval]
 repeat refine K ?_
 refine fz ?_; simp [yB,qW,qZ,wG,-List.drop_one]
theorem kD (c:uE) (hx:8*c.list.length≤2^47):wD Try.prog num 70 [.agg (cA .bw c)] [] (.agg (cA .own c)):=by
 refine EN m70 Try.func62 ?_
 unfold m70
 simp only [go_sem,seval]
 refine CA [] (gF c.list hx) ?_
 try simp only [go_sem,seval]
 refine fz ?_; simp [yB,qW,qZ,wG,-List.drop_one]
def jZ (c:uE):Bool:=qL c.cap 1 4&&decide ((c.list.length:Int)≤c.cap)
theorem cS (c:uE):wD Try.prog num 72 [.agg (cA .bw c)] [] (.bool (jZ c)):=by
 refine EN m72 Try.func63 ?_
 unfold m72
 simp only [go_sem,seval]
 refine CA [] (wU c.cap 1 4) ?_
 try simp only [go_sem,seval]
 cases h:qL c.cap 1 4
 ·simp only [go_sem,seval,h]
  refine fz ?_; simp [yB,qW,qZ,wG,-List.drop_one]
  simp [jZ,h]
 ·simp only [go_sem,seval,h]
  refine fz ?_; simp [yB,qW,qZ,wG,-List.drop_one]
  simp [jZ,h]
def xO (x:Ins) (pl ch:Int):Bool :=
 qL x.r 0 3&&qL x.a 0 3&&qL x.b 0 3&&qL ch 0 3 &&
 (if x.op=1 then qL x.n (-1000000000) 1000000000&&decide (x.a=0)&&decide (x.b=0)
  else if x.op=2∨x.op=3∨x.op=4 then decide (x.n=0)
  else if x.op=5 then qL x.n 0 (ch-1)&&decide (x.r=0)&&decide (x.b=0)
  else if x.op=6∨x.op=8 then qL x.n 0 (ch-1)&&decide (x.a=0)&&!decide (x.r=x.b)
  else if x.op=7 then qL x.n 0 (ch-1)&&decide (x.b=0)
  else if x.op=9 then qL x.n 0 (ch-1)&&decide (x.r=0)&&decide (x.a=0)&&decide (x.b=0)
  else if x.op=10 then decide (x.r=0)&&decide (x.b=0)&&decide (x.n=0)
  else if x.op=11 then decide (0≤x.n)&&decide (x.n<pl)&&decide (x.r=0)&&decide (x.a=0)&&decide (x.b=0)
  else if x.op=12 then decide (0≤x.n)&&decide (x.n<pl)&&decide (x.r=0)&&decide (x.b=0)
  else if x.op=13 then decide (x.op=13)&&(decide (x.r=0)&&(decide (x.a=0)&&(decide (x.b=0)&&decide (x.n=0))))
  else false)
def qC0 (x:Ins):Ins :=
 if x.op=1 then ⟨x.op,x.r,0,0,x.n⟩
 else if x.op=2∨x.op=3∨x.op=4 then ⟨x.op,x.r,x.a,x.b,0⟩
 else if x.op=5∨x.op=12 then ⟨x.op,0,x.a,0,x.n⟩
 else if x.op=6∨x.op=8 then ⟨x.op,x.r,0,x.b,x.n⟩
 else if x.op=7 then ⟨x.op,x.r,x.a,0,x.n⟩
 else if x.op=9∨x.op=11 then ⟨x.op,0,0,0,x.n⟩
 else if x.op=10 then ⟨x.op,0,x.a,0,0⟩
 else ⟨x.op,0,0,0,0⟩
def oI (x:Ins) (pl ch:Int):Bool :=
 qL ch 0 3&&qL x.op 1 13&&(decide (x.op=(qC0 x).op)&&(decide (x.r=(qC0 x).r)&&(decide (x.a=(qC0 x).a)&&(decide (x.b=(qC0 x).b)&&decide (x.n=(qC0 x).n))))) &&
 qL x.r 0 3&&qL x.a 0 3&&qL x.b 0 3 &&
 (if x.op=1 then qL x.n (-1000000000) 1000000000
  else if x.op=11∨x.op=12 then qL x.n 0 (pl-1)
  else if (x.op=6∨x.op=8)∧x.r=x.b then false
  else !qL x.op 5 9||qL x.n 0 (ch-1))
theorem qKs (x:Ins):wD Try.prog num 96 [.agg (lM x)] [] (.agg (lM (qC0 x))):=by
 refine EN m96 Try.func67 ?_
 unfold m96
 repeat' (first
  | (simp only [go_sem,seval])
  | (refine qT (fun hc=>?_) (fun hc=>?_)<;>((try simp only [Bool.not_eq_true',Bool.not_eq_false',ne_eq,Bool.not_eq_true,Bool.not_eq_false] at hc)<;>(try simp only [hc])))
  | (refine bY (fun hc=>?_) (fun hc=>?_)<;>((try simp only [Bool.not_eq_true',Bool.not_eq_false',ne_eq,Bool.not_eq_true,Bool.not_eq_false] at hc)<;>(try simp only [hc])))
  | (refine bD (fun hc=>?_) (fun hc=>?_)<;>((try simp only [Bool.not_eq_true',Bool.not_eq_false',ne_eq,Bool.not_eq_true,Bool.not_eq_false] at hc)<;>(try simp only [hc])))
  | (refine ⟨by first | omega | (simp; done),?_⟩)
  | fail)
 all_goals (refine fz ?_; simp [yB,qW,qZ,wG,-List.drop_one])
 all_goals (try (simp_all [qC0]; done))
theorem lB (n lo hi:Int):qL n lo hi=decide (lo≤n∧n≤hi):=by simp [qL]
theorem pO (x:Ins) (pl ch:Int):oI x pl ch=xO x pl ch:=by
 obtain ⟨op,r,a,b,n⟩:=x
 by_cases h:1≤op∧op≤13
 ·obtain rfl | rfl | rfl | rfl | rfl | rfl | rfl | rfl | rfl | rfl | rfl | rfl | rfl:op=1∨op=2∨op=3∨op=4∨op=5∨op=6∨op=7∨op=8∨op=9∨op=10∨op=11∨op=12∨op=13:=by omega
  all_goals (rw [Bool.eq_iff_iff]; simp [oI,xO,qC0,lB]; try omega)
 ·have h1 :¬op=1:=by omega
  have h2 :¬op=2:=by omega
  have h3 :¬op=3:=by omega
  have h4 :¬op=4:=by omega
  have h5 :¬op=5:=by omega
  have h6 :¬op=6:=by omega
  have h7 :¬op=7:=by omega
  have h8 :¬op=8:=by omega
  have h9 :¬op=9:=by omega
  have h10 :¬op=10:=by omega
  have h11 :¬op=11:=by omega
  have h12 :¬op=12:=by omega
  have h13 :¬op=13:=by omega
  have hw:qL op 1 13=false:=by rw [lB]; simp; omega
  simp [oI,xO,hw,h1,h2,h3,h4,h5,h6,h7,h8,h9,h10,h11,h12,h13]
end Go.Sep
