/- Contracts of functions. -/
import Derived.Test.YtebbppogicgpkaaGreatUzFns
open Bool renaming not_eq_false → qZc, not_eq_false' → qZa, not_eq_true → qZb, not_eq_true' → qZ9
open List renaming drop_one → qZ8, getD_eq_getElem?_getD → qXq, map_cons → qXl
namespace Go.Sep
set_option maxHeartbeats 16000000
open Go.Proofs
set_option linter.unusedSimpArgs false
set_option linter.unusedVariables false
set_option maxRecDepth 100000
def m5:MFn:=⟨22,[.t 2],kr [xo 2 (.mv (.c (.nil)))] (kr [xv 5 0,xe 6 5,xo 7 (.mkS [xz] 8 (.t 6) (.t 6)),xv 3 7] (.seq (kr [xI 4 0] (.blk 0 (.loop (.seq (kr [xv 8 4,xv 9 0,xe 10 9,bT 11 .lss 8 10] (kX 11 0)) (.seq (.blk 1 (xr [xv 14 3,xv 15 4,xv 16 0,xv 17 4,xD 18 1 16 17,xl 19 18,xD 20 1 14 15,xS 1 20 19])) (xr [xv 12 4,bI 13 .add 12 1,xv 4 13])))))) (kR [xv 21 3,xv 2 21])))⟩
def m36:MFn:=⟨6,[.t 2],kr [xo 2 (.mv (.c (.nil)))] (kR [xo 3 (.mkSl [xz] 0 []),xv 4 0,xA 5 1 8 3 4,xv 2 5])⟩
def m44:MFn:=⟨5,[.t 2],kr [xF 2] (kR [xv 3 0,xc3 4 59 (.t 3) (xi 5) (xi 9),xv 2 4])⟩
def m59:MFn:=⟨15,[.t 6],kr [xF 6] (kR [xv 7 0,xv 8 1,bT 9 .geq 7 8,xv 10 9,yv 11 0 10,yv 12 2 10,xg 13 (.bin .leq (.t 11) (.t 12)) 10 true,xP 14 10 13,xv 6 14])⟩
def m64:MFn:=⟨15,[.t 6],kr [xF 6] (kR [xv 7 0,xv 8 1,bT 9 .geq 7 8,xv 10 9,yv 11 0 10,yv 12 2 10,xg 13 (.bin .leq (.t 11) (.t 12)) 10 true,xP 14 10 13,xv 6 14])⟩
def m69:MFn:=⟨6,[.t 2],kr [xo 2 (.mv (.c (.nil)))] (kR [xo 3 (.mkSl [xz,xz] 0 []),xv 4 0,xA 5 2 16 3 4,xv 2 5])⟩
def m70:MFn:=⟨8,[.cell 2 3 true],kr [xb 1 0,xo 2 (.alloc [.int .i64 0,.nil,.bool false])] (kr [xa 3 1 1,xl 4 3,xc1 5 36 (.t 4),xa 6 1 1,xS 1 6 5] (kR [xm 7 3 1,xS 3 2 7]))⟩
def m72:MFn:=⟨14,[.t 2],kr [xb 1 0,xF 2] (kR [xa 3 0 1,xl 4 3,xc3 5 59 (.t 4) (xi 1) (xi 4),xv 6 5,ya 7 1 1 6,yl 8 1 7 6,ye 9 8 6,ya 10 0 1 6,yl 11 1 10 6,xg 12 (.bin .leq (.t 9) (.t 11)) 6 true,xP 13 6 12,xv 2 13])⟩
def m78:MFn:=⟨4,[.t 2],kr [xI 2 0] (.seq (kr [xv 3 0] (kF 3 [xI 2 1])) (kR [xI 2 0]))⟩
def m83:MFn:=⟨14,[.t 2],kr [xb 1 0,xF 2] (kR [xa 3 0 1,xl 4 3,xc3 5 64 (.t 4) (xi 1) (xi 4),xv 6 5,ya 7 1 1 6,yl 8 1 7 6,ye 9 8 6,ya 10 0 1 6,yl 11 1 10 6,xg 12 (.bin .leq (.t 9) (.t 11)) 6 true,xP 13 6 12,xv 2 13])⟩
def m84:MFn:=⟨12,[.cell 2 3 true],kr [xb 1 0,xo 2 (.alloc [.int .i64 0,.nil,.bool false])] (.seq (.dreg (.take 0 (xa 3 0 1) (.take 1 (xl 4 3) (.take 3 (xa 6 1 1) (.take 4 (xl 7 6) (.take 6 (xa 9 2 1) (.take 7 (xl 10 9) (.only 2 [] (xo 5 (.mkSl [xz] 0 [])) (.only 5 [4,3] (xA 8 1 8 5 7) (.only 8 [1,5,7,0,4,6,3] (xo 11 (.build [.int .i64 0,.nil,.bool false] [(0,1,.t 4),(1,1,.t 8),(2,1,.t 10)])) (.only 9 [0,1,3,4,6,7] (xS 3 2 11) (.done)))))))))))) (.ret))⟩
def m85:MFn:=⟨4,[.t 2],kr [xI 2 0] (.seq (kr [xv 3 0] (kF 3 [xI 2 1])) (kR [xI 2 0]))⟩
def m96:MFn:=⟨74,[.cell 2 5 true],kr [xb 1 0,xo 2 (.alloc [xz,xz,xz,xz,xz])] (kr [xa 4 0 1,xl 5 4,xo 6 (.build [xz,xz,xz,xz,xz] [(0,1,.t 5)]),xo 3 (.alloc [xz,xz,xz,xz,xz]),xS 5 3 6] (.seq (kr [xa 7 0 1,xl 8 7] (.blk 0 (kr [bI 10 .eql 8 1,xv 9 10] (.cond 9 (.dreg (.take 0 (xa 11 1 1) (.take 1 (xl 12 11) (.take 2 (xa 13 4 1) (.take 3 (xl 14 13) (.only 4 [0,1] (xa 15 1 3) (.only 5 [0,1] (xS 1 15 12) (.only 6 [0,1,2,3] (xa 16 4 3) (.only 7 [0,1,2,3] (xS 1 16 14) (.done)))))))))) (.seq (kr [bI 18 .eql 8 2,xv 17 18] (.cond 17 (.skip) (kr [bI 19 .eql 8 3,xv 17 19] (.cond 17 (.skip) (xr [bI 20 .eql 8 4,xv 17 20]))))) (.cond 17 (.dreg (.take 0 (xa 21 1 1) (.take 1 (xl 22 21) (.take 2 (xa 23 2 1) (.take 3 (xl 24 23) (.take 4 (xa 25 3 1) (.take 5 (xl 26 25) (.only 6 [0,1] (xa 27 1 3) (.only 7 [0,1] (xS 1 27 22) (.only 8 [0,1,2,3] (xa 28 2 3) (.only 9 [0,1,2,3] (xS 1 28 24) (.only 10 [0,1,2,3,4,5] (xa 29 3 3) (.only 11 [0,1,2,3,4,5] (xS 1 29 26) (.done)))))))))))))) (.seq (kr [bI 31 .eql 8 5,xv 30 31] (.cond 30 (.skip) (xr [bI 32 .eql 8 12,xv 30 32]))) (.cond 30 (.dreg (.take 0 (xa 33 2 1) (.take 1 (xl 34 33) (.take 2 (xa 35 4 1) (.take 3 (xl 36 35) (.only 4 [0,1] (xa 37 2 3) (.only 5 [0,1] (xS 1 37 34) (.only 6 [0,1,2,3] (xa 38 4 3) (.only 7 [0,1,2,3] (xS 1 38 36) (.done)))))))))) (.seq (kr [bI 40 .eql 8 6,xv 39 40] (.cond 39 (.skip) (xr [bI 41 .eql 8 8,xv 39 41]))) (.cond 39 (.dreg (.take 0 (xa 42 1 1) (.take 1 (xl 43 42) (.take 2 (xa 44 3 1) (.take 3 (xl 45 44) (.take 4 (xa 46 4 1) (.take 5 (xl 47 46) (.only 6 [0,1] (xa 48 1 3) (.only 7 [0,1] (xS 1 48 43) (.only 8 [0,1,2,3] (xa 49 3 3) (.only 9 [0,1,2,3] (xS 1 49 45) (.only 10 [0,1,2,3,4,5] (xa 50 4 3) (.only 11 [0,1,2,3,4,5] (xS 1 50 47) (.done)))))))))))))) (kr [bI 52 .eql 8 7,xv 51 52] (.cond 51 (.dreg (.take 0 (xa 53 1 1) (.take 1 (xl 54 53) (.take 2 (xa 55 2 1) (.take 3 (xl 56 55) (.take 4 (xa 57 4 1) (.take 5 (xl 58 57) (.only 6 [0,1] (xa 59 1 3) (.only 7 [0,1] (xS 1 59 54) (.only 8 [0,1,2,3] (xa 60 2 3) (.only 9 [0,1,2,3] (xS 1 60 56) (.only 10 [0,1,2,3,4,5] (xa 61 4 3) (.only 11 [0,1,2,3,4,5] (xS 1 61 58) (.done)))))))))))))) (.seq (kr [bI 63 .eql 8 9,xv 62 63] (.cond 62 (.skip) (xr [bI 64 .eql 8 11,xv 62 64]))) (.cond 62 (xr [xa 65 4 1,xl 66 65,xa 67 4 3,xS 1 67 66]) (kr [bI 69 .eql 8 10,xv 68 69] (.cond 68 (xr [xa 70 2 1,xl 71 70,xa 72 2 3,xS 1 72 71]) (.skip))))))))))))))))) (kR [xm 73 5 3,xS 5 2 73])))⟩
def m97:MFn:=⟨5,[.t 2],kr [xF 2] (kR [xv 3 0,xc3 4 59 (.t 3) (xi 0) (xi 3),xv 2 4])⟩
attribute [local go_sem] lA vW qW9 qWb qRp qUs qWc qUq qWa qUw qRo qUx qUr yA qRf qKk Arg.ev wQ dS qVm if_false if_true aC put del kK qEu Option.map_some Option.bind_some wE Int.toNat_natCast qWd qUp qUt xG true_and and_true qNy qNw qNx qFl qDd Bool.false_eq_true fU cellsOf vB List.isEmpty_nil List.isEmpty_cons fresh List.map_nil qXl List.cons_append List.nil_append zM List.take_zero List.drop_zero List.take_succ_cons List.getD_cons_zero List.length_cons List.length_nil List.drop_succ_cons List.drop_nil List.append_nil List.all_cons List.all_nil jW Bool.and_self Nat.zero_add qUu qUv qUo qRn qRm qRk qRl qUy qW8 qI9 qOo qKy qPg qPh qIy bC bE cQ qLc lH jF apart List.filter_nil List.filter_cons Option.isSome_some Option.isSome_none List.contains_nil List.contains_cons List.forall_mem_cons List.mem_cons List.not_mem_nil false_implies implies_true forall_const forall_eq_or_imp forall_eq or_false beq_self_eq_true Bool.or_false Bool.false_or Bool.true_or Bool.or_true Bool.not_true Bool.not_false xv xo xg xr xi xz List.set_set qHp qFg qKw qKx qD3 qAe qKu qEo oK eqC kC qFb List.replicate_zero decide_true decide_false qOd qNp List.replicate_succ Int.toNat_zero Int.toNat_one eq_self Bool.and_true Bool.true_and Bool.and_false Bool.false_and List.set_cons_zero List.set_cons_succ List.getD_cons_succ rnm ixm vP fF yH uL cond_true cond_false qAa qA9 qD4
attribute [local simp] kN bwT bwC bwL dX qA9 wQ Arg.ev dT qBt qB4 qIn eU qE7 qA3 jB okV okL nb nbs nbr dI wE kK bnd vL jU vP fF ixm rnm apart lH bC bE fresh yH uL zA qIw zE mQ uG del qCu eA qAa qD4 shp okB qNm qKq
theorem yP {rs:List qAl} {fp:FP} {vs:List AV} {t:List (Nat×AV)} {h:yC} {nx:Nat} (h0:vs.length≠1) (h1:qIw (rs.map fun r=>(zA t h r).2)∧(zE h (rs.map fun r=>(zA t h r).1)).2.2∧qR (zE h (rs.map fun r=>(zA t h r).1)).1 vs∧∀x∈fp,wE (zE h (rs.map fun r=>(zA t h r).1)).2.1 x.1=wE (uG fp) x.1):wA rs fp (.tup vs) (.mk t h nx):=by
 refine ⟨h1.1,h1.2.1,⟨vs,h1.2.2.1,?_⟩,h1.2.2.2⟩
 match vs,h0 with
 | [],_=>rfl
 | [_],h0=>exact absurd rfl h0
 | _::_::_,_=>rfl
theorem jC {rs:List qAl} {fp:FP} {v:AV} {t:List (Nat×AV)} {h:yC} {nx:Nat} (h1:qIw (rs.map fun r=>(zA t h r).2)∧(zE h (rs.map fun r=>(zA t h r).1)).2.2∧qR (zE h (rs.map fun r=>(zA t h r).1)).1 [v]∧∀x∈fp,wE (zE h (rs.map fun r=>(zA t h r).1)).2.1 x.1=wE (uG fp) x.1):wA rs fp v (.mk t h nx) :=
 ⟨h1.1,h1.2.1,⟨[v],h1.2.2.1,rfl⟩,h1.2.2.2⟩
theorem qSl (c d:AV) (cs ds:List AV):qR (c::cs) (d::ds)↔qS c d∧qR cs ds:=by
 simp only [qR,List.cons.injEq]
 exact ⟨fun ⟨_,_,⟨h1,h2⟩,h3,h4⟩=>by subst h1 h2; exact ⟨h3,h4⟩,fun ⟨h3,h4⟩=>⟨_,_,⟨rfl,rfl⟩,h3,h4⟩⟩
theorem qU1:qR [] []↔True:=by simp [qR]
theorem qU0 (cs ds:List AV):qS (.agg cs) (.agg ds)↔qR cs ds:=by simp [qS]
theorem qPk (m:Mode) (sz:Nat):qS .nil (.sl m sz [])↔True:=by simp [qS]
theorem qTy:qS .nil .nil↔True:=by simp [qS]
theorem qVn (m:Mode) (sz:Nat) (rows:List (List AV)) (d:AV):qS (.sl m sz rows) d↔.sl m sz rows=d:=by simp [qS]
theorem qTz (k:IntKind) (n:Int) (d:AV):qS (.int k n) d↔.int k n=d:=by simp [qS]
theorem qSk (b:Bool) (d:AV):qS (.bool b) d↔.bool b=d:=by simp [qS]
theorem qVp (k o l:Nat) (d:AV):qS (.ns k o l) d↔.ns k o l=d:=by simp [qS]
theorem qTx (k o l:Nat) (d:AV):qS (.ptr k o l) d↔.ptr k o l=d:=by simp [qS]
theorem rD (r d:List AV) (rs ds:List (List AV)):eN (r::rs) (d::ds)↔qR r d∧eN rs ds:=by
 simp only [eN,List.cons.injEq]
 exact ⟨fun ⟨_,_,⟨h1,h2⟩,h3,h4⟩=>by subst h1 h2; exact ⟨h3,h4⟩,fun ⟨h3,h4⟩=>⟨_,_,⟨rfl,rfl⟩,h3,h4⟩⟩
theorem qKi:eN [] []↔True:=by simp [eN]
theorem qUj:free []↔True:=by simp [free]
theorem qSz (r:List AV) (rs:List (List AV)):free (r::rs)↔(∀c∈r,qCu c=false)∧free rs:=by simp [free]
structure Ins where
 op:Int
 r:Int
 a:Int
 b:Int
 n:Int
 deriving DecidableEq,Inhabited
def gT (x:Ins):List AV:=[.int .i64 x.op,.int .i64 x.r,.int .i64 x.a,.int .i64 x.b,.int .i64 x.n]
def aN (l:List Ins):List (List AV):=l.map gT
theorem qUg:aN []=[]:=rfl
theorem tF (l:List Ins):(aN l).length=l.length:=by simp [aN]
theorem qUf (l:List Ins) (i:Nat) (op_:Int) (r_:Int) (a_:Int) (b_:Int) (n_:Int):(aN l).set i [.int .i64 op_,.int .i64 r_,.int .i64 a_,.int .i64 b_,.int .i64 n_]=aN (l.set i ⟨op_,r_,a_,b_,n_⟩):=by simp [aN,gT]
theorem gM (l:List Ins) (i:Nat) (h:i<l.length):(aN l).getD i []=[.int .i64 (l.getD i default).op,.int .i64 (l.getD i default).r,.int .i64 (l.getD i default).a,.int .i64 (l.getD i default).b,.int .i64 (l.getD i default).n]:=by simp [aN,gT,List.getD_eq_getElem?_getD,h]
theorem dL (A:Nat→Prop) (l:List Ins):jU A (aN l)↔True:=by
 simp only [iff_true]
 induction l with
 | nil=>trivial
 | cons x l ih=>exact ⟨by simp [gT,vL,bnd,eU,jB],ih⟩
theorem xW (l:List Ins):nbr (aN l)↔True:=by
 simp only [iff_true]
 induction l with
 | nil=>trivial
 | cons x l ih=>exact ⟨by simp [gT,nbs,nb,dI],ih⟩
theorem xY :∀(l:List Ins),bwR (aN l)=aN l
 | []=>rfl
 | x::l=>by
  have:=xY l
  simp only [aN,qXl,bwR] at this⊢
  rw [this]
  simp [gT,bwL,bwC,dX]
theorem qSx (l:List Ins):free (aN l)↔True:=by
 simp only [iff_true]
 intro r hr c hc
 simp only [aN,List.mem_map] at hr
 obtain ⟨x,_,rfl⟩:=hr
 simp [gT] at hc
 rcases hc with rfl | rfl | rfl | rfl | rfl<;>rfl
def dM (m:Mode) (l:List (List Ins)):List (List AV):=l.map fun b=>[.sl m 5 (aN b)]
theorem qIr (m:Mode):dM m []=[]:=rfl
theorem kD (m:Mode) (l:List (List Ins)):(dM m l).length=l.length:=by simp [dM]
theorem qFm (m:Mode) (l:List (List Ins)) (n:Nat):(dM m l).take n=dM m (l.take n):=by simp [dM]
theorem qIq (m:Mode) (l:List (List Ins)) (i:Nat) (b_:List Ins):(dM m l).set i [.sl m 5 (aN b_)]=dM m (l.set i b_):=by simp [dM]
theorem qZ (m:Mode) (l:List (List Ins)) (i:Nat) (h:i<l.length):(dM m l).getD i []=[.sl m 5 (aN (l.getD i []))]:=by simp [dM,List.getD_eq_getElem?_getD,h]
theorem bG (A:Nat→Prop) (m:Mode) (l:List (List Ins)):jU A (dM m l)↔True:=by
 simp only [iff_true]
 induction l with
 | nil=>trivial
 | cons x l ih=>exact ⟨by simp [vL,bnd,eU,jB,dL],ih⟩
theorem gN (l:List (List Ins)):nbr (dM .own l)↔True:=by
 simp only [iff_true]
 induction l with
 | nil=>trivial
 | cons x l ih=>exact ⟨by simp [nbs,nb,dI,xW],ih⟩
theorem gO (m:Mode) :∀(l:List (List Ins)),bwR (dM m l)=dM .bw l
 | []=>rfl
 | x::l=>by
  have:=gO m l
  simp only [dM,qXl,bwR] at this⊢
  rw [this]
  simp [bwL,bwC,dX,xY]
def qCw (m:Mode) (l:List (List Int)):List (List AV):=l.map fun b=>[.sl m 1 (wS b)]
theorem qSw (m:Mode):qCw m []=[]:=rfl
theorem rL (m:Mode) (l:List (List Int)):(qCw m l).length=l.length:=by simp [qCw]
theorem dA (A:Nat→Prop) (m:Mode) (l:List (List Int)):jU A (qCw m l)↔True:=by
 simp only [iff_true]
 induction l with
 | nil=>trivial
 | cons x l ih=>exact ⟨by simp [vL,bnd,eU,jB,dL,bG],ih⟩
theorem zQ (l:List (List Int)):nbr (qCw .own l)↔True:=by
 simp only [iff_true]
 induction l with
 | nil=>trivial
 | cons x l ih=>exact ⟨by simp [nbs,nb,dI,xW,gN],ih⟩
theorem zR (m:Mode) :∀(l:List (List Int)),bwR (qCw m l)=qCw .bw l
 | []=>rfl
 | x::l=>by
  have:=zR m l
  simp only [qCw,qXl,bwR] at this⊢
  rw [this]
  simp [bwL,bwC,dX,xY,gO]
structure bS where
 cap:Int
 list:List Int
 closed:Bool
 deriving DecidableEq,Inhabited
def bM (m:Mode) (x:bS):List AV:=[.int .i64 x.cap,.sl m 1 (wS x.list),.bool x.closed]
def yJ (m:Mode) (l:List bS):List (List AV):=l.map (bM m)
theorem qT5 (m:Mode):yJ m []=[]:=rfl
theorem iB (m:Mode) (l:List bS):(yJ m l).length=l.length:=by simp [yJ]
theorem lO (m:Mode) (l k:List bS):yJ m l++yJ m k=yJ m (l++k):=by simp [yJ]
theorem qIf (m:Mode) (l:List bS) (n:Nat):(yJ m l).take n=yJ m (l.take n):=by simp [yJ]
theorem jG (m:Mode) (l:List bS) (i:Nat) (cap_:Int) (list_:List Int) (closed_:Bool):(yJ m l).set i [.int .i64 cap_,.sl m 1 (wS list_),.bool closed_]=yJ m (l.set i ⟨cap_,list_,closed_⟩):=by simp [yJ,bM]
theorem uW (m:Mode) (l:List bS) (i:Nat) (h:i<l.length):(yJ m l).getD i []=[.int .i64 (l.getD i default).cap,.sl m 1 (wS (l.getD i default).list),.bool (l.getD i default).closed]:=by simp [yJ,bM,List.getD_eq_getElem?_getD,h]
theorem dN (A:Nat→Prop) (m:Mode) (l:List bS):jU A (yJ m l)↔True:=by
 simp only [iff_true]
 induction l with
 | nil=>trivial
 | cons x l ih=>exact ⟨by simp [bM,vL,bnd,eU,jB,dL,bG,dA],ih⟩
theorem aA (l:List bS):nbr (yJ .own l)↔True:=by
 simp only [iff_true]
 induction l with
 | nil=>trivial
 | cons x l ih=>exact ⟨by simp [bM,nbs,nb,dI,xW,gN,zQ],ih⟩
theorem aB (m:Mode) :∀(l:List bS),bwR (yJ m l)=yJ .bw l
 | []=>rfl
 | x::l=>by
  have:=aB m l
  simp only [yJ,qXl,bwR] at this⊢
  rw [this]
  simp [bM,bwL,bwC,dX,xY,gO,zR]
structure aP where
 who:Int
 v:Int
 deriving DecidableEq,Inhabited
def qF8 (x:aP):List AV:=[.int .i64 x.who,.int .i64 x.v]
def jZ (l:List aP):List (List AV):=l.map qF8
theorem qSh:jZ []=[]:=rfl
theorem rB (l:List aP):(jZ l).length=l.length:=by simp [jZ]
theorem wT (l k:List aP):jZ l++jZ k=jZ (l++k):=by simp [jZ]
theorem yQ (who_:Int) (v_:Int):[[.int .i64 who_,.int .i64 v_]]=jZ [⟨who_,v_⟩]:=rfl
theorem qHd (l:List aP) (n:Nat):(jZ l).take n=jZ (l.take n):=by simp [jZ]
theorem fG (l:List aP) (i:Nat) (h:i<l.length):(jZ l).getD i []=[.int .i64 (l.getD i default).who,.int .i64 (l.getD i default).v]:=by simp [jZ,qF8,List.getD_eq_getElem?_getD,h]
theorem zJ (A:Nat→Prop) (l:List aP):jU A (jZ l)↔True:=by
 simp only [iff_true]
 induction l with
 | nil=>trivial
 | cons x l ih=>exact ⟨by simp [qF8,vL,bnd,eU,jB,dL,bG,dA,dN],ih⟩
theorem zO (l:List aP):nbr (jZ l)↔True:=by
 simp only [iff_true]
 induction l with
 | nil=>trivial
 | cons x l ih=>exact ⟨by simp [qF8,nbs,nb,dI,xW,gN,zQ,aA],ih⟩
theorem aL :∀(l:List aP),bwR (jZ l)=jZ l
 | []=>rfl
 | x::l=>by
  have:=aL l
  simp only [jZ,qXl,bwR] at this⊢
  rw [this]
  simp [qF8,bwL,bwC,dX,xY,gO,zR,aB]
theorem qPj (l:List aP):free (jZ l)↔True:=by
 simp only [iff_true]
 intro r hr c hc
 simp only [jZ,List.mem_map] at hr
 obtain ⟨x,_,rfl⟩:=hr
 simp [qF8] at hc
 rcases hc with rfl | rfl<;>rfl
structure vA where
 at_:Int
 regs:List Int
 st:Int
 deriving DecidableEq,Inhabited
def iU (m:Mode) (x:vA):List AV:=[.int .i64 x.at_,.sl m 1 (wS x.regs),.int .i64 x.st]
def yT (m:Mode) (l:List vA):List (List AV):=l.map (iU m)
theorem qN2 (m:Mode):yT m []=[]:=rfl
theorem gB (m:Mode) (l:List vA):(yT m l).length=l.length:=by simp [yT]
theorem fW (m:Mode) (l k:List vA):yT m l++yT m k=yT m (l++k):=by simp [yT]
theorem qC3 (m:Mode) (l:List vA) (n:Nat):(yT m l).take n=yT m (l.take n):=by simp [yT]
theorem qQ (m:Mode) (l:List vA) (i:Nat) (at__:Int) (regs_:List Int) (st_:Int):(yT m l).set i [.int .i64 at__,.sl m 1 (wS regs_),.int .i64 st_]=yT m (l.set i ⟨at__,regs_,st_⟩):=by simp [yT,iU]
theorem qT (m:Mode) (l:List vA) (i:Nat) (h:i<l.length):(yT m l).getD i []=[.int .i64 (l.getD i default).at_,.sl m 1 (wS (l.getD i default).regs),.int .i64 (l.getD i default).st]:=by simp [yT,iU,List.getD_eq_getElem?_getD,h]
theorem gP (A:Nat→Prop) (m:Mode) (l:List vA):jU A (yT m l)↔True:=by
 simp only [iff_true]
 induction l with
 | nil=>trivial
 | cons x l ih=>exact ⟨by simp [iU,vL,bnd,eU,jB,dL,bG,dA,dN,zJ],ih⟩
theorem dQ (l:List vA):nbr (yT .own l)↔True:=by
 simp only [iff_true]
 induction l with
 | nil=>trivial
 | cons x l ih=>exact ⟨by simp [iU,nbs,nb,dI,xW,gN,zQ,aA,zO],ih⟩
theorem dR (m:Mode) :∀(l:List vA),bwR (yT m l)=yT .bw l
 | []=>rfl
 | x::l=>by
  have:=dR m l
  simp only [yT,qXl,bwR] at this⊢
  rw [this]
  simp [iU,bwL,bwC,dX,xY,gO,zR,aB,aL]
structure qTd where
 sent:List Int
 taken:List Int
 deriving DecidableEq,Inhabited
def qK1 (m:Mode) (x:qTd):List AV:=[.sl m 1 (wS x.sent),.sl m 1 (wS x.taken)]
def qC0 (m:Mode) (l:List qTd):List (List AV):=l.map (qK1 m)
theorem qRv (m:Mode):qC0 m []=[]:=rfl
theorem pP (m:Mode) (l:List qTd):(qC0 m l).length=l.length:=by simp [qC0]
theorem aI (A:Nat→Prop) (m:Mode) (l:List qTd):jU A (qC0 m l)↔True:=by
 simp only [iff_true]
 induction l with
 | nil=>trivial
 | cons x l ih=>exact ⟨by simp [qK1,vL,bnd,eU,jB,dL,bG,dA,dN,zJ,gP],ih⟩
theorem eQ (l:List qTd):nbr (qC0 .own l)↔True:=by
 simp only [iff_true]
 induction l with
 | nil=>trivial
 | cons x l ih=>exact ⟨by simp [qK1,nbs,nb,dI,xW,gN,zQ,aA,zO,dQ],ih⟩
theorem eR (m:Mode) :∀(l:List qTd),bwR (qC0 m l)=qC0 .bw l
 | []=>rfl
 | x::l=>by
  have:=eR m l
  simp only [qC0,qXl,bwR] at this⊢
  rw [this]
  simp [qK1,bwL,bwC,dX,xY,gO,zR,aB,aL,dR]
structure wV where
 caps:List Int
 bods:List (List Ins)
 deriving DecidableEq,Inhabited
def jA (m:Mode) (x:wV):List AV:=[.sl m 1 (wS x.caps),.sl m 1 (dM m x.bods)]
def qCh (m:Mode) (l:List wV):List (List AV):=l.map (jA m)
theorem qSc (m:Mode):qCh m []=[]:=rfl
theorem pW (m:Mode) (l:List wV):(qCh m l).length=l.length:=by simp [qCh]
theorem eI (A:Nat→Prop) (m:Mode) (l:List wV):jU A (qCh m l)↔True:=by
 simp only [iff_true]
 induction l with
 | nil=>trivial
 | cons x l ih=>exact ⟨by simp [jA,vL,bnd,eU,jB,dL,bG,dA,dN,zJ,gP,aI],ih⟩
theorem cX (l:List wV):nbr (qCh .own l)↔True:=by
 simp only [iff_true]
 induction l with
 | nil=>trivial
 | cons x l ih=>exact ⟨by simp [jA,nbs,nb,dI,xW,gN,zQ,aA,zO,dQ,eQ],ih⟩
theorem cY (m:Mode) :∀(l:List wV),bwR (qCh m l)=qCh .bw l
 | []=>rfl
 | x::l=>by
  have:=cY m l
  simp only [qCh,qXl,bwR] at this⊢
  rw [this]
  simp [jA,bwL,bwC,dX,xY,gO,zR,aB,aL,dR,eR]
structure wL where
 ths:List vA
 chs:List bS
 tr:List aP
 deriving DecidableEq,Inhabited
def yM (m:Mode) (x:wL):List AV:=[.sl m 3 (yT m x.ths),.sl m 3 (yJ m x.chs),.sl m 2 (jZ x.tr)]
def lK (m:Mode) (l:List wL):List (List AV):=l.map (yM m)
theorem qN8 (m:Mode):lK m []=[]:=rfl
theorem mG (m:Mode) (l:List wL):(lK m l).length=l.length:=by simp [lK]
theorem xU (A:Nat→Prop) (m:Mode) (l:List wL):jU A (lK m l)↔True:=by
 simp only [iff_true]
 induction l with
 | nil=>trivial
 | cons x l ih=>exact ⟨by simp [yM,vL,bnd,eU,jB,dL,bG,dA,dN,zJ,gP,aI,eI],ih⟩
theorem aU (l:List wL):nbr (lK .own l)↔True:=by
 simp only [iff_true]
 induction l with
 | nil=>trivial
 | cons x l ih=>exact ⟨by simp [yM,nbs,nb,dI,xW,gN,zQ,aA,zO,dQ,eQ,cX],ih⟩
theorem aV (m:Mode) :∀(l:List wL),bwR (lK m l)=lK .bw l
 | []=>rfl
 | x::l=>by
  have:=aV m l
  simp only [lK,qXl,bwR] at this⊢
  rw [this]
  simp [yM,bwL,bwC,dX,xY,gO,zR,aB,aL,dR,eR,cY]
def bys (l:List Int):List (List AV):=l.map fun b=>[.int .u8 b]
theorem qVw:bys []=[]:=rfl
theorem qBs (l:List Int):(bys l).length=l.length:=by simp [bys]
theorem qOx (l:List Int) (i:Nat) (h:i<l.length):(bys l).getD i []=[.int .u8 (l.getD i 0)]:=by simp [bys,List.getD_eq_getElem?_getD,h]
theorem nS (A:Nat→Prop) (l:List Int):jU A (bys l)↔True:=by
 simp only [iff_true]
 induction l with
 | nil=>trivial
 | cons x l ih=>exact ⟨by simp [vL,bnd,eU,jB,dL,bG,dA,dN,zJ,gP,aI,eI,xU],ih⟩
theorem tQ (l:List Int):nbr (bys l)↔True:=by
 simp only [iff_true]
 induction l with
 | nil=>trivial
 | cons x l ih=>exact ⟨by simp [nbs,nb,dI,xW,gN,zQ,aA,zO,dQ,eQ,cX,aU],ih⟩
theorem tR :∀(l:List Int),bwR (bys l)=bys l
 | []=>rfl
 | x::l=>by
  have:=tR l
  simp only [bys,qXl,bwR] at this⊢
  rw [this]
  simp [bwL,bwC,dX,xY,gO,zR,aB,aL,dR,eR,cY,aV]
structure Cur where
 i:Nat
 h:Int
 deriving Inhabited
def iD (code:List Int) (c:Cur):List AV:=[.sl .fz 1 (bys code),.int .i64 c.i,.int .i64 c.h]
theorem fS:(∀n,del [] n=[])∧(∀m s h n,del ((m,s)::h) n=if n=m then del h n else (m,s)::del h n)∧(∀n r,put [] n r=[(n,r)])∧(∀m s h n r,put ((m,s)::h) n r=if n=m then (m,r)::h else (m,s)::put h n r)∧(∀{α:Type} (a b:α) (l:List α),(a::l).set 0 b=b::l)∧(∀{α:Type} (a b:α) (l:List α) (n:Nat),(a::l).set (n+1) b=a::l.set n b)∧(∀{α:Type} (a b:α),(if True then a else b)=a)∧(∀{α:Type} (a b:α),(if False then a else b)=b)∧(∀l,(wS l).length=l.length)∧(∀l n,(wS l).take n=wS (l.take n))∧(∀l n,(wS l).drop n=wS (l.drop n))∧(∀o l rows,eA o l rows=if o=0∧rows.length=l then rows else (rows.drop o).take l)∧(∀{α:Type} (a:α) (l:List α),(a::l).length=l.length+1)∧(∀{α:Type},([]:List α).length=0)∧(∀p:Prop,(p∧p)=p)∧(∀p:Prop,(p∧True)=p)∧(∀p:Prop,(True∧p)=p)∧(∀l,(aN l).length=l.length)∧(∀m l,(dM m l).length=l.length)∧(∀m l,(qCw m l).length=l.length)∧(∀m l,(yJ m l).length=l.length)∧(∀l,(jZ l).length=l.length)∧(∀m l,(yT m l).length=l.length)∧(∀m l,(qC0 m l).length=l.length)∧(∀m l,(qCh m l).length=l.length)∧(∀m l,(lK m l).length=l.length)∧(∀l,(bys l).length=l.length)∧(∀{α:Type} (a b:List α),(a++b).length=a.length+b.length)∧(∀{α:Type} (n:Nat) (a:α),(List.replicate n a).length=n)∧(∀{α:Type} (l:List α) (n:Nat) (a:α),(l.set n a).length=l.length):=by
 refine ⟨?_,?_,?_,?_,?_,?_,?_,?_,?_,?_,?_,?_,?_,?_,?_,?_,?_,?_,?_,?_,?_,?_,?_,?_,?_,?_,?_,?_,?_,?_⟩<;>intros<;>simp [del,put,eA,kK,tF,kD,rL,iB,rB,gB,pP,pW,mG,qBs]
attribute [go_sem] lA vW qW9 qWb qRp qUs qWc qUq qWa qUw qRo qUx qUr yA qRf qKk Arg.ev wQ dS qVm if_false if_true aC put del kK qEu Option.map_some Option.bind_some wE Int.toNat_natCast qWd qUp qUt xG true_and and_true qNy qNw qNx qFl qDd Bool.false_eq_true fU cellsOf vB List.isEmpty_nil List.isEmpty_cons fresh List.map_nil qXl List.cons_append List.nil_append zM List.take_zero List.drop_zero List.take_succ_cons List.getD_cons_zero List.length_cons List.length_nil List.drop_succ_cons List.drop_nil List.append_nil List.all_cons List.all_nil jW Bool.and_self Nat.zero_add qUu qUv qUo qRn qRm qRk qRl qUy qW8 qI9 qOo qKy qPg qPh qIy bC bE cQ qLc lH jF apart List.filter_nil List.filter_cons Option.isSome_some Option.isSome_none List.contains_nil List.contains_cons List.forall_mem_cons List.mem_cons List.not_mem_nil false_implies implies_true forall_const forall_eq_or_imp forall_eq or_false beq_self_eq_true Bool.or_false Bool.false_or Bool.true_or Bool.or_true Bool.not_true Bool.not_false xv xo xg xr xi xz List.set_set qHp qFg qKw qKx qD3 qAe qKu qEo oK eqC kC qFb List.replicate_zero decide_true decide_false qOd qNp List.replicate_succ Int.toNat_zero Int.toNat_one eq_self Bool.and_true Bool.true_and Bool.and_false Bool.false_and List.set_cons_zero List.set_cons_succ List.getD_cons_succ rnm ixm vP fF yH uL cond_true cond_false qAa qA9 qD4 tF qUf gT kD qFm qIq rL iB lO qIf jG bM rB wT qHd qF8 gB fW qC3 qQ iU pP qK1 pW jA mG yM qBs
attribute [simp] kN bwT bwC bwL dX qA9 wQ Arg.ev dT qBt qB4 qIn eU qE7 qA3 jB okV okL nb nbs nbr dI wE kK bnd vL jU vP fF ixm rnm apart lH bC bE fresh yH uL zA qIw zE mQ uG del qCu eA qAa qD4 shp okB qNm qKq qSl qU1 qU0 qPk qTy qVn qTz qSk qVp qTx rD qKi qUj qSz qUg xY dL xW tF qSx qIr gO bG gN kD qFm qSw zR dA zQ rL qT5 aB dN aA iB qIf qSh aL zJ zO rB qHd qPj qN2 dR gP dQ gB qC3 qRv eR aI eQ pP qSc cY eI cX pW qN8 aV xU aU mG qVw tR nS tQ qBs iD gT bM qF8 iU qK1 jA yM
theorem qHg :∀(l:List (List AV)),eN l l
 | []=>by simp [eN]
 | r::l=>(rD r r l l).2 ⟨oU r,qHg l⟩
theorem qKj :∀{a a' b b':List (List AV)},eN a a'→eN b b'→eN (a++b) (a'++b')
 | [],a',b,b',h1,h2=>by
  simp only [eN] at h1
  subst h1
  exact h2
 | r::a,a',b,b',h1,h2=>by
  simp only [eN] at h1
  obtain ⟨d,ds,rfl,h3,h4⟩:=h1
  exact (rD r d _ _).2 ⟨h3,qKj h4 h2⟩
theorem Sub.nilRow (nm:Nat) {t:List (Nat×AV)} {h:yC} {nx sz:Nat} {rows rows':List (List AV)} (hl:wE h nm=some (sz,rows)) (hn:eN rows rows') (hbn:jU (· < nx) rows'):Sub (.mk t h nx) (.mk t (put h nm (sz,rows')) nx):=by
 rintro B a w ⟨h1,h2,hb,hbt,φ,Lf,hl'⟩
 have hlk :∀n,wE (put h nm (sz,rows')) n=if n=nm then some (sz,rows') else wE h n:=fun n=>qHq n
 have hne :∀n,wE (put h nm (sz,rows')) n≠none→wE h n≠none:=fun n hn'=>by
  rw [hlk] at hn'
  split at hn'
  ·rename_i he; rw [he,hl]; simp
  ·exact hn'
 refine ⟨h1,h2,?_,hbt,φ,Lf,⟨hl'.ok.size0,hl'.ok.io0,hl'.ok.fr,hl'.ok.keep0,fun n hn'=>hl'.ok.own0 n (hne n hn'),?_,fun n hn'=>hl'.ok.rh.nodup n (hne n hn'),fun n hn'=>hl'.ok.rh.blk n (hne n hn'),fun n m hn' hm=>hl'.ok.rh.dis n m (hne n hn') (hne m hm),?_⟩,hl'.tm,hl'.φ0,hl'.ten⟩
 ·intro n row hr
  rw [hlk] at hr
  split at hr
  ·rename_i he
   simp only [Option.some.injEq] at hr
   subst hr he
   exact ⟨(hb n _ hl).1,hbn⟩
  ·exact hb n row hr
 ·intro n row hr
  rw [hlk] at hr
  split at hr
  ·rename_i he
   simp only [Option.some.injEq] at hr
   subst hr he
   have:=hl'.ok.rh.row n _ hl
   unfold dD zW at this⊢
   cases hq:(B.env w φ).φ n with
   | dead=>rw [hq] at this; exact this.elim
   | nilp =>
    rw [hq] at this
    simp only at this
    obtain ⟨h3,h4⟩:=this
    rw [h3] at hn
    simp only [eN] at hn
    exact ⟨hn,h4⟩
   | «at» p =>
    rw [hq] at this
    obtain ⟨h3,h4,Lr,h5,h6⟩:=this
    exact ⟨h3,by rw [rC hn]; exact h4,Lr,qHh hn h5,h6⟩
  ·exact hl'.ok.rh.row n row hr
 ·intro n hn'
  rw [hlk] at hn'
  split at hn'
  ·simp at hn'
  ·exact hl'.ok.rh.dead n hn'
theorem Sub.nilLast (nm:Nat) {t:List (Nat×AV)} {h:yC} {nx sz:Nat} {front:List (List AV)} {r r':List AV} (hl:wE h nm=some (sz,front++[r])) (hn:qR r r') (hbn:jU (· < nx) (front++[r'])):Sub (.mk t h nx) (.mk t (put h nm (sz,front++[r'])) nx) :=
 Sub.nilRow nm hl (qKj (qHg front) ((rD r r' [] []).2 ⟨hn,(qKi).2 trivial⟩)) hbn
theorem wF {rs:List qAl} {fp:FP} {v:AV} {s:AS} {t:List (Nat×AV)} {h:yC} {nx:Nat} (hs:Sub s (.mk t h nx)) (h1:qIw (rs.map fun r=>(zA t h r).2)∧(zE h (rs.map fun r=>(zA t h r).1)).2.2∧qR (zE h (rs.map fun r=>(zA t h r).1)).1 [v]∧∀x∈fp,wE (zE h (rs.map fun r=>(zA t h r).1)).2.1 x.1=wE (uG fp) x.1):Fin rs fp v s :=
 ⟨_,hs,jC h1⟩
theorem wG {rs:List qAl} {fp:FP} {vs:List AV} {s:AS} {t:List (Nat×AV)} {h:yC} {nx:Nat} (h0:vs.length≠1) (hs:Sub s (.mk t h nx)) (h1:qIw (rs.map fun r=>(zA t h r).2)∧(zE h (rs.map fun r=>(zA t h r).1)).2.2∧qR (zE h (rs.map fun r=>(zA t h r).1)).1 vs∧∀x∈fp,wE (zE h (rs.map fun r=>(zA t h r).1)).2.1 x.1=wE (uG fp) x.1):Fin rs fp (.tup vs) s :=
 ⟨_,hs,yP h0 h1⟩
theorem uX {P:Program} {num:Nat→Nat} {fin:AS→Prop} {op:MOp} {dst:Option Nat} {k:List It} {s:AS} {t:List (Nat×AV)} {h:yC} {nx:Nat} (hs:Sub s (.mk t h nx)) (h1:pG P num fin op dst k (.mk t h nx)):pG P num fin op dst k s:=qT7 hs h1
theorem K {p q:Prop} (k:q) (h:p:=by first | omega | (simp [-List.getD_eq_getElem?_getD]; first | done | omega)):p∧q:=⟨h,k⟩
theorem CA {P:Program} {num:Nat→Nat} {fin:AS→Prop} {f nx:Nat} {ps:List Bool} {xs:List Arg} {t:List (Nat×AV)} {h:yC} {fp:FP} {res:AV} {vargs:List AV} {dst:Option Nat} {k:List It} (σ:List (Nat×Nat)) (hc:qU P num f vargs fp res)
  (hk:vc P num fin k (.mk (dS t dst (yH nx (vP (rnm σ) res)).1) (aC h (fp.map (fun x=>(rnm σ x.1,x.2))++fresh (yH nx (vP (rnm σ) res)).2.1)) (yH nx (vP (rnm σ) res)).2.2))
  (hv:qR (kN (ixm σ) h ps (xs.map (Arg.ev (wQ t)))) vargs:=by first | omega | (simp [qR,qS]; done) | (simp [qR,qS, *]; done))
  (hvo:dT h (fun n =>∃x∈fp,x.2.1≠none∧n=rnm σ x.1∧ixm σ n=x.1) (fun n =>∃x∈fp,n=rnm σ x.1) ps (xs.map (Arg.ev (wQ t))):=by first | omega | (simp [qR,qS]; done) | (simp [qR,qS, *]; done))
  (hnd:(fp.map (fun x=>rnm σ x.1)).Nodup:=by first | (simp [qR,qS]; done) | (simp [qR,qS, *]; done))
  (hpre :∀x∈fp,wE h (rnm σ x.1)=x.2.1∧(x.2.1=none→nx≤rnm σ x.1)∧rnm σ x.1<nx:=by first | (simp [qR,qS]; done) | (simp [qR,qS, *]; done))
  (hnb :∀x∈fp,(∀r,x.2.1=some r→nbr r.2)∧(∀r,x.2.2=some r→nbr r.2):=by first | (simp [qR,qS]; done) | (simp [qR,qS, *]; done))
  (hres:okV (fun k =>∃x∈fp,x.1=k∧x.2.2≠none) res:=by first | (simp [qR,qS]; done) | (simp [qR,qS, *]; done)):pG P num fin (.call f ps xs) dst k (.mk t h nx) :=
 kU (qIl σ hc hv hvo hnd hpre hnb hres) hk
theorem DA {P:Program} {num:Nat→Nat} {fin:AS→Prop} {f nx:Nat} {ps:List Bool} {xs:List Arg} {t:List (Nat×AV)} {h:yC} {fp:FP} {res:AV} {vargs:List AV} {pend:List (Nat×List Nat)} {dst:Option Nat} {tr:gL} {k:List It} (σ:List (Nat×Nat)) (hc:qU P num f vargs fp res)
  (hk:vc P num fin (.draw tr pend::k) (.mk (dS t dst (yH nx (vP (rnm σ) res)).1) (aC h (fp.map (fun x=>(rnm σ x.1,x.2))++fresh (yH nx (vP (rnm σ) res)).2.1)) (yH nx (vP (rnm σ) res)).2.2))
  (hv:qR (kN (ixm σ) h ps (xs.map (Arg.ev (wQ t)))) vargs:=by first | omega | (simp [qR,qS]; done) | (simp [qR,qS, *]; done))
  (hvo:dT h (fun n =>∃x∈fp,x.2.1≠none∧n=rnm σ x.1∧ixm σ n=x.1) (fun n =>∃x∈fp,n=rnm σ x.1) ps (xs.map (Arg.ev (wQ t))):=by first | omega | (simp [qR,qS]; done) | (simp [qR,qS, *]; done))
  (hnd:(fp.map (fun x=>rnm σ x.1)).Nodup:=by first | (simp [qR,qS]; done) | (simp [qR,qS, *]; done))
  (hpre :∀x∈fp,wE h (rnm σ x.1)=x.2.1∧(x.2.1=none→nx≤rnm σ x.1)∧rnm σ x.1<nx:=by first | (simp [qR,qS]; done) | (simp [qR,qS, *]; done))
  (hnb :∀x∈fp,(∀r,x.2.1=some r→nbr r.2)∧(∀r,x.2.2=some r→nbr r.2):=by first | (simp [qR,qS]; done) | (simp [qR,qS, *]; done))
  (hres:okV (fun k =>∃x∈fp,x.1=k∧x.2.2≠none) res:=by first | (simp [qR,qS]; done) | (simp [qR,qS, *]; done))
  (ha:apart pend (fp.map (fun x=>(rnm σ x.1,x.2))++fresh (yH nx (vP (rnm σ) res)).2.1):=by first | (simp [qR,qS]; done) | (simp [qR,qS, *]; done)):qOp P num fin (.call f ps xs) pend dst tr k t h nx :=
 tN (qIl σ hc hv hvo hnd hpre hnb hres) ha hk
theorem CAV {P:Program} {num:Nat→Nat} {fin:AS→Prop} {f nx:Nat} {y:Arg} {xs:List Arg} {t:List (Nat×AV)} {h:yC} {fp:FP} {res:AV} {vargs:List AV} {dst:Option Nat} {k:List It} (σ:List (Nat×Nat)) (hc:qU P num f vargs fp res)
  (hk:vc P num fin k (.mk (dS t dst (yH nx (vP (rnm σ) res)).1) (aC h (fp.map (fun x=>(rnm σ x.1,x.2))++fresh (yH nx (vP (rnm σ) res)).2.1)) (yH nx (vP (rnm σ) res)).2.2))
  (hy:y.ev (wQ t)=.fn f []:=by first | rfl | (simp; done) | (simp [*]; done))
  (hv:qR (kN (ixm σ) h (xs.map fun _=>false) (xs.map (Arg.ev (wQ t)))) vargs:=by first | omega | (simp [qR,qS]; done) | (simp [qR,qS, *]; done))
  (hvo:dT h (fun n =>∃x∈fp,x.2.1≠none∧n=rnm σ x.1∧ixm σ n=x.1) (fun n =>∃x∈fp,n=rnm σ x.1) (xs.map fun _=>false) (xs.map (Arg.ev (wQ t))):=by first | omega | (simp [qR,qS]; done) | (simp [qR,qS, *]; done))
  (hnd:(fp.map (fun x=>rnm σ x.1)).Nodup:=by first | (simp [qR,qS]; done) | (simp [qR,qS, *]; done))
  (hpre :∀x∈fp,wE h (rnm σ x.1)=x.2.1∧(x.2.1=none→nx≤rnm σ x.1)∧rnm σ x.1<nx:=by first | (simp [qR,qS]; done) | (simp [qR,qS, *]; done))
  (hnb :∀x∈fp,(∀r,x.2.1=some r→nbr r.2)∧(∀r,x.2.2=some r→nbr r.2):=by first | (simp [qR,qS]; done) | (simp [qR,qS, *]; done))
  (hres:okV (fun k =>∃x∈fp,x.1=k∧x.2.2≠none) res:=by first | (simp [qR,qS]; done) | (simp [qR,qS, *]; done)):pG P num fin (.calv y xs) dst k (.mk t h nx) :=
 kU (qVv σ hc hv hvo hnd hpre hnb hres (Nat.le_refl _) hy) hk
def qU8 (k:Int) (n:Nat):List Int:=(List.range n).map fun (i:Nat)=>k+i
theorem eZ (xs:List Int) (hx:8*xs.length≤2^47):qU Tryz.prog num 36 [.sl .bw 1 (wS xs)] [] (.sl .own 1 (wS xs)):=by
 refine EN m36 Tryz.func143 ?_
 unfold m36
 simp only [go_sem,seval]
 repeat refine K ?_
 refine fz ?_; simp [wA,qR,qS,qN,-qZ8]
def qL (n lo hi:Int):Bool:=decide (lo≤n)&&decide (n≤hi)
theorem qO {n lo hi:Int}:qL n lo hi=true↔lo≤n∧n≤hi:=by simp [qL]
def uM (b:Bool):Int:=if b then 1 else 0
theorem yE (n lo hi:Int):qU Tryz.prog num 59 [.int .i64 n,.int .i64 lo,.int .i64 hi] [] (.bool (qL n lo hi)):=by
 refine EN m59 Tryz.func91 ?_
 unfold m59
 by_cases h1:lo≤n<;>by_cases h2:n≤hi<;>(simp only [go_sem,seval,h1,h2]; refine fz ?_; simp [wA,qR,qS,qN,-qZ8]; simp [qL,h1,h2])
theorem yO (n lo hi:Int):qU Tryz.prog num 64 [.int .i64 n,.int .i64 lo,.int .i64 hi] [] (.bool (qL n lo hi)):=by
 refine EN m64 Tryz.func69 ?_
 unfold m64
 by_cases h1:lo≤n<;>by_cases h2:n≤hi<;>(simp only [go_sem,seval,h1,h2]; refine fz ?_; simp [wA,qR,qS,qN,-qZ8]; simp [qL,h1,h2])
theorem xK (b:Bool):qU Tryz.prog num 78 [.bool b] [] (.int .i64 (uM b)):=by
 refine EN m78 Tryz.func175 ?_
 unfold m78
 cases b<;>(simp only [go_sem,seval]; refine fz ?_; simp [wA,qR,qS,qN,-qZ8]; simp [uM])
theorem kJ (b:Bool):qU Tryz.prog num 85 [.bool b] [] (.int .i64 (uM b)):=by
 refine EN m85 Tryz.func104 ?_
 unfold m85
 cases b<;>(simp only [go_sem,seval]; refine fz ?_; simp [wA,qR,qS,qN,-qZ8]; simp [uM])
theorem qOc (n:Int):qU Tryz.prog num 97 [.int .i64 n] [] (.bool (qL n 0 3)):=by
 refine EN m97 Tryz.func216 ?_
 unfold m97
 simp only [go_sem,seval]
 refine CA [] (yE n 0 3) ?_
 try simp only [go_sem,seval]
 refine fz ?_; simp [wA,qR,qS,qN,-qZ8]
theorem qE6 (n:Int):qU Tryz.prog num 44 [.int .i64 n] [] (.bool (qL n 5 9)):=by
 refine EN m44 Tryz.func199 ?_
 unfold m44
 simp only [go_sem,seval]
 refine CA [] (yE n 5 9) ?_
 try simp only [go_sem,seval]
 refine fz ?_; simp [wA,qR,qS,qN,-qZ8]
theorem qMi (l:List aP) (hx:16*l.length≤2^47):qU Tryz.prog num 69 [.sl .bw 2 (jZ l)] [] (.sl .own 2 (jZ l)):=by
 refine EN m69 Tryz.func142 ?_
 unfold m69
 simp only [go_sem,seval]
 repeat refine K ?_
 refine fz ?_; simp [wA,qR,qS,qN,-qZ8]
theorem nO (c:bS) (hx:8*c.list.length≤2^47):qU Tryz.prog num 70 [.agg (bM .bw c)] [] (.agg (bM .own c)):=by
 refine EN m70 Tryz.func144 ?_
 unfold m70
 simp only [go_sem,seval]
 refine CA [] (eZ c.list hx) ?_
 try simp only [go_sem,seval]
 refine fz ?_; simp [wA,qR,qS,qN,-qZ8]
theorem qA7 (c:bS) (hx:8*c.list.length≤2^47):qU Tryz.prog num 84 [.agg (bM .bw c)] [] (.agg (bM .own c)):=by
 refine EN m84 Tryz.func218 ?_
 unfold m84
 simp only [go_sem,seval]
 repeat refine K ?_
 refine fz ?_; simp [wA,qR,qS,qN,-qZ8]
def vK (c:bS):Bool:=qL c.cap 1 4&&decide ((c.list.length:Int)≤c.cap)
theorem iY (c:bS):qU Tryz.prog num 72 [.agg (bM .bw c)] [] (.bool (vK c)):=by
 refine EN m72 Tryz.func145 ?_
 unfold m72
 simp only [go_sem,seval]
 refine CA [] (yE c.cap 1 4) ?_
 try simp only [go_sem,seval]
 cases h:qL c.cap 1 4
 ·simp only [go_sem,seval,h]
  refine fz ?_; simp [wA,qR,qS,qN,-qZ8]
  simp [vK,h]
 ·simp only [go_sem,seval,h]
  refine fz ?_; simp [wA,qR,qS,qN,-qZ8]
  simp [vK,h]
theorem iV (c:bS):qU Tryz.prog num 83 [.agg (bM .bw c)] [] (.bool (vK c)):=by
 refine EN m83 Tryz.func165 ?_
 unfold m83
 simp only [go_sem,seval]
 refine CA [] (yO c.cap 1 4) ?_
 try simp only [go_sem,seval]
 cases h:qL c.cap 1 4
 ·simp only [go_sem,seval,h]
  refine fz ?_; simp [wA,qR,qS,qN,-qZ8]
  simp [vK,h]
 ·simp only [go_sem,seval,h]
  refine fz ?_; simp [wA,qR,qS,qN,-qZ8]
  simp [vK,h]
def zD (x:Ins) (pl ch:Int):Bool :=
 qL x.r 0 3&&qL x.a 0 3&&qL x.b 0 3&&qL ch 0 3 &&
 (if x.op=1 then qL x.n (-1000000000) 1000000000&&decide (x.a=0)&&decide (x.b=0)
  else if x.op=2∨x.op=3∨x.op=4 then decide (x.n=0)
  else if x.op=5 then qL x.n 0 (ch-1)&&decide (x.r=0)&&decide (x.b=0)
  else if x.op=6∨x.op=8 then qL x.n 0 (ch-1)&&decide (x.a=0)&&!decide (x.r=x.b)
  else if x.op=7 then qL x.n 0 (ch-1)&&decide (x.b=0)
  else if x.op=9 then qL x.n 0 (ch-1)&&decide (x.r=0)&&decide (x.a=0)&&decide (x.b=0)
  else if x.op=10 then decide (x.r=0)&&decide (x.b=0)&&decide (x.n=0)
  else if x.op=11 then decide (0≤x.n)&&decide (x.n<pl)&&decide (x.r=0)&&decide (x.a=0)&&decide (x.b=0)
  else if x.op=12 then decide (0≤x.n)&&decide (x.n<pl)&&decide (x.r=0)&&decide (x.b=0)
  else if x.op=13 then decide (x.op=13)&&(decide (x.r=0)&&(decide (x.a=0)&&(decide (x.b=0)&&decide (x.n=0))))
  else false)
def qFa (x:Ins):Ins :=
 if x.op=1 then ⟨x.op,x.r,0,0,x.n⟩
 else if x.op=2∨x.op=3∨x.op=4 then ⟨x.op,x.r,x.a,x.b,0⟩
 else if x.op=5∨x.op=12 then ⟨x.op,0,x.a,0,x.n⟩
 else if x.op=6∨x.op=8 then ⟨x.op,x.r,0,x.b,x.n⟩
 else if x.op=7 then ⟨x.op,x.r,x.a,0,x.n⟩
 else if x.op=9∨x.op=11 then ⟨x.op,0,0,0,x.n⟩
 else if x.op=10 then ⟨x.op,0,x.a,0,0⟩
 else ⟨x.op,0,0,0,0⟩
def tH (x:Ins) (pl ch:Int):Bool :=
 qL ch 0 3&&qL x.op 1 13&&(decide (x.op=(qFa x).op)&&(decide (x.r=(qFa x).r)&&(decide (x.a=(qFa x).a)&&(decide (x.b=(qFa x).b)&&decide (x.n=(qFa x).n))))) &&
 qL x.r 0 3&&qL x.a 0 3&&qL x.b 0 3 &&
 (if x.op=1 then qL x.n (-1000000000) 1000000000
  else if x.op=11∨x.op=12 then qL x.n 0 (pl-1)
  else if (x.op=6∨x.op=8)∧x.r=x.b then false
  else !qL x.op 5 9||qL x.n 0 (ch-1))
theorem qNq (x:Ins):qU Tryz.prog num 96 [.agg (gT x)] [] (.agg (gT (qFa x))):=by
 refine EN m96 Tryz.func215 ?_
 unfold m96
 repeat' (first
  | (simp only [go_sem,seval])
  | (refine qP (fun hc=>?_) (fun hc=>?_)<;>((try simp only [qZ9,qZa,ne_eq,qZb,qZc] at hc)<;>(try simp only [hc])))
  | (refine bK (fun hc=>?_) (fun hc=>?_)<;>((try simp only [qZ9,qZa,ne_eq,qZb,qZc] at hc)<;>(try simp only [hc])))
  | (refine uP (fun hc=>?_) (fun hc=>?_)<;>((try simp only [qZ9,qZa,ne_eq,qZb,qZc] at hc)<;>(try simp only [hc])))
  | (refine ⟨by first | omega | (simp; done),?_⟩)
  | fail)
 all_goals (refine fz ?_; simp [wA,qR,qS,qN,-qZ8])
 all_goals (try (simp_all [qFa]; done))
theorem iH (n lo hi:Int):qL n lo hi=decide (lo≤n∧n≤hi):=by simp [qL]
theorem qAb (x:Ins) (pl ch:Int):tH x pl ch=zD x pl ch:=by
 obtain ⟨op,r,a,b,n⟩:=x
 by_cases h:1≤op∧op≤13
 ·obtain rfl | rfl | rfl | rfl | rfl | rfl | rfl | rfl | rfl | rfl | rfl | rfl | rfl:op=1∨op=2∨op=3∨op=4∨op=5∨op=6∨op=7∨op=8∨op=9∨op=10∨op=11∨op=12∨op=13:=by omega
  all_goals (rw [Bool.eq_iff_iff]; simp [tH,zD,qFa,iH]; try omega)
 ·have h1 :¬op=1:=by omega
  have h2 :¬op=2:=by omega
  have h3 :¬op=3:=by omega
  have h4 :¬op=4:=by omega
  have h5 :¬op=5:=by omega
  have h6 :¬op=6:=by omega
  have h7 :¬op=7:=by omega
  have h8 :¬op=8:=by omega
  have h9 :¬op=9:=by omega
  have h10 :¬op=10:=by omega
  have h11 :¬op=11:=by omega
  have h12 :¬op=12:=by omega
  have h13 :¬op=13:=by omega
  have hw:qL op 1 13=false:=by rw [iH]; simp; omega
  simp [tH,zD,hw,h1,h2,h3,h4,h5,h6,h7,h8,h9,h10,h11,h12,h13]
end Go.Sep
