/- Contracts of functions. -/
import Derived.Test.YtebbppogicgpkaaGreatSzFns
namespace Go.Sep
set_option maxHeartbeats 16000000
open Go.Proofs
set_option linter.unusedSimpArgs false
set_option linter.unusedVariables false
set_option maxRecDepth 100000
def m5:MFn:=⟨22,[.t 2],kr [xo 2 (.mv (.c (.nil)))] (kr [xv 5 0,xe 6 5,xo 7 (.mkS [xz] 8 (.t 6) (.t 6)),xv 3 7] (.seq (kr [xI 4 0] (.blk 0 (.loop (.seq (kr [xv 8 4,xv 9 0,xe 10 9,bT 11 .lss 8 10] (kX 11 0)) (.seq (.blk 1 (xr [xv 14 3,xv 15 4,xv 16 0,xv 17 4,xD 18 1 16 17,xl 19 18,xD 20 1 14 15,xS 1 20 19])) (xr [xv 12 4,bI 13 .add 12 1,xv 4 13])))))) (kR [xv 21 3,xv 2 21])))⟩
def m36:MFn:=⟨6,[.t 2],kr [xo 2 (.mv (.c (.nil)))] (kR [xo 3 (.mkSl [xz] 0 []),xv 4 0,xA 5 1 8 3 4,xv 2 5])⟩
def m44:MFn:=⟨5,[.t 2],kr [xF 2] (kR [xv 3 0,xc3 4 59 (.t 3) (xi 5) (xi 9),xv 2 4])⟩
def m59:MFn:=⟨15,[.t 6],kr [xF 6] (kR [xv 7 0,xv 8 1,bT 9 .geq 7 8,xv 10 9,yv 11 0 10,yv 12 2 10,xg 13 (.bin .leq (.t 11) (.t 12)) 10 true,xP 14 10 13,xv 6 14])⟩
def m64:MFn:=⟨15,[.t 6],kr [xF 6] (kR [xv 7 0,xv 8 1,bT 9 .geq 7 8,xv 10 9,yv 11 0 10,yv 12 2 10,xg 13 (.bin .leq (.t 11) (.t 12)) 10 true,xP 14 10 13,xv 6 14])⟩
def m78:MFn:=⟨4,[.t 2],kr [xI 2 0] (.seq (kr [xv 3 0] (kF 3 [xI 2 1])) (kR [xI 2 0]))⟩
def m85:MFn:=⟨4,[.t 2],kr [xI 2 0] (.seq (kr [xv 3 0] (kF 3 [xI 2 1])) (kR [xI 2 0]))⟩
def m96:MFn:=⟨74,[.cell 2 5 true],kr [xb 1 0,xo 2 (.alloc [xz,xz,xz,xz,xz])] (kr [xa 4 0 1,xl 5 4,xo 6 (.build [xz,xz,xz,xz,xz] [(0,1,.t 5)]),xo 3 (.alloc [xz,xz,xz,xz,xz]),xS 5 3 6] (.seq (kr [xa 7 0 1,xl 8 7] (.blk 0 (kr [bI 10 .eql 8 1,xv 9 10] (.cond 9 (.dreg (.take 0 (xa 11 1 1) (.take 1 (xl 12 11) (.take 2 (xa 13 4 1) (.take 3 (xl 14 13) (.only 4 [0,1] (xa 15 1 3) (.only 5 [0,1] (xS 1 15 12) (.only 6 [0,1,2,3] (xa 16 4 3) (.only 7 [0,1,2,3] (xS 1 16 14) (.done)))))))))) (.seq (kr [bI 18 .eql 8 2,xv 17 18] (.cond 17 (.skip) (kr [bI 19 .eql 8 3,xv 17 19] (.cond 17 (.skip) (xr [bI 20 .eql 8 4,xv 17 20]))))) (.cond 17 (.dreg (.take 0 (xa 21 1 1) (.take 1 (xl 22 21) (.take 2 (xa 23 2 1) (.take 3 (xl 24 23) (.take 4 (xa 25 3 1) (.take 5 (xl 26 25) (.only 6 [0,1] (xa 27 1 3) (.only 7 [0,1] (xS 1 27 22) (.only 8 [0,1,2,3] (xa 28 2 3) (.only 9 [0,1,2,3] (xS 1 28 24) (.only 10 [0,1,2,3,4,5] (xa 29 3 3) (.only 11 [0,1,2,3,4,5] (xS 1 29 26) (.done)))))))))))))) (.seq (kr [bI 31 .eql 8 5,xv 30 31] (.cond 30 (.skip) (xr [bI 32 .eql 8 12,xv 30 32]))) (.cond 30 (.dreg (.take 0 (xa 33 2 1) (.take 1 (xl 34 33) (.take 2 (xa 35 4 1) (.take 3 (xl 36 35) (.only 4 [0,1] (xa 37 2 3) (.only 5 [0,1] (xS 1 37 34) (.only 6 [0,1,2,3] (xa 38 4 3) (.only 7 [0,1,2,3] (xS 1 38 36) (.done)))))))))) (.seq (kr [bI 40 .eql 8 6,xv 39 40] (.cond 39 (.skip) (xr [bI 41 .eql 8 8,xv 39 41]))) (.cond 39 (.dreg (.take 0 (xa 42 1 1) (.take 1 (xl 43 42) (.take 2 (xa 44 3 1) (.take 3 (xl 45 44) (.take 4 (xa 46 4 1) (.take 5 (xl 47 46) (.only 6 [0,1] (xa 48 1 3) (.only 7 [0,1] (xS 1 48 43) (.only 8 [0,1,2,3] (xa 49 3 3) (.only 9 [0,1,2,3] (xS 1 49 45) (.only 10 [0,1,2,3,4,5] (xa 50 4 3) (.only 11 [0,1,2,3,4,5] (xS 1 50 47) (.done)))))))))))))) (kr [bI 52 .eql 8 7,xv 51 52] (.cond 51 (.dreg (.take 0 (xa 53 1 1) (.take 1 (xl 54 53) (.take 2 (xa 55 2 1) (.take 3 (xl 56 55) (.take 4 (xa 57 4 1) (.take 5 (xl 58 57) (.only 6 [0,1] (xa 59 1 3) (.only 7 [0,1] (xS 1 59 54) (.only 8 [0,1,2,3] (xa 60 2 3) (.only 9 [0,1,2,3] (xS 1 60 56) (.only 10 [0,1,2,3,4,5] (xa 61 4 3) (.only 11 [0,1,2,3,4,5] (xS 1 61 58) (.done)))))))))))))) (.seq (kr [bI 63 .eql 8 9,xv 62 63] (.cond 62 (.skip) (xr [bI 64 .eql 8 11,xv 62 64]))) (.cond 62 (xr [xa 65 4 1,xl 66 65,xa 67 4 3,xS 1 67 66]) (kr [bI 69 .eql 8 10,xv 68 69] (.cond 68 (xr [xa 70 2 1,xl 71 70,xa 72 2 3,xS 1 72 71]) (.skip))))))))))))))))) (kR [xm 73 5 3,xS 5 2 73])))⟩
def m97:MFn:=⟨5,[.t 2],kr [xF 2] (kR [xv 3 0,xc3 4 59 (.t 3) (xi 0) (xi 3),xv 2 4])⟩
attribute [local go_sem] fV vG qRj qRl qEb qKa qRm qK8 qRk qKe qEa qKf qK9 yC qDk pO Arg.ev wL dE qSq if_false if_true zY put del dL qBh Option.map_some Option.bind_some qY Int.toNat_natCast qRn qK7 qKb dW true_and and_true qA4 qA2 qA3 lM iO Bool.false_eq_true fH cellsOf vC List.isEmpty_nil List.isEmpty_cons fresh List.map_nil List.map_cons List.cons_append List.nil_append dI List.take_zero List.drop_zero List.take_succ_cons List.getD_cons_zero List.length_cons List.length_nil List.drop_succ_cons List.drop_nil List.append_nil List.all_cons List.all_nil jP Bool.and_self Nat.zero_add qKc qKd qK6 qE9 qE8 qE6 qE7 qKg qRi nG qAj pZ qF7 qFe qEq vX vZ eC qEp cZ jG apart List.filter_nil List.filter_cons Option.isSome_some Option.isSome_none List.contains_nil List.contains_cons List.forall_mem_cons List.mem_cons List.not_mem_nil false_implies implies_true forall_const forall_eq_or_imp forall_eq or_false beq_self_eq_true Bool.or_false Bool.false_or Bool.true_or Bool.or_true Bool.not_true Bool.not_false xv xo xg xr xi xz List.set_set nA lG pX pY tF mC qE5 sJ mQ eqC cS lC List.replicate_zero decide_true decide_false pU qA0 List.replicate_succ Int.toNat_zero Int.toNat_one eq_self Bool.and_true Bool.true_and Bool.and_false Bool.false_and List.set_cons_zero List.set_cons_succ List.getD_cons_succ rnm ixm jQ xE yJ vN cond_true cond_false eR eQ fP
attribute [local simp] iI bwT bwC bwL gA eQ wL Arg.ev gP tJ rD qEn aX sA lZ yT okV okL nb nbs nbr bR qY dL bnd vK jT jQ xE ixm rnm apart cZ vX vZ fresh yJ vN dJ qEo dO iT vU del tD aK eR fP shp okB pM pV
theorem jA {rs:List qBj} {fp:FP} {vs:List AV} {t:List (Nat×AV)} {h:yD} {nx:Nat} (h0:vs.length≠1) (h1:qEo (rs.map fun r=>(dJ t h r).2)∧(dO h (rs.map fun r=>(dJ t h r).1)).2.2∧qU (dO h (rs.map fun r=>(dJ t h r).1)).1 vs∧∀x∈fp,qY (dO h (rs.map fun r=>(dJ t h r).1)).2.1 x.1=qY (vU fp) x.1):qZ rs fp (.tup vs) (.mk t h nx):=by
 refine ⟨h1.1,h1.2.1,⟨vs,h1.2.2.1,?_⟩,h1.2.2.2⟩
 match vs,h0 with
 | [],_=>rfl
 | [_],h0=>exact absurd rfl h0
 | _::_::_,_=>rfl
theorem yQ {rs:List qBj} {fp:FP} {v:AV} {t:List (Nat×AV)} {h:yD} {nx:Nat} (h1:qEo (rs.map fun r=>(dJ t h r).2)∧(dO h (rs.map fun r=>(dJ t h r).1)).2.2∧qU (dO h (rs.map fun r=>(dJ t h r).1)).1 [v]∧∀x∈fp,qY (dO h (rs.map fun r=>(dJ t h r).1)).2.1 x.1=qY (vU fp) x.1):qZ rs fp v (.mk t h nx) :=
 ⟨h1.1,h1.2.1,⟨[v],h1.2.2.1,rfl⟩,h1.2.2.2⟩
theorem qWn (c d:AV) (cs ds:List AV):qU (c::cs) (d::ds)↔qV c d∧qU cs ds:=by
 simp only [qU,List.cons.injEq]
 exact ⟨fun ⟨_,_,⟨h1,h2⟩,h3,h4⟩=>by subst h1 h2; exact ⟨h3,h4⟩,fun ⟨h3,h4⟩=>⟨_,_,⟨rfl,rfl⟩,h3,h4⟩⟩
theorem qYq:qU [] []↔True:=by simp [qU]
theorem qYp (cs ds:List AV):qV (.agg cs) (.agg ds)↔qU cs ds:=by simp [qV]
theorem qYk (cs ds:List AV):qV (.tup cs) (.tup ds)↔qU cs ds:=by simp [qV]
theorem qSv (m:Mode) (sz:Nat):qV .nil (.sl m sz [])↔True:=by simp [qV]
theorem qYn:qV .nil .nil↔True:=by simp [qV]
theorem wAa (m:Mode) (sz:Nat) (rows:List (List AV)) (d:AV):qV (.sl m sz rows) d↔.sl m sz rows=d:=by simp [qV]
theorem qYo (k:IntKind) (n:Int) (d:AV):qV (.int k n) d↔.int k n=d:=by simp [qV]
theorem qWm (b:Bool) (d:AV):qV (.bool b) d↔.bool b=d:=by simp [qV]
theorem qYl (s:ByteArray) (d:AV):qV (.str s) d↔.str s=d:=by simp [qV]
theorem wAc (k o l:Nat) (d:AV):qV (.ns k o l) d↔.ns k o l=d:=by simp [qV]
theorem qYm (k o l:Nat) (d:AV):qV (.ptr k o l) d↔.ptr k o l=d:=by simp [qV]
theorem mX (r d:List AV) (rs ds:List (List AV)):eG (r::rs) (d::ds)↔qU r d∧eG rs ds:=by
 simp only [eG,List.cons.injEq]
 exact ⟨fun ⟨_,_,⟨h1,h2⟩,h3,h4⟩=>by subst h1 h2; exact ⟨h3,h4⟩,fun ⟨h3,h4⟩=>⟨_,_,⟨rfl,rfl⟩,h3,h4⟩⟩
theorem qMy:eG [] []↔True:=by simp [eG]
theorem qZ8:free []↔True:=by simp [free]
theorem qX1 (r:List AV) (rs:List (List AV)):free (r::rs)↔(∀c∈r,tD c=false)∧free rs:=by simp [free]
structure Ins where
 op:Int
 r:Int
 a:Int
 b:Int
 n:Int
 deriving DecidableEq,Inhabited
def bU (x:Ins):List AV:=[.int .i64 x.op,.int .i64 x.r,.int .i64 x.a,.int .i64 x.b,.int .i64 x.n]
def bL (l:List Ins):List (List AV):=l.map bU
theorem qZ3:bL []=[]:=rfl
theorem qAa (l:List Ins):(bL l).length=l.length:=by simp [bL]
theorem qR9 (l k:List Ins):bL l++bL k=bL (l++k):=by simp [bL]
theorem qN6 (l:List Ins) (n:Nat):(bL l).drop n=bL (l.drop n):=by simp [bL]
theorem qN5 (l:List Ins) (n:Nat):(bL l).take n=bL (l.take n):=by simp [bL]
theorem qZ1 (l:List Ins) (i:Nat) (op_:Int) (r_:Int) (a_:Int) (b_:Int) (n_:Int):(bL l).set i [.int .i64 op_,.int .i64 r_,.int .i64 a_,.int .i64 b_,.int .i64 n_]=bL (l.set i ⟨op_,r_,a_,b_,n_⟩):=by simp [bL,bU]
theorem uQ (l:List Ins) (i:Nat) (h:i<l.length):(bL l).getD i []=[.int .i64 (l.getD i default).op,.int .i64 (l.getD i default).r,.int .i64 (l.getD i default).a,.int .i64 (l.getD i default).b,.int .i64 (l.getD i default).n]:=by simp [bL,bU,List.getD_eq_getElem?_getD,h]
theorem dM (A:Nat→Prop) (l:List Ins):jT A (bL l)↔True:=by
 simp only [iff_true]
 induction l with
 | nil=>trivial
 | cons x l ih=>exact ⟨by simp [bU,vK,bnd,aX,yT],ih⟩
theorem aC (l:List Ins):nbr (bL l)↔True:=by
 simp only [iff_true]
 induction l with
 | nil=>trivial
 | cons x l ih=>exact ⟨by simp [bU,nbs,nb,bR],ih⟩
theorem xC :∀(l:List Ins),bwR (bL l)=bL l
 | []=>rfl
 | x::l=>by
  have:=xC l
  simp only [bL,List.map_cons,bwR] at this⊢
  rw [this]
  simp [bU,bwL,bwC,gA]
theorem qWz (l:List Ins):free (bL l)↔True:=by
 simp only [iff_true]
 intro r hr c hc
 simp only [bL,List.mem_map] at hr
 obtain ⟨x,_,rfl⟩:=hr
 simp [bU] at hc
 rcases hc with rfl | rfl | rfl | rfl | rfl<;>rfl
def jZ (m:Mode) (l:List (List Ins)):List (List AV):=l.map fun b=>[.sl m 5 (bL b)]
theorem qL0 (m:Mode):jZ m []=[]:=rfl
theorem kU (m:Mode) (l:List (List Ins)):(jZ m l).length=l.length:=by simp [jZ]
theorem qMb (m:Mode) (l k:List (List Ins)):jZ m l++jZ m k=jZ m (l++k):=by simp [jZ]
theorem qH2 (m:Mode) (l:List (List Ins)) (n:Nat):(jZ m l).drop n=jZ m (l.drop n):=by simp [jZ]
theorem qH1 (m:Mode) (l:List (List Ins)) (n:Nat):(jZ m l).take n=jZ m (l.take n):=by simp [jZ]
theorem qCl (m:Mode) (l:List (List Ins)) (i:Nat) (b_:List Ins):(jZ m l).set i [.sl m 5 (bL b_)]=jZ m (l.set i b_):=by simp [jZ]
theorem wK (m:Mode) (l:List (List Ins)) (i:Nat) (h:i<l.length):(jZ m l).getD i []=[.sl m 5 (bL (l.getD i []))]:=by simp [jZ,List.getD_eq_getElem?_getD,h]
theorem uW (A:Nat→Prop) (m:Mode) (l:List (List Ins)):jT A (jZ m l)↔True:=by
 simp only [iff_true]
 induction l with
 | nil=>trivial
 | cons x l ih=>exact ⟨by simp [vK,bnd,aX,yT,dM],ih⟩
theorem gJ (l:List (List Ins)):nbr (jZ .own l)↔True:=by
 simp only [iff_true]
 induction l with
 | nil=>trivial
 | cons x l ih=>exact ⟨by simp [nbs,nb,bR,aC],ih⟩
theorem bP (m:Mode) :∀(l:List (List Ins)),bwR (jZ m l)=jZ .bw l
 | []=>rfl
 | x::l=>by
  have:=bP m l
  simp only [jZ,List.map_cons,bwR] at this⊢
  rw [this]
  simp [bwL,bwC,gA,xC]
theorem qS1 (l:List (List Ins)):free (jZ .bw l)↔True:=by
 simp only [iff_true]
 intro r hr c hc
 simp only [jZ,List.mem_map] at hr
 obtain ⟨x,_,rfl⟩:=hr
 simp [] at hc
 rcases hc with rfl<;>rfl
def eW (m:Mode) (l:List (List Int)):List (List AV):=l.map fun b=>[.sl m 1 (wN b)]
theorem qWy (m:Mode):eW m []=[]:=rfl
theorem sG (m:Mode) (l:List (List Int)):(eW m l).length=l.length:=by simp [eW]
theorem qP2 (m:Mode) (l k:List (List Int)):eW m l++eW m k=eW m (l++k):=by simp [eW]
theorem qJp (m:Mode) (l:List (List Int)) (n:Nat):(eW m l).drop n=eW m (l.drop n):=by simp [eW]
theorem qJo (m:Mode) (l:List (List Int)) (n:Nat):(eW m l).take n=eW m (l.take n):=by simp [eW]
theorem qWx (m:Mode) (l:List (List Int)) (i:Nat) (b_:List Int):(eW m l).set i [.sl m 1 (wN b_)]=eW m (l.set i b_):=by simp [eW]
theorem gZ (A:Nat→Prop) (m:Mode) (l:List (List Int)):jT A (eW m l)↔True:=by
 simp only [iff_true]
 induction l with
 | nil=>trivial
 | cons x l ih=>exact ⟨by simp [vK,bnd,aX,yT,dM,uW],ih⟩
theorem zS (l:List (List Int)):nbr (eW .own l)↔True:=by
 simp only [iff_true]
 induction l with
 | nil=>trivial
 | cons x l ih=>exact ⟨by simp [nbs,nb,bR,aC,gJ],ih⟩
theorem dY (m:Mode) :∀(l:List (List Int)),bwR (eW m l)=eW .bw l
 | []=>rfl
 | x::l=>by
  have:=dY m l
  simp only [eW,List.map_cons,bwR] at this⊢
  rw [this]
  simp [bwL,bwC,gA,xC,bP]
theorem qTd (l:List (List Int)):free (eW .bw l)↔True:=by
 simp only [iff_true]
 intro r hr c hc
 simp only [eW,List.mem_map] at hr
 obtain ⟨x,_,rfl⟩:=hr
 simp [] at hc
 rcases hc with rfl<;>rfl
structure bW where
 cap:Int
 list:List Int
 closed:Bool
 deriving DecidableEq,Inhabited
def aL (m:Mode) (x:bW):List AV:=[.int .i64 x.cap,.sl m 1 (wN x.list),.bool x.closed]
def wW (m:Mode) (l:List bW):List (List AV):=l.map (aL m)
theorem qXd (m:Mode):wW m []=[]:=rfl
theorem iN (m:Mode) (l:List bW):(wW m l).length=l.length:=by simp [wW]
theorem sP (m:Mode) (l k:List bW):wW m l++wW m k=wW m (l++k):=by simp [wW]
theorem qKr (m:Mode) (l:List bW) (n:Nat):(wW m l).drop n=wW m (l.drop n):=by simp [wW]
theorem qKq (m:Mode) (l:List bW) (n:Nat):(wW m l).take n=wW m (l.take n):=by simp [wW]
theorem zO (m:Mode) (l:List bW) (i:Nat) (cap_:Int) (list_:List Int) (closed_:Bool):(wW m l).set i [.int .i64 cap_,.sl m 1 (wN list_),.bool closed_]=wW m (l.set i ⟨cap_,list_,closed_⟩):=by simp [wW,aL]
theorem dT (A:Nat→Prop) (m:Mode) (l:List bW):jT A (wW m l)↔True:=by
 simp only [iff_true]
 induction l with
 | nil=>trivial
 | cons x l ih=>exact ⟨by simp [aL,vK,bnd,aX,yT,dM,uW,gZ],ih⟩
theorem aE (l:List bW):nbr (wW .own l)↔True:=by
 simp only [iff_true]
 induction l with
 | nil=>trivial
 | cons x l ih=>exact ⟨by simp [aL,nbs,nb,bR,aC,gJ,zS],ih⟩
theorem zV (m:Mode) :∀(l:List bW),bwR (wW m l)=wW .bw l
 | []=>rfl
 | x::l=>by
  have:=zV m l
  simp only [wW,List.map_cons,bwR] at this⊢
  rw [this]
  simp [aL,bwL,bwC,gA,xC,bP,dY]
theorem qTx (l:List bW):free (wW .bw l)↔True:=by
 simp only [iff_true]
 intro r hr c hc
 simp only [wW,List.mem_map] at hr
 obtain ⟨x,_,rfl⟩:=hr
 simp [aL] at hc
 rcases hc with rfl | rfl | rfl<;>rfl
structure xJ where
 who:Int
 v:Int
 deriving DecidableEq,Inhabited
def qDj (x:xJ):List AV:=[.int .i64 x.who,.int .i64 x.v]
def jK (l:List xJ):List (List AV):=l.map qDj
theorem qWi:jK []=[]:=rfl
theorem rX (l:List xJ):(jK l).length=l.length:=by simp [jK]
theorem wV (l k:List xJ):jK l++jK k=jK (l++k):=by simp [jK]
theorem yV (who_:Int) (v_:Int):[[.int .i64 who_,.int .i64 v_]]=jK [⟨who_,v_⟩]:=rfl
theorem qJ4 (l:List xJ) (n:Nat):(jK l).drop n=jK (l.drop n):=by simp [jK]
theorem qJ3 (l:List xJ) (n:Nat):(jK l).take n=jK (l.take n):=by simp [jK]
theorem qWg (l:List xJ) (i:Nat) (who_:Int) (v_:Int):(jK l).set i [.int .i64 who_,.int .i64 v_]=jK (l.set i ⟨who_,v_⟩):=by simp [jK,qDj]
theorem cF (l:List xJ) (i:Nat) (h:i<l.length):(jK l).getD i []=[.int .i64 (l.getD i default).who,.int .i64 (l.getD i default).v]:=by simp [jK,qDj,List.getD_eq_getElem?_getD,h]
theorem zM (A:Nat→Prop) (l:List xJ):jT A (jK l)↔True:=by
 simp only [iff_true]
 induction l with
 | nil=>trivial
 | cons x l ih=>exact ⟨by simp [qDj,vK,bnd,aX,yT,dM,uW,gZ,dT],ih⟩
theorem zQ (l:List xJ):nbr (jK l)↔True:=by
 simp only [iff_true]
 induction l with
 | nil=>trivial
 | cons x l ih=>exact ⟨by simp [qDj,nbs,nb,bR,aC,gJ,zS,aE],ih⟩
theorem xZ :∀(l:List xJ),bwR (jK l)=jK l
 | []=>rfl
 | x::l=>by
  have:=xZ l
  simp only [jK,List.map_cons,bwR] at this⊢
  rw [this]
  simp [qDj,bwL,bwC,gA,xC,bP,dY,zV]
theorem qSu (l:List xJ):free (jK l)↔True:=by
 simp only [iff_true]
 intro r hr c hc
 simp only [jK,List.mem_map] at hr
 obtain ⟨x,_,rfl⟩:=hr
 simp [qDj] at hc
 rcases hc with rfl | rfl<;>rfl
structure vB where
 at_:Int
 regs:List Int
 st:Int
 deriving DecidableEq,Inhabited
def lX (m:Mode) (x:vB):List AV:=[.int .i64 x.at_,.sl m 1 (wN x.regs),.int .i64 x.st]
def jH (m:Mode) (l:List vB):List (List AV):=l.map (lX m)
theorem qPy (m:Mode):jH m []=[]:=rfl
theorem aP (m:Mode) (l:List vB):(jH m l).length=l.length:=by simp [jH]
theorem mP (m:Mode) (l k:List vB):jH m l++jH m k=jH m (l++k):=by simp [jH]
theorem qCu (m:Mode) (l:List vB) (n:Nat):(jH m l).drop n=jH m (l.drop n):=by simp [jH]
theorem qCt (m:Mode) (l:List vB) (n:Nat):(jH m l).take n=jH m (l.take n):=by simp [jH]
theorem wC (m:Mode) (l:List vB) (i:Nat) (at__:Int) (regs_:List Int) (st_:Int):(jH m l).set i [.int .i64 at__,.sl m 1 (wN regs_),.int .i64 st_]=jH m (l.set i ⟨at__,regs_,st_⟩):=by simp [jH,lX]
theorem gL (A:Nat→Prop) (m:Mode) (l:List vB):jT A (jH m l)↔True:=by
 simp only [iff_true]
 induction l with
 | nil=>trivial
 | cons x l ih=>exact ⟨by simp [lX,vK,bnd,aX,yT,dM,uW,gZ,dT,zM],ih⟩
theorem dU (l:List vB):nbr (jH .own l)↔True:=by
 simp only [iff_true]
 induction l with
 | nil=>trivial
 | cons x l ih=>exact ⟨by simp [lX,nbs,nb,bR,aC,gJ,zS,aE,zQ],ih⟩
theorem gX (m:Mode) :∀(l:List vB),bwR (jH m l)=jH .bw l
 | []=>rfl
 | x::l=>by
  have:=gX m l
  simp only [jH,List.map_cons,bwR] at this⊢
  rw [this]
  simp [lX,bwL,bwC,gA,xC,bP,dY,zV,xZ]
theorem qO3 (l:List vB):free (jH .bw l)↔True:=by
 simp only [iff_true]
 intro r hr c hc
 simp only [jH,List.mem_map] at hr
 obtain ⟨x,_,rfl⟩:=hr
 simp [lX] at hc
 rcases hc with rfl | rfl | rfl<;>rfl
structure qL6 where
 sent:List Int
 taken:List Int
 deriving DecidableEq,Inhabited
def qGb (m:Mode) (x:qL6):List AV:=[.sl m 1 (wN x.sent),.sl m 1 (wN x.taken)]
def eU (m:Mode) (l:List qL6):List (List AV):=l.map (qGb m)
theorem qVi (m:Mode):eU m []=[]:=rfl
theorem rL (m:Mode) (l:List qL6):(eU m l).length=l.length:=by simp [eU]
theorem qNz (m:Mode) (l k:List qL6):eU m l++eU m k=eU m (l++k):=by simp [eU]
theorem qHx (m:Mode) (l:List qL6) (n:Nat):(eU m l).drop n=eU m (l.drop n):=by simp [eU]
theorem qHw (m:Mode) (l:List qL6) (n:Nat):(eU m l).take n=eU m (l.take n):=by simp [eU]
theorem qVh (m:Mode) (l:List qL6) (i:Nat) (sent_:List Int) (taken_:List Int):(eU m l).set i [.sl m 1 (wN sent_),.sl m 1 (wN taken_)]=eU m (l.set i ⟨sent_,taken_⟩):=by simp [eU,qGb]
theorem aO (A:Nat→Prop) (m:Mode) (l:List qL6):jT A (eU m l)↔True:=by
 simp only [iff_true]
 induction l with
 | nil=>trivial
 | cons x l ih=>exact ⟨by simp [qGb,vK,bnd,aX,yT,dM,uW,gZ,dT,zM,gL],ih⟩
theorem eZ (l:List qL6):nbr (eU .own l)↔True:=by
 simp only [iff_true]
 induction l with
 | nil=>trivial
 | cons x l ih=>exact ⟨by simp [qGb,nbs,nb,bR,aC,gJ,zS,aE,zQ,dU],ih⟩
theorem eF (m:Mode) :∀(l:List qL6),bwR (eU m l)=eU .bw l
 | []=>rfl
 | x::l=>by
  have:=eF m l
  simp only [eU,List.map_cons,bwR] at this⊢
  rw [this]
  simp [qGb,bwL,bwC,gA,xC,bP,dY,zV,xZ,gX]
theorem qSe (l:List qL6):free (eU .bw l)↔True:=by
 simp only [iff_true]
 intro r hr c hc
 simp only [eU,List.mem_map] at hr
 obtain ⟨x,_,rfl⟩:=hr
 simp [qGb] at hc
 rcases hc with rfl | rfl<;>rfl
structure wM where
 caps:List Int
 bods:List (List Ins)
 deriving DecidableEq,Inhabited
def jF (m:Mode) (x:wM):List AV:=[.sl m 1 (wN x.caps),.sl m 1 (jZ m x.bods)]
def eV (m:Mode) (l:List wM):List (List AV):=l.map (jF m)
theorem qW9 (m:Mode):eV m []=[]:=rfl
theorem rT (m:Mode) (l:List wM):(eV m l).length=l.length:=by simp [eV]
theorem qOg (m:Mode) (l k:List wM):eV m l++eV m k=eV m (l++k):=by simp [eV]
theorem qIt (m:Mode) (l:List wM) (n:Nat):(eV m l).drop n=eV m (l.drop n):=by simp [eV]
theorem qIs (m:Mode) (l:List wM) (n:Nat):(eV m l).take n=eV m (l.take n):=by simp [eV]
theorem qW8 (m:Mode) (l:List wM) (i:Nat) (caps_:List Int) (bods_:List (List Ins)):(eV m l).set i [.sl m 1 (wN caps_),.sl m 1 (jZ m bods_)]=eV m (l.set i ⟨caps_,bods_⟩):=by simp [eV,jF]
theorem eN (A:Nat→Prop) (m:Mode) (l:List wM):jT A (eV m l)↔True:=by
 simp only [iff_true]
 induction l with
 | nil=>trivial
 | cons x l ih=>exact ⟨by simp [jF,vK,bnd,aX,yT,dM,uW,gZ,dT,zM,gL,aO],ih⟩
theorem fM (l:List wM):nbr (eV .own l)↔True:=by
 simp only [iff_true]
 induction l with
 | nil=>trivial
 | cons x l ih=>exact ⟨by simp [jF,nbs,nb,bR,aC,gJ,zS,aE,zQ,dU,eZ],ih⟩
theorem cD (m:Mode) :∀(l:List wM),bwR (eV m l)=eV .bw l
 | []=>rfl
 | x::l=>by
  have:=cD m l
  simp only [eV,List.map_cons,bwR] at this⊢
  rw [this]
  simp [jF,bwL,bwC,gA,xC,bP,dY,zV,xZ,gX,eF]
theorem qSr (l:List wM):free (eV .bw l)↔True:=by
 simp only [iff_true]
 intro r hr c hc
 simp only [eV,List.mem_map] at hr
 obtain ⟨x,_,rfl⟩:=hr
 simp [jF] at hc
 rcases hc with rfl | rfl<;>rfl
structure wH where
 ths:List vB
 chs:List bW
 tr:List xJ
 deriving DecidableEq,Inhabited
def vW (m:Mode) (x:wH):List AV:=[.sl m 3 (jH m x.ths),.sl m 3 (wW m x.chs),.sl m 2 (jK x.tr)]
def bQ (m:Mode) (l:List wH):List (List AV):=l.map (vW m)
theorem qQ4 (m:Mode):bQ m []=[]:=rfl
theorem mR (m:Mode) (l:List wH):(bQ m l).length=l.length:=by simp [bQ]
theorem qI9 (m:Mode) (l k:List wH):bQ m l++bQ m k=bQ m (l++k):=by simp [bQ]
theorem qD1 (m:Mode) (l:List wH) (n:Nat):(bQ m l).drop n=bQ m (l.drop n):=by simp [bQ]
theorem qD0 (m:Mode) (l:List wH) (n:Nat):(bQ m l).take n=bQ m (l.take n):=by simp [bQ]
theorem qQ3 (m:Mode) (l:List wH) (i:Nat) (ths_:List vB) (chs_:List bW) (tr_:List xJ):(bQ m l).set i [.sl m 3 (jH m ths_),.sl m 3 (wW m chs_),.sl m 2 (jK tr_)]=bQ m (l.set i ⟨ths_,chs_,tr_⟩):=by simp [bQ,vW]
theorem xV (A:Nat→Prop) (m:Mode) (l:List wH):jT A (bQ m l)↔True:=by
 simp only [iff_true]
 induction l with
 | nil=>trivial
 | cons x l ih=>exact ⟨by simp [vW,vK,bnd,aX,yT,dM,uW,gZ,dT,zM,gL,aO,eN],ih⟩
theorem aZ (l:List wH):nbr (bQ .own l)↔True:=by
 simp only [iff_true]
 induction l with
 | nil=>trivial
 | cons x l ih=>exact ⟨by simp [vW,nbs,nb,bR,aC,gJ,zS,aE,zQ,dU,eZ,fM],ih⟩
theorem aG (m:Mode) :∀(l:List wH),bwR (bQ m l)=bQ .bw l
 | []=>rfl
 | x::l=>by
  have:=aG m l
  simp only [bQ,List.map_cons,bwR] at this⊢
  rw [this]
  simp [vW,bwL,bwC,gA,xC,bP,dY,zV,xZ,gX,eF,cD]
theorem qO8 (l:List wH):free (bQ .bw l)↔True:=by
 simp only [iff_true]
 intro r hr c hc
 simp only [bQ,List.mem_map] at hr
 obtain ⟨x,_,rfl⟩:=hr
 simp [vW] at hc
 rcases hc with rfl | rfl | rfl<;>rfl
def bys (l:List Int):List (List AV):=l.map fun b=>[.int .u8 b]
theorem wAm:bys []=[]:=rfl
theorem qCk (l:List Int):(bys l).length=l.length:=by simp [bys]
theorem qU4 (l k:List Int):bys l++bys k=bys (l++k):=by simp [bys]
theorem qRy (l:List Int) (n:Nat):(bys l).drop n=bys (l.drop n):=by simp [bys]
theorem qRx (l:List Int) (n:Nat):(bys l).take n=bys (l.take n):=by simp [bys]
theorem wAl (l:List Int) (i:Nat) (b_:Int):(bys l).set i [.int .u8 b_]=bys (l.set i b_):=by simp [bys]
theorem oH (A:Nat→Prop) (l:List Int):jT A (bys l)↔True:=by
 simp only [iff_true]
 induction l with
 | nil=>trivial
 | cons x l ih=>exact ⟨by simp [vK,bnd,aX,yT,dM,uW,gZ,dT,zM,gL,aO,eN,xV],ih⟩
theorem qAo (l:List Int):nbr (bys l)↔True:=by
 simp only [iff_true]
 induction l with
 | nil=>trivial
 | cons x l ih=>exact ⟨by simp [nbs,nb,bR,aC,gJ,zS,aE,zQ,dU,eZ,fM,aZ],ih⟩
theorem sU :∀(l:List Int),bwR (bys l)=bys l
 | []=>rfl
 | x::l=>by
  have:=sU l
  simp only [bys,List.map_cons,bwR] at this⊢
  rw [this]
  simp [bwL,bwC,gA,xC,bP,dY,zV,xZ,gX,eF,cD,aG]
theorem qZk (l:List Int):free (bys l)↔True:=by
 simp only [iff_true]
 intro r hr c hc
 simp only [bys,List.mem_map] at hr
 obtain ⟨x,_,rfl⟩:=hr
 simp [] at hc
 rcases hc with rfl<;>rfl
structure Cur where
 i:Nat
 h:Int
 deriving Inhabited
def iR (code:List Int) (c:Cur):List AV:=[.sl .fz 1 (bys code),.int .i64 c.i,.int .i64 c.h]
theorem fS:(∀n,del [] n=[])∧(∀m s h n,del ((m,s)::h) n=if n=m then del h n else (m,s)::del h n)∧(∀n r,put [] n r=[(n,r)])∧(∀m s h n r,put ((m,s)::h) n r=if n=m then (m,r)::h else (m,s)::put h n r)∧(∀{α:Type} (a b:α) (l:List α),(a::l).set 0 b=b::l)∧(∀{α:Type} (a b:α) (l:List α) (n:Nat),(a::l).set (n+1) b=a::l.set n b)∧(∀{α:Type} (a b:α),(if True then a else b)=a)∧(∀{α:Type} (a b:α),(if False then a else b)=b)∧(∀l,(wN l).length=l.length)∧(∀l n,(wN l).take n=wN (l.take n))∧(∀l n,(wN l).drop n=wN (l.drop n))∧(∀o l rows,aK o l rows=if o=0∧rows.length=l then rows else (rows.drop o).take l)∧(∀{α:Type} (a:α) (l:List α),(a::l).length=l.length+1)∧(∀{α:Type},([]:List α).length=0)∧(∀p:Prop,(p∧p)=p)∧(∀p:Prop,(p∧True)=p)∧(∀p:Prop,(True∧p)=p)∧(∀l,(bL l).length=l.length)∧(∀m l,(jZ m l).length=l.length)∧(∀m l,(eW m l).length=l.length)∧(∀m l,(wW m l).length=l.length)∧(∀l,(jK l).length=l.length)∧(∀m l,(jH m l).length=l.length)∧(∀m l,(eU m l).length=l.length)∧(∀m l,(eV m l).length=l.length)∧(∀m l,(bQ m l).length=l.length)∧(∀l,(bys l).length=l.length)∧(∀{α:Type} (a b:List α),(a++b).length=a.length+b.length)∧(∀{α:Type} (n:Nat) (a:α),(List.replicate n a).length=n)∧(∀{α:Type} (l:List α) (n:Nat) (a:α),(l.set n a).length=l.length):=by
 refine ⟨?_,?_,?_,?_,?_,?_,?_,?_,?_,?_,?_,?_,?_,?_,?_,?_,?_,?_,?_,?_,?_,?_,?_,?_,?_,?_,?_,?_,?_,?_⟩<;>intros<;>simp [del,put,aK,dL,qAa,kU,sG,iN,rX,aP,rL,rT,mR,qCk]
attribute [go_sem] fV vG qRj qRl qEb qKa qRm qK8 qRk qKe qEa qKf qK9 yC qDk pO Arg.ev wL dE qSq if_false if_true zY put del dL qBh Option.map_some Option.bind_some qY Int.toNat_natCast qRn qK7 qKb dW true_and and_true qA4 qA2 qA3 lM iO Bool.false_eq_true fH cellsOf vC List.isEmpty_nil List.isEmpty_cons fresh List.map_nil List.map_cons List.cons_append List.nil_append dI List.take_zero List.drop_zero List.take_succ_cons List.getD_cons_zero List.length_cons List.length_nil List.drop_succ_cons List.drop_nil List.append_nil List.all_cons List.all_nil jP Bool.and_self Nat.zero_add qKc qKd qK6 qE9 qE8 qE6 qE7 qKg qRi nG qAj pZ qF7 qFe qEq vX vZ eC qEp cZ jG apart List.filter_nil List.filter_cons Option.isSome_some Option.isSome_none List.contains_nil List.contains_cons List.forall_mem_cons List.mem_cons List.not_mem_nil false_implies implies_true forall_const forall_eq_or_imp forall_eq or_false beq_self_eq_true Bool.or_false Bool.false_or Bool.true_or Bool.or_true Bool.not_true Bool.not_false xv xo xg xr xi xz List.set_set nA lG pX pY tF mC qE5 sJ mQ eqC cS lC List.replicate_zero decide_true decide_false pU qA0 List.replicate_succ Int.toNat_zero Int.toNat_one eq_self Bool.and_true Bool.true_and Bool.and_false Bool.false_and List.set_cons_zero List.set_cons_succ List.getD_cons_succ rnm ixm jQ xE yJ vN cond_true cond_false eR eQ fP qAa qR9 qN6 qN5 qZ1 bU kU qMb qH2 qH1 qCl sG qP2 qJp qJo qWx iN sP qKr qKq zO aL rX wV qJ4 qJ3 qWg qDj aP mP qCu qCt wC lX rL qNz qHx qHw qVh qGb rT qOg qIt qIs qW8 jF mR qI9 qD1 qD0 qQ3 vW qCk qU4 qRy qRx wAl
attribute [simp] iI bwT bwC bwL gA eQ wL Arg.ev gP tJ rD qEn aX sA lZ yT okV okL nb nbs nbr bR qY dL bnd vK jT jQ xE ixm rnm apart cZ vX vZ fresh yJ vN dJ qEo dO iT vU del tD aK eR fP shp okB pM pV qWn qYq qYp qYk qSv qYn wAa qYo qWm qYl wAc qYm mX qMy qZ8 qX1 qZ3 xC dM aC qAa qN5 qN6 qWz qL0 bP uW gJ kU qH1 qH2 qS1 qWy dY gZ zS sG qJo qJp qTd qXd zV dT aE iN qKq qKr qTx qWi xZ zM zQ rX qJ3 qJ4 qSu qPy gX gL dU aP qCt qCu qO3 qVi eF aO eZ rL qHw qHx qSe qW9 cD eN fM rT qIs qIt qSr qQ4 aG xV aZ mR qD0 qD1 qO8 wAm sU oH qAo qCk qRx qRy qZk iR bU aL qDj lX qGb jF vW
theorem qJ7 :∀(l:List (List AV)),eG l l
 | []=>by simp [eG]
 | r::l=>(mX r r l l).2 ⟨pN r,qJ7 l⟩
theorem qMz :∀{a a' b b':List (List AV)},eG a a'→eG b b'→eG (a++b) (a'++b')
 | [],a',b,b',h1,h2=>by
  simp only [eG] at h1
  subst h1
  exact h2
 | r::a,a',b,b',h1,h2=>by
  simp only [eG] at h1
  obtain ⟨d,ds,rfl,h3,h4⟩:=h1
  exact (mX r d _ _).2 ⟨h3,qMz h4 h2⟩
theorem Sub.nilRow (nm:Nat) {t:List (Nat×AV)} {h:yD} {nx sz:Nat} {rows rows':List (List AV)} (hl:qY h nm=some (sz,rows)) (hn:eG rows rows') (hbn:jT (· < nx) rows'):Sub (.mk t h nx) (.mk t (put h nm (sz,rows')) nx):=by
 rintro B a w ⟨h1,h2,hb,hbt,φ,Lf,hl'⟩
 have hlk :∀n,qY (put h nm (sz,rows')) n=if n=nm then some (sz,rows') else qY h n:=fun n=>qJh n
 have hne :∀n,qY (put h nm (sz,rows')) n≠none→qY h n≠none:=fun n hn'=>by
  rw [hlk] at hn'
  split at hn'
  ·rename_i he; rw [he,hl]; simp
  ·exact hn'
 refine ⟨h1,h2,?_,hbt,φ,Lf,⟨hl'.ok.size0,hl'.ok.io0,hl'.ok.fr,hl'.ok.keep0,fun n hn'=>hl'.ok.own0 n (hne n hn'),?_,fun n hn'=>hl'.ok.rh.nodup n (hne n hn'),fun n hn'=>hl'.ok.rh.blk n (hne n hn'),fun n m hn' hm=>hl'.ok.rh.dis n m (hne n hn') (hne m hm),?_⟩,hl'.tm,hl'.φ0,hl'.ten⟩
 ·intro n row hr
  rw [hlk] at hr
  split at hr
  ·rename_i he
   simp only [Option.some.injEq] at hr
   subst hr he
   exact ⟨(hb n _ hl).1,hbn⟩
  ·exact hb n row hr
 ·intro n row hr
  rw [hlk] at hr
  split at hr
  ·rename_i he
   simp only [Option.some.injEq] at hr
   subst hr he
   have:=hl'.ok.rh.row n _ hl
   unfold gW zK at this⊢
   cases hq:(B.env w φ).φ n with
   | dead=>rw [hq] at this; exact this.elim
   | nilp =>
    rw [hq] at this
    simp only at this
    obtain ⟨h3,h4⟩:=this
    rw [h3] at hn
    simp only [eG] at hn
    exact ⟨hn,h4⟩
   | «at» p =>
    rw [hq] at this
    obtain ⟨h3,h4,Lr,h5,h6⟩:=this
    exact ⟨h3,by rw [rY hn]; exact h4,Lr,qJ8 hn h5,h6⟩
  ·exact hl'.ok.rh.row n row hr
 ·intro n hn'
  rw [hlk] at hn'
  split at hn'
  ·simp at hn'
  ·exact hl'.ok.rh.dead n hn'
theorem Sub.nilLast (nm:Nat) {t:List (Nat×AV)} {h:yD} {nx sz:Nat} {front:List (List AV)} {r r':List AV} (hl:qY h nm=some (sz,front++[r])) (hn:qU r r') (hbn:jT (· < nx) (front++[r'])):Sub (.mk t h nx) (.mk t (put h nm (sz,front++[r'])) nx) :=
 Sub.nilRow nm hl (qMz (qJ7 front) ((mX r r' [] []).2 ⟨hn,(qMy).2 trivial⟩)) hbn
theorem wE {rs:List qBj} {fp:FP} {v:AV} {s:AS} {t:List (Nat×AV)} {h:yD} {nx:Nat} (hs:Sub s (.mk t h nx)) (h1:qEo (rs.map fun r=>(dJ t h r).2)∧(dO h (rs.map fun r=>(dJ t h r).1)).2.2∧qU (dO h (rs.map fun r=>(dJ t h r).1)).1 [v]∧∀x∈fp,qY (dO h (rs.map fun r=>(dJ t h r).1)).2.1 x.1=qY (vU fp) x.1):Fin rs fp v s :=
 ⟨_,hs,yQ h1⟩
theorem wS {rs:List qBj} {fp:FP} {vs:List AV} {s:AS} {t:List (Nat×AV)} {h:yD} {nx:Nat} (h0:vs.length≠1) (hs:Sub s (.mk t h nx)) (h1:qEo (rs.map fun r=>(dJ t h r).2)∧(dO h (rs.map fun r=>(dJ t h r).1)).2.2∧qU (dO h (rs.map fun r=>(dJ t h r).1)).1 vs∧∀x∈fp,qY (dO h (rs.map fun r=>(dJ t h r).1)).2.1 x.1=qY (vU fp) x.1):Fin rs fp (.tup vs) s :=
 ⟨_,hs,jA h0 h1⟩
theorem zX {P:Program} {num:Nat→Nat} {fin:AS→Prop} {op:MOp} {dst:Option Nat} {k:List It} {s:AS} {t:List (Nat×AV)} {h:yD} {nx:Nat} (hs:Sub s (.mk t h nx)) (h1:rC P num fin op dst k (.mk t h nx)):rC P num fin op dst k s:=qXj hs h1
theorem K {p q:Prop} (k:q) (h:p:=by first | omega | (simp [-List.getD_eq_getElem?_getD]; first | done | omega)):p∧q:=⟨h,k⟩
theorem CA {P:Program} {num:Nat→Nat} {fin:AS→Prop} {f nx:Nat} {ps:List Bool} {xs:List Arg} {t:List (Nat×AV)} {h:yD} {fp:FP} {res:AV} {vargs:List AV} {dst:Option Nat} {k:List It} (σ:List (Nat×Nat)) (hc:qW P num f vargs fp res)
  (hk:vc P num fin k (.mk (dE t dst (yJ nx (jQ (rnm σ) res)).1) (zY h (fp.map (fun x=>(rnm σ x.1,x.2))++fresh (yJ nx (jQ (rnm σ) res)).2.1)) (yJ nx (jQ (rnm σ) res)).2.2))
  (hv:qU (iI (ixm σ) h ps (xs.map (Arg.ev (wL t)))) vargs:=by first | omega | (simp [qU,qV]; done) | (simp [qU,qV, *]; done))
  (hvo:gP h (fun n =>∃x∈fp,x.2.1≠none∧n=rnm σ x.1∧ixm σ n=x.1) (fun n =>∃x∈fp,n=rnm σ x.1) ps (xs.map (Arg.ev (wL t))):=by first | omega | (simp [qU,qV]; done) | (simp [qU,qV, *]; done))
  (hnd:(fp.map (fun x=>rnm σ x.1)).Nodup:=by first | (simp [qU,qV]; done) | (simp [qU,qV, *]; done))
  (hpre :∀x∈fp,qY h (rnm σ x.1)=x.2.1∧(x.2.1=none→nx≤rnm σ x.1)∧rnm σ x.1<nx:=by first | (simp [qU,qV]; done) | (simp [qU,qV, *]; done))
  (hnb :∀x∈fp,(∀r,x.2.1=some r→nbr r.2)∧(∀r,x.2.2=some r→nbr r.2):=by first | (simp [qU,qV]; done) | (simp [qU,qV, *]; done))
  (hres:okV (fun k =>∃x∈fp,x.1=k∧x.2.2≠none) res:=by first | (simp [qU,qV]; done) | (simp [qU,qV, *]; done)):rC P num fin (.call f ps xs) dst k (.mk t h nx) :=
 hX (qKv σ hc hv hvo hnd hpre hnb hres) hk
theorem DA {P:Program} {num:Nat→Nat} {fin:AS→Prop} {f nx:Nat} {ps:List Bool} {xs:List Arg} {t:List (Nat×AV)} {h:yD} {fp:FP} {res:AV} {vargs:List AV} {pend:List (Nat×List Nat)} {dst:Option Nat} {tr:gI} {k:List It} (σ:List (Nat×Nat)) (hc:qW P num f vargs fp res)
  (hk:vc P num fin (.draw tr pend::k) (.mk (dE t dst (yJ nx (jQ (rnm σ) res)).1) (zY h (fp.map (fun x=>(rnm σ x.1,x.2))++fresh (yJ nx (jQ (rnm σ) res)).2.1)) (yJ nx (jQ (rnm σ) res)).2.2))
  (hv:qU (iI (ixm σ) h ps (xs.map (Arg.ev (wL t)))) vargs:=by first | omega | (simp [qU,qV]; done) | (simp [qU,qV, *]; done))
  (hvo:gP h (fun n =>∃x∈fp,x.2.1≠none∧n=rnm σ x.1∧ixm σ n=x.1) (fun n =>∃x∈fp,n=rnm σ x.1) ps (xs.map (Arg.ev (wL t))):=by first | omega | (simp [qU,qV]; done) | (simp [qU,qV, *]; done))
  (hnd:(fp.map (fun x=>rnm σ x.1)).Nodup:=by first | (simp [qU,qV]; done) | (simp [qU,qV, *]; done))
  (hpre :∀x∈fp,qY h (rnm σ x.1)=x.2.1∧(x.2.1=none→nx≤rnm σ x.1)∧rnm σ x.1<nx:=by first | (simp [qU,qV]; done) | (simp [qU,qV, *]; done))
  (hnb :∀x∈fp,(∀r,x.2.1=some r→nbr r.2)∧(∀r,x.2.2=some r→nbr r.2):=by first | (simp [qU,qV]; done) | (simp [qU,qV, *]; done))
  (hres:okV (fun k =>∃x∈fp,x.1=k∧x.2.2≠none) res:=by first | (simp [qU,qV]; done) | (simp [qU,qV, *]; done))
  (ha:apart pend (fp.map (fun x=>(rnm σ x.1,x.2))++fresh (yJ nx (jQ (rnm σ) res)).2.1):=by first | (simp [qU,qV]; done) | (simp [qU,qV, *]; done)):qRp P num fin (.call f ps xs) pend dst tr k t h nx :=
 qAk (qKv σ hc hv hvo hnd hpre hnb hres) ha hk
def qJg (k:Int) (n:Nat):List Int:=(List.range n).map fun (i:Nat)=>k+i
@[simp] theorem wAh (k:Int) (n:Nat):(qJg k n).length=n:=by simp [qJg]
@[simp] theorem wB9 (k:Int) (n:Nat):(qJg k n).take n=qJg k n:=List.take_of_length_le (by simp)
theorem zJ (xs:List Int) (hx:8*xs.length≤2^47):qW Tryz.prog num 36 [.sl .bw 1 (wN xs)] [] (.sl .own 1 (wN xs)):=by
 refine EN m36 Tryz.func143 ?_
 unfold m36
 simp only [go_sem,seval]
 repeat refine K ?_
 refine fz ?_; simp [qZ,qU,qV,qQ,-List.drop_one]
def qP (n lo hi:Int):Bool:=decide (lo≤n)&&decide (n≤hi)
theorem qN {n lo hi:Int}:qP n lo hi=true↔lo≤n∧n≤hi:=by simp [qP]
def vV (b:Bool):Int:=if b then 1 else 0
theorem yE (n lo hi:Int):qW Tryz.prog num 59 [.int .i64 n,.int .i64 lo,.int .i64 hi] [] (.bool (qP n lo hi)):=by
 refine EN m59 Tryz.func91 ?_
 unfold m59
 by_cases h1:lo≤n<;>by_cases h2:n≤hi<;>(simp only [go_sem,seval,h1,h2]; refine fz ?_; simp [qZ,qU,qV,qQ,-List.drop_one]; simp [qP,h1,h2])
theorem jS (n lo hi:Int):qW Tryz.prog num 64 [.int .i64 n,.int .i64 lo,.int .i64 hi] [] (.bool (qP n lo hi)):=by
 refine EN m64 Tryz.func69 ?_
 unfold m64
 by_cases h1:lo≤n<;>by_cases h2:n≤hi<;>(simp only [go_sem,seval,h1,h2]; refine fz ?_; simp [qZ,qU,qV,qQ,-List.drop_one]; simp [qP,h1,h2])
theorem xL (b:Bool):qW Tryz.prog num 78 [.bool b] [] (.int .i64 (vV b)):=by
 refine EN m78 Tryz.func175 ?_
 unfold m78
 cases b<;>(simp only [go_sem,seval]; refine fz ?_; simp [qZ,qU,qV,qQ,-List.drop_one]; simp [vV])
theorem qA5 (b:Bool):qW Tryz.prog num 85 [.bool b] [] (.int .i64 (vV b)):=by
 refine EN m85 Tryz.func104 ?_
 unfold m85
 cases b<;>(simp only [go_sem,seval]; refine fz ?_; simp [qZ,qU,qV,qQ,-List.drop_one]; simp [vV])
theorem qR7 (n:Int):qW Tryz.prog num 97 [.int .i64 n] [] (.bool (qP n 0 3)):=by
 refine EN m97 Tryz.func216 ?_
 unfold m97
 simp only [go_sem,seval]
 refine CA [] (yE n 0 3) ?_
 try simp only [go_sem,seval]
 refine fz ?_; simp [qZ,qU,qV,qQ,-List.drop_one]
theorem qFi (n:Int):qW Tryz.prog num 44 [.int .i64 n] [] (.bool (qP n 5 9)):=by
 refine EN m44 Tryz.func199 ?_
 unfold m44
 simp only [go_sem,seval]
 refine CA [] (yE n 5 9) ?_
 try simp only [go_sem,seval]
 refine fz ?_; simp [qZ,qU,qV,qQ,-List.drop_one]
def uO (c:bW):Bool:=qP c.cap 1 4&&decide ((c.list.length:Int)≤c.cap)
def uB (x:Ins) (pl ch:Int):Bool :=
 qP x.r 0 3&&qP x.a 0 3&&qP x.b 0 3&&qP ch 0 3 &&
 (if x.op=1 then qP x.n (-1000000000) 1000000000&&decide (x.a=0)&&decide (x.b=0)
  else if x.op=2∨x.op=3∨x.op=4 then decide (x.n=0)
  else if x.op=5 then qP x.n 0 (ch-1)&&decide (x.r=0)&&decide (x.b=0)
  else if x.op=6∨x.op=8 then qP x.n 0 (ch-1)&&decide (x.a=0)&&!decide (x.r=x.b)
  else if x.op=7 then qP x.n 0 (ch-1)&&decide (x.b=0)
  else if x.op=9 then qP x.n 0 (ch-1)&&decide (x.r=0)&&decide (x.a=0)&&decide (x.b=0)
  else if x.op=10 then decide (x.r=0)&&decide (x.b=0)&&decide (x.n=0)
  else if x.op=11 then decide (0≤x.n)&&decide (x.n<pl)&&decide (x.r=0)&&decide (x.a=0)&&decide (x.b=0)
  else if x.op=12 then decide (0≤x.n)&&decide (x.n<pl)&&decide (x.r=0)&&decide (x.b=0)
  else if x.op=13 then decide (x.op=13)&&(decide (x.r=0)&&(decide (x.a=0)&&(decide (x.b=0)&&decide (x.n=0))))
  else false)
def qGl (x:Ins):Ins :=
 if x.op=1 then ⟨x.op,x.r,0,0,x.n⟩
 else if x.op=2∨x.op=3∨x.op=4 then ⟨x.op,x.r,x.a,x.b,0⟩
 else if x.op=5∨x.op=12 then ⟨x.op,0,x.a,0,x.n⟩
 else if x.op=6∨x.op=8 then ⟨x.op,x.r,0,x.b,x.n⟩
 else if x.op=7 then ⟨x.op,x.r,x.a,0,x.n⟩
 else if x.op=9∨x.op=11 then ⟨x.op,0,0,0,x.n⟩
 else if x.op=10 then ⟨x.op,0,x.a,0,0⟩
 else ⟨x.op,0,0,0,0⟩
def qAc (x:Ins) (pl ch:Int):Bool :=
 qP ch 0 3&&qP x.op 1 13&&(decide (x.op=(qGl x).op)&&(decide (x.r=(qGl x).r)&&(decide (x.a=(qGl x).a)&&(decide (x.b=(qGl x).b)&&decide (x.n=(qGl x).n))))) &&
 qP x.r 0 3&&qP x.a 0 3&&qP x.b 0 3 &&
 (if x.op=1 then qP x.n (-1000000000) 1000000000
  else if x.op=11∨x.op=12 then qP x.n 0 (pl-1)
  else if (x.op=6∨x.op=8)∧x.r=x.b then false
  else !qP x.op 5 9||qP x.n 0 (ch-1))
theorem qQo (x:Ins):qW Tryz.prog num 96 [.agg (bU x)] [] (.agg (bU (qGl x))):=by
 refine EN m96 Tryz.func215 ?_
 unfold m96
 repeat' (first
  | (simp only [go_sem,seval])
  | (refine qL (fun hc=>?_) (fun hc=>?_)<;>((try simp only [Bool.not_eq_true',Bool.not_eq_false',ne_eq,Bool.not_eq_true,Bool.not_eq_false] at hc)<;>(try simp only [hc])))
  | (refine uG (fun hc=>?_) (fun hc=>?_)<;>((try simp only [Bool.not_eq_true',Bool.not_eq_false',ne_eq,Bool.not_eq_true,Bool.not_eq_false] at hc)<;>(try simp only [hc])))
  | (refine vQ (fun hc=>?_) (fun hc=>?_)<;>((try simp only [Bool.not_eq_true',Bool.not_eq_false',ne_eq,Bool.not_eq_true,Bool.not_eq_false] at hc)<;>(try simp only [hc])))
  | (refine ⟨by first | omega | (simp; done),?_⟩)
  | fail)
 all_goals (refine fz ?_; simp [qZ,qU,qV,qQ,-List.drop_one])
 all_goals (try (simp_all [qGl]; done))
theorem pC (n lo hi:Int):qP n lo hi=decide (lo≤n∧n≤hi):=by simp [qP]
theorem qB8 (x:Ins) (pl ch:Int):qAc x pl ch=uB x pl ch:=by
 obtain ⟨op,r,a,b,n⟩:=x
 by_cases h:1≤op∧op≤13
 ·obtain rfl | rfl | rfl | rfl | rfl | rfl | rfl | rfl | rfl | rfl | rfl | rfl | rfl:op=1∨op=2∨op=3∨op=4∨op=5∨op=6∨op=7∨op=8∨op=9∨op=10∨op=11∨op=12∨op=13:=by omega
  all_goals (rw [Bool.eq_iff_iff]; simp [qAc,uB,qGl,pC]; try omega)
 ·have h1 :¬op=1:=by omega
  have h2 :¬op=2:=by omega
  have h3 :¬op=3:=by omega
  have h4 :¬op=4:=by omega
  have h5 :¬op=5:=by omega
  have h6 :¬op=6:=by omega
  have h7 :¬op=7:=by omega
  have h8 :¬op=8:=by omega
  have h9 :¬op=9:=by omega
  have h10 :¬op=10:=by omega
  have h11 :¬op=11:=by omega
  have h12 :¬op=12:=by omega
  have h13 :¬op=13:=by omega
  have hw:qP op 1 13=false:=by rw [pC]; simp; omega
  simp [qAc,uB,hw,h1,h2,h3,h4,h5,h6,h7,h8,h9,h10,h11,h12,h13]
end Go.Sep
