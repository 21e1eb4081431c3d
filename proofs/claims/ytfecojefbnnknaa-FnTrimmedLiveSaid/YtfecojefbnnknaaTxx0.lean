/- Contracts of functions. -/
import Derived.Test.YtfecojefbnnknaaTzFns
open Bool renaming not_eq_false → wAw, not_eq_false' → wAu, not_eq_true → wAv, not_eq_true' → wAt
open List renaming drop_one → wAs, getD_eq_getElem?_getD → qZa, map_cons → qZ5, mem_map → wAo
namespace Go.Sep
set_option maxHeartbeats 16000000
open Go.Proofs
set_option linter.unusedSimpArgs false
set_option linter.unusedVariables false
set_option maxRecDepth 100000
def m36:MFn:=⟨6,[.t 2],kr [xo 2 (.mv (.c (.nil)))] (kR [xo 3 (.mkSl [xz] 0 []),xv 4 0,xA 5 1 8 3 4,xv 2 5])⟩
def m44:MFn:=⟨5,[.t 2],kr [xF 2] (kR [xv 3 0,xc3 4 59 (.t 3) (xi 5) (xi 9),xv 2 4])⟩
def m59:MFn:=⟨15,[.t 6],kr [xF 6] (kR [xv 7 0,xv 8 1,bT 9 .geq 7 8,xv 10 9,yv 11 0 10,yv 12 2 10,xg 13 (.bin .leq (.t 11) (.t 12)) 10 true,xP 14 10 13,xv 6 14])⟩
def m69:MFn:=⟨6,[.t 2],kr [xo 2 (.mv (.c (.nil)))] (kR [xo 3 (.mkSl [xz,xz] 0 []),xv 4 0,xA 5 2 16 3 4,xv 2 5])⟩
def m70:MFn:=⟨8,[.cell 2 3 true],kr [xb 1 0,xo 2 (.alloc [.int .i64 0,.nil,.bool false])] (kr [xa 3 1 1,xl 4 3,xc1 5 36 (.t 4),xa 6 1 1,xS 1 6 5] (kR [xm 7 3 1,xS 3 2 7]))⟩
def m72:MFn:=⟨14,[.t 2],kr [xb 1 0,xF 2] (kR [xa 3 0 1,xl 4 3,xc3 5 59 (.t 4) (xi 1) (xi 4),xv 6 5,ya 7 1 1 6,yl 8 1 7 6,ye 9 8 6,ya 10 0 1 6,yl 11 1 10 6,xg 12 (.bin .leq (.t 9) (.t 11)) 6 true,xP 13 6 12,xv 2 13])⟩
def m78:MFn:=⟨4,[.t 2],kr [xI 2 0] (.seq (kr [xv 3 0] (kF 3 [xI 2 1])) (kR [xI 2 0]))⟩
def m96:MFn:=⟨74,[.cell 2 5 true],kr [xb 1 0,xo 2 (.alloc [xz,xz,xz,xz,xz])] (kr [xa 4 0 1,xl 5 4,xo 6 (.build [xz,xz,xz,xz,xz] [(0,1,.t 5)]),xo 3 (.alloc [xz,xz,xz,xz,xz]),xS 5 3 6] (.seq (kr [xa 7 0 1,xl 8 7] (.blk 0 (kr [bI 10 .eql 8 1,xv 9 10] (.cond 9 (.dreg (.take 0 (xa 11 1 1) (.take 1 (xl 12 11) (.take 2 (xa 13 4 1) (.take 3 (xl 14 13) (.only 4 [0,1] (xa 15 1 3) (.only 5 [0,1] (xS 1 15 12) (.only 6 [0,1,2,3] (xa 16 4 3) (.only 7 [0,1,2,3] (xS 1 16 14) (.done)))))))))) (.seq (kr [bI 18 .eql 8 2,xv 17 18] (.cond 17 (.skip) (kr [bI 19 .eql 8 3,xv 17 19] (.cond 17 (.skip) (xr [bI 20 .eql 8 4,xv 17 20]))))) (.cond 17 (.dreg (.take 0 (xa 21 1 1) (.take 1 (xl 22 21) (.take 2 (xa 23 2 1) (.take 3 (xl 24 23) (.take 4 (xa 25 3 1) (.take 5 (xl 26 25) (.only 6 [0,1] (xa 27 1 3) (.only 7 [0,1] (xS 1 27 22) (.only 8 [0,1,2,3] (xa 28 2 3) (.only 9 [0,1,2,3] (xS 1 28 24) (.only 10 [0,1,2,3,4,5] (xa 29 3 3) (.only 11 [0,1,2,3,4,5] (xS 1 29 26) (.done)))))))))))))) (.seq (kr [bI 31 .eql 8 5,xv 30 31] (.cond 30 (.skip) (xr [bI 32 .eql 8 12,xv 30 32]))) (.cond 30 (.dreg (.take 0 (xa 33 2 1) (.take 1 (xl 34 33) (.take 2 (xa 35 4 1) (.take 3 (xl 36 35) (.only 4 [0,1] (xa 37 2 3) (.only 5 [0,1] (xS 1 37 34) (.only 6 [0,1,2,3] (xa 38 4 3) (.only 7 [0,1,2,3] (xS 1 38 36) (.done)))))))))) (.seq (kr [bI 40 .eql 8 6,xv 39 40] (.cond 39 (.skip) (xr [bI 41 .eql 8 8,xv 39 41]))) (.cond 39 (.dreg (.take 0 (xa 42 1 1) (.take 1 (xl 43 42) (.take 2 (xa 44 3 1) (.take 3 (xl 45 44) (.take 4 (xa 46 4 1) (.take 5 (xl 47 46) (.only 6 [0,1] (xa 48 1 3) (.only 7 [0,1] (xS 1 48 43) (.only 8 [0,1,2,3] (xa 49 3 3) (.only 9 [0,1,2,3] (xS 1 49 45) (.only 10 [0,1,2,3,4,5] (xa 50 4 3) (.only 11 [0,1,2,3,4,5] (xS 1 50 47) (.done)))))))))))))) (kr [bI 52 .eql 8 7,xv 51 52] (.cond 51 (.dreg (.take 0 (xa 53 1 1) (.take 1 (xl 54 53) (.take 2 (xa 55 2 1) (.take 3 (xl 56 55) (.take 4 (xa 57 4 1) (.take 5 (xl 58 57) (.only 6 [0,1] (xa 59 1 3) (.only 7 [0,1] (xS 1 59 54) (.only 8 [0,1,2,3] (xa 60 2 3) (.only 9 [0,1,2,3] (xS 1 60 56) (.only 10 [0,1,2,3,4,5] (xa 61 4 3) (.only 11 [0,1,2,3,4,5] (xS 1 61 58) (.done)))))))))))))) (.seq (kr [bI 63 .eql 8 9,xv 62 63] (.cond 62 (.skip) (xr [bI 64 .eql 8 11,xv 62 64]))) (.cond 62 (xr [xa 65 4 1,xl 66 65,xa 67 4 3,xS 1 67 66]) (kr [bI 69 .eql 8 10,xv 68 69] (.cond 68 (xr [xa 70 2 1,xl 71 70,xa 72 2 3,xS 1 72 71]) (.skip))))))))))))))))) (kR [xm 73 5 3,xS 5 2 73])))⟩
def m97:MFn:=⟨5,[.t 2],kr [xF 2] (kR [xv 3 0,xc3 4 59 (.t 3) (xi 0) (xi 3),xv 2 4])⟩
attribute [local go_sem] iE vS qX8 qXa qPu qUn qXb qUk qX9 qUr qPt qUs qUl wH qPe qH4 Arg.ev qV bH qW0 if_false if_true dJ put del xL qB0 Option.map_some Option.bind_some qM Int.toNat_natCast qXc qUj qUo gI true_and and_true qL2 qL0 qL1 qC2 tO Bool.false_eq_true xU cellsOf yR List.isEmpty_nil List.isEmpty_cons fresh List.map_nil qZ5 List.cons_append List.nil_append bU List.take_zero List.drop_zero List.take_succ_cons List.getD_cons_zero List.length_cons List.length_nil List.drop_succ_cons List.drop_nil List.append_nil List.all_cons List.all_nil yK Bool.and_self Nat.zero_add qUp qUq qUi qPs qPr qPp qPq qUt qX7 qEo qLs qHn qMz qN1 qFa jZ vB zS qHz eT yE apart List.filter_nil List.filter_cons Option.isSome_some Option.isSome_none List.contains_nil List.contains_cons List.forall_mem_cons List.mem_cons List.not_mem_nil false_implies implies_true forall_const forall_eq_or_imp forall_eq or_false beq_self_eq_true Bool.or_false Bool.false_or Bool.true_or Bool.or_true Bool.not_true Bool.not_false xv xo xg xr xi xz List.set_set qE6 qBs qHl qHm tC oT qHi qAt iT eqC eC qBn List.replicate_zero decide_true decide_false qLg qKv List.replicate_succ Int.toNat_zero Int.toNat_one eq_self Bool.and_true Bool.true_and Bool.and_false Bool.false_and List.set_cons_zero List.set_cons_succ List.getD_cons_succ rnm ixm jM aJ wZ jI cond_true cond_false oQ oO tE
attribute [local simp] cY bwT bwC bwL uJ oO qV Arg.ev gH rD pJ qF3 zE qIy qCr yT okV okL nb nbs nbr vY qM xL bnd yX yM jM aJ ixm rnm apart eT jZ vB fresh wZ jI dG qJy bP cZ uP del sR zW oQ tE shp okB qKt qH9
theorem qFn {rs:List qCl} {fp:FP} {vs:List AV} {t:List (Nat×AV)} {h:wM} {nx:Nat} (h0:vs.length≠1) (h1:qJy (rs.map fun r=>(dG t h r).2)∧(bP h (rs.map fun r=>(dG t h r).1)).2.2∧wL (bP h (rs.map fun r=>(dG t h r).1)).1 vs∧∀x∈fp,qM (bP h (rs.map fun r=>(dG t h r).1)).2.1 x.1=qM (uP fp) x.1):jE rs fp (.tup vs) (.mk t h nx):=by
 refine ⟨h1.1,h1.2.1,⟨vs,h1.2.2.1,?_⟩,h1.2.2.2⟩
 match vs,h0 with
 | [],_=>rfl
 | [_],h0=>exact absurd rfl h0
 | _::_::_,_=>rfl
theorem wO {rs:List qCl} {fp:FP} {v:AV} {t:List (Nat×AV)} {h:wM} {nx:Nat} (h1:qJy (rs.map fun r=>(dG t h r).2)∧(bP h (rs.map fun r=>(dG t h r).1)).2.2∧wL (bP h (rs.map fun r=>(dG t h r).1)).1 [v]∧∀x∈fp,qM (bP h (rs.map fun r=>(dG t h r).1)).2.1 x.1=qM (uP fp) x.1):jE rs fp v (.mk t h nx) :=
 ⟨h1.1,h1.2.1,⟨[v],h1.2.2.1,rfl⟩,h1.2.2.2⟩
theorem qR2 (c d:AV) (cs ds:List AV):wL (c::cs) (d::ds)↔wN c d∧wL cs ds:=by
 simp only [wL,List.cons.injEq]
 exact ⟨fun ⟨_,_,⟨h1,h2⟩,h3,h4⟩=>by subst h1 h2; exact ⟨h3,h4⟩,fun ⟨h3,h4⟩=>⟨_,_,⟨rfl,rfl⟩,h3,h4⟩⟩
theorem qTl:wL [] []↔True:=by simp [wL]
theorem qTk (cs ds:List AV):wN (.agg cs) (.agg ds)↔wL cs ds:=by simp [wN]
theorem qTf (cs ds:List AV):wN (.tup cs) (.tup ds)↔wL cs ds:=by simp [wN]
theorem qN9 (m:Mode) (sz:Nat):wN .nil (.sl m sz [])↔True:=by simp [wN]
theorem qTi:wN .nil .nil↔True:=by simp [wN]
theorem qW2 (m:Mode) (sz:Nat) (rows:List (List AV)) (d:AV):wN (.sl m sz rows) d↔.sl m sz rows=d:=by simp [wN]
theorem qTj (k:IntKind) (n:Int) (d:AV):wN (.int k n) d↔.int k n=d:=by simp [wN]
theorem qR1 (b:Bool) (d:AV):wN (.bool b) d↔.bool b=d:=by simp [wN]
theorem qTg (s:ByteArray) (d:AV):wN (.str s) d↔.str s=d:=by simp [wN]
theorem qW4 (k o l:Nat) (d:AV):wN (.ns k o l) d↔.ns k o l=d:=by simp [wN]
theorem qTh (k o l:Nat) (d:AV):wN (.ptr k o l) d↔.ptr k o l=d:=by simp [wN]
theorem cU (r d:List AV) (rs ds:List (List AV)):gZ (r::rs) (d::ds)↔wL r d∧gZ rs ds:=by
 simp only [gZ,List.cons.injEq]
 exact ⟨fun ⟨_,_,⟨h1,h2⟩,h3,h4⟩=>by subst h1 h2; exact ⟨h3,h4⟩,fun ⟨h3,h4⟩=>⟨_,_,⟨rfl,rfl⟩,h3,h4⟩⟩
theorem qH2:gZ [] []↔True:=by simp [gZ]
theorem qUe:free []↔True:=by simp [free]
theorem qRn (r:List AV) (rs:List (List AV)):free (r::rs)↔(∀c∈r,sR c=false)∧free rs:=by simp [free]
structure Ins where
 op:Int
 r:Int
 a:Int
 b:Int
 n:Int
 deriving DecidableEq,Inhabited
def dZ (x:Ins):List AV:=[.int .i64 x.op,.int .i64 x.r,.int .i64 x.a,.int .i64 x.b,.int .i64 x.n]
def vC (l:List Ins):List (List AV):=l.map dZ
theorem qU8:vC []=[]:=rfl
theorem nK (l:List Ins):(vC l).length=l.length:=by simp [vC]
theorem qLi (l k:List Ins):vC l++vC k=vC (l++k):=by simp [vC]
theorem qHb (l:List Ins) (n:Nat):(vC l).drop n=vC (l.drop n):=by simp [vC]
theorem qHa (l:List Ins) (n:Nat):(vC l).take n=vC (l.take n):=by simp [vC]
theorem qU7 (l:List Ins) (i:Nat) (op_:Int) (r_:Int) (a_:Int) (b_:Int) (n_:Int):(vC l).set i [.int .i64 op_,.int .i64 r_,.int .i64 a_,.int .i64 b_,.int .i64 n_]=vC (l.set i ⟨op_,r_,a_,b_,n_⟩):=by simp [vC,dZ]
theorem xM (l:List Ins) (i:Nat) (h:i<l.length):(vC l).getD i []=[.int .i64 (l.getD i default).op,.int .i64 (l.getD i default).r,.int .i64 (l.getD i default).a,.int .i64 (l.getD i default).b,.int .i64 (l.getD i default).n]:=by simp [vC,dZ,List.getD_eq_getElem?_getD,h]
theorem vZ (A:Nat→Prop) (l:List Ins):yM A (vC l)↔True:=by
 simp only [iff_true]
 induction l with
 | nil=>trivial
 | cons x l ih=>exact ⟨by simp [dZ,yX,bnd,zE,yT],ih⟩
theorem bL (l:List Ins):nbr (vC l)↔True:=by
 simp only [iff_true]
 induction l with
 | nil=>trivial
 | cons x l ih=>exact ⟨by simp [dZ,nbs,nb,vY],ih⟩
theorem bC :∀(l:List Ins),bwR (vC l)=vC l
 | []=>rfl
 | x::l=>by
  have:=bC l
  simp only [vC,qZ5,bwR] at this⊢
  rw [this]
  simp [dZ,bwL,bwC,uJ]
theorem qRk (l:List Ins):free (vC l)↔True:=by
 simp only [iff_true]
 intro r hr c hc
 simp only [vC,wAo] at hr
 obtain ⟨x,_,rfl⟩:=hr
 simp [dZ] at hc
 rcases hc with rfl | rfl | rfl | rfl | rfl<;>rfl
def yO (m:Mode) (l:List (List Ins)):List (List AV):=l.map fun b=>[.sl m 5 (vC b)]
theorem qOg (m:Mode):yO m []=[]:=rfl
theorem zZ (m:Mode) (l:List (List Ins)):(yO m l).length=l.length:=by simp [yO]
theorem qG8 (m:Mode) (l k:List (List Ins)):yO m l++yO m k=yO m (l++k):=by simp [yO]
theorem qC8 (m:Mode) (l:List (List Ins)) (n:Nat):(yO m l).drop n=yO m (l.drop n):=by simp [yO]
theorem qC7 (m:Mode) (l:List (List Ins)) (n:Nat):(yO m l).take n=yO m (l.take n):=by simp [yO]
theorem qOf (m:Mode) (l:List (List Ins)) (i:Nat) (b_:List Ins):(yO m l).set i [.sl m 5 (vC b_)]=yO m (l.set i b_):=by simp [yO]
theorem qX (m:Mode) (l:List (List Ins)) (i:Nat) (h:i<l.length):(yO m l).getD i []=[.sl m 5 (vC (l.getD i []))]:=by simp [yO,List.getD_eq_getElem?_getD,h]
theorem jK (A:Nat→Prop) (m:Mode) (l:List (List Ins)):yM A (yO m l)↔True:=by
 simp only [iff_true]
 induction l with
 | nil=>trivial
 | cons x l ih=>exact ⟨by simp [yX,bnd,zE,yT,vZ],ih⟩
theorem vH (l:List (List Ins)):nbr (yO .own l)↔True:=by
 simp only [iff_true]
 induction l with
 | nil=>trivial
 | cons x l ih=>exact ⟨by simp [nbs,nb,vY,bL],ih⟩
theorem jW (m:Mode) :∀(l:List (List Ins)),bwR (yO m l)=yO .bw l
 | []=>rfl
 | x::l=>by
  have:=jW m l
  simp only [yO,qZ5,bwR] at this⊢
  rw [this]
  simp [bwL,bwC,uJ,bC]
theorem qMb (l:List (List Ins)):free (yO .bw l)↔True:=by
 simp only [iff_true]
 intro r hr c hc
 simp only [yO,wAo] at hr
 obtain ⟨x,_,rfl⟩:=hr
 simp [] at hc
 rcases hc with rfl<;>rfl
def jU (m:Mode) (l:List (List Int)):List (List AV):=l.map fun b=>[.sl m 1 (wK b)]
theorem qRi (m:Mode):jU m []=[]:=rfl
theorem uR (m:Mode) (l:List (List Int)):(jU m l).length=l.length:=by simp [jU]
theorem qJ9 (m:Mode) (l k:List (List Int)):jU m l++jU m k=jU m (l++k):=by simp [jU]
theorem qEi (m:Mode) (l:List (List Int)) (n:Nat):(jU m l).drop n=jU m (l.drop n):=by simp [jU]
theorem qEh (m:Mode) (l:List (List Int)) (n:Nat):(jU m l).take n=jU m (l.take n):=by simp [jU]
theorem qH8 (m:Mode) (l:List (List Int)) (i:Nat) (b_:List Int):(jU m l).set i [.sl m 1 (wK b_)]=jU m (l.set i b_):=by simp [jU]
theorem lJ (m:Mode) (l:List (List Int)) (i:Nat) (h:i<l.length):(jU m l).getD i []=[.sl m 1 (wK (l.getD i []))]:=by simp [jU,List.getD_eq_getElem?_getD,h]
theorem vF (A:Nat→Prop) (m:Mode) (l:List (List Int)):yM A (jU m l)↔True:=by
 simp only [iff_true]
 induction l with
 | nil=>trivial
 | cons x l ih=>exact ⟨by simp [yX,bnd,zE,yT,vZ,jK],ih⟩
theorem uX (l:List (List Int)):nbr (jU .own l)↔True:=by
 simp only [iff_true]
 induction l with
 | nil=>trivial
 | cons x l ih=>exact ⟨by simp [nbs,nb,vY,bL,vH],ih⟩
theorem uL (m:Mode) :∀(l:List (List Int)),bwR (jU m l)=jU .bw l
 | []=>rfl
 | x::l=>by
  have:=uL m l
  simp only [jU,qZ5,bwR] at this⊢
  rw [this]
  simp [bwL,bwC,uJ,bC,jW]
theorem qNo (l:List (List Int)):free (jU .bw l)↔True:=by
 simp only [iff_true]
 intro r hr c hc
 simp only [jU,wAo] at hr
 obtain ⟨x,_,rfl⟩:=hr
 simp [] at hc
 rcases hc with rfl<;>rfl
structure jN where
 cap:Int
 list:List Int
 closed:Bool
 deriving DecidableEq,Inhabited
def aM (m:Mode) (x:jN):List AV:=[.int .i64 x.cap,.sl m 1 (wK x.list),.bool x.closed]
def wA (m:Mode) (l:List jN):List (List AV):=l.map (aM m)
theorem qS2 (m:Mode):wA m []=[]:=rfl
theorem cD (m:Mode) (l:List jN):(wA m l).length=l.length:=by simp [wA]
theorem lS (m:Mode) (l k:List jN):wA m l++wA m k=wA m (l++k):=by simp [wA]
theorem qEx (m:Mode) (l:List jN) (n:Nat):(wA m l).drop n=wA m (l.drop n):=by simp [wA]
theorem qEw (m:Mode) (l:List jN) (n:Nat):(wA m l).take n=wA m (l.take n):=by simp [wA]
theorem gL (m:Mode) (l:List jN) (i:Nat) (cap_:Int) (list_:List Int) (closed_:Bool):(wA m l).set i [.int .i64 cap_,.sl m 1 (wK list_),.bool closed_]=wA m (l.set i ⟨cap_,list_,closed_⟩):=by simp [wA,aM]
theorem bW (m:Mode) (l:List jN) (i:Nat) (h:i<l.length):(wA m l).getD i []=[.int .i64 (l.getD i default).cap,.sl m 1 (wK (l.getD i default).list),.bool (l.getD i default).closed]:=by simp [wA,aM,List.getD_eq_getElem?_getD,h]
theorem uD (A:Nat→Prop) (m:Mode) (l:List jN):yM A (wA m l)↔True:=by
 simp only [iff_true]
 induction l with
 | nil=>trivial
 | cons x l ih=>exact ⟨by simp [aM,yX,bnd,zE,yT,vZ,jK,vF],ih⟩
theorem bF (l:List jN):nbr (wA .own l)↔True:=by
 simp only [iff_true]
 induction l with
 | nil=>trivial
 | cons x l ih=>exact ⟨by simp [aM,nbs,nb,vY,bL,vH,uX],ih⟩
theorem uY (m:Mode) :∀(l:List jN),bwR (wA m l)=wA .bw l
 | []=>rfl
 | x::l=>by
  have:=uY m l
  simp only [wA,qZ5,bwR] at this⊢
  rw [this]
  simp [aM,bwL,bwC,uJ,bC,jW,uL]
theorem qO2 (l:List jN):free (wA .bw l)↔True:=by
 simp only [iff_true]
 intro r hr c hc
 simp only [wA,wAo] at hr
 obtain ⟨x,_,rfl⟩:=hr
 simp [aM] at hc
 rcases hc with rfl | rfl | rfl<;>rfl
structure bS where
 who:Int
 v:Int
 deriving DecidableEq,Inhabited
def sI (x:bS):List AV:=[.int .i64 x.who,.int .i64 x.v]
def jB (l:List bS):List (List AV):=l.map sI
theorem qQy:jB []=[]:=rfl
theorem lC (l:List bS):(jB l).length=l.length:=by simp [jB]
theorem lD (l k:List bS):jB l++jB k=jB (l++k):=by simp [jB]
theorem qH1 (who_:Int) (v_:Int):[[.int .i64 who_,.int .i64 v_]]=jB [⟨who_,v_⟩]:=rfl
theorem qE3 (l:List bS) (n:Nat):(jB l).drop n=jB (l.drop n):=by simp [jB]
theorem qE2 (l:List bS) (n:Nat):(jB l).take n=jB (l.take n):=by simp [jB]
theorem qQw (l:List bS) (i:Nat) (who_:Int) (v_:Int):(jB l).set i [.int .i64 who_,.int .i64 v_]=jB (l.set i ⟨who_,v_⟩):=by simp [jB,sI]
theorem qN6 (l:List bS) (i:Nat) (h:i<l.length):(jB l).getD i []=[.int .i64 (l.getD i default).who,.int .i64 (l.getD i default).v]:=by simp [jB,sI,List.getD_eq_getElem?_getD,h]
theorem uN (A:Nat→Prop) (l:List bS):yM A (jB l)↔True:=by
 simp only [iff_true]
 induction l with
 | nil=>trivial
 | cons x l ih=>exact ⟨by simp [sI,yX,bnd,zE,yT,vZ,jK,vF,uD],ih⟩
theorem uV (l:List bS):nbr (jB l)↔True:=by
 simp only [iff_true]
 induction l with
 | nil=>trivial
 | cons x l ih=>exact ⟨by simp [sI,nbs,nb,vY,bL,vH,uX,bF],ih⟩
theorem bE :∀(l:List bS),bwR (jB l)=jB l
 | []=>rfl
 | x::l=>by
  have:=bE l
  simp only [jB,qZ5,bwR] at this⊢
  rw [this]
  simp [sI,bwL,bwC,uJ,bC,jW,uL,uY]
theorem qN7 (l:List bS):free (jB l)↔True:=by
 simp only [iff_true]
 intro r hr c hc
 simp only [jB,wAo] at hr
 obtain ⟨x,_,rfl⟩:=hr
 simp [sI] at hc
 rcases hc with rfl | rfl<;>rfl
structure yJ where
 at_:Int
 regs:List Int
 st:Int
 deriving DecidableEq,Inhabited
def eW (m:Mode) (x:yJ):List AV:=[.int .i64 x.at_,.sl m 1 (wK x.regs),.int .i64 x.st]
def wW (m:Mode) (l:List yJ):List (List AV):=l.map (eW m)
theorem qKe (m:Mode):wW m []=[]:=rfl
theorem vI (m:Mode) (l:List yJ):(wW m l).length=l.length:=by simp [wW]
theorem cN (m:Mode) (l k:List yJ):wW m l++wW m k=wW m (l++k):=by simp [wW]
theorem rO (m:Mode) (l:List yJ) (n:Nat):(wW m l).drop n=wW m (l.drop n):=by simp [wW]
theorem rM (m:Mode) (l:List yJ) (n:Nat):(wW m l).take n=wW m (l.take n):=by simp [wW]
theorem qL (m:Mode) (l:List yJ) (i:Nat) (at__:Int) (regs_:List Int) (st_:Int):(wW m l).set i [.int .i64 at__,.sl m 1 (wK regs_),.int .i64 st_]=wW m (l.set i ⟨at__,regs_,st_⟩):=by simp [wW,eW]
theorem qP (m:Mode) (l:List yJ) (i:Nat) (h:i<l.length):(wW m l).getD i []=[.int .i64 (l.getD i default).at_,.sl m 1 (wK (l.getD i default).regs),.int .i64 (l.getD i default).st]:=by simp [wW,eW,List.getD_eq_getElem?_getD,h]
theorem vD (A:Nat→Prop) (m:Mode) (l:List yJ):yM A (wW m l)↔True:=by
 simp only [iff_true]
 induction l with
 | nil=>trivial
 | cons x l ih=>exact ⟨by simp [eW,yX,bnd,zE,yT,vZ,jK,vF,uD,uN],ih⟩
theorem vW (l:List yJ):nbr (wW .own l)↔True:=by
 simp only [iff_true]
 induction l with
 | nil=>trivial
 | cons x l ih=>exact ⟨by simp [eW,nbs,nb,vY,bL,vH,uX,bF,uV],ih⟩
theorem vL (m:Mode) :∀(l:List yJ),bwR (wW m l)=wW .bw l
 | []=>rfl
 | x::l=>by
  have:=vL m l
  simp only [wW,qZ5,bwR] at this⊢
  rw [this]
  simp [eW,bwL,bwC,uJ,bC,jW,uL,uY,bE]
theorem qIh (l:List yJ):free (wW .bw l)↔True:=by
 simp only [iff_true]
 intro r hr c hc
 simp only [wW,wAo] at hr
 obtain ⟨x,_,rfl⟩:=hr
 simp [eW] at hc
 rcases hc with rfl | rfl | rfl<;>rfl
structure qFb where
 sent:List Int
 taken:List Int
 deriving DecidableEq,Inhabited
def qB7 (m:Mode) (x:qFb):List AV:=[.sl m 1 (wK x.sent),.sl m 1 (wK x.taken)]
def zB (m:Mode) (l:List qFb):List (List AV):=l.map (qB7 m)
theorem qQ5 (m:Mode):zB m []=[]:=rfl
theorem kP (m:Mode) (l:List qFb):(zB m l).length=l.length:=by simp [zB]
theorem qI9 (m:Mode) (l k:List qFb):zB m l++zB m k=zB m (l++k):=by simp [zB]
theorem qD4 (m:Mode) (l:List qFb) (n:Nat):(zB m l).drop n=zB m (l.drop n):=by simp [zB]
theorem qD3 (m:Mode) (l:List qFb) (n:Nat):(zB m l).take n=zB m (l.take n):=by simp [zB]
theorem qQ4 (m:Mode) (l:List qFb) (i:Nat) (sent_:List Int) (taken_:List Int):(zB m l).set i [.sl m 1 (wK sent_),.sl m 1 (wK taken_)]=zB m (l.set i ⟨sent_,taken_⟩):=by simp [zB,qB7]
theorem bR (A:Nat→Prop) (m:Mode) (l:List qFb):yM A (zB m l)↔True:=by
 simp only [iff_true]
 induction l with
 | nil=>trivial
 | cons x l ih=>exact ⟨by simp [qB7,yX,bnd,zE,yT,vZ,jK,vF,uD,uN,vD],ih⟩
theorem dL (l:List qFb):nbr (zB .own l)↔True:=by
 simp only [iff_true]
 induction l with
 | nil=>trivial
 | cons x l ih=>exact ⟨by simp [qB7,nbs,nb,vY,bL,vH,uX,bF,uV,vW],ih⟩
theorem gO (m:Mode) :∀(l:List qFb),bwR (zB m l)=zB .bw l
 | []=>rfl
 | x::l=>by
  have:=gO m l
  simp only [zB,qZ5,bwR] at this⊢
  rw [this]
  simp [qB7,bwL,bwC,uJ,bC,jW,uL,uY,bE,vL]
theorem qMq (l:List qFb):free (zB .bw l)↔True:=by
 simp only [iff_true]
 intro r hr c hc
 simp only [zB,wAo] at hr
 obtain ⟨x,_,rfl⟩:=hr
 simp [qB7] at hc
 rcases hc with rfl | rfl<;>rfl
structure wT where
 caps:List Int
 bods:List (List Ins)
 deriving DecidableEq,Inhabited
def gY (m:Mode) (x:wT):List AV:=[.sl m 1 (wK x.caps),.sl m 1 (yO m x.bods)]
def zD (m:Mode) (l:List wT):List (List AV):=l.map (gY m)
theorem qQq (m:Mode):zD m []=[]:=rfl
theorem kW (m:Mode) (l:List wT):(zD m l).length=l.length:=by simp [zD]
theorem qIu (m:Mode) (l k:List wT):zD m l++zD m k=zD m (l++k):=by simp [zD]
theorem qDt (m:Mode) (l:List wT) (n:Nat):(zD m l).drop n=zD m (l.drop n):=by simp [zD]
theorem qDs (m:Mode) (l:List wT) (n:Nat):(zD m l).take n=zD m (l.take n):=by simp [zD]
theorem qQp (m:Mode) (l:List wT) (i:Nat) (caps_:List Int) (bods_:List (List Ins)):(zD m l).set i [.sl m 1 (wK caps_),.sl m 1 (yO m bods_)]=zD m (l.set i ⟨caps_,bods_⟩):=by simp [zD,gY]
theorem gK (A:Nat→Prop) (m:Mode) (l:List wT):yM A (zD m l)↔True:=by
 simp only [iff_true]
 induction l with
 | nil=>trivial
 | cons x l ih=>exact ⟨by simp [gY,yX,bnd,zE,yT,vZ,jK,vF,uD,uN,vD,bR],ih⟩
theorem dR (l:List wT):nbr (zD .own l)↔True:=by
 simp only [iff_true]
 induction l with
 | nil=>trivial
 | cons x l ih=>exact ⟨by simp [gY,nbs,nb,vY,bL,vH,uX,bF,uV,vW,dL],ih⟩
theorem dO (m:Mode) :∀(l:List wT),bwR (zD m l)=zD .bw l
 | []=>rfl
 | x::l=>by
  have:=dO m l
  simp only [zD,qZ5,bwR] at this⊢
  rw [this]
  simp [gY,bwL,bwC,uJ,bC,jW,uL,uY,bE,vL,gO]
theorem qN0 (l:List wT):free (zD .bw l)↔True:=by
 simp only [iff_true]
 intro r hr c hc
 simp only [zD,wAo] at hr
 obtain ⟨x,_,rfl⟩:=hr
 simp [gY] at hc
 rcases hc with rfl | rfl<;>rfl
structure qS where
 ths:List yJ
 chs:List jN
 tr:List bS
 deriving DecidableEq,Inhabited
def vX (m:Mode) (x:qS):List AV:=[.sl m 3 (wW m x.ths),.sl m 3 (wA m x.chs),.sl m 2 (jB x.tr)]
def vQ (m:Mode) (l:List qS):List (List AV):=l.map (vX m)
theorem qKh (m:Mode):vQ m []=[]:=rfl
theorem cP (m:Mode) (l:List qS):(vQ m l).length=l.length:=by simp [vQ]
theorem qDe (m:Mode) (l k:List qS):vQ m l++vQ m k=vQ m (l++k):=by simp [vQ]
theorem rW (m:Mode) (l:List qS) (n:Nat):(vQ m l).drop n=vQ m (l.drop n):=by simp [vQ]
theorem rV (m:Mode) (l:List qS) (n:Nat):(vQ m l).take n=vQ m (l.take n):=by simp [vQ]
theorem qKg (m:Mode) (l:List qS) (i:Nat) (ths_:List yJ) (chs_:List jN) (tr_:List bS):(vQ m l).set i [.sl m 3 (wW m ths_),.sl m 3 (wA m chs_),.sl m 2 (jB tr_)]=vQ m (l.set i ⟨ths_,chs_,tr_⟩):=by simp [vQ,vX]
theorem uU (A:Nat→Prop) (m:Mode) (l:List qS):yM A (vQ m l)↔True:=by
 simp only [iff_true]
 induction l with
 | nil=>trivial
 | cons x l ih=>exact ⟨by simp [vX,yX,bnd,zE,yT,vZ,jK,vF,uD,uN,vD,bR,gK],ih⟩
theorem bV (l:List qS):nbr (vQ .own l)↔True:=by
 simp only [iff_true]
 induction l with
 | nil=>trivial
 | cons x l ih=>exact ⟨by simp [vX,nbs,nb,vY,bL,vH,uX,bF,uV,vW,dL,dR],ih⟩
theorem bD (m:Mode) :∀(l:List qS),bwR (vQ m l)=vQ .bw l
 | []=>rfl
 | x::l=>by
  have:=bD m l
  simp only [vQ,qZ5,bwR] at this⊢
  rw [this]
  simp [vX,bwL,bwC,uJ,bC,jW,uL,uY,bE,vL,gO,dO]
theorem qIl (l:List qS):free (vQ .bw l)↔True:=by
 simp only [iff_true]
 intro r hr c hc
 simp only [vQ,wAo] at hr
 obtain ⟨x,_,rfl⟩:=hr
 simp [vX] at hc
 rcases hc with rfl | rfl | rfl<;>rfl
def bys (l:List Int):List (List AV):=l.map fun b=>[.int .u8 b]
theorem qWt:bys []=[]:=rfl
theorem rC (l:List Int):(bys l).length=l.length:=by simp [bys]
theorem qO9 (l k:List Int):bys l++bys k=bys (l++k):=by simp [bys]
theorem qM7 (l:List Int) (n:Nat):(bys l).drop n=bys (l.drop n):=by simp [bys]
theorem qM5 (l:List Int) (n:Nat):(bys l).take n=bys (l.take n):=by simp [bys]
theorem qWs (l:List Int) (i:Nat) (b_:Int):(bys l).set i [.int .u8 b_]=bys (l.set i b_):=by simp [bys]
theorem qM6 (l:List Int) (i:Nat) (h:i<l.length):(bys l).getD i []=[.int .u8 (l.getD i 0)]:=by simp [bys,List.getD_eq_getElem?_getD,h]
theorem eD (A:Nat→Prop) (l:List Int):yM A (bys l)↔True:=by
 simp only [iff_true]
 induction l with
 | nil=>trivial
 | cons x l ih=>exact ⟨by simp [yX,bnd,zE,yT,vZ,jK,vF,uD,uN,vD,bR,gK,uU],ih⟩
theorem iM (l:List Int):nbr (bys l)↔True:=by
 simp only [iff_true]
 induction l with
 | nil=>trivial
 | cons x l ih=>exact ⟨by simp [nbs,nb,vY,bL,vH,uX,bF,uV,vW,dL,dR,bV],ih⟩
theorem fE :∀(l:List Int),bwR (bys l)=bys l
 | []=>rfl
 | x::l=>by
  have:=fE l
  simp only [bys,qZ5,bwR] at this⊢
  rw [this]
  simp [bwL,bwC,uJ,bC,jW,uL,uY,bE,vL,gO,dO,bD]
theorem qV6 (l:List Int):free (bys l)↔True:=by
 simp only [iff_true]
 intro r hr c hc
 simp only [bys,wAo] at hr
 obtain ⟨x,_,rfl⟩:=hr
 simp [] at hc
 rcases hc with rfl<;>rfl
structure Cur where
 i:Nat
 h:Int
 deriving Inhabited
def iL (code:List Int) (c:Cur):List AV:=[.sl .fz 1 (bys code),.int .i64 c.i,.int .i64 c.h]
theorem fS:(∀n,del [] n=[])∧(∀m s h n,del ((m,s)::h) n=if n=m then del h n else (m,s)::del h n)∧(∀n r,put [] n r=[(n,r)])∧(∀m s h n r,put ((m,s)::h) n r=if n=m then (m,r)::h else (m,s)::put h n r)∧(∀{α:Type} (a b:α) (l:List α),(a::l).set 0 b=b::l)∧(∀{α:Type} (a b:α) (l:List α) (n:Nat),(a::l).set (n+1) b=a::l.set n b)∧(∀{α:Type} (a b:α),(if True then a else b)=a)∧(∀{α:Type} (a b:α),(if False then a else b)=b)∧(∀l,(wK l).length=l.length)∧(∀l n,(wK l).take n=wK (l.take n))∧(∀l n,(wK l).drop n=wK (l.drop n))∧(∀o l rows,zW o l rows=if o=0∧rows.length=l then rows else (rows.drop o).take l)∧(∀{α:Type} (a:α) (l:List α),(a::l).length=l.length+1)∧(∀{α:Type},([]:List α).length=0)∧(∀p:Prop,(p∧p)=p)∧(∀p:Prop,(p∧True)=p)∧(∀p:Prop,(True∧p)=p)∧(∀l,(vC l).length=l.length)∧(∀m l,(yO m l).length=l.length)∧(∀m l,(jU m l).length=l.length)∧(∀m l,(wA m l).length=l.length)∧(∀l,(jB l).length=l.length)∧(∀m l,(wW m l).length=l.length)∧(∀m l,(zB m l).length=l.length)∧(∀m l,(zD m l).length=l.length)∧(∀m l,(vQ m l).length=l.length)∧(∀l,(bys l).length=l.length)∧(∀{α:Type} (a b:List α),(a++b).length=a.length+b.length)∧(∀{α:Type} (n:Nat) (a:α),(List.replicate n a).length=n)∧(∀{α:Type} (l:List α) (n:Nat) (a:α),(l.set n a).length=l.length):=by
 refine ⟨?_,?_,?_,?_,?_,?_,?_,?_,?_,?_,?_,?_,?_,?_,?_,?_,?_,?_,?_,?_,?_,?_,?_,?_,?_,?_,?_,?_,?_,?_⟩<;>intros<;>simp [del,put,zW,xL,nK,zZ,uR,cD,lC,vI,kP,kW,cP,rC]
attribute [go_sem] iE vS qX8 qXa qPu qUn qXb qUk qX9 qUr qPt qUs qUl wH qPe qH4 Arg.ev qV bH qW0 if_false if_true dJ put del xL qB0 Option.map_some Option.bind_some qM Int.toNat_natCast qXc qUj qUo gI true_and and_true qL2 qL0 qL1 qC2 tO Bool.false_eq_true xU cellsOf yR List.isEmpty_nil List.isEmpty_cons fresh List.map_nil qZ5 List.cons_append List.nil_append bU List.take_zero List.drop_zero List.take_succ_cons List.getD_cons_zero List.length_cons List.length_nil List.drop_succ_cons List.drop_nil List.append_nil List.all_cons List.all_nil yK Bool.and_self Nat.zero_add qUp qUq qUi qPs qPr qPp qPq qUt qX7 qEo qLs qHn qMz qN1 qFa jZ vB zS qHz eT yE apart List.filter_nil List.filter_cons Option.isSome_some Option.isSome_none List.contains_nil List.contains_cons List.forall_mem_cons List.mem_cons List.not_mem_nil false_implies implies_true forall_const forall_eq_or_imp forall_eq or_false beq_self_eq_true Bool.or_false Bool.false_or Bool.true_or Bool.or_true Bool.not_true Bool.not_false xv xo xg xr xi xz List.set_set qE6 qBs qHl qHm tC oT qHi qAt iT eqC eC qBn List.replicate_zero decide_true decide_false qLg qKv List.replicate_succ Int.toNat_zero Int.toNat_one eq_self Bool.and_true Bool.true_and Bool.and_false Bool.false_and List.set_cons_zero List.set_cons_succ List.getD_cons_succ rnm ixm jM aJ wZ jI cond_true cond_false oQ oO tE nK qLi qHb qHa qU7 dZ zZ qG8 qC8 qC7 qOf uR qJ9 qEi qEh qH8 cD lS qEx qEw gL aM lC lD qE3 qE2 qQw sI vI cN rO rM qL eW kP qI9 qD4 qD3 qQ4 qB7 kW qIu qDt qDs qQp gY cP qDe rW rV qKg vX rC qO9 qM7 qM5 qWs
attribute [simp] cY bwT bwC bwL uJ oO qV Arg.ev gH rD pJ qF3 zE qIy qCr yT okV okL nb nbs nbr vY qM xL bnd yX yM jM aJ ixm rnm apart eT jZ vB fresh wZ jI dG qJy bP cZ uP del sR zW oQ tE shp okB qKt qH9 qR2 qTl qTk qTf qN9 qTi qW2 qTj qR1 qTg qW4 qTh cU qH2 qUe qRn qU8 bC vZ bL nK qHa qHb qRk qOg jW jK vH zZ qC7 qC8 qMb qRi uL vF uX uR qEh qEi qNo qS2 uY uD bF cD qEw qEx qO2 qQy bE uN uV lC qE2 qE3 qN7 qKe vL vD vW vI rM rO qIh qQ5 gO bR dL kP qD3 qD4 qMq qQq dO gK dR kW qDs qDt qN0 qKh bD uU bV cP rV rW qIl qWt fE eD iM rC qM5 qM7 qV6 iL dZ aM sI eW qB7 gY vX
theorem qE4 :∀(l:List (List AV)),gZ l l
 | []=>by simp [gZ]
 | r::l=>(cU r r l l).2 ⟨iY r,qE4 l⟩
theorem qH3 :∀{a a' b b':List (List AV)},gZ a a'→gZ b b'→gZ (a++b) (a'++b')
 | [],a',b,b',h1,h2=>by
  simp only [gZ] at h1
  subst h1
  exact h2
 | r::a,a',b,b',h1,h2=>by
  simp only [gZ] at h1
  obtain ⟨d,ds,rfl,h3,h4⟩:=h1
  exact (cU r d _ _).2 ⟨h3,qH3 h4 h2⟩
theorem Sub.nilRow (nm:Nat) {t:List (Nat×AV)} {h:wM} {nx sz:Nat} {rows rows':List (List AV)} (hl:qM h nm=some (sz,rows)) (hn:gZ rows rows') (hbn:yM (· < nx) rows'):Sub (.mk t h nx) (.mk t (put h nm (sz,rows')) nx):=by
 rintro B a w ⟨h1,h2,hb,hbt,φ,Lf,hl'⟩
 have hlk :∀n,qM (put h nm (sz,rows')) n=if n=nm then some (sz,rows') else qM h n:=fun n=>qE8 n
 have hne :∀n,qM (put h nm (sz,rows')) n≠none→qM h n≠none:=fun n hn'=>by
  rw [hlk] at hn'
  split at hn'
  ·rename_i he; rw [he,hl]; simp
  ·exact hn'
 refine ⟨h1,h2,?_,hbt,φ,Lf,⟨hl'.ok.size0,hl'.ok.io0,hl'.ok.fr,hl'.ok.keep0,fun n hn'=>hl'.ok.own0 n (hne n hn'),?_,fun n hn'=>hl'.ok.rh.nodup n (hne n hn'),fun n hn'=>hl'.ok.rh.blk n (hne n hn'),fun n m hn' hm=>hl'.ok.rh.dis n m (hne n hn') (hne m hm),?_⟩,hl'.tm,hl'.φ0,hl'.ten⟩
 ·intro n row hr
  rw [hlk] at hr
  split at hr
  ·rename_i he
   simp only [Option.some.injEq] at hr
   subst hr he
   exact ⟨(hb n _ hl).1,hbn⟩
  ·exact hb n row hr
 ·intro n row hr
  rw [hlk] at hr
  split at hr
  ·rename_i he
   simp only [Option.some.injEq] at hr
   subst hr he
   have:=hl'.ok.rh.row n _ hl
   unfold uQ bY at this⊢
   cases hq:(B.env w φ).φ n with
   | dead=>rw [hq] at this; exact this.elim
   | nilp =>
    rw [hq] at this
    simp only at this
    obtain ⟨h3,h4⟩:=this
    rw [h3] at hn
    simp only [gZ] at hn
    exact ⟨hn,h4⟩
   | «at» p =>
    rw [hq] at this
    obtain ⟨h3,h4,Lr,h5,h6⟩:=this
    exact ⟨h3,by rw [eY hn]; exact h4,Lr,sJ hn h5,h6⟩
  ·exact hl'.ok.rh.row n row hr
 ·intro n hn'
  rw [hlk] at hn'
  split at hn'
  ·simp at hn'
  ·exact hl'.ok.rh.dead n hn'
theorem Sub.nilLast (nm:Nat) {t:List (Nat×AV)} {h:wM} {nx sz:Nat} {front:List (List AV)} {r r':List AV} (hl:qM h nm=some (sz,front++[r])) (hn:wL r r') (hbn:yM (· < nx) (front++[r'])):Sub (.mk t h nx) (.mk t (put h nm (sz,front++[r'])) nx) :=
 Sub.nilRow nm hl (qH3 (qE4 front) ((cU r r' [] []).2 ⟨hn,(qH2).2 trivial⟩)) hbn
theorem wP {rs:List qCl} {fp:FP} {v:AV} {s:AS} {t:List (Nat×AV)} {h:wM} {nx:Nat} (hs:Sub s (.mk t h nx)) (h1:qJy (rs.map fun r=>(dG t h r).2)∧(bP h (rs.map fun r=>(dG t h r).1)).2.2∧wL (bP h (rs.map fun r=>(dG t h r).1)).1 [v]∧∀x∈fp,qM (bP h (rs.map fun r=>(dG t h r).1)).2.1 x.1=qM (uP fp) x.1):Fin rs fp v s :=
 ⟨_,hs,wO h1⟩
theorem qCv {rs:List qCl} {fp:FP} {vs:List AV} {s:AS} {t:List (Nat×AV)} {h:wM} {nx:Nat} (h0:vs.length≠1) (hs:Sub s (.mk t h nx)) (h1:qJy (rs.map fun r=>(dG t h r).2)∧(bP h (rs.map fun r=>(dG t h r).1)).2.2∧wL (bP h (rs.map fun r=>(dG t h r).1)).1 vs∧∀x∈fp,qM (bP h (rs.map fun r=>(dG t h r).1)).2.1 x.1=qM (uP fp) x.1):Fin rs fp (.tup vs) s :=
 ⟨_,hs,qFn h0 h1⟩
theorem K {p q:Prop} (k:q) (h:p:=by first | omega | (simp [-List.getD_eq_getElem?_getD]; first | done | omega)):p∧q:=⟨h,k⟩
theorem CA {P:Program} {num:Nat→Nat} {fin:AS→Prop} {f nx:Nat} {ps:List Bool} {xs:List Arg} {t:List (Nat×AV)} {h:wM} {fp:FP} {res:AV} {vargs:List AV} {dst:Option Nat} {k:List It} (σ:List (Nat×Nat)) (hc:wB P num f vargs fp res)
  (hk:vc P num fin k (.mk (bH t dst (wZ nx (jM (rnm σ) res)).1) (dJ h (fp.map (fun x=>(rnm σ x.1,x.2))++fresh (wZ nx (jM (rnm σ) res)).2.1)) (wZ nx (jM (rnm σ) res)).2.2))
  (hv:wL (cY (ixm σ) h ps (xs.map (Arg.ev (qV t)))) vargs:=by first | omega | (simp [wL,wN]; done) | (simp [wL,wN, *]; done))
  (hvo:gH h (fun n =>∃x∈fp,x.2.1≠none∧n=rnm σ x.1∧ixm σ n=x.1) (fun n =>∃x∈fp,n=rnm σ x.1) ps (xs.map (Arg.ev (qV t))):=by first | omega | (simp [wL,wN]; done) | (simp [wL,wN, *]; done))
  (hnd:(fp.map (fun x=>rnm σ x.1)).Nodup:=by first | (simp [wL,wN]; done) | (simp [wL,wN, *]; done))
  (hpre :∀x∈fp,qM h (rnm σ x.1)=x.2.1∧(x.2.1=none→nx≤rnm σ x.1)∧rnm σ x.1<nx:=by first | (simp [wL,wN]; done) | (simp [wL,wN, *]; done))
  (hnb :∀x∈fp,(∀r,x.2.1=some r→nbr r.2)∧(∀r,x.2.2=some r→nbr r.2):=by first | (simp [wL,wN]; done) | (simp [wL,wN, *]; done))
  (hres:okV (fun k =>∃x∈fp,x.1=k∧x.2.2≠none) res:=by first | (simp [wL,wN]; done) | (simp [wL,wN, *]; done)):qHv P num fin (.call f ps xs) dst k (.mk t h nx) :=
 nV (qF1 σ hc hv hvo hnd hpre hnb hres) hk
theorem DA {P:Program} {num:Nat→Nat} {fin:AS→Prop} {f nx:Nat} {ps:List Bool} {xs:List Arg} {t:List (Nat×AV)} {h:wM} {fp:FP} {res:AV} {vargs:List AV} {pend:List (Nat×List Nat)} {dst:Option Nat} {tr:vT} {k:List It} (σ:List (Nat×Nat)) (hc:wB P num f vargs fp res)
  (hk:vc P num fin (.draw tr pend::k) (.mk (bH t dst (wZ nx (jM (rnm σ) res)).1) (dJ h (fp.map (fun x=>(rnm σ x.1,x.2))++fresh (wZ nx (jM (rnm σ) res)).2.1)) (wZ nx (jM (rnm σ) res)).2.2))
  (hv:wL (cY (ixm σ) h ps (xs.map (Arg.ev (qV t)))) vargs:=by first | omega | (simp [wL,wN]; done) | (simp [wL,wN, *]; done))
  (hvo:gH h (fun n =>∃x∈fp,x.2.1≠none∧n=rnm σ x.1∧ixm σ n=x.1) (fun n =>∃x∈fp,n=rnm σ x.1) ps (xs.map (Arg.ev (qV t))):=by first | omega | (simp [wL,wN]; done) | (simp [wL,wN, *]; done))
  (hnd:(fp.map (fun x=>rnm σ x.1)).Nodup:=by first | (simp [wL,wN]; done) | (simp [wL,wN, *]; done))
  (hpre :∀x∈fp,qM h (rnm σ x.1)=x.2.1∧(x.2.1=none→nx≤rnm σ x.1)∧rnm σ x.1<nx:=by first | (simp [wL,wN]; done) | (simp [wL,wN, *]; done))
  (hnb :∀x∈fp,(∀r,x.2.1=some r→nbr r.2)∧(∀r,x.2.2=some r→nbr r.2):=by first | (simp [wL,wN]; done) | (simp [wL,wN, *]; done))
  (hres:okV (fun k =>∃x∈fp,x.1=k∧x.2.2≠none) res:=by first | (simp [wL,wN]; done) | (simp [wL,wN, *]; done))
  (ha:apart pend (fp.map (fun x=>(rnm σ x.1,x.2))++fresh (wZ nx (jM (rnm σ) res)).2.1):=by first | (simp [wL,wN]; done) | (simp [wL,wN, *]; done)):qHp P num fin (.call f ps xs) pend dst tr k t h nx :=
 nR (qF1 σ hc hv hvo hnd hpre hnb hres) ha hk
theorem DAV {P:Program} {num:Nat→Nat} {fin:AS→Prop} {f nx:Nat} {y:Arg} {xs:List Arg} {t:List (Nat×AV)} {h:wM} {fp:FP} {res:AV} {vargs:List AV} {pend:List (Nat×List Nat)} {dst:Option Nat} {tr:vT} {k:List It} (σ:List (Nat×Nat)) (hc:wB P num f vargs fp res)
  (hk:vc P num fin (.draw tr pend::k) (.mk (bH t dst (wZ nx (jM (rnm σ) res)).1) (dJ h (fp.map (fun x=>(rnm σ x.1,x.2))++fresh (wZ nx (jM (rnm σ) res)).2.1)) (wZ nx (jM (rnm σ) res)).2.2))
  (hy:y.ev (qV t)=.fn f []:=by first | rfl | (simp; done) | (simp [*]; done))
  (hv:wL (cY (ixm σ) h (xs.map fun _=>false) (xs.map (Arg.ev (qV t)))) vargs:=by first | omega | (simp [wL,wN]; done) | (simp [wL,wN, *]; done))
  (hvo:gH h (fun n =>∃x∈fp,x.2.1≠none∧n=rnm σ x.1∧ixm σ n=x.1) (fun n =>∃x∈fp,n=rnm σ x.1) (xs.map fun _=>false) (xs.map (Arg.ev (qV t))):=by first | omega | (simp [wL,wN]; done) | (simp [wL,wN, *]; done))
  (hnd:(fp.map (fun x=>rnm σ x.1)).Nodup:=by first | (simp [wL,wN]; done) | (simp [wL,wN, *]; done))
  (hpre :∀x∈fp,qM h (rnm σ x.1)=x.2.1∧(x.2.1=none→nx≤rnm σ x.1)∧rnm σ x.1<nx:=by first | (simp [wL,wN]; done) | (simp [wL,wN, *]; done))
  (hnb :∀x∈fp,(∀r,x.2.1=some r→nbr r.2)∧(∀r,x.2.2=some r→nbr r.2):=by first | (simp [wL,wN]; done) | (simp [wL,wN, *]; done))
  (hres:okV (fun k =>∃x∈fp,x.1=k∧x.2.2≠none) res:=by first | (simp [wL,wN]; done) | (simp [wL,wN, *]; done))
  (ha:apart pend (fp.map (fun x=>(rnm σ x.1,x.2))++fresh (wZ nx (jM (rnm σ) res)).2.1):=by first | (simp [wL,wN]; done) | (simp [wL,wN, *]; done)):qHp P num fin (.calv y xs) pend dst tr k t h nx :=
 nR (qWr σ hc hv hvo hnd hpre hnb hres (Nat.le_refl _) hy) ha hk
def qE7 (k:Int) (n:Nat):List Int:=(List.range n).map fun (i:Nat)=>k+i
@[simp] theorem qW6 (k:Int) (n:Nat):(qE7 k n).length=n:=by simp [qE7]
@[simp] theorem qXs (k:Int) (n:Nat):(qE7 k n).take n=qE7 k n:=List.take_of_length_le (by simp)
theorem eL (xs:List Int) (hx:8*xs.length≤2^47):wB Try.prog num 36 [.sl .bw 1 (wK xs)] [] (.sl .own 1 (wK xs)):=by
 refine EN m36 Try.func32 ?_
 unfold m36
 simp only [go_sem,seval]
 repeat refine K ?_
 refine fz ?_; simp [jE,wL,wN,yF,-wAs]
def qT (n lo hi:Int):Bool:=decide (lo≤n)&&decide (n≤hi)
theorem qK {n lo hi:Int}:qT n lo hi=true↔lo≤n∧n≤hi:=by simp [qT]
def uK (b:Bool):Int:=if b then 1 else 0
theorem bB (n lo hi:Int):wB Try.prog num 59 [.int .i64 n,.int .i64 lo,.int .i64 hi] [] (.bool (qT n lo hi)):=by
 refine EN m59 Try.func52 ?_
 unfold m59
 by_cases h1:lo≤n<;>by_cases h2:n≤hi<;>(simp only [go_sem,seval,h1,h2]; refine fz ?_; simp [jE,wL,wN,yF,-wAs]; simp [qT,h1,h2])
theorem iX (b:Bool):wB Try.prog num 78 [.bool b] [] (.int .i64 (uK b)):=by
 refine EN m78 Try.func76 ?_
 unfold m78
 cases b<;>(simp only [go_sem,seval]; refine fz ?_; simp [jE,wL,wN,yF,-wAs]; simp [uK])
theorem qLf (n:Int):wB Try.prog num 97 [.int .i64 n] [] (.bool (qT n 0 3)):=by
 refine EN m97 Try.func81 ?_
 unfold m97
 simp only [go_sem,seval]
 refine CA [] (bB n 0 3) ?_
 try simp only [go_sem,seval]
 refine fz ?_; simp [jE,wL,wN,yF,-wAs]
theorem qGx (n:Int):wB Try.prog num 44 [.int .i64 n] [] (.bool (qT n 5 9)):=by
 refine EN m44 Try.func82 ?_
 unfold m44
 simp only [go_sem,seval]
 refine CA [] (bB n 5 9) ?_
 try simp only [go_sem,seval]
 refine fz ?_; simp [jE,wL,wN,yF,-wAs]
theorem qJg (l:List bS) (hx:16*l.length≤2^47):wB Try.prog num 69 [.sl .bw 2 (jB l)] [] (.sl .own 2 (jB l)):=by
 refine EN m69 Try.func53 ?_
 unfold m69
 simp only [go_sem,seval]
 repeat refine K ?_
 refine fz ?_; simp [jE,wL,wN,yF,-wAs]
theorem fX (c:jN) (hx:8*c.list.length≤2^47):wB Try.prog num 70 [.agg (aM .bw c)] [] (.agg (aM .own c)):=by
 refine EN m70 Try.func54 ?_
 unfold m70
 simp only [go_sem,seval]
 refine CA [] (eL c.list hx) ?_
 try simp only [go_sem,seval]
 refine fz ?_; simp [jE,wL,wN,yF,-wAs]
def jJ (c:jN):Bool:=qT c.cap 1 4&&decide ((c.list.length:Int)≤c.cap)
theorem aZ (c:jN):wB Try.prog num 72 [.agg (aM .bw c)] [] (.bool (jJ c)):=by
 refine EN m72 Try.func56 ?_
 unfold m72
 simp only [go_sem,seval]
 refine CA [] (bB c.cap 1 4) ?_
 try simp only [go_sem,seval]
 cases h:qT c.cap 1 4
 ·simp only [go_sem,seval,h]
  refine fz ?_; simp [jE,wL,wN,yF,-wAs]
  simp [jJ,h]
 ·simp only [go_sem,seval,h]
  refine fz ?_; simp [jE,wL,wN,yF,-wAs]
  simp [jJ,h]
def jR (x:Ins) (pl ch:Int):Bool :=
 qT x.r 0 3&&qT x.a 0 3&&qT x.b 0 3&&qT ch 0 3 &&
 (if x.op=1 then qT x.n (-1000000000) 1000000000&&decide (x.a=0)&&decide (x.b=0)
  else if x.op=2∨x.op=3∨x.op=4 then decide (x.n=0)
  else if x.op=5 then qT x.n 0 (ch-1)&&decide (x.r=0)&&decide (x.b=0)
  else if x.op=6∨x.op=8 then qT x.n 0 (ch-1)&&decide (x.a=0)&&!decide (x.r=x.b)
  else if x.op=7 then qT x.n 0 (ch-1)&&decide (x.b=0)
  else if x.op=9 then qT x.n 0 (ch-1)&&decide (x.r=0)&&decide (x.a=0)&&decide (x.b=0)
  else if x.op=10 then decide (x.r=0)&&decide (x.b=0)&&decide (x.n=0)
  else if x.op=11 then decide (0≤x.n)&&decide (x.n<pl)&&decide (x.r=0)&&decide (x.a=0)&&decide (x.b=0)
  else if x.op=12 then decide (0≤x.n)&&decide (x.n<pl)&&decide (x.r=0)&&decide (x.b=0)
  else if x.op=13 then decide (x.op=13)&&(decide (x.r=0)&&(decide (x.a=0)&&(decide (x.b=0)&&decide (x.n=0))))
  else false)
def qBh (x:Ins):Ins :=
 if x.op=1 then ⟨x.op,x.r,0,0,x.n⟩
 else if x.op=2∨x.op=3∨x.op=4 then ⟨x.op,x.r,x.a,x.b,0⟩
 else if x.op=5∨x.op=12 then ⟨x.op,0,x.a,0,x.n⟩
 else if x.op=6∨x.op=8 then ⟨x.op,x.r,0,x.b,x.n⟩
 else if x.op=7 then ⟨x.op,x.r,x.a,0,x.n⟩
 else if x.op=9∨x.op=11 then ⟨x.op,0,0,0,x.n⟩
 else if x.op=10 then ⟨x.op,0,x.a,0,0⟩
 else ⟨x.op,0,0,0,0⟩
def nM (x:Ins) (pl ch:Int):Bool :=
 qT ch 0 3&&qT x.op 1 13&&(decide (x.op=(qBh x).op)&&(decide (x.r=(qBh x).r)&&(decide (x.a=(qBh x).a)&&(decide (x.b=(qBh x).b)&&decide (x.n=(qBh x).n))))) &&
 qT x.r 0 3&&qT x.a 0 3&&qT x.b 0 3 &&
 (if x.op=1 then qT x.n (-1000000000) 1000000000
  else if x.op=11∨x.op=12 then qT x.n 0 (pl-1)
  else if (x.op=6∨x.op=8)∧x.r=x.b then false
  else !qT x.op 5 9||qT x.n 0 (ch-1))
theorem qKw (x:Ins):wB Try.prog num 96 [.agg (dZ x)] [] (.agg (dZ (qBh x))):=by
 refine EN m96 Try.func80 ?_
 unfold m96
 repeat' (first
  | (simp only [go_sem,seval])
  | (refine qZ (fun hc=>?_) (fun hc=>?_)<;>((try simp only [wAt,wAu,ne_eq,wAv,wAw] at hc)<;>(try simp only [hc])))
  | (refine eI (fun hc=>?_) (fun hc=>?_)<;>((try simp only [wAt,wAu,ne_eq,wAv,wAw] at hc)<;>(try simp only [hc])))
  | (refine aF (fun hc=>?_) (fun hc=>?_)<;>((try simp only [wAt,wAu,ne_eq,wAv,wAw] at hc)<;>(try simp only [hc])))
  | (refine ⟨by first | omega | (simp; done),?_⟩)
  | fail)
 all_goals (refine fz ?_; simp [jE,wL,wN,yF,-wAs])
 all_goals (try (simp_all [qBh]; done))
theorem tY (n lo hi:Int):qT n lo hi=decide (lo≤n∧n≤hi):=by simp [qT]
theorem oR (x:Ins) (pl ch:Int):nM x pl ch=jR x pl ch:=by
 obtain ⟨op,r,a,b,n⟩:=x
 by_cases h:1≤op∧op≤13
 ·obtain rfl | rfl | rfl | rfl | rfl | rfl | rfl | rfl | rfl | rfl | rfl | rfl | rfl:op=1∨op=2∨op=3∨op=4∨op=5∨op=6∨op=7∨op=8∨op=9∨op=10∨op=11∨op=12∨op=13:=by omega
  all_goals (rw [Bool.eq_iff_iff]; simp [nM,jR,qBh,tY]; try omega)
 ·have h1 :¬op=1:=by omega
  have h2 :¬op=2:=by omega
  have h3 :¬op=3:=by omega
  have h4 :¬op=4:=by omega
  have h5 :¬op=5:=by omega
  have h6 :¬op=6:=by omega
  have h7 :¬op=7:=by omega
  have h8 :¬op=8:=by omega
  have h9 :¬op=9:=by omega
  have h10 :¬op=10:=by omega
  have h11 :¬op=11:=by omega
  have h12 :¬op=12:=by omega
  have h13 :¬op=13:=by omega
  have hw:qT op 1 13=false:=by rw [tY]; simp; omega
  simp [nM,jR,hw,h1,h2,h3,h4,h5,h6,h7,h8,h9,h10,h11,h12,h13]
end Go.Sep
