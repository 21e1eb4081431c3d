/- Contracts of functions. -/
import Derived.Test.YtbfklilhgekabaaNzFns
open Bool renaming not_eq_false → qYx, not_eq_false' → qYv, not_eq_true → qYw, not_eq_true' → qYu
open List renaming drop_one → qYt, getD_eq_getElem?_getD → qXb, map_cons → qX6, mem_map → qYp
namespace Go.Sep
set_option maxHeartbeats 16000000
open Go.Proofs
set_option linter.unusedSimpArgs false
set_option linter.unusedVariables false
set_option maxRecDepth 100000
def m36:MFn:=⟨6,[.t 2],kr [xo 2 (.mv (.c (.nil)))] (kR [xo 3 (.mkSl [xz] 0 []),xv 4 0,xA 5 1 8 3 4,xv 2 5])⟩
def m44:MFn:=⟨5,[.t 2],kr [xF 2] (kR [xv 3 0,xc3 4 59 (.t 3) (xi 5) (xi 9),xv 2 4])⟩
def m59:MFn:=⟨15,[.t 6],kr [xF 6] (kR [xv 7 0,xv 8 1,bT 9 .geq 7 8,xv 10 9,yv 11 0 10,yv 12 2 10,xg 13 (.bin .leq (.t 11) (.t 12)) 10 true,xP 14 10 13,xv 6 14])⟩
def m64:MFn:=⟨15,[.t 6],kr [xF 6] (kR [xv 7 0,xv 8 1,bT 9 .geq 7 8,xv 10 9,yv 11 0 10,yv 12 2 10,xg 13 (.bin .leq (.t 11) (.t 12)) 10 true,xP 14 10 13,xv 6 14])⟩
def m69:MFn:=⟨6,[.t 2],kr [xo 2 (.mv (.c (.nil)))] (kR [xo 3 (.mkSl [xz,xz] 0 []),xv 4 0,xA 5 2 16 3 4,xv 2 5])⟩
def m70:MFn:=⟨8,[.cell 2 3 true],kr [xb 1 0,xo 2 (.alloc [.int .i64 0,.nil,.bool false])] (kr [xa 3 1 1,xl 4 3,xc1 5 36 (.t 4),xa 6 1 1,xS 1 6 5] (kR [xm 7 3 1,xS 3 2 7]))⟩
def m72:MFn:=⟨14,[.t 2],kr [xb 1 0,xF 2] (kR [xa 3 0 1,xl 4 3,xc3 5 59 (.t 4) (xi 1) (xi 4),xv 6 5,ya 7 1 1 6,yl 8 1 7 6,ye 9 8 6,ya 10 0 1 6,yl 11 1 10 6,xg 12 (.bin .leq (.t 9) (.t 11)) 6 true,xP 13 6 12,xv 2 13])⟩
def m78:MFn:=⟨4,[.t 2],kr [xI 2 0] (.seq (kr [xv 3 0] (kF 3 [xI 2 1])) (kR [xI 2 0]))⟩
def m85:MFn:=⟨4,[.t 2],kr [xI 2 0] (.seq (kr [xv 3 0] (kF 3 [xI 2 1])) (kR [xI 2 0]))⟩
def m96:MFn:=⟨74,[.cell 2 5 true],kr [xb 1 0,xo 2 (.alloc [xz,xz,xz,xz,xz])] (kr [xa 4 0 1,xl 5 4,xo 6 (.build [xz,xz,xz,xz,xz] [(0,1,.t 5)]),xo 3 (.alloc [xz,xz,xz,xz,xz]),xS 5 3 6] (.seq (kr [xa 7 0 1,xl 8 7] (.blk 0 (kr [bI 10 .eql 8 1,xv 9 10] (.cond 9 (.dreg (.take 0 (xa 11 1 1) (.take 1 (xl 12 11) (.take 2 (xa 13 4 1) (.take 3 (xl 14 13) (.only 4 [0,1] (xa 15 1 3) (.only 5 [0,1] (xS 1 15 12) (.only 6 [0,1,2,3] (xa 16 4 3) (.only 7 [0,1,2,3] (xS 1 16 14) (.done)))))))))) (.seq (kr [bI 18 .eql 8 2,xv 17 18] (.cond 17 (.skip) (kr [bI 19 .eql 8 3,xv 17 19] (.cond 17 (.skip) (xr [bI 20 .eql 8 4,xv 17 20]))))) (.cond 17 (.dreg (.take 0 (xa 21 1 1) (.take 1 (xl 22 21) (.take 2 (xa 23 2 1) (.take 3 (xl 24 23) (.take 4 (xa 25 3 1) (.take 5 (xl 26 25) (.only 6 [0,1] (xa 27 1 3) (.only 7 [0,1] (xS 1 27 22) (.only 8 [0,1,2,3] (xa 28 2 3) (.only 9 [0,1,2,3] (xS 1 28 24) (.only 10 [0,1,2,3,4,5] (xa 29 3 3) (.only 11 [0,1,2,3,4,5] (xS 1 29 26) (.done)))))))))))))) (.seq (kr [bI 31 .eql 8 5,xv 30 31] (.cond 30 (.skip) (xr [bI 32 .eql 8 12,xv 30 32]))) (.cond 30 (.dreg (.take 0 (xa 33 2 1) (.take 1 (xl 34 33) (.take 2 (xa 35 4 1) (.take 3 (xl 36 35) (.only 4 [0,1] (xa 37 2 3) (.only 5 [0,1] (xS 1 37 34) (.only 6 [0,1,2,3] (xa 38 4 3) (.only 7 [0,1,2,3] (xS 1 38 36) (.done)))))))))) (.seq (kr [bI 40 .eql 8 6,xv 39 40] (.cond 39 (.skip) (xr [bI 41 .eql 8 8,xv 39 41]))) (.cond 39 (.dreg (.take 0 (xa 42 1 1) (.take 1 (xl 43 42) (.take 2 (xa 44 3 1) (.take 3 (xl 45 44) (.take 4 (xa 46 4 1) (.take 5 (xl 47 46) (.only 6 [0,1] (xa 48 1 3) (.only 7 [0,1] (xS 1 48 43) (.only 8 [0,1,2,3] (xa 49 3 3) (.only 9 [0,1,2,3] (xS 1 49 45) (.only 10 [0,1,2,3,4,5] (xa 50 4 3) (.only 11 [0,1,2,3,4,5] (xS 1 50 47) (.done)))))))))))))) (kr [bI 52 .eql 8 7,xv 51 52] (.cond 51 (.dreg (.take 0 (xa 53 1 1) (.take 1 (xl 54 53) (.take 2 (xa 55 2 1) (.take 3 (xl 56 55) (.take 4 (xa 57 4 1) (.take 5 (xl 58 57) (.only 6 [0,1] (xa 59 1 3) (.only 7 [0,1] (xS 1 59 54) (.only 8 [0,1,2,3] (xa 60 2 3) (.only 9 [0,1,2,3] (xS 1 60 56) (.only 10 [0,1,2,3,4,5] (xa 61 4 3) (.only 11 [0,1,2,3,4,5] (xS 1 61 58) (.done)))))))))))))) (.seq (kr [bI 63 .eql 8 9,xv 62 63] (.cond 62 (.skip) (xr [bI 64 .eql 8 11,xv 62 64]))) (.cond 62 (xr [xa 65 4 1,xl 66 65,xa 67 4 3,xS 1 67 66]) (kr [bI 69 .eql 8 10,xv 68 69] (.cond 68 (xr [xa 70 2 1,xl 71 70,xa 72 2 3,xS 1 72 71]) (.skip))))))))))))))))) (kR [xm 73 5 3,xS 5 2 73])))⟩
def m97:MFn:=⟨5,[.t 2],kr [xF 2] (kR [xv 3 0,xc3 4 59 (.t 3) (xi 0) (xi 3),xv 2 4])⟩
attribute [local go_sem] iC vU qVh qVj qP8 qTe qVk qTb qVi qTi qP7 qTj qTc wH qOu qGv Arg.ev qU gE qUi if_false if_true dR put del eO qAu Option.map_some Option.bind_some qO Int.toNat_natCast qVl qTa qTf gS true_and and_true qKk qKi qKj qBv tN Bool.false_eq_true aD cellsOf yX List.isEmpty_nil List.isEmpty_cons fresh List.map_nil qX6 List.cons_append List.nil_append gG List.take_zero List.drop_zero List.take_succ_cons List.getD_cons_zero List.length_cons List.length_nil List.drop_succ_cons List.drop_nil List.append_nil List.all_cons List.all_nil yS Bool.and_self Nat.zero_add qTg qTh qT9 qP6 qP5 qP3 qP4 qTk qVg qEf qL9 qHc qMc qMe qF3 vB vD xE qHn eX yK apart List.filter_nil List.filter_cons Option.isSome_some Option.isSome_none List.contains_nil List.contains_cons List.forall_mem_cons List.mem_cons List.not_mem_nil false_implies implies_true forall_const forall_eq_or_imp forall_eq or_false beq_self_eq_true Bool.or_false Bool.false_or Bool.true_or Bool.or_true Bool.not_true Bool.not_false xv xo xg xr xi xz List.set_set qDr qBl qHa qHb tC oS qH8 qAo iR eqC eH fT List.replicate_zero decide_true decide_false qE6 qKd List.replicate_succ Int.toNat_zero Int.toNat_one eq_self Bool.and_true Bool.true_and Bool.and_false Bool.false_and List.set_cons_zero List.set_cons_succ List.getD_cons_succ rnm ixm vF aP yH jP cond_true cond_false oP oO tE
attribute [local simp] iG bwT bwC bwL uN oO qU Arg.ev dQ rF pN qEs zL qIj qCf jB okV okL nb nbs nbr uA qO eO bnd yQ yL vF aP ixm rnm apart eX vB vD fresh yH jP dH qJi bZ fB uU del sS xK oP tE shp okB qKb qGz
theorem tS {rs:List qC9} {fp:FP} {vs:List AV} {t:List (Nat×AV)} {h:wO} {nx:Nat} (h0:vs.length≠1) (h1:qJi (rs.map fun r=>(dH t h r).2)∧(bZ h (rs.map fun r=>(dH t h r).1)).2.2∧wN (bZ h (rs.map fun r=>(dH t h r).1)).1 vs∧∀x∈fp,qO (bZ h (rs.map fun r=>(dH t h r).1)).2.1 x.1=qO (uU fp) x.1):jD rs fp (.tup vs) (.mk t h nx):=by
 refine ⟨h1.1,h1.2.1,⟨vs,h1.2.2.1,?_⟩,h1.2.2.2⟩
 match vs,h0 with
 | [],_=>rfl
 | [_],h0=>exact absurd rfl h0
 | _::_::_,_=>rfl
theorem wL {rs:List qC9} {fp:FP} {v:AV} {t:List (Nat×AV)} {h:wO} {nx:Nat} (h1:qJi (rs.map fun r=>(dH t h r).2)∧(bZ h (rs.map fun r=>(dH t h r).1)).2.2∧wN (bZ h (rs.map fun r=>(dH t h r).1)).1 [v]∧∀x∈fp,qO (bZ h (rs.map fun r=>(dH t h r).1)).2.1 x.1=qO (uU fp) x.1):jD rs fp v (.mk t h nx) :=
 ⟨h1.1,h1.2.1,⟨[v],h1.2.2.1,rfl⟩,h1.2.2.2⟩
theorem qQb (c d:AV) (cs ds:List AV):wN (c::cs) (d::ds)↔wP c d∧wN cs ds:=by
 simp only [wN,List.cons.injEq]
 exact ⟨fun ⟨_,_,⟨h1,h2⟩,h3,h4⟩=>by subst h1 h2; exact ⟨h3,h4⟩,fun ⟨h3,h4⟩=>⟨_,_,⟨rfl,rfl⟩,h3,h4⟩⟩
theorem qS9:wN [] []↔True:=by simp [wN]
theorem qS8 (cs ds:List AV):wP (.agg cs) (.agg ds)↔wN cs ds:=by simp [wP]
theorem qS3 (cs ds:List AV):wP (.tup cs) (.tup ds)↔wN cs ds:=by simp [wP]
theorem qMn (m:Mode) (sz:Nat):wP .nil (.sl m sz [])↔True:=by simp [wP]
theorem qS6:wP .nil .nil↔True:=by simp [wP]
theorem qUk (m:Mode) (sz:Nat) (rows:List (List AV)) (d:AV):wP (.sl m sz rows) d↔.sl m sz rows=d:=by simp [wP]
theorem qS7 (k:IntKind) (n:Int) (d:AV):wP (.int k n) d↔.int k n=d:=by simp [wP]
theorem qQa (b:Bool) (d:AV):wP (.bool b) d↔.bool b=d:=by simp [wP]
theorem qS4 (s:ByteArray) (d:AV):wP (.str s) d↔.str s=d:=by simp [wP]
theorem qUm (k o l:Nat) (d:AV):wP (.ns k o l) d↔.ns k o l=d:=by simp [wP]
theorem qS5 (k o l:Nat) (d:AV):wP (.ptr k o l) d↔.ptr k o l=d:=by simp [wP]
theorem aV (r d:List AV) (rs ds:List (List AV)):dI (r::rs) (d::ds)↔wN r d∧dI rs ds:=by
 simp only [dI,List.cons.injEq]
 exact ⟨fun ⟨_,_,⟨h1,h2⟩,h3,h4⟩=>by subst h1 h2; exact ⟨h3,h4⟩,fun ⟨h3,h4⟩=>⟨_,_,⟨rfl,rfl⟩,h3,h4⟩⟩
theorem qGt:dI [] []↔True:=by simp [dI]
theorem qT3:free []↔True:=by simp [free]
theorem qQt (r:List AV) (rs:List (List AV)):free (r::rs)↔(∀c∈r,sS c=false)∧free rs:=by simp [free]
structure Ins where
 op:Int
 r:Int
 a:Int
 b:Int
 n:Int
 deriving DecidableEq,Inhabited
def bU (x:Ins):List AV:=[.int .i64 x.op,.int .i64 x.r,.int .i64 x.a,.int .i64 x.b,.int .i64 x.n]
def vO (l:List Ins):List (List AV):=l.map bU
theorem qSw:vO []=[]:=rfl
theorem nJ (l:List Ins):(vO l).length=l.length:=by simp [vO]
theorem qKy (l k:List Ins):vO l++vO k=vO (l++k):=by simp [vO]
theorem qH1 (l:List Ins) (n:Nat):(vO l).drop n=vO (l.drop n):=by simp [vO]
theorem qH0 (l:List Ins) (n:Nat):(vO l).take n=vO (l.take n):=by simp [vO]
theorem qSv (l:List Ins) (i:Nat) (op_:Int) (r_:Int) (a_:Int) (b_:Int) (n_:Int):(vO l).set i [.int .i64 op_,.int .i64 r_,.int .i64 a_,.int .i64 b_,.int .i64 n_]=vO (l.set i ⟨op_,r_,a_,b_,n_⟩):=by simp [vO,bU]
theorem gF (l:List Ins) (i:Nat) (h:i<l.length):(vO l).getD i []=[.int .i64 (l.getD i default).op,.int .i64 (l.getD i default).r,.int .i64 (l.getD i default).a,.int .i64 (l.getD i default).b,.int .i64 (l.getD i default).n]:=by simp [vO,bU,List.getD_eq_getElem?_getD,h]
theorem uB (A:Nat→Prop) (l:List Ins):yL A (vO l)↔True:=by
 simp only [iff_true]
 induction l with
 | nil=>trivial
 | cons x l ih=>exact ⟨by simp [bU,yQ,bnd,zL,jB],ih⟩
theorem bS (l:List Ins):nbr (vO l)↔True:=by
 simp only [iff_true]
 induction l with
 | nil=>trivial
 | cons x l ih=>exact ⟨by simp [bU,nbs,nb,uA],ih⟩
theorem bH :∀(l:List Ins),bwR (vO l)=vO l
 | []=>rfl
 | x::l=>by
  have:=bH l
  simp only [vO,qX6,bwR] at this⊢
  rw [this]
  simp [bU,bwL,bwC,uN]
theorem qQp (l:List Ins):free (vO l)↔True:=by
 simp only [iff_true]
 intro r hr c hc
 simp only [vO,qYp] at hr
 obtain ⟨x,_,rfl⟩:=hr
 simp [bU] at hc
 rcases hc with rfl | rfl | rfl | rfl | rfl<;>rfl
def yY (m:Mode) (l:List (List Ins)):List (List AV):=l.map fun b=>[.sl m 5 (vO b)]
theorem qNx (m:Mode):yY m []=[]:=rfl
theorem vJ (m:Mode) (l:List (List Ins)):(yY m l).length=l.length:=by simp [yY]
theorem qG5 (m:Mode) (l k:List (List Ins)):yY m l++yY m k=yY m (l++k):=by simp [yY]
theorem qC0 (m:Mode) (l:List (List Ins)) (n:Nat):(yY m l).drop n=yY m (l.drop n):=by simp [yY]
theorem qBz (m:Mode) (l:List (List Ins)) (n:Nat):(yY m l).take n=yY m (l.take n):=by simp [yY]
theorem qNw (m:Mode) (l:List (List Ins)) (i:Nat) (b_:List Ins):(yY m l).set i [.sl m 5 (vO b_)]=yY m (l.set i b_):=by simp [yY]
theorem qZ (m:Mode) (l:List (List Ins)) (i:Nat) (h:i<l.length):(yY m l).getD i []=[.sl m 5 (vO (l.getD i []))]:=by simp [yY,List.getD_eq_getElem?_getD,h]
theorem jR (A:Nat→Prop) (m:Mode) (l:List (List Ins)):yL A (yY m l)↔True:=by
 simp only [iff_true]
 induction l with
 | nil=>trivial
 | cons x l ih=>exact ⟨by simp [yQ,bnd,zL,jB,uB],ih⟩
theorem vI (l:List (List Ins)):nbr (yY .own l)↔True:=by
 simp only [iff_true]
 induction l with
 | nil=>trivial
 | cons x l ih=>exact ⟨by simp [nbs,nb,uA,bS],ih⟩
theorem jY (m:Mode) :∀(l:List (List Ins)),bwR (yY m l)=yY .bw l
 | []=>rfl
 | x::l=>by
  have:=jY m l
  simp only [yY,qX6,bwR] at this⊢
  rw [this]
  simp [bwL,bwC,uN,bH]
theorem qLq (l:List (List Ins)):free (yY .bw l)↔True:=by
 simp only [iff_true]
 intro r hr c hc
 simp only [yY,qYp] at hr
 obtain ⟨x,_,rfl⟩:=hr
 simp [] at hc
 rcases hc with rfl<;>rfl
def zJ (m:Mode) (l:List (List Int)):List (List AV):=l.map fun b=>[.sl m 1 (wT b)]
theorem qQo (m:Mode):zJ m []=[]:=rfl
theorem lH (m:Mode) (l:List (List Int)):(zJ m l).length=l.length:=by simp [zJ]
theorem qIs (m:Mode) (l k:List (List Int)):zJ m l++zJ m k=zJ m (l++k):=by simp [zJ]
theorem qE5 (m:Mode) (l:List (List Int)) (n:Nat):(zJ m l).drop n=zJ m (l.drop n):=by simp [zJ]
theorem qE4 (m:Mode) (l:List (List Int)) (n:Nat):(zJ m l).take n=zJ m (l.take n):=by simp [zJ]
theorem qQn (m:Mode) (l:List (List Int)) (i:Nat) (b_:List Int):(zJ m l).set i [.sl m 1 (wT b_)]=zJ m (l.set i b_):=by simp [zJ]
theorem vR (A:Nat→Prop) (m:Mode) (l:List (List Int)):yL A (zJ m l)↔True:=by
 simp only [iff_true]
 induction l with
 | nil=>trivial
 | cons x l ih=>exact ⟨by simp [yQ,bnd,zL,jB,uB,jR],ih⟩
theorem bB (l:List (List Int)):nbr (zJ .own l)↔True:=by
 simp only [iff_true]
 induction l with
 | nil=>trivial
 | cons x l ih=>exact ⟨by simp [nbs,nb,uA,bS,vI],ih⟩
theorem uO (m:Mode) :∀(l:List (List Int)),bwR (zJ m l)=zJ .bw l
 | []=>rfl
 | x::l=>by
  have:=uO m l
  simp only [zJ,qX6,bwR] at this⊢
  rw [this]
  simp [bwL,bwC,uN,bH,jY]
theorem qN0 (l:List (List Int)):free (zJ .bw l)↔True:=by
 simp only [iff_true]
 intro r hr c hc
 simp only [zJ,qYp] at hr
 obtain ⟨x,_,rfl⟩:=hr
 simp [] at hc
 rcases hc with rfl<;>rfl
structure vA where
 cap:Int
 list:List Int
 closed:Bool
 deriving DecidableEq,Inhabited
def aR (m:Mode) (x:vA):List AV:=[.int .i64 x.cap,.sl m 1 (wT x.list),.bool x.closed]
def wC (m:Mode) (l:List vA):List (List AV):=l.map (aR m)
theorem qHg (m:Mode):wC m []=[]:=rfl
theorem cG (m:Mode) (l:List vA):(wC m l).length=l.length:=by simp [wC]
theorem lQ (m:Mode) (l k:List vA):wC m l++wC m k=wC m (l++k):=by simp [wC]
theorem qEm (m:Mode) (l:List vA) (n:Nat):(wC m l).drop n=wC m (l.drop n):=by simp [wC]
theorem qEl (m:Mode) (l:List vA) (n:Nat):(wC m l).take n=wC m (l.take n):=by simp [wC]
theorem gU (m:Mode) (l:List vA) (i:Nat) (cap_:Int) (list_:List Int) (closed_:Bool):(wC m l).set i [.int .i64 cap_,.sl m 1 (wT list_),.bool closed_]=wC m (l.set i ⟨cap_,list_,closed_⟩):=by simp [wC,aR]
theorem gI (m:Mode) (l:List vA) (i:Nat) (h:i<l.length):(wC m l).getD i []=[.int .i64 (l.getD i default).cap,.sl m 1 (wT (l.getD i default).list),.bool (l.getD i default).closed]:=by simp [wC,aR,List.getD_eq_getElem?_getD,h]
theorem uF (A:Nat→Prop) (m:Mode) (l:List vA):yL A (wC m l)↔True:=by
 simp only [iff_true]
 induction l with
 | nil=>trivial
 | cons x l ih=>exact ⟨by simp [aR,yQ,bnd,zL,jB,uB,jR,vR],ih⟩
theorem bP (l:List vA):nbr (wC .own l)↔True:=by
 simp only [iff_true]
 induction l with
 | nil=>trivial
 | cons x l ih=>exact ⟨by simp [aR,nbs,nb,uA,bS,vI,bB],ih⟩
theorem bD (m:Mode) :∀(l:List vA),bwR (wC m l)=wC .bw l
 | []=>rfl
 | x::l=>by
  have:=bD m l
  simp only [wC,qX6,bwR] at this⊢
  rw [this]
  simp [aR,bwL,bwC,uN,bH,jY,uO]
theorem qNk (l:List vA):free (wC .bw l)↔True:=by
 simp only [iff_true]
 intro r hr c hc
 simp only [wC,qYp] at hr
 obtain ⟨x,_,rfl⟩:=hr
 simp [aR] at hc
 rcases hc with rfl | rfl | rfl<;>rfl
structure gM where
 who:Int
 v:Int
 deriving DecidableEq,Inhabited
def sI (x:gM):List AV:=[.int .i64 x.who,.int .i64 x.v]
def jK (l:List gM):List (List AV):=l.map sI
theorem qGr:jK []=[]:=rfl
theorem lB (l:List gM):(jK l).length=l.length:=by simp [jK]
theorem lC (l k:List gM):jK l++jK k=jK (l++k):=by simp [jK]
theorem qGq (who_:Int) (v_:Int):[[.int .i64 who_,.int .i64 v_]]=jK [⟨who_,v_⟩]:=rfl
theorem qDn (l:List gM) (n:Nat):(jK l).drop n=jK (l.drop n):=by simp [jK]
theorem qDm (l:List gM) (n:Nat):(jK l).take n=jK (l.take n):=by simp [jK]
theorem qQ5 (l:List gM) (i:Nat) (who_:Int) (v_:Int):(jK l).set i [.int .i64 who_,.int .i64 v_]=jK (l.set i ⟨who_,v_⟩):=by simp [jK,sI]
theorem qMk (l:List gM) (i:Nat) (h:i<l.length):(jK l).getD i []=[.int .i64 (l.getD i default).who,.int .i64 (l.getD i default).v]:=by simp [jK,sI,List.getD_eq_getElem?_getD,h]
theorem uS (A:Nat→Prop) (l:List gM):yL A (jK l)↔True:=by
 simp only [iff_true]
 induction l with
 | nil=>trivial
 | cons x l ih=>exact ⟨by simp [sI,yQ,bnd,zL,jB,uB,jR,vR,uF],ih⟩
theorem bA (l:List gM):nbr (jK l)↔True:=by
 simp only [iff_true]
 induction l with
 | nil=>trivial
 | cons x l ih=>exact ⟨by simp [sI,nbs,nb,uA,bS,vI,bB,bP],ih⟩
theorem bN :∀(l:List gM),bwR (jK l)=jK l
 | []=>rfl
 | x::l=>by
  have:=bN l
  simp only [jK,qX6,bwR] at this⊢
  rw [this]
  simp [sI,bwL,bwC,uN,bH,jY,uO,bD]
theorem qMl (l:List gM):free (jK l)↔True:=by
 simp only [iff_true]
 intro r hr c hc
 simp only [jK,qYp] at hr
 obtain ⟨x,_,rfl⟩:=hr
 simp [sI] at hc
 rcases hc with rfl | rfl<;>rfl
structure yT where
 at_:Int
 regs:List Int
 st:Int
 deriving DecidableEq,Inhabited
def cA (m:Mode) (x:yT):List AV:=[.int .i64 x.at_,.sl m 1 (wT x.regs),.int .i64 x.st]
def wR (m:Mode) (l:List yT):List (List AV):=l.map (cA m)
theorem qB3 (m:Mode):wR m []=[]:=rfl
theorem yZ (m:Mode) (l:List yT):(wR m l).length=l.length:=by simp [wR]
theorem cP (m:Mode) (l k:List yT):wR m l++wR m k=wR m (l++k):=by simp [wR]
theorem rR (m:Mode) (l:List yT) (n:Nat):(wR m l).drop n=wR m (l.drop n):=by simp [wR]
theorem rQ (m:Mode) (l:List yT) (n:Nat):(wR m l).take n=wR m (l.take n):=by simp [wR]
theorem qL (m:Mode) (l:List yT) (i:Nat) (at__:Int) (regs_:List Int) (st_:Int):(wR m l).set i [.int .i64 at__,.sl m 1 (wT regs_),.int .i64 st_]=wR m (l.set i ⟨at__,regs_,st_⟩):=by simp [wR,cA]
theorem qP (m:Mode) (l:List yT) (i:Nat) (h:i<l.length):(wR m l).getD i []=[.int .i64 (l.getD i default).at_,.sl m 1 (wT (l.getD i default).regs),.int .i64 (l.getD i default).st]:=by simp [wR,cA,List.getD_eq_getElem?_getD,h]
theorem vE (A:Nat→Prop) (m:Mode) (l:List yT):yL A (wR m l)↔True:=by
 simp only [iff_true]
 induction l with
 | nil=>trivial
 | cons x l ih=>exact ⟨by simp [cA,yQ,bnd,zL,jB,uB,jR,vR,uF,uS],ih⟩
theorem vX (l:List yT):nbr (wR .own l)↔True:=by
 simp only [iff_true]
 induction l with
 | nil=>trivial
 | cons x l ih=>exact ⟨by simp [cA,nbs,nb,uA,bS,vI,bB,bP,bA],ih⟩
theorem vN (m:Mode) :∀(l:List yT),bwR (wR m l)=wR .bw l
 | []=>rfl
 | x::l=>by
  have:=vN m l
  simp only [wR,qX6,bwR] at this⊢
  rw [this]
  simp [cA,bwL,bwC,uN,bH,jY,uO,bD,bN]
theorem qI5 (l:List yT):free (wR .bw l)↔True:=by
 simp only [iff_true]
 intro r hr c hc
 simp only [wR,qYp] at hr
 obtain ⟨x,_,rfl⟩:=hr
 simp [cA] at hc
 rcases hc with rfl | rfl | rfl<;>rfl
structure qF4 where
 sent:List Int
 taken:List Int
 deriving DecidableEq,Inhabited
def qB2 (m:Mode) (x:qF4):List AV:=[.sl m 1 (wT x.sent),.sl m 1 (wT x.taken)]
def zF (m:Mode) (l:List qF4):List (List AV):=l.map (qB2 m)
theorem qPf (m:Mode):zF m []=[]:=rfl
theorem kO (m:Mode) (l:List qF4):(zF m l).length=l.length:=by simp [zF]
theorem qHy (m:Mode) (l k:List qF4):zF m l++zF m k=zF m (l++k):=by simp [zF]
theorem qCo (m:Mode) (l:List qF4) (n:Nat):(zF m l).drop n=zF m (l.drop n):=by simp [zF]
theorem qCn (m:Mode) (l:List qF4) (n:Nat):(zF m l).take n=zF m (l.take n):=by simp [zF]
theorem qPe (m:Mode) (l:List qF4) (i:Nat) (sent_:List Int) (taken_:List Int):(zF m l).set i [.sl m 1 (wT sent_),.sl m 1 (wT taken_)]=zF m (l.set i ⟨sent_,taken_⟩):=by simp [zF,qB2]
theorem gC (A:Nat→Prop) (m:Mode) (l:List qF4):yL A (zF m l)↔True:=by
 simp only [iff_true]
 induction l with
 | nil=>trivial
 | cons x l ih=>exact ⟨by simp [qB2,yQ,bnd,zL,jB,uB,jR,vR,uF,uS,vE],ih⟩
theorem dM (l:List qF4):nbr (zF .own l)↔True:=by
 simp only [iff_true]
 induction l with
 | nil=>trivial
 | cons x l ih=>exact ⟨by simp [qB2,nbs,nb,uA,bS,vI,bB,bP,bA,vX],ih⟩
theorem gW (m:Mode) :∀(l:List qF4),bwR (zF m l)=zF .bw l
 | []=>rfl
 | x::l=>by
  have:=gW m l
  simp only [zF,qX6,bwR] at this⊢
  rw [this]
  simp [qB2,bwL,bwC,uN,bH,jY,uO,bD,bN,vN]
theorem qM5 (l:List qF4):free (zF .bw l)↔True:=by
 simp only [iff_true]
 intro r hr c hc
 simp only [zF,qYp] at hr
 obtain ⟨x,_,rfl⟩:=hr
 simp [qB2] at hc
 rcases hc with rfl | rfl<;>rfl
structure yM where
 caps:List Int
 bods:List (List Ins)
 deriving DecidableEq,Inhabited
def zH (m:Mode) (x:yM):List AV:=[.sl m 1 (wT x.caps),.sl m 1 (yY m x.bods)]
def zG (m:Mode) (l:List yM):List (List AV):=l.map (zH m)
theorem qPy (m:Mode):zG m []=[]:=rfl
theorem kV (m:Mode) (l:List yM):(zG m l).length=l.length:=by simp [zG]
theorem qIh (m:Mode) (l k:List yM):zG m l++zG m k=zG m (l++k):=by simp [zG]
theorem qDd (m:Mode) (l:List yM) (n:Nat):(zG m l).drop n=zG m (l.drop n):=by simp [zG]
theorem qDc (m:Mode) (l:List yM) (n:Nat):(zG m l).take n=zG m (l.take n):=by simp [zG]
theorem qPx (m:Mode) (l:List yM) (i:Nat) (caps_:List Int) (bods_:List (List Ins)):(zG m l).set i [.sl m 1 (wT caps_),.sl m 1 (yY m bods_)]=zG m (l.set i ⟨caps_,bods_⟩):=by simp [zG,zH]
theorem gT (A:Nat→Prop) (m:Mode) (l:List yM):yL A (zG m l)↔True:=by
 simp only [iff_true]
 induction l with
 | nil=>trivial
 | cons x l ih=>exact ⟨by simp [zH,yQ,bnd,zL,jB,uB,jR,vR,uF,uS,vE,gC],ih⟩
theorem dV (l:List yM):nbr (zG .own l)↔True:=by
 simp only [iff_true]
 induction l with
 | nil=>trivial
 | cons x l ih=>exact ⟨by simp [zH,nbs,nb,uA,bS,vI,bB,bP,bA,vX,dM],ih⟩
theorem dP (m:Mode) :∀(l:List yM),bwR (zG m l)=zG .bw l
 | []=>rfl
 | x::l=>by
  have:=dP m l
  simp only [zG,qX6,bwR] at this⊢
  rw [this]
  simp [zH,bwL,bwC,uN,bH,jY,uO,bD,bN,vN,gW]
theorem qMd (l:List yM):free (zG .bw l)↔True:=by
 simp only [iff_true]
 intro r hr c hc
 simp only [zG,qYp] at hr
 obtain ⟨x,_,rfl⟩:=hr
 simp [zH] at hc
 rcases hc with rfl | rfl<;>rfl
structure qW where
 ths:List yT
 chs:List vA
 tr:List gM
 deriving DecidableEq,Inhabited
def vY (m:Mode) (x:qW):List AV:=[.sl m 3 (wR m x.ths),.sl m 3 (wC m x.chs),.sl m 2 (jK x.tr)]
def vT (m:Mode) (l:List qW):List (List AV):=l.map (vY m)
theorem qJy (m:Mode):vT m []=[]:=rfl
theorem cR (m:Mode) (l:List qW):(vT m l).length=l.length:=by simp [vT]
theorem qD1 (m:Mode) (l k:List qW):vT m l++vT m k=vT m (l++k):=by simp [vT]
theorem rX (m:Mode) (l:List qW) (n:Nat):(vT m l).drop n=vT m (l.drop n):=by simp [vT]
theorem rW (m:Mode) (l:List qW) (n:Nat):(vT m l).take n=vT m (l.take n):=by simp [vT]
theorem qJx (m:Mode) (l:List qW) (i:Nat) (ths_:List yT) (chs_:List vA) (tr_:List gM):(vT m l).set i [.sl m 3 (wR m ths_),.sl m 3 (wC m chs_),.sl m 2 (jK tr_)]=vT m (l.set i ⟨ths_,chs_,tr_⟩):=by simp [vT,vY]
theorem uY (A:Nat→Prop) (m:Mode) (l:List qW):yL A (vT m l)↔True:=by
 simp only [iff_true]
 induction l with
 | nil=>trivial
 | cons x l ih=>exact ⟨by simp [vY,yQ,bnd,zL,jB,uB,jR,vR,uF,uS,vE,gC,gT],ih⟩
theorem gH (l:List qW):nbr (vT .own l)↔True:=by
 simp only [iff_true]
 induction l with
 | nil=>trivial
 | cons x l ih=>exact ⟨by simp [vY,nbs,nb,uA,bS,vI,bB,bP,bA,vX,dM,dV],ih⟩
theorem bL (m:Mode) :∀(l:List qW),bwR (vT m l)=vT .bw l
 | []=>rfl
 | x::l=>by
  have:=bL m l
  simp only [vT,qX6,bwR] at this⊢
  rw [this]
  simp [vY,bwL,bwC,uN,bH,jY,uO,bD,bN,vN,gW,dP]
theorem qIa (l:List qW):free (vT .bw l)↔True:=by
 simp only [iff_true]
 intro r hr c hc
 simp only [vT,qYp] at hr
 obtain ⟨x,_,rfl⟩:=hr
 simp [vY] at hc
 rcases hc with rfl | rfl | rfl<;>rfl
def bys (l:List Int):List (List AV):=l.map fun b=>[.int .u8 b]
theorem qV2:bys []=[]:=rfl
theorem rE (l:List Int):(bys l).length=l.length:=by simp [bys]
theorem qNq (l k:List Int):bys l++bys k=bys (l++k):=by simp [bys]
theorem qLl (l:List Int) (n:Nat):(bys l).drop n=bys (l.drop n):=by simp [bys]
theorem qLj (l:List Int) (n:Nat):(bys l).take n=bys (l.take n):=by simp [bys]
theorem qV1 (l:List Int) (i:Nat) (b_:Int):(bys l).set i [.int .u8 b_]=bys (l.set i b_):=by simp [bys]
theorem qLk (l:List Int) (i:Nat) (h:i<l.length):(bys l).getD i []=[.int .u8 (l.getD i 0)]:=by simp [bys,List.getD_eq_getElem?_getD,h]
theorem eI (A:Nat→Prop) (l:List Int):yL A (bys l)↔True:=by
 simp only [iff_true]
 induction l with
 | nil=>trivial
 | cons x l ih=>exact ⟨by simp [yQ,bnd,zL,jB,uB,jR,vR,uF,uS,vE,gC,gT,uY],ih⟩
theorem iI (l:List Int):nbr (bys l)↔True:=by
 simp only [iff_true]
 induction l with
 | nil=>trivial
 | cons x l ih=>exact ⟨by simp [nbs,nb,uA,bS,vI,bB,bP,bA,vX,dM,dV,gH],ih⟩
theorem fG :∀(l:List Int),bwR (bys l)=bys l
 | []=>rfl
 | x::l=>by
  have:=fG l
  simp only [bys,qX6,bwR] at this⊢
  rw [this]
  simp [bwL,bwC,uN,bH,jY,uO,bD,bN,vN,gW,dP,bL]
theorem qTv (l:List Int):free (bys l)↔True:=by
 simp only [iff_true]
 intro r hr c hc
 simp only [bys,qYp] at hr
 obtain ⟨x,_,rfl⟩:=hr
 simp [] at hc
 rcases hc with rfl<;>rfl
structure Cur where
 i:Nat
 h:Int
 deriving Inhabited
def eU (code:List Int) (c:Cur):List AV:=[.sl .fz 1 (bys code),.int .i64 c.i,.int .i64 c.h]
theorem fS:(∀n,del [] n=[])∧(∀m s h n,del ((m,s)::h) n=if n=m then del h n else (m,s)::del h n)∧(∀n r,put [] n r=[(n,r)])∧(∀m s h n r,put ((m,s)::h) n r=if n=m then (m,r)::h else (m,s)::put h n r)∧(∀{α:Type} (a b:α) (l:List α),(a::l).set 0 b=b::l)∧(∀{α:Type} (a b:α) (l:List α) (n:Nat),(a::l).set (n+1) b=a::l.set n b)∧(∀{α:Type} (a b:α),(if True then a else b)=a)∧(∀{α:Type} (a b:α),(if False then a else b)=b)∧(∀l,(wT l).length=l.length)∧(∀l n,(wT l).take n=wT (l.take n))∧(∀l n,(wT l).drop n=wT (l.drop n))∧(∀o l rows,xK o l rows=if o=0∧rows.length=l then rows else (rows.drop o).take l)∧(∀{α:Type} (a:α) (l:List α),(a::l).length=l.length+1)∧(∀{α:Type},([]:List α).length=0)∧(∀p:Prop,(p∧p)=p)∧(∀p:Prop,(p∧True)=p)∧(∀p:Prop,(True∧p)=p)∧(∀l,(vO l).length=l.length)∧(∀m l,(yY m l).length=l.length)∧(∀m l,(zJ m l).length=l.length)∧(∀m l,(wC m l).length=l.length)∧(∀l,(jK l).length=l.length)∧(∀m l,(wR m l).length=l.length)∧(∀m l,(zF m l).length=l.length)∧(∀m l,(zG m l).length=l.length)∧(∀m l,(vT m l).length=l.length)∧(∀l,(bys l).length=l.length)∧(∀{α:Type} (a b:List α),(a++b).length=a.length+b.length)∧(∀{α:Type} (n:Nat) (a:α),(List.replicate n a).length=n)∧(∀{α:Type} (l:List α) (n:Nat) (a:α),(l.set n a).length=l.length):=by
 refine ⟨?_,?_,?_,?_,?_,?_,?_,?_,?_,?_,?_,?_,?_,?_,?_,?_,?_,?_,?_,?_,?_,?_,?_,?_,?_,?_,?_,?_,?_,?_⟩<;>intros<;>simp [del,put,xK,eO,nJ,vJ,lH,cG,lB,yZ,kO,kV,cR,rE]
attribute [go_sem] iC vU qVh qVj qP8 qTe qVk qTb qVi qTi qP7 qTj qTc wH qOu qGv Arg.ev qU gE qUi if_false if_true dR put del eO qAu Option.map_some Option.bind_some qO Int.toNat_natCast qVl qTa qTf gS true_and and_true qKk qKi qKj qBv tN Bool.false_eq_true aD cellsOf yX List.isEmpty_nil List.isEmpty_cons fresh List.map_nil qX6 List.cons_append List.nil_append gG List.take_zero List.drop_zero List.take_succ_cons List.getD_cons_zero List.length_cons List.length_nil List.drop_succ_cons List.drop_nil List.append_nil List.all_cons List.all_nil yS Bool.and_self Nat.zero_add qTg qTh qT9 qP6 qP5 qP3 qP4 qTk qVg qEf qL9 qHc qMc qMe qF3 vB vD xE qHn eX yK apart List.filter_nil List.filter_cons Option.isSome_some Option.isSome_none List.contains_nil List.contains_cons List.forall_mem_cons List.mem_cons List.not_mem_nil false_implies implies_true forall_const forall_eq_or_imp forall_eq or_false beq_self_eq_true Bool.or_false Bool.false_or Bool.true_or Bool.or_true Bool.not_true Bool.not_false xv xo xg xr xi xz List.set_set qDr qBl qHa qHb tC oS qH8 qAo iR eqC eH fT List.replicate_zero decide_true decide_false qE6 qKd List.replicate_succ Int.toNat_zero Int.toNat_one eq_self Bool.and_true Bool.true_and Bool.and_false Bool.false_and List.set_cons_zero List.set_cons_succ List.getD_cons_succ rnm ixm vF aP yH jP cond_true cond_false oP oO tE nJ qKy qH1 qH0 qSv bU vJ qG5 qC0 qBz qNw lH qIs qE5 qE4 qQn cG lQ qEm qEl gU aR lB lC qDn qDm qQ5 sI yZ cP rR rQ qL cA kO qHy qCo qCn qPe qB2 kV qIh qDd qDc qPx zH cR qD1 rX rW qJx vY rE qNq qLl qLj qV1
attribute [simp] iG bwT bwC bwL uN oO qU Arg.ev dQ rF pN qEs zL qIj qCf jB okV okL nb nbs nbr uA qO eO bnd yQ yL vF aP ixm rnm apart eX vB vD fresh yH jP dH qJi bZ fB uU del sS xK oP tE shp okB qKb qGz qQb qS9 qS8 qS3 qMn qS6 qUk qS7 qQa qS4 qUm qS5 aV qGt qT3 qQt qSw bH uB bS nJ qH0 qH1 qQp qNx jY jR vI vJ qBz qC0 qLq qQo uO vR bB lH qE4 qE5 qN0 qHg bD uF bP cG qEl qEm qNk qGr bN uS bA lB qDm qDn qMl qB3 vN vE vX yZ rQ rR qI5 qPf gW gC dM kO qCn qCo qM5 qPy dP gT dV kV qDc qDd qMd qJy bL uY gH cR rW rX qIa qV2 fG eI iI rE qLj qLl qTv eU bU aR sI cA qB2 zH vY
theorem qDo :∀(l:List (List AV)),dI l l
 | []=>by simp [dI]
 | r::l=>(aV r r l l).2 ⟨iX r,qDo l⟩
theorem qGu :∀{a a' b b':List (List AV)},dI a a'→dI b b'→dI (a++b) (a'++b')
 | [],a',b,b',h1,h2=>by
  simp only [dI] at h1
  subst h1
  exact h2
 | r::a,a',b,b',h1,h2=>by
  simp only [dI] at h1
  obtain ⟨d,ds,rfl,h3,h4⟩:=h1
  exact (aV r d _ _).2 ⟨h3,qGu h4 h2⟩
theorem Sub.nilRow (nm:Nat) {t:List (Nat×AV)} {h:wO} {nx sz:Nat} {rows rows':List (List AV)} (hl:qO h nm=some (sz,rows)) (hn:dI rows rows') (hbn:yL (· < nx) rows'):Sub (.mk t h nx) (.mk t (put h nm (sz,rows')) nx):=by
 rintro B a w ⟨h1,h2,hb,hbt,φ,Lf,hl'⟩
 have hlk :∀n,qO (put h nm (sz,rows')) n=if n=nm then some (sz,rows') else qO h n:=fun n=>qDt n
 have hne :∀n,qO (put h nm (sz,rows')) n≠none→qO h n≠none:=fun n hn'=>by
  rw [hlk] at hn'
  split at hn'
  ·rename_i he; rw [he,hl]; simp
  ·exact hn'
 refine ⟨h1,h2,?_,hbt,φ,Lf,⟨hl'.ok.size0,hl'.ok.io0,hl'.ok.fr,hl'.ok.keep0,fun n hn'=>hl'.ok.own0 n (hne n hn'),?_,fun n hn'=>hl'.ok.rh.nodup n (hne n hn'),fun n hn'=>hl'.ok.rh.blk n (hne n hn'),fun n m hn' hm=>hl'.ok.rh.dis n m (hne n hn') (hne m hm),?_⟩,hl'.tm,hl'.φ0,hl'.ten⟩
 ·intro n row hr
  rw [hlk] at hr
  split at hr
  ·rename_i he
   simp only [Option.some.injEq] at hr
   subst hr he
   exact ⟨(hb n _ hl).1,hbn⟩
  ·exact hb n row hr
 ·intro n row hr
  rw [hlk] at hr
  split at hr
  ·rename_i he
   simp only [Option.some.injEq] at hr
   subst hr he
   have:=hl'.ok.rh.row n _ hl
   unfold bF gO at this⊢
   cases hq:(B.env w φ).φ n with
   | dead=>rw [hq] at this; exact this.elim
   | nilp =>
    rw [hq] at this
    simp only at this
    obtain ⟨h3,h4⟩:=this
    rw [h3] at hn
    simp only [dI] at hn
    exact ⟨hn,h4⟩
   | «at» p =>
    rw [hq] at this
    obtain ⟨h3,h4,Lr,h5,h6⟩:=this
    exact ⟨h3,by rw [lD hn]; exact h4,Lr,qDp hn h5,h6⟩
  ·exact hl'.ok.rh.row n row hr
 ·intro n hn'
  rw [hlk] at hn'
  split at hn'
  ·simp at hn'
  ·exact hl'.ok.rh.dead n hn'
theorem Sub.nilLast (nm:Nat) {t:List (Nat×AV)} {h:wO} {nx sz:Nat} {front:List (List AV)} {r r':List AV} (hl:qO h nm=some (sz,front++[r])) (hn:wN r r') (hbn:yL (· < nx) (front++[r'])):Sub (.mk t h nx) (.mk t (put h nm (sz,front++[r'])) nx) :=
 Sub.nilRow nm hl (qGu (qDo front) ((aV r r' [] []).2 ⟨hn,(qGt).2 trivial⟩)) hbn
theorem wD {rs:List qC9} {fp:FP} {v:AV} {s:AS} {t:List (Nat×AV)} {h:wO} {nx:Nat} (hs:Sub s (.mk t h nx)) (h1:qJi (rs.map fun r=>(dH t h r).2)∧(bZ h (rs.map fun r=>(dH t h r).1)).2.2∧wN (bZ h (rs.map fun r=>(dH t h r).1)).1 [v]∧∀x∈fp,qO (bZ h (rs.map fun r=>(dH t h r).1)).2.1 x.1=qO (uU fp) x.1):Fin rs fp v s :=
 ⟨_,hs,wL h1⟩
theorem qIv {rs:List qC9} {fp:FP} {vs:List AV} {s:AS} {t:List (Nat×AV)} {h:wO} {nx:Nat} (h0:vs.length≠1) (hs:Sub s (.mk t h nx)) (h1:qJi (rs.map fun r=>(dH t h r).2)∧(bZ h (rs.map fun r=>(dH t h r).1)).2.2∧wN (bZ h (rs.map fun r=>(dH t h r).1)).1 vs∧∀x∈fp,qO (bZ h (rs.map fun r=>(dH t h r).1)).2.1 x.1=qO (uU fp) x.1):Fin rs fp (.tup vs) s :=
 ⟨_,hs,tS h0 h1⟩
theorem qTs {P:Program} {num:Nat→Nat} {fin:AS→Prop} {op:MOp} {dst:Option Nat} {k:List It} {s:AS} {t:List (Nat×AV)} {h:wO} {nx:Nat} (hs:Sub s (.mk t h nx)) (h1:pM P num fin op dst k (.mk t h nx)):pM P num fin op dst k s:=qRa hs h1
theorem K {p q:Prop} (k:q) (h:p:=by first | omega | (simp [-List.getD_eq_getElem?_getD]; first | done | omega)):p∧q:=⟨h,k⟩
theorem CA {P:Program} {num:Nat→Nat} {fin:AS→Prop} {f nx:Nat} {ps:List Bool} {xs:List Arg} {t:List (Nat×AV)} {h:wO} {fp:FP} {res:AV} {vargs:List AV} {dst:Option Nat} {k:List It} (σ:List (Nat×Nat)) (hc:wJ P num f vargs fp res)
  (hk:vc P num fin k (.mk (gE t dst (yH nx (vF (rnm σ) res)).1) (dR h (fp.map (fun x=>(rnm σ x.1,x.2))++fresh (yH nx (vF (rnm σ) res)).2.1)) (yH nx (vF (rnm σ) res)).2.2))
  (hv:wN (iG (ixm σ) h ps (xs.map (Arg.ev (qU t)))) vargs:=by first | omega | (simp [wN,wP]; done) | (simp [wN,wP, *]; done))
  (hvo:dQ h (fun n =>∃x∈fp,x.2.1≠none∧n=rnm σ x.1∧ixm σ n=x.1) (fun n =>∃x∈fp,n=rnm σ x.1) ps (xs.map (Arg.ev (qU t))):=by first | omega | (simp [wN,wP]; done) | (simp [wN,wP, *]; done))
  (hnd:(fp.map (fun x=>rnm σ x.1)).Nodup:=by first | (simp [wN,wP]; done) | (simp [wN,wP, *]; done))
  (hpre :∀x∈fp,qO h (rnm σ x.1)=x.2.1∧(x.2.1=none→nx≤rnm σ x.1)∧rnm σ x.1<nx:=by first | (simp [wN,wP]; done) | (simp [wN,wP, *]; done))
  (hnb :∀x∈fp,(∀r,x.2.1=some r→nbr r.2)∧(∀r,x.2.2=some r→nbr r.2):=by first | (simp [wN,wP]; done) | (simp [wN,wP, *]; done))
  (hres:okV (fun k =>∃x∈fp,x.1=k∧x.2.2≠none) res:=by first | (simp [wN,wP]; done) | (simp [wN,wP, *]; done)):pM P num fin (.call f ps xs) dst k (.mk t h nx) :=
 fX (qEq σ hc hv hvo hnd hpre hnb hres) hk
theorem DA {P:Program} {num:Nat→Nat} {fin:AS→Prop} {f nx:Nat} {ps:List Bool} {xs:List Arg} {t:List (Nat×AV)} {h:wO} {fp:FP} {res:AV} {vargs:List AV} {pend:List (Nat×List Nat)} {dst:Option Nat} {tr:uK} {k:List It} (σ:List (Nat×Nat)) (hc:wJ P num f vargs fp res)
  (hk:vc P num fin (.draw tr pend::k) (.mk (gE t dst (yH nx (vF (rnm σ) res)).1) (dR h (fp.map (fun x=>(rnm σ x.1,x.2))++fresh (yH nx (vF (rnm σ) res)).2.1)) (yH nx (vF (rnm σ) res)).2.2))
  (hv:wN (iG (ixm σ) h ps (xs.map (Arg.ev (qU t)))) vargs:=by first | omega | (simp [wN,wP]; done) | (simp [wN,wP, *]; done))
  (hvo:dQ h (fun n =>∃x∈fp,x.2.1≠none∧n=rnm σ x.1∧ixm σ n=x.1) (fun n =>∃x∈fp,n=rnm σ x.1) ps (xs.map (Arg.ev (qU t))):=by first | omega | (simp [wN,wP]; done) | (simp [wN,wP, *]; done))
  (hnd:(fp.map (fun x=>rnm σ x.1)).Nodup:=by first | (simp [wN,wP]; done) | (simp [wN,wP, *]; done))
  (hpre :∀x∈fp,qO h (rnm σ x.1)=x.2.1∧(x.2.1=none→nx≤rnm σ x.1)∧rnm σ x.1<nx:=by first | (simp [wN,wP]; done) | (simp [wN,wP, *]; done))
  (hnb :∀x∈fp,(∀r,x.2.1=some r→nbr r.2)∧(∀r,x.2.2=some r→nbr r.2):=by first | (simp [wN,wP]; done) | (simp [wN,wP, *]; done))
  (hres:okV (fun k =>∃x∈fp,x.1=k∧x.2.2≠none) res:=by first | (simp [wN,wP]; done) | (simp [wN,wP, *]; done))
  (ha:apart pend (fp.map (fun x=>(rnm σ x.1,x.2))++fresh (yH nx (vF (rnm σ) res)).2.1):=by first | (simp [wN,wP]; done) | (simp [wN,wP, *]; done)):qP9 P num fin (.call f ps xs) pend dst tr k t h nx :=
 qBm (qEq σ hc hv hvo hnd hpre hnb hres) ha hk
def qDs (k:Int) (n:Nat):List Int:=(List.range n).map fun (i:Nat)=>k+i
@[simp] theorem qUo (k:Int) (n:Nat):(qDs k n).length=n:=by simp [qDs]
@[simp] theorem qVw (k:Int) (n:Nat):(qDs k n).take n=qDs k n:=List.take_of_length_le (by simp)
theorem qBo (xs:List Int) (hx:8*xs.length≤2^47):wJ Try.prog num 36 [.sl .bw 1 (wT xs)] [] (.sl .own 1 (wT xs)):=by
 refine EN m36 Try.func71 ?_
 unfold m36
 simp only [go_sem,seval]
 repeat refine K ?_
 refine fz ?_; simp [jD,wN,wP,yA,-qYt]
def qS (n lo hi:Int):Bool:=decide (lo≤n)&&decide (n≤hi)
theorem qK {n lo hi:Int}:qS n lo hi=true↔lo≤n∧n≤hi:=by simp [qS]
def uG (b:Bool):Int:=if b then 1 else 0
theorem gB (n lo hi:Int):wJ Try.prog num 59 [.int .i64 n,.int .i64 lo,.int .i64 hi] [] (.bool (qS n lo hi)):=by
 refine EN m59 Try.func56 ?_
 unfold m59
 by_cases h1:lo≤n<;>by_cases h2:n≤hi<;>(simp only [go_sem,seval,h1,h2]; refine fz ?_; simp [jD,wN,wP,yA,-qYt]; simp [qS,h1,h2])
theorem sP (n lo hi:Int):wJ Try.prog num 64 [.int .i64 n,.int .i64 lo,.int .i64 hi] [] (.bool (qS n lo hi)):=by
 refine EN m64 Try.func57 ?_
 unfold m64
 by_cases h1:lo≤n<;>by_cases h2:n≤hi<;>(simp only [go_sem,seval,h1,h2]; refine fz ?_; simp [jD,wN,wP,yA,-qYt]; simp [qS,h1,h2])
theorem iV (b:Bool):wJ Try.prog num 78 [.bool b] [] (.int .i64 (uG b)):=by
 refine EN m78 Try.func84 ?_
 unfold m78
 cases b<;>(simp only [go_sem,seval]; refine fz ?_; simp [jD,wN,wP,yA,-qYt]; simp [uG])
theorem qSm (b:Bool):wJ Try.prog num 85 [.bool b] [] (.int .i64 (uG b)):=by
 refine EN m85 Try.func85 ?_
 unfold m85
 cases b<;>(simp only [go_sem,seval]; refine fz ?_; simp [jD,wN,wP,yA,-qYt]; simp [uG])
theorem qKu (n:Int):wJ Try.prog num 97 [.int .i64 n] [] (.bool (qS n 0 3)):=by
 refine EN m97 Try.func54 ?_
 unfold m97
 simp only [go_sem,seval]
 refine CA [] (gB n 0 3) ?_
 try simp only [go_sem,seval]
 refine fz ?_; simp [jD,wN,wP,yA,-qYt]
theorem qGm (n:Int):wJ Try.prog num 44 [.int .i64 n] [] (.bool (qS n 5 9)):=by
 refine EN m44 Try.func91 ?_
 unfold m44
 simp only [go_sem,seval]
 refine CA [] (gB n 5 9) ?_
 try simp only [go_sem,seval]
 refine fz ?_; simp [jD,wN,wP,yA,-qYt]
theorem qJ0 (l:List gM) (hx:16*l.length≤2^47):wJ Try.prog num 69 [.sl .bw 2 (jK l)] [] (.sl .own 2 (jK l)):=by
 refine EN m69 Try.func70 ?_
 unfold m69
 simp only [go_sem,seval]
 repeat refine K ?_
 refine fz ?_; simp [jD,wN,wP,yA,-qYt]
theorem fV (c:vA) (hx:8*c.list.length≤2^47):wJ Try.prog num 70 [.agg (aR .bw c)] [] (.agg (aR .own c)):=by
 refine EN m70 Try.func72 ?_
 unfold m70
 simp only [go_sem,seval]
 refine CA [] (qBo c.list hx) ?_
 try simp only [go_sem,seval]
 refine fz ?_; simp [jD,wN,wP,yA,-qYt]
def jQ (c:vA):Bool:=qS c.cap 1 4&&decide ((c.list.length:Int)≤c.cap)
theorem eE (c:vA):wJ Try.prog num 72 [.agg (aR .bw c)] [] (.bool (jQ c)):=by
 refine EN m72 Try.func69 ?_
 unfold m72
 simp only [go_sem,seval]
 refine CA [] (gB c.cap 1 4) ?_
 try simp only [go_sem,seval]
 cases h:qS c.cap 1 4
 ·simp only [go_sem,seval,h]
  refine fz ?_; simp [jD,wN,wP,yA,-qYt]
  simp [jQ,h]
 ·simp only [go_sem,seval,h]
  refine fz ?_; simp [jD,wN,wP,yA,-qYt]
  simp [jQ,h]
def jL (x:Ins) (pl ch:Int):Bool :=
 qS x.r 0 3&&qS x.a 0 3&&qS x.b 0 3&&qS ch 0 3 &&
 (if x.op=1 then qS x.n (-1000000000) 1000000000&&decide (x.a=0)&&decide (x.b=0)
  else if x.op=2∨x.op=3∨x.op=4 then decide (x.n=0)
  else if x.op=5 then qS x.n 0 (ch-1)&&decide (x.r=0)&&decide (x.b=0)
  else if x.op=6∨x.op=8 then qS x.n 0 (ch-1)&&decide (x.a=0)&&!decide (x.r=x.b)
  else if x.op=7 then qS x.n 0 (ch-1)&&decide (x.b=0)
  else if x.op=9 then qS x.n 0 (ch-1)&&decide (x.r=0)&&decide (x.a=0)&&decide (x.b=0)
  else if x.op=10 then decide (x.r=0)&&decide (x.b=0)&&decide (x.n=0)
  else if x.op=11 then decide (0≤x.n)&&decide (x.n<pl)&&decide (x.r=0)&&decide (x.a=0)&&decide (x.b=0)
  else if x.op=12 then decide (0≤x.n)&&decide (x.n<pl)&&decide (x.r=0)&&decide (x.b=0)
  else if x.op=13 then decide (x.op=13)&&(decide (x.r=0)&&(decide (x.a=0)&&(decide (x.b=0)&&decide (x.n=0))))
  else false)
def qBc (x:Ins):Ins :=
 if x.op=1 then ⟨x.op,x.r,0,0,x.n⟩
 else if x.op=2∨x.op=3∨x.op=4 then ⟨x.op,x.r,x.a,x.b,0⟩
 else if x.op=5∨x.op=12 then ⟨x.op,0,x.a,0,x.n⟩
 else if x.op=6∨x.op=8 then ⟨x.op,x.r,0,x.b,x.n⟩
 else if x.op=7 then ⟨x.op,x.r,x.a,0,x.n⟩
 else if x.op=9∨x.op=11 then ⟨x.op,0,0,0,x.n⟩
 else if x.op=10 then ⟨x.op,0,x.a,0,0⟩
 else ⟨x.op,0,0,0,0⟩
def nL (x:Ins) (pl ch:Int):Bool :=
 qS ch 0 3&&qS x.op 1 13&&(decide (x.op=(qBc x).op)&&(decide (x.r=(qBc x).r)&&(decide (x.a=(qBc x).a)&&(decide (x.b=(qBc x).b)&&decide (x.n=(qBc x).n))))) &&
 qS x.r 0 3&&qS x.a 0 3&&qS x.b 0 3 &&
 (if x.op=1 then qS x.n (-1000000000) 1000000000
  else if x.op=11∨x.op=12 then qS x.n 0 (pl-1)
  else if (x.op=6∨x.op=8)∧x.r=x.b then false
  else !qS x.op 5 9||qS x.n 0 (ch-1))
theorem qKe (x:Ins):wJ Try.prog num 96 [.agg (bU x)] [] (.agg (bU (qBc x))):=by
 refine EN m96 Try.func90 ?_
 unfold m96
 repeat' (first
  | (simp only [go_sem,seval])
  | (refine qX (fun hc=>?_) (fun hc=>?_)<;>((try simp only [qYu,qYv,ne_eq,qYw,qYx] at hc)<;>(try simp only [hc])))
  | (refine xZ (fun hc=>?_) (fun hc=>?_)<;>((try simp only [qYu,qYv,ne_eq,qYw,qYx] at hc)<;>(try simp only [hc])))
  | (refine zV (fun hc=>?_) (fun hc=>?_)<;>((try simp only [qYu,qYv,ne_eq,qYw,qYx] at hc)<;>(try simp only [hc])))
  | (refine ⟨by first | omega | (simp; done),?_⟩)
  | fail)
 all_goals (refine fz ?_; simp [jD,wN,wP,yA,-qYt])
 all_goals (try (simp_all [qBc]; done))
theorem tW (n lo hi:Int):qS n lo hi=decide (lo≤n∧n≤hi):=by simp [qS]
theorem oQ (x:Ins) (pl ch:Int):nL x pl ch=jL x pl ch:=by
 obtain ⟨op,r,a,b,n⟩:=x
 by_cases h:1≤op∧op≤13
 ·obtain rfl | rfl | rfl | rfl | rfl | rfl | rfl | rfl | rfl | rfl | rfl | rfl | rfl:op=1∨op=2∨op=3∨op=4∨op=5∨op=6∨op=7∨op=8∨op=9∨op=10∨op=11∨op=12∨op=13:=by omega
  all_goals (rw [Bool.eq_iff_iff]; simp [nL,jL,qBc,tW]; try omega)
 ·have h1 :¬op=1:=by omega
  have h2 :¬op=2:=by omega
  have h3 :¬op=3:=by omega
  have h4 :¬op=4:=by omega
  have h5 :¬op=5:=by omega
  have h6 :¬op=6:=by omega
  have h7 :¬op=7:=by omega
  have h8 :¬op=8:=by omega
  have h9 :¬op=9:=by omega
  have h10 :¬op=10:=by omega
  have h11 :¬op=11:=by omega
  have h12 :¬op=12:=by omega
  have h13 :¬op=13:=by omega
  have hw:qS op 1 13=false:=by rw [tW]; simp; omega
  simp [nL,jL,hw,h1,h2,h3,h4,h5,h6,h7,h8,h9,h10,h11,h12,h13]
end Go.Sep
