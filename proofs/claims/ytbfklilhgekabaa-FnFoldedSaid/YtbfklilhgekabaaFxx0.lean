/- Contracts of functions. -/
import Derived.Test.YtbfklilhgekabaaFzFns
open Bool renaming not_eq_false → wAy, not_eq_false' → wAw, not_eq_true → wAx, not_eq_true' → wAv
open List renaming drop_one → wAu, getD_eq_getElem?_getD → qZc, map_cons → qZ7, mem_map → wAq
namespace Go.Sep
set_option maxHeartbeats 16000000
open Go.Proofs
set_option linter.unusedSimpArgs false
set_option linter.unusedVariables false
set_option maxRecDepth 100000
def m36:MFn:=⟨6,[.t 2],kr [xo 2 (.mv (.c (.nil)))] (kR [xo 3 (.mkSl [xz] 0 []),xv 4 0,xA 5 1 8 3 4,xv 2 5])⟩
def m44:MFn:=⟨5,[.t 2],kr [xF 2] (kR [xv 3 0,xc3 4 59 (.t 3) (xi 5) (xi 9),xv 2 4])⟩
def m59:MFn:=⟨15,[.t 6],kr [xF 6] (kR [xv 7 0,xv 8 1,bT 9 .geq 7 8,xv 10 9,yv 11 0 10,yv 12 2 10,xg 13 (.bin .leq (.t 11) (.t 12)) 10 true,xP 14 10 13,xv 6 14])⟩
def m64:MFn:=⟨15,[.t 6],kr [xF 6] (kR [xv 7 0,xv 8 1,bT 9 .geq 7 8,xv 10 9,yv 11 0 10,yv 12 2 10,xg 13 (.bin .leq (.t 11) (.t 12)) 10 true,xP 14 10 13,xv 6 14])⟩
def m69:MFn:=⟨6,[.t 2],kr [xo 2 (.mv (.c (.nil)))] (kR [xo 3 (.mkSl [xz,xz] 0 []),xv 4 0,xA 5 2 16 3 4,xv 2 5])⟩
def m70:MFn:=⟨8,[.cell 2 3 true],kr [xb 1 0,xo 2 (.alloc [.int .i64 0,.nil,.bool false])] (kr [xa 3 1 1,xl 4 3,xc1 5 36 (.t 4),xa 6 1 1,xS 1 6 5] (kR [xm 7 3 1,xS 3 2 7]))⟩
def m72:MFn:=⟨14,[.t 2],kr [xb 1 0,xF 2] (kR [xa 3 0 1,xl 4 3,xc3 5 59 (.t 4) (xi 1) (xi 4),xv 6 5,ya 7 1 1 6,yl 8 1 7 6,ye 9 8 6,ya 10 0 1 6,yl 11 1 10 6,xg 12 (.bin .leq (.t 9) (.t 11)) 6 true,xP 13 6 12,xv 2 13])⟩
def m78:MFn:=⟨4,[.t 2],kr [xI 2 0] (.seq (kr [xv 3 0] (kF 3 [xI 2 1])) (kR [xI 2 0]))⟩
def m85:MFn:=⟨4,[.t 2],kr [xI 2 0] (.seq (kr [xv 3 0] (kF 3 [xI 2 1])) (kR [xI 2 0]))⟩
def m96:MFn:=⟨74,[.cell 2 5 true],kr [xb 1 0,xo 2 (.alloc [xz,xz,xz,xz,xz])] (kr [xa 4 0 1,xl 5 4,xo 6 (.build [xz,xz,xz,xz,xz] [(0,1,.t 5)]),xo 3 (.alloc [xz,xz,xz,xz,xz]),xS 5 3 6] (.seq (kr [xa 7 0 1,xl 8 7] (.blk 0 (kr [bI 10 .eql 8 1,xv 9 10] (.cond 9 (.dreg (.take 0 (xa 11 1 1) (.take 1 (xl 12 11) (.take 2 (xa 13 4 1) (.take 3 (xl 14 13) (.only 4 [0,1] (xa 15 1 3) (.only 5 [0,1] (xS 1 15 12) (.only 6 [0,1,2,3] (xa 16 4 3) (.only 7 [0,1,2,3] (xS 1 16 14) (.done)))))))))) (.seq (kr [bI 18 .eql 8 2,xv 17 18] (.cond 17 (.skip) (kr [bI 19 .eql 8 3,xv 17 19] (.cond 17 (.skip) (xr [bI 20 .eql 8 4,xv 17 20]))))) (.cond 17 (.dreg (.take 0 (xa 21 1 1) (.take 1 (xl 22 21) (.take 2 (xa 23 2 1) (.take 3 (xl 24 23) (.take 4 (xa 25 3 1) (.take 5 (xl 26 25) (.only 6 [0,1] (xa 27 1 3) (.only 7 [0,1] (xS 1 27 22) (.only 8 [0,1,2,3] (xa 28 2 3) (.only 9 [0,1,2,3] (xS 1 28 24) (.only 10 [0,1,2,3,4,5] (xa 29 3 3) (.only 11 [0,1,2,3,4,5] (xS 1 29 26) (.done)))))))))))))) (.seq (kr [bI 31 .eql 8 5,xv 30 31] (.cond 30 (.skip) (xr [bI 32 .eql 8 12,xv 30 32]))) (.cond 30 (.dreg (.take 0 (xa 33 2 1) (.take 1 (xl 34 33) (.take 2 (xa 35 4 1) (.take 3 (xl 36 35) (.only 4 [0,1] (xa 37 2 3) (.only 5 [0,1] (xS 1 37 34) (.only 6 [0,1,2,3] (xa 38 4 3) (.only 7 [0,1,2,3] (xS 1 38 36) (.done)))))))))) (.seq (kr [bI 40 .eql 8 6,xv 39 40] (.cond 39 (.skip) (xr [bI 41 .eql 8 8,xv 39 41]))) (.cond 39 (.dreg (.take 0 (xa 42 1 1) (.take 1 (xl 43 42) (.take 2 (xa 44 3 1) (.take 3 (xl 45 44) (.take 4 (xa 46 4 1) (.take 5 (xl 47 46) (.only 6 [0,1] (xa 48 1 3) (.only 7 [0,1] (xS 1 48 43) (.only 8 [0,1,2,3] (xa 49 3 3) (.only 9 [0,1,2,3] (xS 1 49 45) (.only 10 [0,1,2,3,4,5] (xa 50 4 3) (.only 11 [0,1,2,3,4,5] (xS 1 50 47) (.done)))))))))))))) (kr [bI 52 .eql 8 7,xv 51 52] (.cond 51 (.dreg (.take 0 (xa 53 1 1) (.take 1 (xl 54 53) (.take 2 (xa 55 2 1) (.take 3 (xl 56 55) (.take 4 (xa 57 4 1) (.take 5 (xl 58 57) (.only 6 [0,1] (xa 59 1 3) (.only 7 [0,1] (xS 1 59 54) (.only 8 [0,1,2,3] (xa 60 2 3) (.only 9 [0,1,2,3] (xS 1 60 56) (.only 10 [0,1,2,3,4,5] (xa 61 4 3) (.only 11 [0,1,2,3,4,5] (xS 1 61 58) (.done)))))))))))))) (.seq (kr [bI 63 .eql 8 9,xv 62 63] (.cond 62 (.skip) (xr [bI 64 .eql 8 11,xv 62 64]))) (.cond 62 (xr [xa 65 4 1,xl 66 65,xa 67 4 3,xS 1 67 66]) (kr [bI 69 .eql 8 10,xv 68 69] (.cond 68 (xr [xa 70 2 1,xl 71 70,xa 72 2 3,xS 1 72 71]) (.skip))))))))))))))))) (kR [xm 73 5 3,xS 5 2 73])))⟩
def m97:MFn:=⟨5,[.t 2],kr [xF 2] (kR [xv 3 0,xc3 4 59 (.t 3) (xi 0) (xi 3),xv 2 4])⟩
attribute [local go_sem] kE vY qXj qXl qR4 qVe qXm qVb qXk qVi qR3 qVj qVc wO qQq qIb Arg.ev wE bV qWg if_false if_true dR put del cH qC4 Option.map_some Option.bind_some qQ Int.toNat_natCast qXn qVa qVf gW true_and and_true qM8 qM6 qM7 qD3 qAz Bool.false_eq_true aM cellsOf yW List.isEmpty_nil List.isEmpty_cons fresh List.map_nil qZ7 List.cons_append List.nil_append gK List.take_zero List.drop_zero List.take_succ_cons List.getD_cons_zero List.length_cons List.length_nil List.drop_succ_cons List.drop_nil List.append_nil List.all_cons List.all_nil yR Bool.and_self Nat.zero_add qVg qVh qV9 qR2 qR1 qQz qR0 qVk qXi qFu qN3 qIu qO8 qOa qGj vG vI xM qJ8 cS yO apart List.filter_nil List.filter_cons Option.isSome_some Option.isSome_none List.contains_nil List.contains_cons List.forall_mem_cons List.mem_cons List.not_mem_nil false_implies implies_true forall_const forall_eq_or_imp forall_eq or_false beq_self_eq_true Bool.or_false Bool.false_or Bool.true_or Bool.or_true Bool.not_true Bool.not_false xv xo xg xr xi xz List.set_set qF6 qCu qIs qIt qAn rL qIp qBy kT eqC eZ iO List.replicate_zero decide_true decide_false qFj qM1 List.replicate_succ Int.toNat_zero Int.toNat_one eq_self Bool.and_true Bool.true_and Bool.and_false Bool.false_and List.set_cons_zero List.set_cons_succ List.getD_cons_succ rnm ixm jU eD yD jP cond_true cond_false rG rF qAp
attribute [local simp] fW bwT bwC bwL uS rF wE Arg.ev gV tE sG qG7 zS qK6 qDr yZ okV okL nb nbs nbr uF qQ cH bnd jL yX jU eD ixm rnm apart cS vG vI fresh yD jP dM qL5 gG fX uX del qAg xV rG qAp shp okB qLz qIf
theorem qB3 {rs:List qDl} {fp:FP} {vs:List AV} {t:List (Nat×AV)} {h:wU} {nx:Nat} (h0:vs.length≠1) (h1:qL5 (rs.map fun r=>(dM t h r).2)∧(gG h (rs.map fun r=>(dM t h r).1)).2.2∧wB (gG h (rs.map fun r=>(dM t h r).1)).1 vs∧∀x∈fp,qQ (gG h (rs.map fun r=>(dM t h r).1)).2.1 x.1=qQ (uX fp) x.1):yK rs fp (.tup vs) (.mk t h nx):=by
 refine ⟨h1.1,h1.2.1,⟨vs,h1.2.2.1,?_⟩,h1.2.2.2⟩
 match vs,h0 with
 | [],_=>rfl
 | [_],h0=>exact absurd rfl h0
 | _::_::_,_=>rfl
theorem wI {rs:List qDl} {fp:FP} {v:AV} {t:List (Nat×AV)} {h:wU} {nx:Nat} (h1:qL5 (rs.map fun r=>(dM t h r).2)∧(gG h (rs.map fun r=>(dM t h r).1)).2.2∧wB (gG h (rs.map fun r=>(dM t h r).1)).1 [v]∧∀x∈fp,qQ (gG h (rs.map fun r=>(dM t h r).1)).2.1 x.1=qQ (uX fp) x.1):yK rs fp v (.mk t h nx) :=
 ⟨h1.1,h1.2.1,⟨[v],h1.2.2.1,rfl⟩,h1.2.2.2⟩
theorem qS7 (c d:AV) (cs ds:List AV):wB (c::cs) (d::ds)↔wC c d∧wB cs ds:=by
 simp only [wB,List.cons.injEq]
 exact ⟨fun ⟨_,_,⟨h1,h2⟩,h3,h4⟩=>by subst h1 h2; exact ⟨h3,h4⟩,fun ⟨h3,h4⟩=>⟨_,_,⟨rfl,rfl⟩,h3,h4⟩⟩
theorem qU8:wB [] []↔True:=by simp [wB]
theorem qU7 (cs ds:List AV):wC (.agg cs) (.agg ds)↔wB cs ds:=by simp [wC]
theorem qU2 (cs ds:List AV):wC (.tup cs) (.tup ds)↔wB cs ds:=by simp [wC]
theorem qOi (m:Mode) (sz:Nat):wC .nil (.sl m sz [])↔True:=by simp [wC]
theorem qU5:wC .nil .nil↔True:=by simp [wC]
theorem qWi (m:Mode) (sz:Nat) (rows:List (List AV)) (d:AV):wC (.sl m sz rows) d↔.sl m sz rows=d:=by simp [wC]
theorem qU6 (k:IntKind) (n:Int) (d:AV):wC (.int k n) d↔.int k n=d:=by simp [wC]
theorem qS6 (b:Bool) (d:AV):wC (.bool b) d↔.bool b=d:=by simp [wC]
theorem qU3 (s:ByteArray) (d:AV):wC (.str s) d↔.str s=d:=by simp [wC]
theorem qWk (k o l:Nat) (d:AV):wC (.ns k o l) d↔.ns k o l=d:=by simp [wC]
theorem qU4 (k o l:Nat) (d:AV):wC (.ptr k o l) d↔.ptr k o l=d:=by simp [wC]
theorem eL (r d:List AV) (rs ds:List (List AV)):dO (r::rs) (d::ds)↔wB r d∧dO rs ds:=by
 simp only [dO,List.cons.injEq]
 exact ⟨fun ⟨_,_,⟨h1,h2⟩,h3,h4⟩=>by subst h1 h2; exact ⟨h3,h4⟩,fun ⟨h3,h4⟩=>⟨_,_,⟨rfl,rfl⟩,h3,h4⟩⟩
theorem qI9:dO [] []↔True:=by simp [dO]
theorem qV2:free []↔True:=by simp [free]
theorem qSp (r:List AV) (rs:List (List AV)):free (r::rs)↔(∀c∈r,qAg c=false)∧free rs:=by simp [free]
structure Ins where
 op:Int
 r:Int
 a:Int
 b:Int
 n:Int
 deriving DecidableEq,Inhabited
def vU (x:Ins):List AV:=[.int .i64 x.op,.int .i64 x.r,.int .i64 x.a,.int .i64 x.b,.int .i64 x.n]
def jG (l:List Ins):List (List AV):=l.map vU
theorem qUv:jG []=[]:=rfl
theorem oX (l:List Ins):(jG l).length=l.length:=by simp [jG]
theorem qMm (l k:List Ins):jG l++jG k=jG (l++k):=by simp [jG]
theorem qIi (l:List Ins) (n:Nat):(jG l).drop n=jG (l.drop n):=by simp [jG]
theorem qIg (l:List Ins) (n:Nat):(jG l).take n=jG (l.take n):=by simp [jG]
theorem qUu (l:List Ins) (i:Nat) (op_:Int) (r_:Int) (a_:Int) (b_:Int) (n_:Int):(jG l).set i [.int .i64 op_,.int .i64 r_,.int .i64 a_,.int .i64 b_,.int .i64 n_]=jG (l.set i ⟨op_,r_,a_,b_,n_⟩):=by simp [jG,vU]
theorem vB (l:List Ins) (i:Nat) (h:i<l.length):(jG l).getD i []=[.int .i64 (l.getD i default).op,.int .i64 (l.getD i default).r,.int .i64 (l.getD i default).a,.int .i64 (l.getD i default).b,.int .i64 (l.getD i default).n]:=by simp [jG,vU,List.getD_eq_getElem?_getD,h]
theorem uG (A:Nat→Prop) (l:List Ins):yX A (jG l)↔True:=by
 simp only [iff_true]
 induction l with
 | nil=>trivial
 | cons x l ih=>exact ⟨by simp [vU,jL,bnd,zS,yZ],ih⟩
theorem gA (l:List Ins):nbr (jG l)↔True:=by
 simp only [iff_true]
 induction l with
 | nil=>trivial
 | cons x l ih=>exact ⟨by simp [vU,nbs,nb,uF],ih⟩
theorem bL :∀(l:List Ins),bwR (jG l)=jG l
 | []=>rfl
 | x::l=>by
  have:=bL l
  simp only [jG,qZ7,bwR] at this⊢
  rw [this]
  simp [vU,bwL,bwC,uS]
theorem qSl (l:List Ins):free (jG l)↔True:=by
 simp only [iff_true]
 intro r hr c hc
 simp only [jG,wAq] at hr
 obtain ⟨x,_,rfl⟩:=hr
 simp [vU] at hc
 rcases hc with rfl | rfl | rfl | rfl | rfl<;>rfl
def yU (m:Mode) (l:List (List Ins)):List (List AV):=l.map fun b=>[.sl m 5 (jG b)]
theorem qGf (m:Mode):yU m []=[]:=rfl
theorem cB (m:Mode) (l:List (List Ins)):(yU m l).length=l.length:=by simp [yU]
theorem qHo (m:Mode) (l k:List (List Ins)):yU m l++yU m k=yU m (l++k):=by simp [yU]
theorem qD9 (m:Mode) (l:List (List Ins)) (n:Nat):(yU m l).drop n=yU m (l.drop n):=by simp [yU]
theorem qD8 (m:Mode) (l:List (List Ins)) (n:Nat):(yU m l).take n=yU m (l.take n):=by simp [yU]
theorem qGe (m:Mode) (l:List (List Ins)) (i:Nat) (b_:List Ins):(yU m l).set i [.sl m 5 (jG b_)]=yU m (l.set i b_):=by simp [yU]
theorem qX (m:Mode) (l:List (List Ins)) (i:Nat) (h:i<l.length):(yU m l).getD i []=[.sl m 5 (jG (l.getD i []))]:=by simp [yU,List.getD_eq_getElem?_getD,h]
theorem jR (A:Nat→Prop) (m:Mode) (l:List (List Ins)):yX A (yU m l)↔True:=by
 simp only [iff_true]
 induction l with
 | nil=>trivial
 | cons x l ih=>exact ⟨by simp [jL,bnd,zS,yZ,uG],ih⟩
theorem vM (l:List (List Ins)):nbr (yU .own l)↔True:=by
 simp only [iff_true]
 induction l with
 | nil=>trivial
 | cons x l ih=>exact ⟨by simp [nbs,nb,uF,gA],ih⟩
theorem vD (m:Mode) :∀(l:List (List Ins)),bwR (yU m l)=yU .bw l
 | []=>rfl
 | x::l=>by
  have:=vD m l
  simp only [yU,qZ7,bwR] at this⊢
  rw [this]
  simp [bwL,bwC,uS,bL]
theorem qNl (l:List (List Ins)):free (yU .bw l)↔True:=by
 simp only [iff_true]
 intro r hr c hc
 simp only [yU,wAq] at hr
 obtain ⟨x,_,rfl⟩:=hr
 simp [] at hc
 rcases hc with rfl<;>rfl
def zQ (m:Mode) (l:List (List Int)):List (List AV):=l.map fun b=>[.sl m 1 (wR b)]
theorem qSk (m:Mode):zQ m []=[]:=rfl
theorem mJ (m:Mode) (l:List (List Int)):(zQ m l).length=l.length:=by simp [zQ]
theorem qKf (m:Mode) (l k:List (List Int)):zQ m l++zQ m k=zQ m (l++k):=by simp [zQ]
theorem qFi (m:Mode) (l:List (List Int)) (n:Nat):(zQ m l).drop n=zQ m (l.drop n):=by simp [zQ]
theorem qFh (m:Mode) (l:List (List Int)) (n:Nat):(zQ m l).take n=zQ m (l.take n):=by simp [zQ]
theorem qSj (m:Mode) (l:List (List Int)) (i:Nat) (b_:List Int):(zQ m l).set i [.sl m 1 (wR b_)]=zQ m (l.set i b_):=by simp [zQ]
theorem vT (A:Nat→Prop) (m:Mode) (l:List (List Int)):yX A (zQ m l)↔True:=by
 simp only [iff_true]
 induction l with
 | nil=>trivial
 | cons x l ih=>exact ⟨by simp [jL,bnd,zS,yZ,uG,jR],ih⟩
theorem bE (l:List (List Int)):nbr (zQ .own l)↔True:=by
 simp only [iff_true]
 induction l with
 | nil=>trivial
 | cons x l ih=>exact ⟨by simp [nbs,nb,uF,gA,vM],ih⟩
theorem uT (m:Mode) :∀(l:List (List Int)),bwR (zQ m l)=zQ .bw l
 | []=>rfl
 | x::l=>by
  have:=uT m l
  simp only [zQ,qZ7,bwR] at this⊢
  rw [this]
  simp [bwL,bwC,uS,bL,vD]
theorem qOw (l:List (List Int)):free (zQ .bw l)↔True:=by
 simp only [iff_true]
 intro r hr c hc
 simp only [zQ,wAq] at hr
 obtain ⟨x,_,rfl⟩:=hr
 simp [] at hc
 rcases hc with rfl<;>rfl
structure vF where
 cap:Int
 list:List Int
 closed:Bool
 deriving DecidableEq,Inhabited
def eG (m:Mode) (x:vF):List AV:=[.int .i64 x.cap,.sl m 1 (wR x.list),.bool x.closed]
def wH (m:Mode) (l:List vF):List (List AV):=l.map (eG m)
theorem qT4 (m:Mode):wH m []=[]:=rfl
theorem cZ (m:Mode) (l:List vF):(wH m l).length=l.length:=by simp [wH]
theorem mU (m:Mode) (l k:List vF):wH m l++wH m k=wH m (l++k):=by simp [wH]
theorem qG1 (m:Mode) (l:List vF) (n:Nat):(wH m l).drop n=wH m (l.drop n):=by simp [wH]
theorem qG0 (m:Mode) (l:List vF) (n:Nat):(wH m l).take n=wH m (l.take n):=by simp [wH]
theorem gY (m:Mode) (l:List vF) (i:Nat) (cap_:Int) (list_:List Int) (closed_:Bool):(wH m l).set i [.int .i64 cap_,.sl m 1 (wR list_),.bool closed_]=wH m (l.set i ⟨cap_,list_,closed_⟩):=by simp [wH,eG]
theorem bP (m:Mode) (l:List vF) (i:Nat) (h:i<l.length):(wH m l).getD i []=[.int .i64 (l.getD i default).cap,.sl m 1 (wR (l.getD i default).list),.bool (l.getD i default).closed]:=by simp [wH,eG,List.getD_eq_getElem?_getD,h]
theorem uJ (A:Nat→Prop) (m:Mode) (l:List vF):yX A (wH m l)↔True:=by
 simp only [iff_true]
 induction l with
 | nil=>trivial
 | cons x l ih=>exact ⟨by simp [eG,jL,bnd,zS,yZ,uG,jR,vT],ih⟩
theorem bS (l:List vF):nbr (wH .own l)↔True:=by
 simp only [iff_true]
 induction l with
 | nil=>trivial
 | cons x l ih=>exact ⟨by simp [eG,nbs,nb,uF,gA,vM,bE],ih⟩
theorem bF (m:Mode) :∀(l:List vF),bwR (wH m l)=wH .bw l
 | []=>rfl
 | x::l=>by
  have:=bF m l
  simp only [wH,qZ7,bwR] at this⊢
  rw [this]
  simp [eG,bwL,bwC,uS,bL,vD,uT]
theorem qPh (l:List vF):free (wH .bw l)↔True:=by
 simp only [iff_true]
 intro r hr c hc
 simp only [wH,wAq] at hr
 obtain ⟨x,_,rfl⟩:=hr
 simp [eG] at hc
 rcases hc with rfl | rfl | rfl<;>rfl
structure gJ where
 who:Int
 v:Int
 deriving DecidableEq,Inhabited
def qA6 (x:gJ):List AV:=[.int .i64 x.who,.int .i64 x.v]
def jC (l:List gJ):List (List AV):=l.map qA6
theorem qS1:jC []=[]:=rfl
theorem mE (l:List gJ):(jC l).length=l.length:=by simp [jC]
theorem mF (l k:List gJ):jC l++jC k=jC (l++k):=by simp [jC]
theorem qI7 (who_:Int) (v_:Int):[[.int .i64 who_,.int .i64 v_]]=jC [⟨who_,v_⟩]:=rfl
theorem qF2 (l:List gJ) (n:Nat):(jC l).drop n=jC (l.drop n):=by simp [jC]
theorem qF1 (l:List gJ) (n:Nat):(jC l).take n=jC (l.take n):=by simp [jC]
theorem qRz (l:List gJ) (i:Nat) (who_:Int) (v_:Int):(jC l).set i [.int .i64 who_,.int .i64 v_]=jC (l.set i ⟨who_,v_⟩):=by simp [jC,qA6]
theorem sR (l:List gJ) (i:Nat) (h:i<l.length):(jC l).getD i []=[.int .i64 (l.getD i default).who,.int .i64 (l.getD i default).v]:=by simp [jC,qA6,List.getD_eq_getElem?_getD,h]
theorem uV (A:Nat→Prop) (l:List gJ):yX A (jC l)↔True:=by
 simp only [iff_true]
 induction l with
 | nil=>trivial
 | cons x l ih=>exact ⟨by simp [qA6,jL,bnd,zS,yZ,uG,jR,vT,uJ],ih⟩
theorem bD (l:List gJ):nbr (jC l)↔True:=by
 simp only [iff_true]
 induction l with
 | nil=>trivial
 | cons x l ih=>exact ⟨by simp [qA6,nbs,nb,uF,gA,vM,bE,bS],ih⟩
theorem bR :∀(l:List gJ),bwR (jC l)=jC l
 | []=>rfl
 | x::l=>by
  have:=bR l
  simp only [jC,qZ7,bwR] at this⊢
  rw [this]
  simp [qA6,bwL,bwC,uS,bL,vD,uT,bF]
theorem qOg (l:List gJ):free (jC l)↔True:=by
 simp only [iff_true]
 intro r hr c hc
 simp only [jC,wAq] at hr
 obtain ⟨x,_,rfl⟩:=hr
 simp [qA6] at hc
 rcases hc with rfl | rfl<;>rfl
structure yS where
 at_:Int
 regs:List Int
 st:Int
 deriving DecidableEq,Inhabited
def cV (m:Mode) (x:yS):List AV:=[.int .i64 x.at_,.sl m 1 (wR x.regs),.int .i64 x.st]
def yM (m:Mode) (l:List yS):List (List AV):=l.map (cV m)
theorem qLg (m:Mode):yM m []=[]:=rfl
theorem dV (m:Mode) (l:List yS):(yM m l).length=l.length:=by simp [yM]
theorem fI (m:Mode) (l k:List yS):yM m l++yM m k=yM m (l++k):=by simp [yM]
theorem tP (m:Mode) (l:List yS) (n:Nat):(yM m l).drop n=yM m (l.drop n):=by simp [yM]
theorem tO (m:Mode) (l:List yS) (n:Nat):(yM m l).take n=yM m (l.take n):=by simp [yM]
theorem qM (m:Mode) (l:List yS) (i:Nat) (at__:Int) (regs_:List Int) (st_:Int):(yM m l).set i [.int .i64 at__,.sl m 1 (wR regs_),.int .i64 st_]=yM m (l.set i ⟨at__,regs_,st_⟩):=by simp [yM,cV]
theorem qT (m:Mode) (l:List yS) (i:Nat) (h:i<l.length):(yM m l).getD i []=[.int .i64 (l.getD i default).at_,.sl m 1 (wR (l.getD i default).regs),.int .i64 (l.getD i default).st]:=by simp [yM,cV,List.getD_eq_getElem?_getD,h]
theorem vJ (A:Nat→Prop) (m:Mode) (l:List yS):yX A (yM m l)↔True:=by
 simp only [iff_true]
 induction l with
 | nil=>trivial
 | cons x l ih=>exact ⟨by simp [cV,jL,bnd,zS,yZ,uG,jR,vT,uJ,uV],ih⟩
theorem uC (l:List yS):nbr (yM .own l)↔True:=by
 simp only [iff_true]
 induction l with
 | nil=>trivial
 | cons x l ih=>exact ⟨by simp [cV,nbs,nb,uF,gA,vM,bE,bS,bD],ih⟩
theorem vQ (m:Mode) :∀(l:List yS),bwR (yM m l)=yM .bw l
 | []=>rfl
 | x::l=>by
  have:=vQ m l
  simp only [yM,qZ7,bwR] at this⊢
  rw [this]
  simp [cV,bwL,bwC,uS,bL,vD,uT,bF,bR]
theorem qJp (l:List yS):free (yM .bw l)↔True:=by
 simp only [iff_true]
 intro r hr c hc
 simp only [yM,wAq] at hr
 obtain ⟨x,_,rfl⟩:=hr
 simp [cV] at hc
 rcases hc with rfl | rfl | rfl<;>rfl
structure qGk where
 sent:List Int
 taken:List Int
 deriving DecidableEq,Inhabited
def qCc (m:Mode) (x:qGk):List AV:=[.sl m 1 (wR x.sent),.sl m 1 (wR x.taken)]
def zM (m:Mode) (l:List qGk):List (List AV):=l.map (qCc m)
theorem qRa (m:Mode):zM m []=[]:=rfl
theorem lT (m:Mode) (l:List qGk):(zM m l).length=l.length:=by simp [zM]
theorem qJi (m:Mode) (l k:List qGk):zM m l++zM m k=zM m (l++k):=by simp [zM]
theorem qE1 (m:Mode) (l:List qGk) (n:Nat):(zM m l).drop n=zM m (l.drop n):=by simp [zM]
theorem qE0 (m:Mode) (l:List qGk) (n:Nat):(zM m l).take n=zM m (l.take n):=by simp [zM]
theorem qR9 (m:Mode) (l:List qGk) (i:Nat) (sent_:List Int) (taken_:List Int):(zM m l).set i [.sl m 1 (wR sent_),.sl m 1 (wR taken_)]=zM m (l.set i ⟨sent_,taken_⟩):=by simp [zM,qCc]
theorem gI (A:Nat→Prop) (m:Mode) (l:List qGk):yX A (zM m l)↔True:=by
 simp only [iff_true]
 induction l with
 | nil=>trivial
 | cons x l ih=>exact ⟨by simp [qCc,jL,bnd,zS,yZ,uG,jR,vT,uJ,uV,vJ],ih⟩
theorem dT (l:List qGk):nbr (zM .own l)↔True:=by
 simp only [iff_true]
 induction l with
 | nil=>trivial
 | cons x l ih=>exact ⟨by simp [qCc,nbs,nb,uF,gA,vM,bE,bS,bD,uC],ih⟩
theorem dA (m:Mode) :∀(l:List qGk),bwR (zM m l)=zM .bw l
 | []=>rfl
 | x::l=>by
  have:=dA m l
  simp only [zM,qZ7,bwR] at this⊢
  rw [this]
  simp [qCc,bwL,bwC,uS,bL,vD,uT,bF,bR,vQ]
theorem qO1 (l:List qGk):free (zM .bw l)↔True:=by
 simp only [iff_true]
 intro r hr c hc
 simp only [zM,wAq] at hr
 obtain ⟨x,_,rfl⟩:=hr
 simp [qCc] at hc
 rcases hc with rfl | rfl<;>rfl
structure wV where
 caps:List Int
 bods:List (List Ins)
 deriving DecidableEq,Inhabited
def vN (m:Mode) (x:wV):List AV:=[.sl m 1 (wR x.caps),.sl m 1 (yU m x.bods)]
def zO (m:Mode) (l:List wV):List (List AV):=l.map (vN m)
theorem qRs (m:Mode):zO m []=[]:=rfl
theorem lZ (m:Mode) (l:List wV):(zO m l).length=l.length:=by simp [zO]
theorem qK4 (m:Mode) (l k:List wV):zO m l++zO m k=zO m (l++k):=by simp [zO]
theorem qEs (m:Mode) (l:List wV) (n:Nat):(zO m l).drop n=zO m (l.drop n):=by simp [zO]
theorem qEr (m:Mode) (l:List wV) (n:Nat):(zO m l).take n=zO m (l.take n):=by simp [zO]
theorem qRr (m:Mode) (l:List wV) (i:Nat) (caps_:List Int) (bods_:List (List Ins)):(zO m l).set i [.sl m 1 (wR caps_),.sl m 1 (yU m bods_)]=zO m (l.set i ⟨caps_,bods_⟩):=by simp [zO,vN]
theorem gX (A:Nat→Prop) (m:Mode) (l:List wV):yX A (zO m l)↔True:=by
 simp only [iff_true]
 induction l with
 | nil=>trivial
 | cons x l ih=>exact ⟨by simp [vN,jL,bnd,zS,yZ,uG,jR,vT,uJ,uV,vJ,gI],ih⟩
theorem zE (l:List wV):nbr (zO .own l)↔True:=by
 simp only [iff_true]
 induction l with
 | nil=>trivial
 | cons x l ih=>exact ⟨by simp [vN,nbs,nb,uF,gA,vM,bE,bS,bD,uC,dT],ih⟩
theorem dY (m:Mode) :∀(l:List wV),bwR (zO m l)=zO .bw l
 | []=>rfl
 | x::l=>by
  have:=dY m l
  simp only [zO,qZ7,bwR] at this⊢
  rw [this]
  simp [vN,bwL,bwC,uS,bL,vD,uT,bF,bR,vQ,dA]
theorem qO9 (l:List wV):free (zO .bw l)↔True:=by
 simp only [iff_true]
 intro r hr c hc
 simp only [zO,wAq] at hr
 obtain ⟨x,_,rfl⟩:=hr
 simp [vN] at hc
 rcases hc with rfl | rfl<;>rfl
structure qV where
 ths:List yS
 chs:List vF
 tr:List gJ
 deriving DecidableEq,Inhabited
def vA (m:Mode) (x:qV):List AV:=[.sl m 3 (yM m x.ths),.sl m 3 (wH m x.chs),.sl m 2 (jC x.tr)]
def vX (m:Mode) (l:List qV):List (List AV):=l.map (vA m)
theorem qLl (m:Mode):vX m []=[]:=rfl
theorem fK (m:Mode) (l:List qV):(vX m l).length=l.length:=by simp [vX]
theorem qEd (m:Mode) (l k:List qV):vX m l++vX m k=vX m (l++k):=by simp [vX]
theorem tV (m:Mode) (l:List qV) (n:Nat):(vX m l).drop n=vX m (l.drop n):=by simp [vX]
theorem tU (m:Mode) (l:List qV) (n:Nat):(vX m l).take n=vX m (l.take n):=by simp [vX]
theorem qLk (m:Mode) (l:List qV) (i:Nat) (ths_:List yS) (chs_:List vF) (tr_:List gJ):(vX m l).set i [.sl m 3 (yM m ths_),.sl m 3 (wH m chs_),.sl m 2 (jC tr_)]=vX m (l.set i ⟨ths_,chs_,tr_⟩):=by simp [vX,vA]
theorem bC (A:Nat→Prop) (m:Mode) (l:List qV):yX A (vX m l)↔True:=by
 simp only [iff_true]
 induction l with
 | nil=>trivial
 | cons x l ih=>exact ⟨by simp [vA,jL,bnd,zS,yZ,uG,jR,vT,uJ,uV,vJ,gI,gX],ih⟩
theorem gL (l:List qV):nbr (vX .own l)↔True:=by
 simp only [iff_true]
 induction l with
 | nil=>trivial
 | cons x l ih=>exact ⟨by simp [vA,nbs,nb,uF,gA,vM,bE,bS,bD,uC,dT,zE],ih⟩
theorem bO (m:Mode) :∀(l:List qV),bwR (vX m l)=vX .bw l
 | []=>rfl
 | x::l=>by
  have:=bO m l
  simp only [vX,qZ7,bwR] at this⊢
  rw [this]
  simp [vA,bwL,bwC,uS,bL,vD,uT,bF,bR,vQ,dA,dY]
theorem qJv (l:List qV):free (vX .bw l)↔True:=by
 simp only [iff_true]
 intro r hr c hc
 simp only [vX,wAq] at hr
 obtain ⟨x,_,rfl⟩:=hr
 simp [vA] at hc
 rcases hc with rfl | rfl | rfl<;>rfl
def bys (l:List Int):List (List AV):=l.map fun b=>[.int .u8 b]
theorem qX1:bys []=[]:=rfl
theorem tD (l:List Int):(bys l).length=l.length:=by simp [bys]
theorem qPo (l k:List Int):bys l++bys k=bys (l++k):=by simp [bys]
theorem qNh (l:List Int) (n:Nat):(bys l).drop n=bys (l.drop n):=by simp [bys]
theorem qNf (l:List Int) (n:Nat):(bys l).take n=bys (l.take n):=by simp [bys]
theorem qX0 (l:List Int) (i:Nat) (b_:Int):(bys l).set i [.int .u8 b_]=bys (l.set i b_):=by simp [bys]
theorem qNg (l:List Int) (i:Nat) (h:i<l.length):(bys l).getD i []=[.int .u8 (l.getD i 0)]:=by simp [bys,List.getD_eq_getElem?_getD,h]
theorem cA (A:Nat→Prop) (l:List Int):yX A (bys l)↔True:=by
 simp only [iff_true]
 induction l with
 | nil=>trivial
 | cons x l ih=>exact ⟨by simp [jL,bnd,zS,yZ,uG,jR,vT,uJ,uV,vJ,gI,gX,bC],ih⟩
theorem kK (l:List Int):nbr (bys l)↔True:=by
 simp only [iff_true]
 induction l with
 | nil=>trivial
 | cons x l ih=>exact ⟨by simp [nbs,nb,uF,gA,vM,bE,bS,bD,uC,dT,zE,gL],ih⟩
theorem hZ :∀(l:List Int),bwR (bys l)=bys l
 | []=>rfl
 | x::l=>by
  have:=hZ l
  simp only [bys,qZ7,bwR] at this⊢
  rw [this]
  simp [bwL,bwC,uS,bL,vD,uT,bF,bR,vQ,dA,dY,bO]
theorem qVt (l:List Int):free (bys l)↔True:=by
 simp only [iff_true]
 intro r hr c hc
 simp only [bys,wAq] at hr
 obtain ⟨x,_,rfl⟩:=hr
 simp [] at hc
 rcases hc with rfl<;>rfl
structure Cur where
 i:Nat
 h:Int
 deriving Inhabited
def aY (code:List Int) (c:Cur):List AV:=[.sl .fz 1 (bys code),.int .i64 c.i,.int .i64 c.h]
theorem fS:(∀n,del [] n=[])∧(∀m s h n,del ((m,s)::h) n=if n=m then del h n else (m,s)::del h n)∧(∀n r,put [] n r=[(n,r)])∧(∀m s h n r,put ((m,s)::h) n r=if n=m then (m,r)::h else (m,s)::put h n r)∧(∀{α:Type} (a b:α) (l:List α),(a::l).set 0 b=b::l)∧(∀{α:Type} (a b:α) (l:List α) (n:Nat),(a::l).set (n+1) b=a::l.set n b)∧(∀{α:Type} (a b:α),(if True then a else b)=a)∧(∀{α:Type} (a b:α),(if False then a else b)=b)∧(∀l,(wR l).length=l.length)∧(∀l n,(wR l).take n=wR (l.take n))∧(∀l n,(wR l).drop n=wR (l.drop n))∧(∀o l rows,xV o l rows=if o=0∧rows.length=l then rows else (rows.drop o).take l)∧(∀{α:Type} (a:α) (l:List α),(a::l).length=l.length+1)∧(∀{α:Type},([]:List α).length=0)∧(∀p:Prop,(p∧p)=p)∧(∀p:Prop,(p∧True)=p)∧(∀p:Prop,(True∧p)=p)∧(∀l,(jG l).length=l.length)∧(∀m l,(yU m l).length=l.length)∧(∀m l,(zQ m l).length=l.length)∧(∀m l,(wH m l).length=l.length)∧(∀l,(jC l).length=l.length)∧(∀m l,(yM m l).length=l.length)∧(∀m l,(zM m l).length=l.length)∧(∀m l,(zO m l).length=l.length)∧(∀m l,(vX m l).length=l.length)∧(∀l,(bys l).length=l.length)∧(∀{α:Type} (a b:List α),(a++b).length=a.length+b.length)∧(∀{α:Type} (n:Nat) (a:α),(List.replicate n a).length=n)∧(∀{α:Type} (l:List α) (n:Nat) (a:α),(l.set n a).length=l.length):=by
 refine ⟨?_,?_,?_,?_,?_,?_,?_,?_,?_,?_,?_,?_,?_,?_,?_,?_,?_,?_,?_,?_,?_,?_,?_,?_,?_,?_,?_,?_,?_,?_⟩<;>intros<;>simp [del,put,xV,cH,oX,cB,mJ,cZ,mE,dV,lT,lZ,fK,tD]
attribute [go_sem] kE vY qXj qXl qR4 qVe qXm qVb qXk qVi qR3 qVj qVc wO qQq qIb Arg.ev wE bV qWg if_false if_true dR put del cH qC4 Option.map_some Option.bind_some qQ Int.toNat_natCast qXn qVa qVf gW true_and and_true qM8 qM6 qM7 qD3 qAz Bool.false_eq_true aM cellsOf yW List.isEmpty_nil List.isEmpty_cons fresh List.map_nil qZ7 List.cons_append List.nil_append gK List.take_zero List.drop_zero List.take_succ_cons List.getD_cons_zero List.length_cons List.length_nil List.drop_succ_cons List.drop_nil List.append_nil List.all_cons List.all_nil yR Bool.and_self Nat.zero_add qVg qVh qV9 qR2 qR1 qQz qR0 qVk qXi qFu qN3 qIu qO8 qOa qGj vG vI xM qJ8 cS yO apart List.filter_nil List.filter_cons Option.isSome_some Option.isSome_none List.contains_nil List.contains_cons List.forall_mem_cons List.mem_cons List.not_mem_nil false_implies implies_true forall_const forall_eq_or_imp forall_eq or_false beq_self_eq_true Bool.or_false Bool.false_or Bool.true_or Bool.or_true Bool.not_true Bool.not_false xv xo xg xr xi xz List.set_set qF6 qCu qIs qIt qAn rL qIp qBy kT eqC eZ iO List.replicate_zero decide_true decide_false qFj qM1 List.replicate_succ Int.toNat_zero Int.toNat_one eq_self Bool.and_true Bool.true_and Bool.and_false Bool.false_and List.set_cons_zero List.set_cons_succ List.getD_cons_succ rnm ixm jU eD yD jP cond_true cond_false rG rF qAp oX qMm qIi qIg qUu vU cB qHo qD9 qD8 qGe mJ qKf qFi qFh qSj cZ mU qG1 qG0 gY eG mE mF qF2 qF1 qRz qA6 dV fI tP tO qM cV lT qJi qE1 qE0 qR9 qCc lZ qK4 qEs qEr qRr vN fK qEd tV tU qLk vA tD qPo qNh qNf qX0
attribute [simp] fW bwT bwC bwL uS rF wE Arg.ev gV tE sG qG7 zS qK6 qDr yZ okV okL nb nbs nbr uF qQ cH bnd jL yX jU eD ixm rnm apart cS vG vI fresh yD jP dM qL5 gG fX uX del qAg xV rG qAp shp okB qLz qIf qS7 qU8 qU7 qU2 qOi qU5 qWi qU6 qS6 qU3 qWk qU4 eL qI9 qV2 qSp qUv bL uG gA oX qIg qIi qSl qGf vD jR vM cB qD8 qD9 qNl qSk uT vT bE mJ qFh qFi qOw qT4 bF uJ bS cZ qG0 qG1 qPh qS1 bR uV bD mE qF1 qF2 qOg qLg vQ vJ uC dV tO tP qJp qRa dA gI dT lT qE0 qE1 qO1 qRs dY gX zE lZ qEr qEs qO9 qLl bO bC gL fK tU tV qJv qX1 hZ cA kK tD qNf qNh qVt aY vU eG qA6 cV qCc vN vA
theorem qF3 :∀(l:List (List AV)),dO l l
 | []=>by simp [dO]
 | r::l=>(eL r r l l).2 ⟨lA r,qF3 l⟩
theorem qIa :∀{a a' b b':List (List AV)},dO a a'→dO b b'→dO (a++b) (a'++b')
 | [],a',b,b',h1,h2=>by
  simp only [dO] at h1
  subst h1
  exact h2
 | r::a,a',b,b',h1,h2=>by
  simp only [dO] at h1
  obtain ⟨d,ds,rfl,h3,h4⟩:=h1
  exact (eL r d _ _).2 ⟨h3,qIa h4 h2⟩
theorem Sub.nilRow (nm:Nat) {t:List (Nat×AV)} {h:wU} {nx sz:Nat} {rows rows':List (List AV)} (hl:qQ h nm=some (sz,rows)) (hn:dO rows rows') (hbn:yX (· < nx) rows'):Sub (.mk t h nx) (.mk t (put h nm (sz,rows')) nx):=by
 rintro B a w ⟨h1,h2,hb,hbt,φ,Lf,hl'⟩
 have hlk :∀n,qQ (put h nm (sz,rows')) n=if n=nm then some (sz,rows') else qQ h n:=fun n=>qF8 n
 have hne :∀n,qQ (put h nm (sz,rows')) n≠none→qQ h n≠none:=fun n hn'=>by
  rw [hlk] at hn'
  split at hn'
  ·rename_i he; rw [he,hl]; simp
  ·exact hn'
 refine ⟨h1,h2,?_,hbt,φ,Lf,⟨hl'.ok.size0,hl'.ok.io0,hl'.ok.fr,hl'.ok.keep0,fun n hn'=>hl'.ok.own0 n (hne n hn'),?_,fun n hn'=>hl'.ok.rh.nodup n (hne n hn'),fun n hn'=>hl'.ok.rh.blk n (hne n hn'),fun n m hn' hm=>hl'.ok.rh.dis n m (hne n hn') (hne m hm),?_⟩,hl'.tm,hl'.φ0,hl'.ten⟩
 ·intro n row hr
  rw [hlk] at hr
  split at hr
  ·rename_i he
   simp only [Option.some.injEq] at hr
   subst hr he
   exact ⟨(hb n _ hl).1,hbn⟩
  ·exact hb n row hr
 ·intro n row hr
  rw [hlk] at hr
  split at hr
  ·rename_i he
   simp only [Option.some.injEq] at hr
   subst hr he
   have:=hl'.ok.rh.row n _ hl
   unfold bH gR at this⊢
   cases hq:(B.env w φ).φ n with
   | dead=>rw [hq] at this; exact this.elim
   | nilp =>
    rw [hq] at this
    simp only at this
    obtain ⟨h3,h4⟩:=this
    rw [h3] at hn
    simp only [dO] at hn
    exact ⟨hn,h4⟩
   | «at» p =>
    rw [hq] at this
    obtain ⟨h3,h4,Lr,h5,h6⟩:=this
    exact ⟨h3,by rw [mG hn]; exact h4,Lr,qF4 hn h5,h6⟩
  ·exact hl'.ok.rh.row n row hr
 ·intro n hn'
  rw [hlk] at hn'
  split at hn'
  ·simp at hn'
  ·exact hl'.ok.rh.dead n hn'
theorem Sub.nilLast (nm:Nat) {t:List (Nat×AV)} {h:wU} {nx sz:Nat} {front:List (List AV)} {r r':List AV} (hl:qQ h nm=some (sz,front++[r])) (hn:wB r r') (hbn:yX (· < nx) (front++[r'])):Sub (.mk t h nx) (.mk t (put h nm (sz,front++[r'])) nx) :=
 Sub.nilRow nm hl (qIa (qF3 front) ((eL r r' [] []).2 ⟨hn,(qI9).2 trivial⟩)) hbn
theorem wG {rs:List qDl} {fp:FP} {v:AV} {s:AS} {t:List (Nat×AV)} {h:wU} {nx:Nat} (hs:Sub s (.mk t h nx)) (h1:qL5 (rs.map fun r=>(dM t h r).2)∧(gG h (rs.map fun r=>(dM t h r).1)).2.2∧wB (gG h (rs.map fun r=>(dM t h r).1)).1 [v]∧∀x∈fp,qQ (gG h (rs.map fun r=>(dM t h r).1)).2.1 x.1=qQ (uX fp) x.1):Fin rs fp v s :=
 ⟨_,hs,wI h1⟩
theorem rK {rs:List qDl} {fp:FP} {vs:List AV} {s:AS} {t:List (Nat×AV)} {h:wU} {nx:Nat} (h0:vs.length≠1) (hs:Sub s (.mk t h nx)) (h1:qL5 (rs.map fun r=>(dM t h r).2)∧(gG h (rs.map fun r=>(dM t h r).1)).2.2∧wB (gG h (rs.map fun r=>(dM t h r).1)).1 vs∧∀x∈fp,qQ (gG h (rs.map fun r=>(dM t h r).1)).2.1 x.1=qQ (uX fp) x.1):Fin rs fp (.tup vs) s :=
 ⟨_,hs,qB3 h0 h1⟩
theorem K {p q:Prop} (k:q) (h:p:=by first | omega | (simp [-List.getD_eq_getElem?_getD]; first | done | omega)):p∧q:=⟨h,k⟩
theorem CA {P:Program} {num:Nat→Nat} {fin:AS→Prop} {f nx:Nat} {ps:List Bool} {xs:List Arg} {t:List (Nat×AV)} {h:wU} {fp:FP} {res:AV} {vargs:List AV} {dst:Option Nat} {k:List It} (σ:List (Nat×Nat)) (hc:wA P num f vargs fp res)
  (hk:vc P num fin k (.mk (bV t dst (yD nx (jU (rnm σ) res)).1) (dR h (fp.map (fun x=>(rnm σ x.1,x.2))++fresh (yD nx (jU (rnm σ) res)).2.1)) (yD nx (jU (rnm σ) res)).2.2))
  (hv:wB (fW (ixm σ) h ps (xs.map (Arg.ev (wE t)))) vargs:=by first | omega | (simp [wB,wC]; done) | (simp [wB,wC, *]; done))
  (hvo:gV h (fun n =>∃x∈fp,x.2.1≠none∧n=rnm σ x.1∧ixm σ n=x.1) (fun n =>∃x∈fp,n=rnm σ x.1) ps (xs.map (Arg.ev (wE t))):=by first | omega | (simp [wB,wC]; done) | (simp [wB,wC, *]; done))
  (hnd:(fp.map (fun x=>rnm σ x.1)).Nodup:=by first | (simp [wB,wC]; done) | (simp [wB,wC, *]; done))
  (hpre :∀x∈fp,qQ h (rnm σ x.1)=x.2.1∧(x.2.1=none→nx≤rnm σ x.1)∧rnm σ x.1<nx:=by first | (simp [wB,wC]; done) | (simp [wB,wC, *]; done))
  (hnb :∀x∈fp,(∀r,x.2.1=some r→nbr r.2)∧(∀r,x.2.2=some r→nbr r.2):=by first | (simp [wB,wC]; done) | (simp [wB,wC, *]; done))
  (hres:okV (fun k =>∃x∈fp,x.1=k∧x.2.2≠none) res:=by first | (simp [wB,wC]; done) | (simp [wB,wC, *]; done)):qJ1 P num fin (.call f ps xs) dst k (.mk t h nx) :=
 zW (qG5 σ hc hv hvo hnd hpre hnb hres) hk
theorem DA {P:Program} {num:Nat→Nat} {fin:AS→Prop} {f nx:Nat} {ps:List Bool} {xs:List Arg} {t:List (Nat×AV)} {h:wU} {fp:FP} {res:AV} {vargs:List AV} {pend:List (Nat×List Nat)} {dst:Option Nat} {tr:uA} {k:List It} (σ:List (Nat×Nat)) (hc:wA P num f vargs fp res)
  (hk:vc P num fin (.draw tr pend::k) (.mk (bV t dst (yD nx (jU (rnm σ) res)).1) (dR h (fp.map (fun x=>(rnm σ x.1,x.2))++fresh (yD nx (jU (rnm σ) res)).2.1)) (yD nx (jU (rnm σ) res)).2.2))
  (hv:wB (fW (ixm σ) h ps (xs.map (Arg.ev (wE t)))) vargs:=by first | omega | (simp [wB,wC]; done) | (simp [wB,wC, *]; done))
  (hvo:gV h (fun n =>∃x∈fp,x.2.1≠none∧n=rnm σ x.1∧ixm σ n=x.1) (fun n =>∃x∈fp,n=rnm σ x.1) ps (xs.map (Arg.ev (wE t))):=by first | omega | (simp [wB,wC]; done) | (simp [wB,wC, *]; done))
  (hnd:(fp.map (fun x=>rnm σ x.1)).Nodup:=by first | (simp [wB,wC]; done) | (simp [wB,wC, *]; done))
  (hpre :∀x∈fp,qQ h (rnm σ x.1)=x.2.1∧(x.2.1=none→nx≤rnm σ x.1)∧rnm σ x.1<nx:=by first | (simp [wB,wC]; done) | (simp [wB,wC, *]; done))
  (hnb :∀x∈fp,(∀r,x.2.1=some r→nbr r.2)∧(∀r,x.2.2=some r→nbr r.2):=by first | (simp [wB,wC]; done) | (simp [wB,wC, *]; done))
  (hres:okV (fun k =>∃x∈fp,x.1=k∧x.2.2≠none) res:=by first | (simp [wB,wC]; done) | (simp [wB,wC, *]; done))
  (ha:apart pend (fp.map (fun x=>(rnm σ x.1,x.2))++fresh (yD nx (jU (rnm σ) res)).2.1):=by first | (simp [wB,wC]; done) | (simp [wB,wC, *]; done)):qIv P num fin (.call f ps xs) pend dst tr k t h nx :=
 pD (qG5 σ hc hv hvo hnd hpre hnb hres) ha hk
theorem DAV {P:Program} {num:Nat→Nat} {fin:AS→Prop} {f nx:Nat} {y:Arg} {xs:List Arg} {t:List (Nat×AV)} {h:wU} {fp:FP} {res:AV} {vargs:List AV} {pend:List (Nat×List Nat)} {dst:Option Nat} {tr:uA} {k:List It} (σ:List (Nat×Nat)) (hc:wA P num f vargs fp res)
  (hk:vc P num fin (.draw tr pend::k) (.mk (bV t dst (yD nx (jU (rnm σ) res)).1) (dR h (fp.map (fun x=>(rnm σ x.1,x.2))++fresh (yD nx (jU (rnm σ) res)).2.1)) (yD nx (jU (rnm σ) res)).2.2))
  (hy:y.ev (wE t)=.fn f []:=by first | rfl | (simp; done) | (simp [*]; done))
  (hv:wB (fW (ixm σ) h (xs.map fun _=>false) (xs.map (Arg.ev (wE t)))) vargs:=by first | omega | (simp [wB,wC]; done) | (simp [wB,wC, *]; done))
  (hvo:gV h (fun n =>∃x∈fp,x.2.1≠none∧n=rnm σ x.1∧ixm σ n=x.1) (fun n =>∃x∈fp,n=rnm σ x.1) (xs.map fun _=>false) (xs.map (Arg.ev (wE t))):=by first | omega | (simp [wB,wC]; done) | (simp [wB,wC, *]; done))
  (hnd:(fp.map (fun x=>rnm σ x.1)).Nodup:=by first | (simp [wB,wC]; done) | (simp [wB,wC, *]; done))
  (hpre :∀x∈fp,qQ h (rnm σ x.1)=x.2.1∧(x.2.1=none→nx≤rnm σ x.1)∧rnm σ x.1<nx:=by first | (simp [wB,wC]; done) | (simp [wB,wC, *]; done))
  (hnb :∀x∈fp,(∀r,x.2.1=some r→nbr r.2)∧(∀r,x.2.2=some r→nbr r.2):=by first | (simp [wB,wC]; done) | (simp [wB,wC, *]; done))
  (hres:okV (fun k =>∃x∈fp,x.1=k∧x.2.2≠none) res:=by first | (simp [wB,wC]; done) | (simp [wB,wC, *]; done))
  (ha:apart pend (fp.map (fun x=>(rnm σ x.1,x.2))++fresh (yD nx (jU (rnm σ) res)).2.1):=by first | (simp [wB,wC]; done) | (simp [wB,wC, *]; done)):qIv P num fin (.calv y xs) pend dst tr k t h nx :=
 pD (qWz σ hc hv hvo hnd hpre hnb hres (Nat.le_refl _) hy) ha hk
def qF7 (k:Int) (n:Nat):List Int:=(List.range n).map fun (i:Nat)=>k+i
@[simp] theorem qWm (k:Int) (n:Nat):(qF7 k n).length=n:=by simp [qF7]
@[simp] theorem qXz (k:Int) (n:Nat):(qF7 k n).take n=qF7 k n:=List.take_of_length_le (by simp)
theorem pF (xs:List Int) (hx:8*xs.length≤2^47):wA Try.prog num 36 [.sl .bw 1 (wR xs)] [] (.sl .own 1 (wR xs)):=by
 refine EN m36 Try.func71 ?_
 unfold m36
 simp only [go_sem,seval]
 repeat refine K ?_
 refine fz ?_; simp [yK,wB,wC,wJ,-wAu]
def qO (n lo hi:Int):Bool:=decide (lo≤n)&&decide (n≤hi)
theorem qK {n lo hi:Int}:qO n lo hi=true↔lo≤n∧n≤hi:=by simp [qO]
def uK (b:Bool):Int:=if b then 1 else 0
theorem bJ (n lo hi:Int):wA Try.prog num 59 [.int .i64 n,.int .i64 lo,.int .i64 hi] [] (.bool (qO n lo hi)):=by
 refine EN m59 Try.func56 ?_
 unfold m59
 by_cases h1:lo≤n<;>by_cases h2:n≤hi<;>(simp only [go_sem,seval,h1,h2]; refine fz ?_; simp [yK,wB,wC,wJ,-wAu]; simp [qO,h1,h2])
theorem eU (n lo hi:Int):wA Try.prog num 64 [.int .i64 n,.int .i64 lo,.int .i64 hi] [] (.bool (qO n lo hi)):=by
 refine EN m64 Try.func57 ?_
 unfold m64
 by_cases h1:lo≤n<;>by_cases h2:n≤hi<;>(simp only [go_sem,seval,h1,h2]; refine fz ?_; simp [yK,wB,wC,wJ,-wAu]; simp [qO,h1,h2])
theorem kY (b:Bool):wA Try.prog num 78 [.bool b] [] (.int .i64 (uK b)):=by
 refine EN m78 Try.func84 ?_
 unfold m78
 cases b<;>(simp only [go_sem,seval]; refine fz ?_; simp [yK,wB,wC,wJ,-wAu]; simp [uK])
theorem qUl (b:Bool):wA Try.prog num 85 [.bool b] [] (.int .i64 (uK b)):=by
 refine EN m85 Try.func85 ?_
 unfold m85
 cases b<;>(simp only [go_sem,seval]; refine fz ?_; simp [yK,wB,wC,wJ,-wAu]; simp [uK])
theorem qAf (n:Int):wA Try.prog num 97 [.int .i64 n] [] (.bool (qO n 0 3)):=by
 refine EN m97 Try.func54 ?_
 unfold m97
 simp only [go_sem,seval]
 refine CA [] (bJ n 0 3) ?_
 try simp only [go_sem,seval]
 refine fz ?_; simp [yK,wB,wC,wJ,-wAu]
theorem qI3 (n:Int):wA Try.prog num 44 [.int .i64 n] [] (.bool (qO n 5 9)):=by
 refine EN m44 Try.func91 ?_
 unfold m44
 simp only [go_sem,seval]
 refine CA [] (bJ n 5 9) ?_
 try simp only [go_sem,seval]
 refine fz ?_; simp [yK,wB,wC,wJ,-wAu]
theorem qKo (l:List gJ) (hx:16*l.length≤2^47):wA Try.prog num 69 [.sl .bw 2 (jC l)] [] (.sl .own 2 (jC l)):=by
 refine EN m69 Try.func70 ?_
 unfold m69
 simp only [go_sem,seval]
 repeat refine K ?_
 refine fz ?_; simp [yK,wB,wC,wJ,-wAu]
theorem iR (c:vF) (hx:8*c.list.length≤2^47):wA Try.prog num 70 [.agg (eG .bw c)] [] (.agg (eG .own c)):=by
 refine EN m70 Try.func72 ?_
 unfold m70
 simp only [go_sem,seval]
 refine CA [] (pF c.list hx) ?_
 try simp only [go_sem,seval]
 refine fz ?_; simp [yK,wB,wC,wJ,-wAu]
def jQ (c:vF):Bool:=qO c.cap 1 4&&decide ((c.list.length:Int)≤c.cap)
theorem eW (c:vF):wA Try.prog num 72 [.agg (eG .bw c)] [] (.bool (jQ c)):=by
 refine EN m72 Try.func69 ?_
 unfold m72
 simp only [go_sem,seval]
 refine CA [] (bJ c.cap 1 4) ?_
 try simp only [go_sem,seval]
 cases h:qO c.cap 1 4
 ·simp only [go_sem,seval,h]
  refine fz ?_; simp [yK,wB,wC,wJ,-wAu]
  simp [jQ,h]
 ·simp only [go_sem,seval,h]
  refine fz ?_; simp [yK,wB,wC,wJ,-wAu]
  simp [jQ,h]
def jF (x:Ins) (pl ch:Int):Bool :=
 qO x.r 0 3&&qO x.a 0 3&&qO x.b 0 3&&qO ch 0 3 &&
 (if x.op=1 then qO x.n (-1000000000) 1000000000&&decide (x.a=0)&&decide (x.b=0)
  else if x.op=2∨x.op=3∨x.op=4 then decide (x.n=0)
  else if x.op=5 then qO x.n 0 (ch-1)&&decide (x.r=0)&&decide (x.b=0)
  else if x.op=6∨x.op=8 then qO x.n 0 (ch-1)&&decide (x.a=0)&&!decide (x.r=x.b)
  else if x.op=7 then qO x.n 0 (ch-1)&&decide (x.b=0)
  else if x.op=9 then qO x.n 0 (ch-1)&&decide (x.r=0)&&decide (x.a=0)&&decide (x.b=0)
  else if x.op=10 then decide (x.r=0)&&decide (x.b=0)&&decide (x.n=0)
  else if x.op=11 then decide (0≤x.n)&&decide (x.n<pl)&&decide (x.r=0)&&decide (x.a=0)&&decide (x.b=0)
  else if x.op=12 then decide (0≤x.n)&&decide (x.n<pl)&&decide (x.r=0)&&decide (x.b=0)
  else if x.op=13 then decide (x.op=13)&&(decide (x.r=0)&&(decide (x.a=0)&&(decide (x.b=0)&&decide (x.n=0))))
  else false)
def qCm (x:Ins):Ins :=
 if x.op=1 then ⟨x.op,x.r,0,0,x.n⟩
 else if x.op=2∨x.op=3∨x.op=4 then ⟨x.op,x.r,x.a,x.b,0⟩
 else if x.op=5∨x.op=12 then ⟨x.op,0,x.a,0,x.n⟩
 else if x.op=6∨x.op=8 then ⟨x.op,x.r,0,x.b,x.n⟩
 else if x.op=7 then ⟨x.op,x.r,x.a,0,x.n⟩
 else if x.op=9∨x.op=11 then ⟨x.op,0,0,0,x.n⟩
 else if x.op=10 then ⟨x.op,0,x.a,0,0⟩
 else ⟨x.op,0,0,0,0⟩
def oY (x:Ins) (pl ch:Int):Bool :=
 qO ch 0 3&&qO x.op 1 13&&(decide (x.op=(qCm x).op)&&(decide (x.r=(qCm x).r)&&(decide (x.a=(qCm x).a)&&(decide (x.b=(qCm x).b)&&decide (x.n=(qCm x).n))))) &&
 qO x.r 0 3&&qO x.a 0 3&&qO x.b 0 3 &&
 (if x.op=1 then qO x.n (-1000000000) 1000000000
  else if x.op=11∨x.op=12 then qO x.n 0 (pl-1)
  else if (x.op=6∨x.op=8)∧x.r=x.b then false
  else !qO x.op 5 9||qO x.n 0 (ch-1))
theorem qM2 (x:Ins):wA Try.prog num 96 [.agg (vU x)] [] (.agg (vU (qCm x))):=by
 refine EN m96 Try.func90 ?_
 unfold m96
 repeat' (first
  | (simp only [go_sem,seval])
  | (refine qS (fun hc=>?_) (fun hc=>?_)<;>((try simp only [wAv,wAw,ne_eq,wAx,wAy] at hc)<;>(try simp only [hc])))
  | (refine aI (fun hc=>?_) (fun hc=>?_)<;>((try simp only [wAv,wAw,ne_eq,wAx,wAy] at hc)<;>(try simp only [hc])))
  | (refine xC (fun hc=>?_) (fun hc=>?_)<;>((try simp only [wAv,wAw,ne_eq,wAx,wAy] at hc)<;>(try simp only [hc])))
  | (refine ⟨by first | omega | (simp; done),?_⟩)
  | fail)
 all_goals (refine fz ?_; simp [yK,wB,wC,wJ,-wAu])
 all_goals (try (simp_all [qCm]; done))
theorem qB7 (n lo hi:Int):qO n lo hi=decide (lo≤n∧n≤hi):=by simp [qO]
theorem rH (x:Ins) (pl ch:Int):oY x pl ch=jF x pl ch:=by
 obtain ⟨op,r,a,b,n⟩:=x
 by_cases h:1≤op∧op≤13
 ·obtain rfl | rfl | rfl | rfl | rfl | rfl | rfl | rfl | rfl | rfl | rfl | rfl | rfl:op=1∨op=2∨op=3∨op=4∨op=5∨op=6∨op=7∨op=8∨op=9∨op=10∨op=11∨op=12∨op=13:=by omega
  all_goals (rw [Bool.eq_iff_iff]; simp [oY,jF,qCm,qB7]; try omega)
 ·have h1 :¬op=1:=by omega
  have h2 :¬op=2:=by omega
  have h3 :¬op=3:=by omega
  have h4 :¬op=4:=by omega
  have h5 :¬op=5:=by omega
  have h6 :¬op=6:=by omega
  have h7 :¬op=7:=by omega
  have h8 :¬op=8:=by omega
  have h9 :¬op=9:=by omega
  have h10 :¬op=10:=by omega
  have h11 :¬op=11:=by omega
  have h12 :¬op=12:=by omega
  have h13 :¬op=13:=by omega
  have hw:qO op 1 13=false:=by rw [qB7]; simp; omega
  simp [oY,jF,hw,h1,h2,h3,h4,h5,h6,h7,h8,h9,h10,h11,h12,h13]
end Go.Sep
