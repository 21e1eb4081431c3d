/- Contracts of functions. -/
import Derived.Test.YtbfklilhgekabaaPzFns
open Bool renaming not_eq_false → qYy, not_eq_false' → qYw, not_eq_true → qYx, not_eq_true' → qYv
open List renaming drop_one → qYu, getD_eq_getElem?_getD → qXc, map_cons → qX7, mem_map → qYq
namespace Go.Sep
set_option maxHeartbeats 16000000
open Go.Proofs
set_option linter.unusedSimpArgs false
set_option linter.unusedVariables false
set_option maxRecDepth 100000
def m36:MFn:=⟨6,[.t 2],kr [xo 2 (.mv (.c (.nil)))] (kR [xo 3 (.mkSl [xz] 0 []),xv 4 0,xA 5 1 8 3 4,xv 2 5])⟩
def m44:MFn:=⟨5,[.t 2],kr [xF 2] (kR [xv 3 0,xc3 4 59 (.t 3) (xi 5) (xi 9),xv 2 4])⟩
def m59:MFn:=⟨15,[.t 6],kr [xF 6] (kR [xv 7 0,xv 8 1,bT 9 .geq 7 8,xv 10 9,yv 11 0 10,yv 12 2 10,xg 13 (.bin .leq (.t 11) (.t 12)) 10 true,xP 14 10 13,xv 6 14])⟩
def m69:MFn:=⟨6,[.t 2],kr [xo 2 (.mv (.c (.nil)))] (kR [xo 3 (.mkSl [xz,xz] 0 []),xv 4 0,xA 5 2 16 3 4,xv 2 5])⟩
def m70:MFn:=⟨8,[.cell 2 3 true],kr [xb 1 0,xo 2 (.alloc [.int .i64 0,.nil,.bool false])] (kr [xa 3 1 1,xl 4 3,xc1 5 36 (.t 4),xa 6 1 1,xS 1 6 5] (kR [xm 7 3 1,xS 3 2 7]))⟩
def m72:MFn:=⟨14,[.t 2],kr [xb 1 0,xF 2] (kR [xa 3 0 1,xl 4 3,xc3 5 59 (.t 4) (xi 1) (xi 4),xv 6 5,ya 7 1 1 6,yl 8 1 7 6,ye 9 8 6,ya 10 0 1 6,yl 11 1 10 6,xg 12 (.bin .leq (.t 9) (.t 11)) 6 true,xP 13 6 12,xv 2 13])⟩
def m78:MFn:=⟨4,[.t 2],kr [xI 2 0] (.seq (kr [xv 3 0] (kF 3 [xI 2 1])) (kR [xI 2 0]))⟩
def m96:MFn:=⟨74,[.cell 2 5 true],kr [xb 1 0,xo 2 (.alloc [xz,xz,xz,xz,xz])] (kr [xa 4 0 1,xl 5 4,xo 6 (.build [xz,xz,xz,xz,xz] [(0,1,.t 5)]),xo 3 (.alloc [xz,xz,xz,xz,xz]),xS 5 3 6] (.seq (kr [xa 7 0 1,xl 8 7] (.blk 0 (kr [bI 10 .eql 8 1,xv 9 10] (.cond 9 (.dreg (.take 0 (xa 11 1 1) (.take 1 (xl 12 11) (.take 2 (xa 13 4 1) (.take 3 (xl 14 13) (.only 4 [0,1] (xa 15 1 3) (.only 5 [0,1] (xS 1 15 12) (.only 6 [0,1,2,3] (xa 16 4 3) (.only 7 [0,1,2,3] (xS 1 16 14) (.done)))))))))) (.seq (kr [bI 18 .eql 8 2,xv 17 18] (.cond 17 (.skip) (kr [bI 19 .eql 8 3,xv 17 19] (.cond 17 (.skip) (xr [bI 20 .eql 8 4,xv 17 20]))))) (.cond 17 (.dreg (.take 0 (xa 21 1 1) (.take 1 (xl 22 21) (.take 2 (xa 23 2 1) (.take 3 (xl 24 23) (.take 4 (xa 25 3 1) (.take 5 (xl 26 25) (.only 6 [0,1] (xa 27 1 3) (.only 7 [0,1] (xS 1 27 22) (.only 8 [0,1,2,3] (xa 28 2 3) (.only 9 [0,1,2,3] (xS 1 28 24) (.only 10 [0,1,2,3,4,5] (xa 29 3 3) (.only 11 [0,1,2,3,4,5] (xS 1 29 26) (.done)))))))))))))) (.seq (kr [bI 31 .eql 8 5,xv 30 31] (.cond 30 (.skip) (xr [bI 32 .eql 8 12,xv 30 32]))) (.cond 30 (.dreg (.take 0 (xa 33 2 1) (.take 1 (xl 34 33) (.take 2 (xa 35 4 1) (.take 3 (xl 36 35) (.only 4 [0,1] (xa 37 2 3) (.only 5 [0,1] (xS 1 37 34) (.only 6 [0,1,2,3] (xa 38 4 3) (.only 7 [0,1,2,3] (xS 1 38 36) (.done)))))))))) (.seq (kr [bI 40 .eql 8 6,xv 39 40] (.cond 39 (.skip) (xr [bI 41 .eql 8 8,xv 39 41]))) (.cond 39 (.dreg (.take 0 (xa 42 1 1) (.take 1 (xl 43 42) (.take 2 (xa 44 3 1) (.take 3 (xl 45 44) (.take 4 (xa 46 4 1) (.take 5 (xl 47 46) (.only 6 [0,1] (xa 48 1 3) (.only 7 [0,1] (xS 1 48 43) (.only 8 [0,1,2,3] (xa 49 3 3) (.only 9 [0,1,2,3] (xS 1 49 45) (.only 10 [0,1,2,3,4,5] (xa 50 4 3) (.only 11 [0,1,2,3,4,5] (xS 1 50 47) (.done)))))))))))))) (kr [bI 52 .eql 8 7,xv 51 52] (.cond 51 (.dreg (.take 0 (xa 53 1 1) (.take 1 (xl 54 53) (.take 2 (xa 55 2 1) (.take 3 (xl 56 55) (.take 4 (xa 57 4 1) (.take 5 (xl 58 57) (.only 6 [0,1] (xa 59 1 3) (.only 7 [0,1] (xS 1 59 54) (.only 8 [0,1,2,3] (xa 60 2 3) (.only 9 [0,1,2,3] (xS 1 60 56) (.only 10 [0,1,2,3,4,5] (xa 61 4 3) (.only 11 [0,1,2,3,4,5] (xS 1 61 58) (.done)))))))))))))) (.seq (kr [bI 63 .eql 8 9,xv 62 63] (.cond 62 (.skip) (xr [bI 64 .eql 8 11,xv 62 64]))) (.cond 62 (xr [xa 65 4 1,xl 66 65,xa 67 4 3,xS 1 67 66]) (kr [bI 69 .eql 8 10,xv 68 69] (.cond 68 (xr [xa 70 2 1,xl 71 70,xa 72 2 3,xS 1 72 71]) (.skip))))))))))))))))) (kR [xm 73 5 3,xS 5 2 73])))⟩
def m97:MFn:=⟨5,[.t 2],kr [xF 2] (kR [xv 3 0,xc3 4 59 (.t 3) (xi 0) (xi 3),xv 2 4])⟩
attribute [local go_sem] fZ vM qVh qVj qOv qTd qVk qTa qVi qTh qOu qTi qTb wC qOg qGd Arg.ev qV bD qUl if_false if_true gT put del eE qAr Option.map_some Option.bind_some qN Int.toNat_natCast qVl qT9 qTe gE true_and and_true qK2 qK0 qK1 qBr tI Bool.false_eq_true xE cellsOf yL List.isEmpty_nil List.isEmpty_cons fresh List.map_nil qX7 List.cons_append List.nil_append bO List.take_zero List.drop_zero List.take_succ_cons List.getD_cons_zero List.length_cons List.length_nil List.drop_succ_cons List.drop_nil List.append_nil List.all_cons List.all_nil yJ Bool.and_self Nat.zero_add qTf qTg qT8 qOt qOs qOq qOr qTj qVg qE2 qKt qGs qM0 qM4 qEm jW jY zG qH4 eL yD apart List.filter_nil List.filter_cons Option.isSome_some Option.isSome_none List.contains_nil List.contains_cons List.forall_mem_cons List.mem_cons List.not_mem_nil false_implies implies_true forall_const forall_eq_or_imp forall_eq or_false beq_self_eq_true Bool.or_false Bool.false_or Bool.true_or Bool.or_true Bool.not_true Bool.not_false xv xo xg xr xi xz List.set_set qDj qBj qGq qGr sT oM qGn qAl iI eqC aV qBf List.replicate_zero decide_true decide_false qDw qJv List.replicate_succ Int.toNat_zero Int.toNat_one eq_self Bool.and_true Bool.true_and Bool.and_false Bool.false_and List.set_cons_zero List.set_cons_succ List.getD_cons_succ rnm ixm jM aC wW jI cond_true cond_false oH oG sW
attribute [local simp] cO bwT bwC bwL uD oG qV Arg.ev gC pZ pD qEf dQ qI2 qC8 yO okV okL nb nbs nbr vS qN eE bnd yX yM jM aC ixm rnm apart eL jW jY fresh wW jI gP qJ1 bL cP uJ del sL zM oH sW shp okB qJt qGf
theorem qEz {rs:List qC3} {fp:FP} {vs:List AV} {t:List (Nat×AV)} {h:wI} {nx:Nat} (h0:vs.length≠1) (h1:qJ1 (rs.map fun r=>(gP t h r).2)∧(bL h (rs.map fun r=>(gP t h r).1)).2.2∧wF (bL h (rs.map fun r=>(gP t h r).1)).1 vs∧∀x∈fp,qN (bL h (rs.map fun r=>(gP t h r).1)).2.1 x.1=qN (uJ fp) x.1):jA rs fp (.tup vs) (.mk t h nx):=by
 refine ⟨h1.1,h1.2.1,⟨vs,h1.2.2.1,?_⟩,h1.2.2.2⟩
 match vs,h0 with
 | [],_=>rfl
 | [_],h0=>exact absurd rfl h0
 | _::_::_,_=>rfl
theorem jV {rs:List qC3} {fp:FP} {v:AV} {t:List (Nat×AV)} {h:wI} {nx:Nat} (h1:qJ1 (rs.map fun r=>(gP t h r).2)∧(bL h (rs.map fun r=>(gP t h r).1)).2.2∧wF (bL h (rs.map fun r=>(gP t h r).1)).1 [v]∧∀x∈fp,qN (bL h (rs.map fun r=>(gP t h r).1)).2.1 x.1=qN (uJ fp) x.1):jA rs fp v (.mk t h nx) :=
 ⟨h1.1,h1.2.1,⟨[v],h1.2.2.1,rfl⟩,h1.2.2.2⟩
theorem qPw (c d:AV) (cs ds:List AV):wF (c::cs) (d::ds)↔wH c d∧wF cs ds:=by
 simp only [wF,List.cons.injEq]
 exact ⟨fun ⟨_,_,⟨h1,h2⟩,h3,h4⟩=>by subst h1 h2; exact ⟨h3,h4⟩,fun ⟨h3,h4⟩=>⟨_,_,⟨rfl,rfl⟩,h3,h4⟩⟩
theorem qSb:wF [] []↔True:=by simp [wF]
theorem qSa (cs ds:List AV):wH (.agg cs) (.agg ds)↔wF cs ds:=by simp [wH]
theorem qS5 (cs ds:List AV):wH (.tup cs) (.tup ds)↔wF cs ds:=by simp [wH]
theorem qMb (m:Mode) (sz:Nat):wH .nil (.sl m sz [])↔True:=by simp [wH]
theorem qS8:wH .nil .nil↔True:=by simp [wH]
theorem qUo (m:Mode) (sz:Nat) (rows:List (List AV)) (d:AV):wH (.sl m sz rows) d↔.sl m sz rows=d:=by simp [wH]
theorem qS9 (k:IntKind) (n:Int) (d:AV):wH (.int k n) d↔.int k n=d:=by simp [wH]
theorem qPv (b:Bool) (d:AV):wH (.bool b) d↔.bool b=d:=by simp [wH]
theorem qS6 (s:ByteArray) (d:AV):wH (.str s) d↔.str s=d:=by simp [wH]
theorem qUq (k o l:Nat) (d:AV):wH (.ns k o l) d↔.ns k o l=d:=by simp [wH]
theorem qS7 (k o l:Nat) (d:AV):wH (.ptr k o l) d↔.ptr k o l=d:=by simp [wH]
theorem kP (r d:List AV) (rs ds:List (List AV)):dN (r::rs) (d::ds)↔wF r d∧dN rs ds:=by
 simp only [dN,List.cons.injEq]
 exact ⟨fun ⟨_,_,⟨h1,h2⟩,h3,h4⟩=>by subst h1 h2; exact ⟨h3,h4⟩,fun ⟨h3,h4⟩=>⟨_,_,⟨rfl,rfl⟩,h3,h4⟩⟩
theorem qGb:dN [] []↔True:=by simp [dN]
theorem qT2:free []↔True:=by simp [free]
theorem qQi (r:List AV) (rs:List (List AV)):free (r::rs)↔(∀c∈r,sL c=false)∧free rs:=by simp [free]
structure Ins where
 op:Int
 r:Int
 a:Int
 b:Int
 n:Int
 deriving DecidableEq,Inhabited
def dI (x:Ins):List AV:=[.int .i64 x.op,.int .i64 x.r,.int .i64 x.a,.int .i64 x.b,.int .i64 x.n]
def jU (l:List Ins):List (List AV):=l.map dI
theorem qSv:jU []=[]:=rfl
theorem mX (l:List Ins):(jU l).length=l.length:=by simp [jU]
theorem qKh (l k:List Ins):jU l++jU k=jU (l++k):=by simp [jU]
theorem qGh (l:List Ins) (n:Nat):(jU l).drop n=jU (l.drop n):=by simp [jU]
theorem qGg (l:List Ins) (n:Nat):(jU l).take n=jU (l.take n):=by simp [jU]
theorem qSu (l:List Ins) (i:Nat) (op_:Int) (r_:Int) (a_:Int) (b_:Int) (n_:Int):(jU l).set i [.int .i64 op_,.int .i64 r_,.int .i64 a_,.int .i64 b_,.int .i64 n_]=jU (l.set i ⟨op_,r_,a_,b_,n_⟩):=by simp [jU,dI]
theorem dY (l:List Ins) (i:Nat) (h:i<l.length):(jU l).getD i []=[.int .i64 (l.getD i default).op,.int .i64 (l.getD i default).r,.int .i64 (l.getD i default).a,.int .i64 (l.getD i default).b,.int .i64 (l.getD i default).n]:=by simp [jU,dI,List.getD_eq_getElem?_getD,h]
theorem vT (A:Nat→Prop) (l:List Ins):yM A (jU l)↔True:=by
 simp only [iff_true]
 induction l with
 | nil=>trivial
 | cons x l ih=>exact ⟨by simp [dI,yX,bnd,dQ,yO],ih⟩
theorem bG (l:List Ins):nbr (jU l)↔True:=by
 simp only [iff_true]
 induction l with
 | nil=>trivial
 | cons x l ih=>exact ⟨by simp [dI,nbs,nb,vS],ih⟩
theorem uV :∀(l:List Ins),bwR (jU l)=jU l
 | []=>rfl
 | x::l=>by
  have:=uV l
  simp only [jU,qX7,bwR] at this⊢
  rw [this]
  simp [dI,bwL,bwC,uD]
theorem qQf (l:List Ins):free (jU l)↔True:=by
 simp only [iff_true]
 intro r hr c hc
 simp only [jU,qYq] at hr
 obtain ⟨x,_,rfl⟩:=hr
 simp [dI] at hc
 rcases hc with rfl | rfl | rfl | rfl | rfl<;>rfl
def yP (m:Mode) (l:List (List Ins)):List (List AV):=l.map fun b=>[.sl m 5 (jU b)]
theorem qNh (m:Mode):yP m []=[]:=rfl
theorem iB (m:Mode) (l:List (List Ins)):(yP m l).length=l.length:=by simp [yP]
theorem qFl (m:Mode) (l k:List (List Ins)):yP m l++yP m k=yP m (l++k):=by simp [yP]
theorem qBv (m:Mode) (l:List (List Ins)) (n:Nat):(yP m l).drop n=yP m (l.drop n):=by simp [yP]
theorem qBu (m:Mode) (l:List (List Ins)) (n:Nat):(yP m l).take n=yP m (l.take n):=by simp [yP]
theorem qNg (m:Mode) (l:List (List Ins)) (i:Nat) (b_:List Ins):(yP m l).set i [.sl m 5 (jU b_)]=yP m (l.set i b_):=by simp [yP]
theorem qY (m:Mode) (l:List (List Ins)) (i:Nat) (h:i<l.length):(yP m l).getD i []=[.sl m 5 (jU (l.getD i []))]:=by simp [yP,List.getD_eq_getElem?_getD,h]
theorem jK (A:Nat→Prop) (m:Mode) (l:List (List Ins)):yM A (yP m l)↔True:=by
 simp only [iff_true]
 induction l with
 | nil=>trivial
 | cons x l ih=>exact ⟨by simp [yX,bnd,dQ,yO,vT],ih⟩
theorem vC (l:List (List Ins)):nbr (yP .own l)↔True:=by
 simp only [iff_true]
 induction l with
 | nil=>trivial
 | cons x l ih=>exact ⟨by simp [nbs,nb,vS,bG],ih⟩
theorem jS (m:Mode) :∀(l:List (List Ins)),bwR (yP m l)=yP .bw l
 | []=>rfl
 | x::l=>by
  have:=jS m l
  simp only [yP,qX7,bwR] at this⊢
  rw [this]
  simp [bwL,bwC,uD,uV]
theorem qLb (l:List (List Ins)):free (yP .bw l)↔True:=by
 simp only [iff_true]
 intro r hr c hc
 simp only [yP,qYq] at hr
 obtain ⟨x,_,rfl⟩:=hr
 simp [] at hc
 rcases hc with rfl<;>rfl
def dO (m:Mode) (l:List (List Int)):List (List AV):=l.map fun b=>[.sl m 1 (yF b)]
theorem qQc (m:Mode):dO m []=[]:=rfl
theorem kU (m:Mode) (l:List (List Int)):(dO m l).length=l.length:=by simp [dO]
theorem qId (m:Mode) (l k:List (List Int)):dO m l++dO m k=dO m (l++k):=by simp [dO]
theorem qDv (m:Mode) (l:List (List Int)) (n:Nat):(dO m l).drop n=dO m (l.drop n):=by simp [dO]
theorem qDu (m:Mode) (l:List (List Int)) (n:Nat):(dO m l).take n=dO m (l.take n):=by simp [dO]
theorem qQb (m:Mode) (l:List (List Int)) (i:Nat) (b_:List Int):(dO m l).set i [.sl m 1 (yF b_)]=dO m (l.set i b_):=by simp [dO]
theorem vI (A:Nat→Prop) (m:Mode) (l:List (List Int)):yM A (dO m l)↔True:=by
 simp only [iff_true]
 induction l with
 | nil=>trivial
 | cons x l ih=>exact ⟨by simp [yX,bnd,dQ,yO,vT,jK],ih⟩
theorem uQ (l:List (List Int)):nbr (dO .own l)↔True:=by
 simp only [iff_true]
 induction l with
 | nil=>trivial
 | cons x l ih=>exact ⟨by simp [nbs,nb,vS,bG,vC],ih⟩
theorem uF (m:Mode) :∀(l:List (List Int)),bwR (dO m l)=dO .bw l
 | []=>rfl
 | x::l=>by
  have:=uF m l
  simp only [dO,qX7,bwR] at this⊢
  rw [this]
  simp [bwL,bwC,uD,uV,jS]
theorem qMp (l:List (List Int)):free (dO .bw l)↔True:=by
 simp only [iff_true]
 intro r hr c hc
 simp only [dO,qYq] at hr
 obtain ⟨x,_,rfl⟩:=hr
 simp [] at hc
 rcases hc with rfl<;>rfl
structure jP where
 cap:Int
 list:List Int
 closed:Bool
 deriving DecidableEq,Inhabited
def aE (m:Mode) (x:jP):List AV:=[.int .i64 x.cap,.sl m 1 (yF x.list),.bool x.closed]
def qZ (m:Mode) (l:List jP):List (List AV):=l.map (aE m)
theorem qGx (m:Mode):qZ m []=[]:=rfl
theorem eS (m:Mode) (l:List jP):(qZ m l).length=l.length:=by simp [qZ]
theorem lE (m:Mode) (l k:List jP):qZ m l++qZ m k=qZ m (l++k):=by simp [qZ]
theorem qE9 (m:Mode) (l:List jP) (n:Nat):(qZ m l).drop n=qZ m (l.drop n):=by simp [qZ]
theorem qE8 (m:Mode) (l:List jP) (n:Nat):(qZ m l).take n=qZ m (l.take n):=by simp [qZ]
theorem gG (m:Mode) (l:List jP) (i:Nat) (cap_:Int) (list_:List Int) (closed_:Bool):(qZ m l).set i [.int .i64 cap_,.sl m 1 (yF list_),.bool closed_]=qZ m (l.set i ⟨cap_,list_,closed_⟩):=by simp [qZ,aE]
theorem bR (m:Mode) (l:List jP) (i:Nat) (h:i<l.length):(qZ m l).getD i []=[.int .i64 (l.getD i default).cap,.sl m 1 (yF (l.getD i default).list),.bool (l.getD i default).closed]:=by simp [qZ,aE,List.getD_eq_getElem?_getD,h]
theorem vW (A:Nat→Prop) (m:Mode) (l:List jP):yM A (qZ m l)↔True:=by
 simp only [iff_true]
 induction l with
 | nil=>trivial
 | cons x l ih=>exact ⟨by simp [aE,yX,bnd,dQ,yO,vT,jK,vI],ih⟩
theorem bA (l:List jP):nbr (qZ .own l)↔True:=by
 simp only [iff_true]
 induction l with
 | nil=>trivial
 | cons x l ih=>exact ⟨by simp [aE,nbs,nb,vS,bG,vC,uQ],ih⟩
theorem uR (m:Mode) :∀(l:List jP),bwR (qZ m l)=qZ .bw l
 | []=>rfl
 | x::l=>by
  have:=uR m l
  simp only [qZ,qX7,bwR] at this⊢
  rw [this]
  simp [aE,bwL,bwC,uD,uV,jS,uF]
theorem qN3 (l:List jP):free (qZ .bw l)↔True:=by
 simp only [iff_true]
 intro r hr c hc
 simp only [qZ,qYq] at hr
 obtain ⟨x,_,rfl⟩:=hr
 simp [aE] at hc
 rcases hc with rfl | rfl | rfl<;>rfl
structure bB where
 who:Int
 v:Int
 deriving DecidableEq,Inhabited
def sD (x:bB):List AV:=[.int .i64 x.who,.int .i64 x.v]
def yR (l:List bB):List (List AV):=l.map sD
theorem qGa:yR []=[]:=rfl
theorem kM (l:List bB):(yR l).length=l.length:=by simp [yR]
theorem kN (l k:List bB):yR l++yR k=yR (l++k):=by simp [yR]
theorem qG9 (who_:Int) (v_:Int):[[.int .i64 who_,.int .i64 v_]]=yR [⟨who_,v_⟩]:=rfl
theorem qDe (l:List bB) (n:Nat):(yR l).drop n=yR (l.drop n):=by simp [yR]
theorem qDd (l:List bB) (n:Nat):(yR l).take n=yR (l.take n):=by simp [yR]
theorem qPq (l:List bB) (i:Nat) (who_:Int) (v_:Int):(yR l).set i [.int .i64 who_,.int .i64 v_]=yR (l.set i ⟨who_,v_⟩):=by simp [yR,sD]
theorem pP (l:List bB) (i:Nat) (h:i<l.length):(yR l).getD i []=[.int .i64 (l.getD i default).who,.int .i64 (l.getD i default).v]:=by simp [yR,sD,List.getD_eq_getElem?_getD,h]
theorem uH (A:Nat→Prop) (l:List bB):yM A (yR l)↔True:=by
 simp only [iff_true]
 induction l with
 | nil=>trivial
 | cons x l ih=>exact ⟨by simp [sD,yX,bnd,dQ,yO,vT,jK,vI,vW],ih⟩
theorem uO (l:List bB):nbr (yR l)↔True:=by
 simp only [iff_true]
 induction l with
 | nil=>trivial
 | cons x l ih=>exact ⟨by simp [sD,nbs,nb,vS,bG,vC,uQ,bA],ih⟩
theorem uZ :∀(l:List bB),bwR (yR l)=yR l
 | []=>rfl
 | x::l=>by
  have:=uZ l
  simp only [yR,qX7,bwR] at this⊢
  rw [this]
  simp [sD,bwL,bwC,uD,uV,jS,uF,uR]
theorem qM9 (l:List bB):free (yR l)↔True:=by
 simp only [iff_true]
 intro r hr c hc
 simp only [yR,qYq] at hr
 obtain ⟨x,_,rfl⟩:=hr
 simp [sD] at hc
 rcases hc with rfl | rfl<;>rfl
structure yH where
 at_:Int
 regs:List Int
 st:Int
 deriving DecidableEq,Inhabited
def xH (m:Mode) (x:yH):List AV:=[.int .i64 x.at_,.sl m 1 (yF x.regs),.int .i64 x.st]
def yB (m:Mode) (l:List yH):List (List AV):=l.map (xH m)
theorem qAz (m:Mode):yB m []=[]:=rfl
theorem gW (m:Mode) (l:List yH):(yB m l).length=l.length:=by simp [yB]
theorem cC (m:Mode) (l k:List yH):yB m l++yB m k=yB m (l++k):=by simp [yB]
theorem rI (m:Mode) (l:List yH) (n:Nat):(yB m l).drop n=yB m (l.drop n):=by simp [yB]
theorem rH (m:Mode) (l:List yH) (n:Nat):(yB m l).take n=yB m (l.take n):=by simp [yB]
theorem qL (m:Mode) (l:List yH) (i:Nat) (at__:Int) (regs_:List Int) (st_:Int):(yB m l).set i [.int .i64 at__,.sl m 1 (yF regs_),.int .i64 st_]=yB m (l.set i ⟨at__,regs_,st_⟩):=by simp [yB,xH]
theorem qO (m:Mode) (l:List yH) (i:Nat) (h:i<l.length):(yB m l).getD i []=[.int .i64 (l.getD i default).at_,.sl m 1 (yF (l.getD i default).regs),.int .i64 (l.getD i default).st]:=by simp [yB,xH,List.getD_eq_getElem?_getD,h]
theorem jZ (A:Nat→Prop) (m:Mode) (l:List yH):yM A (yB m l)↔True:=by
 simp only [iff_true]
 induction l with
 | nil=>trivial
 | cons x l ih=>exact ⟨by simp [xH,yX,bnd,dQ,yO,vT,jK,vI,vW,uH],ih⟩
theorem vQ (l:List yH):nbr (yB .own l)↔True:=by
 simp only [iff_true]
 induction l with
 | nil=>trivial
 | cons x l ih=>exact ⟨by simp [xH,nbs,nb,vS,bG,vC,uQ,bA,uO],ih⟩
theorem vG (m:Mode) :∀(l:List yH),bwR (yB m l)=yB .bw l
 | []=>rfl
 | x::l=>by
  have:=vG m l
  simp only [yB,qX7,bwR] at this⊢
  rw [this]
  simp [xH,bwL,bwC,uD,uV,jS,uF,uR,uZ]
theorem qHl (l:List yH):free (yB .bw l)↔True:=by
 simp only [iff_true]
 intro r hr c hc
 simp only [yB,qYq] at hr
 obtain ⟨x,_,rfl⟩:=hr
 simp [xH] at hc
 rcases hc with rfl | rfl | rfl<;>rfl
structure qEn where
 sent:List Int
 taken:List Int
 deriving DecidableEq,Inhabited
def qAy (m:Mode) (x:qEn):List AV:=[.sl m 1 (yF x.sent),.sl m 1 (yF x.taken)]
def dL (m:Mode) (l:List qEn):List (List AV):=l.map (qAy m)
theorem qP1 (m:Mode):dL m []=[]:=rfl
theorem kB (m:Mode) (l:List qEn):(dL m l).length=l.length:=by simp [dL]
theorem qHe (m:Mode) (l k:List qEn):dL m l++dL m k=dL m (l++k):=by simp [dL]
theorem qCk (m:Mode) (l:List qEn) (n:Nat):(dL m l).drop n=dL m (l.drop n):=by simp [dL]
theorem qCj (m:Mode) (l:List qEn) (n:Nat):(dL m l).take n=dL m (l.take n):=by simp [dL]
theorem qP0 (m:Mode) (l:List qEn) (i:Nat) (sent_:List Int) (taken_:List Int):(dL m l).set i [.sl m 1 (yF sent_),.sl m 1 (yF taken_)]=dL m (l.set i ⟨sent_,taken_⟩):=by simp [dL,qAy]
theorem bN (A:Nat→Prop) (m:Mode) (l:List qEn):yM A (dL m l)↔True:=by
 simp only [iff_true]
 induction l with
 | nil=>trivial
 | cons x l ih=>exact ⟨by simp [qAy,yX,bnd,dQ,yO,vT,jK,vI,vW,uH,jZ],ih⟩
theorem gV (l:List qEn):nbr (dL .own l)↔True:=by
 simp only [iff_true]
 induction l with
 | nil=>trivial
 | cons x l ih=>exact ⟨by simp [qAy,nbs,nb,vS,bG,vC,uQ,bA,uO,vQ],ih⟩
theorem gI (m:Mode) :∀(l:List qEn),bwR (dL m l)=dL .bw l
 | []=>rfl
 | x::l=>by
  have:=gI m l
  simp only [dL,qX7,bwR] at this⊢
  rw [this]
  simp [qAy,bwL,bwC,uD,uV,jS,uF,uR,uZ,vG]
theorem qLr (l:List qEn):free (dL .bw l)↔True:=by
 simp only [iff_true]
 intro r hr c hc
 simp only [dL,qYq] at hr
 obtain ⟨x,_,rfl⟩:=hr
 simp [qAy] at hc
 rcases hc with rfl | rfl<;>rfl
structure wJ where
 caps:List Int
 bods:List (List Ins)
 deriving DecidableEq,Inhabited
def gQ (m:Mode) (x:wJ):List AV:=[.sl m 1 (yF x.caps),.sl m 1 (yP m x.bods)]
def dM (m:Mode) (l:List wJ):List (List AV):=l.map (gQ m)
theorem qPl (m:Mode):dM m []=[]:=rfl
theorem kH (m:Mode) (l:List wJ):(dM m l).length=l.length:=by simp [dM]
theorem qHy (m:Mode) (l k:List wJ):dM m l++dM m k=dM m (l++k):=by simp [dM]
theorem qD4 (m:Mode) (l:List wJ) (n:Nat):(dM m l).drop n=dM m (l.drop n):=by simp [dM]
theorem qD3 (m:Mode) (l:List wJ) (n:Nat):(dM m l).take n=dM m (l.take n):=by simp [dM]
theorem qPk (m:Mode) (l:List wJ) (i:Nat) (caps_:List Int) (bods_:List (List Ins)):(dM m l).set i [.sl m 1 (yF caps_),.sl m 1 (yP m bods_)]=dM m (l.set i ⟨caps_,bods_⟩):=by simp [dM,gQ]
theorem gF (A:Nat→Prop) (m:Mode) (l:List wJ):yM A (dM m l)↔True:=by
 simp only [iff_true]
 induction l with
 | nil=>trivial
 | cons x l ih=>exact ⟨by simp [gQ,yX,bnd,dQ,yO,vT,jK,vI,vW,uH,jZ,bN],ih⟩
theorem dC (l:List wJ):nbr (dM .own l)↔True:=by
 simp only [iff_true]
 induction l with
 | nil=>trivial
 | cons x l ih=>exact ⟨by simp [gQ,nbs,nb,vS,bG,vC,uQ,bA,uO,vQ,gV],ih⟩
theorem gY (m:Mode) :∀(l:List wJ),bwR (dM m l)=dM .bw l
 | []=>rfl
 | x::l=>by
  have:=gY m l
  simp only [dM,qX7,bwR] at this⊢
  rw [this]
  simp [gQ,bwL,bwC,uD,uV,jS,uF,uR,uZ,vG,gI]
theorem qM1 (l:List wJ):free (dM .bw l)↔True:=by
 simp only [iff_true]
 intro r hr c hc
 simp only [dM,qYq] at hr
 obtain ⟨x,_,rfl⟩:=hr
 simp [gQ] at hc
 rcases hc with rfl | rfl<;>rfl
structure qR where
 ths:List yH
 chs:List jP
 tr:List bB
 deriving DecidableEq,Inhabited
def uB (m:Mode) (x:qR):List AV:=[.sl m 3 (yB m x.ths),.sl m 3 (qZ m x.chs),.sl m 2 (yR x.tr)]
def vK (m:Mode) (l:List qR):List (List AV):=l.map (uB m)
theorem qJg (m:Mode):vK m []=[]:=rfl
theorem cE (m:Mode) (l:List qR):(vK m l).length=l.length:=by simp [vK]
theorem qCr (m:Mode) (l k:List qR):vK m l++vK m k=vK m (l++k):=by simp [vK]
theorem rP (m:Mode) (l:List qR) (n:Nat):(vK m l).drop n=vK m (l.drop n):=by simp [vK]
theorem rO (m:Mode) (l:List qR) (n:Nat):(vK m l).take n=vK m (l.take n):=by simp [vK]
theorem qJf (m:Mode) (l:List qR) (i:Nat) (ths_:List yH) (chs_:List jP) (tr_:List bB):(vK m l).set i [.sl m 3 (yB m ths_),.sl m 3 (qZ m chs_),.sl m 2 (yR tr_)]=vK m (l.set i ⟨ths_,chs_,tr_⟩):=by simp [vK,uB]
theorem uM (A:Nat→Prop) (m:Mode) (l:List qR):yM A (vK m l)↔True:=by
 simp only [iff_true]
 induction l with
 | nil=>trivial
 | cons x l ih=>exact ⟨by simp [uB,yX,bnd,dQ,yO,vT,jK,vI,vW,uH,jZ,bN,gF],ih⟩
theorem bP (l:List qR):nbr (vK .own l)↔True:=by
 simp only [iff_true]
 induction l with
 | nil=>trivial
 | cons x l ih=>exact ⟨by simp [uB,nbs,nb,vS,bG,vC,uQ,bA,uO,vQ,gV,dC],ih⟩
theorem uY (m:Mode) :∀(l:List qR),bwR (vK m l)=vK .bw l
 | []=>rfl
 | x::l=>by
  have:=uY m l
  simp only [vK,qX7,bwR] at this⊢
  rw [this]
  simp [uB,bwL,bwC,uD,uV,jS,uF,uR,uZ,vG,gI,gY]
theorem qHq (l:List qR):free (vK .bw l)↔True:=by
 simp only [iff_true]
 intro r hr c hc
 simp only [vK,qYq] at hr
 obtain ⟨x,_,rfl⟩:=hr
 simp [uB] at hc
 rcases hc with rfl | rfl | rfl<;>rfl
def bys (l:List Int):List (List AV):=l.map fun b=>[.int .u8 b]
theorem qV1:bys []=[]:=rfl
theorem pY (l:List Int):(bys l).length=l.length:=by simp [bys]
theorem qNa (l k:List Int):bys l++bys k=bys (l++k):=by simp [bys]
theorem qL7 (l:List Int) (n:Nat):(bys l).drop n=bys (l.drop n):=by simp [bys]
theorem qL5 (l:List Int) (n:Nat):(bys l).take n=bys (l.take n):=by simp [bys]
theorem qV0 (l:List Int) (i:Nat) (b_:Int):(bys l).set i [.int .u8 b_]=bys (l.set i b_):=by simp [bys]
theorem qL6 (l:List Int) (i:Nat) (h:i<l.length):(bys l).getD i []=[.int .u8 (l.getD i 0)]:=by simp [bys,List.getD_eq_getElem?_getD,h]
theorem aW (A:Nat→Prop) (l:List Int):yM A (bys l)↔True:=by
 simp only [iff_true]
 induction l with
 | nil=>trivial
 | cons x l ih=>exact ⟨by simp [yX,bnd,dQ,yO,vT,jK,vI,vW,uH,jZ,bN,gF,uM],ih⟩
theorem hZ (l:List Int):nbr (bys l)↔True:=by
 simp only [iff_true]
 induction l with
 | nil=>trivial
 | cons x l ih=>exact ⟨by simp [nbs,nb,vS,bG,vC,uQ,bA,uO,vQ,gV,dC,bP],ih⟩
theorem cU :∀(l:List Int),bwR (bys l)=bys l
 | []=>rfl
 | x::l=>by
  have:=cU l
  simp only [bys,qX7,bwR] at this⊢
  rw [this]
  simp [bwL,bwC,uD,uV,jS,uF,uR,uZ,vG,gI,gY,uY]
theorem qTs (l:List Int):free (bys l)↔True:=by
 simp only [iff_true]
 intro r hr c hc
 simp only [bys,qYq] at hr
 obtain ⟨x,_,rfl⟩:=hr
 simp [] at hc
 rcases hc with rfl<;>rfl
structure Cur where
 i:Nat
 h:Int
 deriving Inhabited
def iT (code:List Int) (c:Cur):List AV:=[.sl .fz 1 (bys code),.int .i64 c.i,.int .i64 c.h]
theorem fS:(∀n,del [] n=[])∧(∀m s h n,del ((m,s)::h) n=if n=m then del h n else (m,s)::del h n)∧(∀n r,put [] n r=[(n,r)])∧(∀m s h n r,put ((m,s)::h) n r=if n=m then (m,r)::h else (m,s)::put h n r)∧(∀{α:Type} (a b:α) (l:List α),(a::l).set 0 b=b::l)∧(∀{α:Type} (a b:α) (l:List α) (n:Nat),(a::l).set (n+1) b=a::l.set n b)∧(∀{α:Type} (a b:α),(if True then a else b)=a)∧(∀{α:Type} (a b:α),(if False then a else b)=b)∧(∀l,(yF l).length=l.length)∧(∀l n,(yF l).take n=yF (l.take n))∧(∀l n,(yF l).drop n=yF (l.drop n))∧(∀o l rows,zM o l rows=if o=0∧rows.length=l then rows else (rows.drop o).take l)∧(∀{α:Type} (a:α) (l:List α),(a::l).length=l.length+1)∧(∀{α:Type},([]:List α).length=0)∧(∀p:Prop,(p∧p)=p)∧(∀p:Prop,(p∧True)=p)∧(∀p:Prop,(True∧p)=p)∧(∀l,(jU l).length=l.length)∧(∀m l,(yP m l).length=l.length)∧(∀m l,(dO m l).length=l.length)∧(∀m l,(qZ m l).length=l.length)∧(∀l,(yR l).length=l.length)∧(∀m l,(yB m l).length=l.length)∧(∀m l,(dL m l).length=l.length)∧(∀m l,(dM m l).length=l.length)∧(∀m l,(vK m l).length=l.length)∧(∀l,(bys l).length=l.length)∧(∀{α:Type} (a b:List α),(a++b).length=a.length+b.length)∧(∀{α:Type} (n:Nat) (a:α),(List.replicate n a).length=n)∧(∀{α:Type} (l:List α) (n:Nat) (a:α),(l.set n a).length=l.length):=by
 refine ⟨?_,?_,?_,?_,?_,?_,?_,?_,?_,?_,?_,?_,?_,?_,?_,?_,?_,?_,?_,?_,?_,?_,?_,?_,?_,?_,?_,?_,?_,?_⟩<;>intros<;>simp [del,put,zM,eE,mX,iB,kU,eS,kM,gW,kB,kH,cE,pY]
attribute [go_sem] fZ vM qVh qVj qOv qTd qVk qTa qVi qTh qOu qTi qTb wC qOg qGd Arg.ev qV bD qUl if_false if_true gT put del eE qAr Option.map_some Option.bind_some qN Int.toNat_natCast qVl qT9 qTe gE true_and and_true qK2 qK0 qK1 qBr tI Bool.false_eq_true xE cellsOf yL List.isEmpty_nil List.isEmpty_cons fresh List.map_nil qX7 List.cons_append List.nil_append bO List.take_zero List.drop_zero List.take_succ_cons List.getD_cons_zero List.length_cons List.length_nil List.drop_succ_cons List.drop_nil List.append_nil List.all_cons List.all_nil yJ Bool.and_self Nat.zero_add qTf qTg qT8 qOt qOs qOq qOr qTj qVg qE2 qKt qGs qM0 qM4 qEm jW jY zG qH4 eL yD apart List.filter_nil List.filter_cons Option.isSome_some Option.isSome_none List.contains_nil List.contains_cons List.forall_mem_cons List.mem_cons List.not_mem_nil false_implies implies_true forall_const forall_eq_or_imp forall_eq or_false beq_self_eq_true Bool.or_false Bool.false_or Bool.true_or Bool.or_true Bool.not_true Bool.not_false xv xo xg xr xi xz List.set_set qDj qBj qGq qGr sT oM qGn qAl iI eqC aV qBf List.replicate_zero decide_true decide_false qDw qJv List.replicate_succ Int.toNat_zero Int.toNat_one eq_self Bool.and_true Bool.true_and Bool.and_false Bool.false_and List.set_cons_zero List.set_cons_succ List.getD_cons_succ rnm ixm jM aC wW jI cond_true cond_false oH oG sW mX qKh qGh qGg qSu dI iB qFl qBv qBu qNg kU qId qDv qDu qQb eS lE qE9 qE8 gG aE kM kN qDe qDd qPq sD gW cC rI rH qL xH kB qHe qCk qCj qP0 qAy kH qHy qD4 qD3 qPk gQ cE qCr rP rO qJf uB pY qNa qL7 qL5 qV0
attribute [simp] cO bwT bwC bwL uD oG qV Arg.ev gC pZ pD qEf dQ qI2 qC8 yO okV okL nb nbs nbr vS qN eE bnd yX yM jM aC ixm rnm apart eL jW jY fresh wW jI gP qJ1 bL cP uJ del sL zM oH sW shp okB qJt qGf qPw qSb qSa qS5 qMb qS8 qUo qS9 qPv qS6 qUq qS7 kP qGb qT2 qQi qSv uV vT bG mX qGg qGh qQf qNh jS jK vC iB qBu qBv qLb qQc uF vI uQ kU qDu qDv qMp qGx uR vW bA eS qE8 qE9 qN3 qGa uZ uH uO kM qDd qDe qM9 qAz vG jZ vQ gW rH rI qHl qP1 gI bN gV kB qCj qCk qLr qPl gY gF dC kH qD3 qD4 qM1 qJg uY uM bP cE rO rP qHq qV1 cU aW hZ pY qL5 qL7 qTs iT dI aE sD xH qAy gQ uB
theorem qDf :∀(l:List (List AV)),dN l l
 | []=>by simp [dN]
 | r::l=>(kP r r l l).2 ⟨iN r,qDf l⟩
theorem qGc :∀{a a' b b':List (List AV)},dN a a'→dN b b'→dN (a++b) (a'++b')
 | [],a',b,b',h1,h2=>by
  simp only [dN] at h1
  subst h1
  exact h2
 | r::a,a',b,b',h1,h2=>by
  simp only [dN] at h1
  obtain ⟨d,ds,rfl,h3,h4⟩:=h1
  exact (kP r d _ _).2 ⟨h3,qGc h4 h2⟩
theorem Sub.nilRow (nm:Nat) {t:List (Nat×AV)} {h:wI} {nx sz:Nat} {rows rows':List (List AV)} (hl:qN h nm=some (sz,rows)) (hn:dN rows rows') (hbn:yM (· < nx) rows'):Sub (.mk t h nx) (.mk t (put h nm (sz,rows')) nx):=by
 rintro B a w ⟨h1,h2,hb,hbt,φ,Lf,hl'⟩
 have hlk :∀n,qN (put h nm (sz,rows')) n=if n=nm then some (sz,rows') else qN h n:=fun n=>qDl n
 have hne :∀n,qN (put h nm (sz,rows')) n≠none→qN h n≠none:=fun n hn'=>by
  rw [hlk] at hn'
  split at hn'
  ·rename_i he; rw [he,hl]; simp
  ·exact hn'
 refine ⟨h1,h2,?_,hbt,φ,Lf,⟨hl'.ok.size0,hl'.ok.io0,hl'.ok.fr,hl'.ok.keep0,fun n hn'=>hl'.ok.own0 n (hne n hn'),?_,fun n hn'=>hl'.ok.rh.nodup n (hne n hn'),fun n hn'=>hl'.ok.rh.blk n (hne n hn'),fun n m hn' hm=>hl'.ok.rh.dis n m (hne n hn') (hne m hm),?_⟩,hl'.tm,hl'.φ0,hl'.ten⟩
 ·intro n row hr
  rw [hlk] at hr
  split at hr
  ·rename_i he
   simp only [Option.some.injEq] at hr
   subst hr he
   exact ⟨(hb n _ hl).1,hbn⟩
  ·exact hb n row hr
 ·intro n row hr
  rw [hlk] at hr
  split at hr
  ·rename_i he
   simp only [Option.some.injEq] at hr
   subst hr he
   have:=hl'.ok.rh.row n _ hl
   unfold uT bY at this⊢
   cases hq:(B.env w φ).φ n with
   | dead=>rw [hq] at this; exact this.elim
   | nilp =>
    rw [hq] at this
    simp only at this
    obtain ⟨h3,h4⟩:=this
    rw [h3] at hn
    simp only [dN] at hn
    exact ⟨hn,h4⟩
   | «at» p =>
    rw [hq] at this
    obtain ⟨h3,h4,Lr,h5,h6⟩:=this
    exact ⟨h3,by rw [kO hn]; exact h4,Lr,qDg hn h5,h6⟩
  ·exact hl'.ok.rh.row n row hr
 ·intro n hn'
  rw [hlk] at hn'
  split at hn'
  ·simp at hn'
  ·exact hl'.ok.rh.dead n hn'
theorem Sub.nilLast (nm:Nat) {t:List (Nat×AV)} {h:wI} {nx sz:Nat} {front:List (List AV)} {r r':List AV} (hl:qN h nm=some (sz,front++[r])) (hn:wF r r') (hbn:yM (· < nx) (front++[r'])):Sub (.mk t h nx) (.mk t (put h nm (sz,front++[r'])) nx) :=
 Sub.nilRow nm hl (qGc (qDf front) ((kP r r' [] []).2 ⟨hn,(qGb).2 trivial⟩)) hbn
theorem wG {rs:List qC3} {fp:FP} {v:AV} {s:AS} {t:List (Nat×AV)} {h:wI} {nx:Nat} (hs:Sub s (.mk t h nx)) (h1:qJ1 (rs.map fun r=>(gP t h r).2)∧(bL h (rs.map fun r=>(gP t h r).1)).2.2∧wF (bL h (rs.map fun r=>(gP t h r).1)).1 [v]∧∀x∈fp,qN (bL h (rs.map fun r=>(gP t h r).1)).2.1 x.1=qN (uJ fp) x.1):Fin rs fp v s :=
 ⟨_,hs,jV h1⟩
theorem qIg {rs:List qC3} {fp:FP} {vs:List AV} {s:AS} {t:List (Nat×AV)} {h:wI} {nx:Nat} (h0:vs.length≠1) (hs:Sub s (.mk t h nx)) (h1:qJ1 (rs.map fun r=>(gP t h r).2)∧(bL h (rs.map fun r=>(gP t h r).1)).2.2∧wF (bL h (rs.map fun r=>(gP t h r).1)).1 vs∧∀x∈fp,qN (bL h (rs.map fun r=>(gP t h r).1)).2.1 x.1=qN (uJ fp) x.1):Fin rs fp (.tup vs) s :=
 ⟨_,hs,qEz h0 h1⟩
theorem K {p q:Prop} (k:q) (h:p:=by first | omega | (simp [-List.getD_eq_getElem?_getD]; first | done | omega)):p∧q:=⟨h,k⟩
theorem CA {P:Program} {num:Nat→Nat} {fin:AS→Prop} {f nx:Nat} {ps:List Bool} {xs:List Arg} {t:List (Nat×AV)} {h:wI} {fp:FP} {res:AV} {vargs:List AV} {dst:Option Nat} {k:List It} (σ:List (Nat×Nat)) (hc:wM P num f vargs fp res)
  (hk:vc P num fin k (.mk (bD t dst (wW nx (jM (rnm σ) res)).1) (gT h (fp.map (fun x=>(rnm σ x.1,x.2))++fresh (wW nx (jM (rnm σ) res)).2.1)) (wW nx (jM (rnm σ) res)).2.2))
  (hv:wF (cO (ixm σ) h ps (xs.map (Arg.ev (qV t)))) vargs:=by first | omega | (simp [wF,wH]; done) | (simp [wF,wH, *]; done))
  (hvo:gC h (fun n =>∃x∈fp,x.2.1≠none∧n=rnm σ x.1∧ixm σ n=x.1) (fun n =>∃x∈fp,n=rnm σ x.1) ps (xs.map (Arg.ev (qV t))):=by first | omega | (simp [wF,wH]; done) | (simp [wF,wH, *]; done))
  (hnd:(fp.map (fun x=>rnm σ x.1)).Nodup:=by first | (simp [wF,wH]; done) | (simp [wF,wH, *]; done))
  (hpre :∀x∈fp,qN h (rnm σ x.1)=x.2.1∧(x.2.1=none→nx≤rnm σ x.1)∧rnm σ x.1<nx:=by first | (simp [wF,wH]; done) | (simp [wF,wH, *]; done))
  (hnb :∀x∈fp,(∀r,x.2.1=some r→nbr r.2)∧(∀r,x.2.2=some r→nbr r.2):=by first | (simp [wF,wH]; done) | (simp [wF,wH, *]; done))
  (hres:okV (fun k =>∃x∈fp,x.1=k∧x.2.2≠none) res:=by first | (simp [wF,wH]; done) | (simp [wF,wH, *]; done)):qH0 P num fin (.call f ps xs) dst k (.mk t h nx) :=
 nK (qEd σ hc hv hvo hnd hpre hnb hres) hk
theorem DA {P:Program} {num:Nat→Nat} {fin:AS→Prop} {f nx:Nat} {ps:List Bool} {xs:List Arg} {t:List (Nat×AV)} {h:wI} {fp:FP} {res:AV} {vargs:List AV} {pend:List (Nat×List Nat)} {dst:Option Nat} {tr:vO} {k:List It} (σ:List (Nat×Nat)) (hc:wM P num f vargs fp res)
  (hk:vc P num fin (.draw tr pend::k) (.mk (bD t dst (wW nx (jM (rnm σ) res)).1) (gT h (fp.map (fun x=>(rnm σ x.1,x.2))++fresh (wW nx (jM (rnm σ) res)).2.1)) (wW nx (jM (rnm σ) res)).2.2))
  (hv:wF (cO (ixm σ) h ps (xs.map (Arg.ev (qV t)))) vargs:=by first | omega | (simp [wF,wH]; done) | (simp [wF,wH, *]; done))
  (hvo:gC h (fun n =>∃x∈fp,x.2.1≠none∧n=rnm σ x.1∧ixm σ n=x.1) (fun n =>∃x∈fp,n=rnm σ x.1) ps (xs.map (Arg.ev (qV t))):=by first | omega | (simp [wF,wH]; done) | (simp [wF,wH, *]; done))
  (hnd:(fp.map (fun x=>rnm σ x.1)).Nodup:=by first | (simp [wF,wH]; done) | (simp [wF,wH, *]; done))
  (hpre :∀x∈fp,qN h (rnm σ x.1)=x.2.1∧(x.2.1=none→nx≤rnm σ x.1)∧rnm σ x.1<nx:=by first | (simp [wF,wH]; done) | (simp [wF,wH, *]; done))
  (hnb :∀x∈fp,(∀r,x.2.1=some r→nbr r.2)∧(∀r,x.2.2=some r→nbr r.2):=by first | (simp [wF,wH]; done) | (simp [wF,wH, *]; done))
  (hres:okV (fun k =>∃x∈fp,x.1=k∧x.2.2≠none) res:=by first | (simp [wF,wH]; done) | (simp [wF,wH, *]; done))
  (ha:apart pend (fp.map (fun x=>(rnm σ x.1,x.2))++fresh (wW nx (jM (rnm σ) res)).2.1):=by first | (simp [wF,wH]; done) | (simp [wF,wH, *]; done)):qGt P num fin (.call f ps xs) pend dst tr k t h nx :=
 nF (qEd σ hc hv hvo hnd hpre hnb hres) ha hk
theorem DAV {P:Program} {num:Nat→Nat} {fin:AS→Prop} {f nx:Nat} {y:Arg} {xs:List Arg} {t:List (Nat×AV)} {h:wI} {fp:FP} {res:AV} {vargs:List AV} {pend:List (Nat×List Nat)} {dst:Option Nat} {tr:vO} {k:List It} (σ:List (Nat×Nat)) (hc:wM P num f vargs fp res)
  (hk:vc P num fin (.draw tr pend::k) (.mk (bD t dst (wW nx (jM (rnm σ) res)).1) (gT h (fp.map (fun x=>(rnm σ x.1,x.2))++fresh (wW nx (jM (rnm σ) res)).2.1)) (wW nx (jM (rnm σ) res)).2.2))
  (hy:y.ev (qV t)=.fn f []:=by first | rfl | (simp; done) | (simp [*]; done))
  (hv:wF (cO (ixm σ) h (xs.map fun _=>false) (xs.map (Arg.ev (qV t)))) vargs:=by first | omega | (simp [wF,wH]; done) | (simp [wF,wH, *]; done))
  (hvo:gC h (fun n =>∃x∈fp,x.2.1≠none∧n=rnm σ x.1∧ixm σ n=x.1) (fun n =>∃x∈fp,n=rnm σ x.1) (xs.map fun _=>false) (xs.map (Arg.ev (qV t))):=by first | omega | (simp [wF,wH]; done) | (simp [wF,wH, *]; done))
  (hnd:(fp.map (fun x=>rnm σ x.1)).Nodup:=by first | (simp [wF,wH]; done) | (simp [wF,wH, *]; done))
  (hpre :∀x∈fp,qN h (rnm σ x.1)=x.2.1∧(x.2.1=none→nx≤rnm σ x.1)∧rnm σ x.1<nx:=by first | (simp [wF,wH]; done) | (simp [wF,wH, *]; done))
  (hnb :∀x∈fp,(∀r,x.2.1=some r→nbr r.2)∧(∀r,x.2.2=some r→nbr r.2):=by first | (simp [wF,wH]; done) | (simp [wF,wH, *]; done))
  (hres:okV (fun k =>∃x∈fp,x.1=k∧x.2.2≠none) res:=by first | (simp [wF,wH]; done) | (simp [wF,wH, *]; done))
  (ha:apart pend (fp.map (fun x=>(rnm σ x.1,x.2))++fresh (wW nx (jM (rnm σ) res)).2.1):=by first | (simp [wF,wH]; done) | (simp [wF,wH, *]; done)):qGt P num fin (.calv y xs) pend dst tr k t h nx :=
 nF (qUz σ hc hv hvo hnd hpre hnb hres (Nat.le_refl _) hy) ha hk
def qDk (k:Int) (n:Nat):List Int:=(List.range n).map fun (i:Nat)=>k+i
@[simp] theorem qUr (k:Int) (n:Nat):(qDk k n).length=n:=by simp [qDk]
@[simp] theorem qVx (k:Int) (n:Nat):(qDk k n).take n=qDk k n:=List.take_of_length_le (by simp)
theorem fK (xs:List Int) (hx:8*xs.length≤2^47):wM Try.prog num 36 [.sl .bw 1 (yF xs)] [] (.sl .own 1 (yF xs)):=by
 refine EN m36 Try.func71 ?_
 unfold m36
 simp only [go_sem,seval]
 repeat refine K ?_
 refine fz ?_; simp [jA,wF,wH,yE,-qYu]
def qS (n lo hi:Int):Bool:=decide (lo≤n)&&decide (n≤hi)
theorem qK {n lo hi:Int}:qS n lo hi=true↔lo≤n∧n≤hi:=by simp [qS]
def uE (b:Bool):Int:=if b then 1 else 0
theorem uU (n lo hi:Int):wM Try.prog num 59 [.int .i64 n,.int .i64 lo,.int .i64 hi] [] (.bool (qS n lo hi)):=by
 refine EN m59 Try.func56 ?_
 unfold m59
 by_cases h1:lo≤n<;>by_cases h2:n≤hi<;>(simp only [go_sem,seval,h1,h2]; refine fz ?_; simp [jA,wF,wH,yE,-qYu]; simp [qS,h1,h2])
theorem iM (b:Bool):wM Try.prog num 78 [.bool b] [] (.int .i64 (uE b)):=by
 refine EN m78 Try.func84 ?_
 unfold m78
 cases b<;>(simp only [go_sem,seval]; refine fz ?_; simp [jA,wF,wH,yE,-qYu]; simp [uE])
theorem qKe (n:Int):wM Try.prog num 97 [.int .i64 n] [] (.bool (qS n 0 3)):=by
 refine EN m97 Try.func54 ?_
 unfold m97
 simp only [go_sem,seval]
 refine CA [] (uU n 0 3) ?_
 try simp only [go_sem,seval]
 refine fz ?_; simp [jA,wF,wH,yE,-qYu]
theorem qG5 (n:Int):wM Try.prog num 44 [.int .i64 n] [] (.bool (qS n 5 9)):=by
 refine EN m44 Try.func91 ?_
 unfold m44
 simp only [go_sem,seval]
 refine CA [] (uU n 5 9) ?_
 try simp only [go_sem,seval]
 refine fz ?_; simp [jA,wF,wH,yE,-qYu]
theorem qIk (l:List bB) (hx:16*l.length≤2^47):wM Try.prog num 69 [.sl .bw 2 (yR l)] [] (.sl .own 2 (yR l)):=by
 refine EN m69 Try.func70 ?_
 unfold m69
 simp only [go_sem,seval]
 repeat refine K ?_
 refine fz ?_; simp [jA,wF,wH,yE,-qYu]
theorem fL (c:jP) (hx:8*c.list.length≤2^47):wM Try.prog num 70 [.agg (aE .bw c)] [] (.agg (aE .own c)):=by
 refine EN m70 Try.func72 ?_
 unfold m70
 simp only [go_sem,seval]
 refine CA [] (fK c.list hx) ?_
 try simp only [go_sem,seval]
 refine fz ?_; simp [jA,wF,wH,yE,-qYu]
def jJ (c:jP):Bool:=qS c.cap 1 4&&decide ((c.list.length:Int)≤c.cap)
theorem aT (c:jP):wM Try.prog num 72 [.agg (aE .bw c)] [] (.bool (jJ c)):=by
 refine EN m72 Try.func69 ?_
 unfold m72
 simp only [go_sem,seval]
 refine CA [] (uU c.cap 1 4) ?_
 try simp only [go_sem,seval]
 cases h:qS c.cap 1 4
 ·simp only [go_sem,seval,h]
  refine fz ?_; simp [jA,wF,wH,yE,-qYu]
  simp [jJ,h]
 ·simp only [go_sem,seval,h]
  refine fz ?_; simp [jA,wF,wH,yE,-qYu]
  simp [jJ,h]
def yZ (x:Ins) (pl ch:Int):Bool :=
 qS x.r 0 3&&qS x.a 0 3&&qS x.b 0 3&&qS ch 0 3 &&
 (if x.op=1 then qS x.n (-1000000000) 1000000000&&decide (x.a=0)&&decide (x.b=0)
  else if x.op=2∨x.op=3∨x.op=4 then decide (x.n=0)
  else if x.op=5 then qS x.n 0 (ch-1)&&decide (x.r=0)&&decide (x.b=0)
  else if x.op=6∨x.op=8 then qS x.n 0 (ch-1)&&decide (x.a=0)&&!decide (x.r=x.b)
  else if x.op=7 then qS x.n 0 (ch-1)&&decide (x.b=0)
  else if x.op=9 then qS x.n 0 (ch-1)&&decide (x.r=0)&&decide (x.a=0)&&decide (x.b=0)
  else if x.op=10 then decide (x.r=0)&&decide (x.b=0)&&decide (x.n=0)
  else if x.op=11 then decide (0≤x.n)&&decide (x.n<pl)&&decide (x.r=0)&&decide (x.a=0)&&decide (x.b=0)
  else if x.op=12 then decide (0≤x.n)&&decide (x.n<pl)&&decide (x.r=0)&&decide (x.b=0)
  else if x.op=13 then decide (x.op=13)&&(decide (x.r=0)&&(decide (x.a=0)&&(decide (x.b=0)&&decide (x.n=0))))
  else false)
def qBa (x:Ins):Ins :=
 if x.op=1 then ⟨x.op,x.r,0,0,x.n⟩
 else if x.op=2∨x.op=3∨x.op=4 then ⟨x.op,x.r,x.a,x.b,0⟩
 else if x.op=5∨x.op=12 then ⟨x.op,0,x.a,0,x.n⟩
 else if x.op=6∨x.op=8 then ⟨x.op,x.r,0,x.b,x.n⟩
 else if x.op=7 then ⟨x.op,x.r,x.a,0,x.n⟩
 else if x.op=9∨x.op=11 then ⟨x.op,0,0,0,x.n⟩
 else if x.op=10 then ⟨x.op,0,x.a,0,0⟩
 else ⟨x.op,0,0,0,0⟩
def nA (x:Ins) (pl ch:Int):Bool :=
 qS ch 0 3&&qS x.op 1 13&&(decide (x.op=(qBa x).op)&&(decide (x.r=(qBa x).r)&&(decide (x.a=(qBa x).a)&&(decide (x.b=(qBa x).b)&&decide (x.n=(qBa x).n))))) &&
 qS x.r 0 3&&qS x.a 0 3&&qS x.b 0 3 &&
 (if x.op=1 then qS x.n (-1000000000) 1000000000
  else if x.op=11∨x.op=12 then qS x.n 0 (pl-1)
  else if (x.op=6∨x.op=8)∧x.r=x.b then false
  else !qS x.op 5 9||qS x.n 0 (ch-1))
theorem qJw (x:Ins):wM Try.prog num 96 [.agg (dI x)] [] (.agg (dI (qBa x))):=by
 refine EN m96 Try.func90 ?_
 unfold m96
 repeat' (first
  | (simp only [go_sem,seval])
  | (refine wK (fun hc=>?_) (fun hc=>?_)<;>((try simp only [qYv,qYw,ne_eq,qYx,qYy] at hc)<;>(try simp only [hc])))
  | (refine eC (fun hc=>?_) (fun hc=>?_)<;>((try simp only [qYv,qYw,ne_eq,qYx,qYy] at hc)<;>(try simp only [hc])))
  | (refine xY (fun hc=>?_) (fun hc=>?_)<;>((try simp only [qYv,qYw,ne_eq,qYx,qYy] at hc)<;>(try simp only [hc])))
  | (refine ⟨by first | omega | (simp; done),?_⟩)
  | fail)
 all_goals (refine fz ?_; simp [jA,wF,wH,yE,-qYu])
 all_goals (try (simp_all [qBa]; done))
theorem tR (n lo hi:Int):qS n lo hi=decide (lo≤n∧n≤hi):=by simp [qS]
theorem oI (x:Ins) (pl ch:Int):nA x pl ch=yZ x pl ch:=by
 obtain ⟨op,r,a,b,n⟩:=x
 by_cases h:1≤op∧op≤13
 ·obtain rfl | rfl | rfl | rfl | rfl | rfl | rfl | rfl | rfl | rfl | rfl | rfl | rfl:op=1∨op=2∨op=3∨op=4∨op=5∨op=6∨op=7∨op=8∨op=9∨op=10∨op=11∨op=12∨op=13:=by omega
  all_goals (rw [Bool.eq_iff_iff]; simp [nA,yZ,qBa,tR]; try omega)
 ·have h1 :¬op=1:=by omega
  have h2 :¬op=2:=by omega
  have h3 :¬op=3:=by omega
  have h4 :¬op=4:=by omega
  have h5 :¬op=5:=by omega
  have h6 :¬op=6:=by omega
  have h7 :¬op=7:=by omega
  have h8 :¬op=8:=by omega
  have h9 :¬op=9:=by omega
  have h10 :¬op=10:=by omega
  have h11 :¬op=11:=by omega
  have h12 :¬op=12:=by omega
  have h13 :¬op=13:=by omega
  have hw:qS op 1 13=false:=by rw [tR]; simp; omega
  simp [nA,yZ,hw,h1,h2,h3,h4,h5,h6,h7,h8,h9,h10,h11,h12,h13]
end Go.Sep
