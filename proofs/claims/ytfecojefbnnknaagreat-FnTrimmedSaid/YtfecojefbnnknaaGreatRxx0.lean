/- Contracts of functions. -/
import Derived.Test.YtfecojefbnnknaaGreatRzFns
open Bool renaming not_eq_false → wDd, not_eq_false' → wDb, not_eq_true → wDc, not_eq_true' → wDa
open List renaming drop_one → wD9, getD_eq_getElem?_getD → wBr, map_cons → wBm, mem_map → wD5
namespace Go.Sep
set_option maxHeartbeats 16000000
open Go.Proofs
set_option linter.unusedSimpArgs false
set_option linter.unusedVariables false
set_option maxRecDepth 100000
def m5:MFn:=⟨22,[.t 2],kr [xo 2 (.mv (.c (.nil)))] (kr [xv 5 0,xe 6 5,xo 7 (.mkS [xz] 8 (.t 6) (.t 6)),xv 3 7] (.seq (kr [xI 4 0] (.blk 0 (.loop (.seq (kr [xv 8 4,xv 9 0,xe 10 9,bT 11 .lss 8 10] (kX 11 0)) (.seq (.blk 1 (xr [xv 14 3,xv 15 4,xv 16 0,xv 17 4,xD 18 1 16 17,xl 19 18,xD 20 1 14 15,xS 1 20 19])) (xr [xv 12 4,bI 13 .add 12 1,xv 4 13])))))) (kR [xv 21 3,xv 2 21])))⟩
def m36:MFn:=⟨6,[.t 2],kr [xo 2 (.mv (.c (.nil)))] (kR [xo 3 (.mkSl [xz] 0 []),xv 4 0,xA 5 1 8 3 4,xv 2 5])⟩
def m44:MFn:=⟨5,[.t 2],kr [xF 2] (kR [xv 3 0,xc3 4 59 (.t 3) (xi 5) (xi 9),xv 2 4])⟩
def m59:MFn:=⟨15,[.t 6],kr [xF 6] (kR [xv 7 0,xv 8 1,bT 9 .geq 7 8,xv 10 9,yv 11 0 10,yv 12 2 10,xg 13 (.bin .leq (.t 11) (.t 12)) 10 true,xP 14 10 13,xv 6 14])⟩
def m64:MFn:=⟨15,[.t 6],kr [xF 6] (kR [xv 7 0,xv 8 1,bT 9 .geq 7 8,xv 10 9,yv 11 0 10,yv 12 2 10,xg 13 (.bin .leq (.t 11) (.t 12)) 10 true,xP 14 10 13,xv 6 14])⟩
def m69:MFn:=⟨6,[.t 2],kr [xo 2 (.mv (.c (.nil)))] (kR [xo 3 (.mkSl [xz,xz] 0 []),xv 4 0,xA 5 2 16 3 4,xv 2 5])⟩
def m70:MFn:=⟨8,[.cell 2 3 true],kr [xb 1 0,xo 2 (.alloc [.int .i64 0,.nil,.bool false])] (kr [xa 3 1 1,xl 4 3,xc1 5 36 (.t 4),xa 6 1 1,xS 1 6 5] (kR [xm 7 3 1,xS 3 2 7]))⟩
def m72:MFn:=⟨14,[.t 2],kr [xb 1 0,xF 2] (kR [xa 3 0 1,xl 4 3,xc3 5 59 (.t 4) (xi 1) (xi 4),xv 6 5,ya 7 1 1 6,yl 8 1 7 6,ye 9 8 6,ya 10 0 1 6,yl 11 1 10 6,xg 12 (.bin .leq (.t 9) (.t 11)) 6 true,xP 13 6 12,xv 2 13])⟩
def m78:MFn:=⟨4,[.t 2],kr [xI 2 0] (.seq (kr [xv 3 0] (kF 3 [xI 2 1])) (kR [xI 2 0]))⟩
def m85:MFn:=⟨4,[.t 2],kr [xI 2 0] (.seq (kr [xv 3 0] (kF 3 [xI 2 1])) (kR [xI 2 0]))⟩
def m96:MFn:=⟨74,[.cell 2 5 true],kr [xb 1 0,xo 2 (.alloc [xz,xz,xz,xz,xz])] (kr [xa 4 0 1,xl 5 4,xo 6 (.build [xz,xz,xz,xz,xz] [(0,1,.t 5)]),xo 3 (.alloc [xz,xz,xz,xz,xz]),xS 5 3 6] (.seq (kr [xa 7 0 1,xl 8 7] (.blk 0 (kr [bI 10 .eql 8 1,xv 9 10] (.cond 9 (.dreg (.take 0 (xa 11 1 1) (.take 1 (xl 12 11) (.take 2 (xa 13 4 1) (.take 3 (xl 14 13) (.only 4 [0,1] (xa 15 1 3) (.only 5 [0,1] (xS 1 15 12) (.only 6 [0,1,2,3] (xa 16 4 3) (.only 7 [0,1,2,3] (xS 1 16 14) (.done)))))))))) (.seq (kr [bI 18 .eql 8 2,xv 17 18] (.cond 17 (.skip) (kr [bI 19 .eql 8 3,xv 17 19] (.cond 17 (.skip) (xr [bI 20 .eql 8 4,xv 17 20]))))) (.cond 17 (.dreg (.take 0 (xa 21 1 1) (.take 1 (xl 22 21) (.take 2 (xa 23 2 1) (.take 3 (xl 24 23) (.take 4 (xa 25 3 1) (.take 5 (xl 26 25) (.only 6 [0,1] (xa 27 1 3) (.only 7 [0,1] (xS 1 27 22) (.only 8 [0,1,2,3] (xa 28 2 3) (.only 9 [0,1,2,3] (xS 1 28 24) (.only 10 [0,1,2,3,4,5] (xa 29 3 3) (.only 11 [0,1,2,3,4,5] (xS 1 29 26) (.done)))))))))))))) (.seq (kr [bI 31 .eql 8 5,xv 30 31] (.cond 30 (.skip) (xr [bI 32 .eql 8 12,xv 30 32]))) (.cond 30 (.dreg (.take 0 (xa 33 2 1) (.take 1 (xl 34 33) (.take 2 (xa 35 4 1) (.take 3 (xl 36 35) (.only 4 [0,1] (xa 37 2 3) (.only 5 [0,1] (xS 1 37 34) (.only 6 [0,1,2,3] (xa 38 4 3) (.only 7 [0,1,2,3] (xS 1 38 36) (.done)))))))))) (.seq (kr [bI 40 .eql 8 6,xv 39 40] (.cond 39 (.skip) (xr [bI 41 .eql 8 8,xv 39 41]))) (.cond 39 (.dreg (.take 0 (xa 42 1 1) (.take 1 (xl 43 42) (.take 2 (xa 44 3 1) (.take 3 (xl 45 44) (.take 4 (xa 46 4 1) (.take 5 (xl 47 46) (.only 6 [0,1] (xa 48 1 3) (.only 7 [0,1] (xS 1 48 43) (.only 8 [0,1,2,3] (xa 49 3 3) (.only 9 [0,1,2,3] (xS 1 49 45) (.only 10 [0,1,2,3,4,5] (xa 50 4 3) (.only 11 [0,1,2,3,4,5] (xS 1 50 47) (.done)))))))))))))) (kr [bI 52 .eql 8 7,xv 51 52] (.cond 51 (.dreg (.take 0 (xa 53 1 1) (.take 1 (xl 54 53) (.take 2 (xa 55 2 1) (.take 3 (xl 56 55) (.take 4 (xa 57 4 1) (.take 5 (xl 58 57) (.only 6 [0,1] (xa 59 1 3) (.only 7 [0,1] (xS 1 59 54) (.only 8 [0,1,2,3] (xa 60 2 3) (.only 9 [0,1,2,3] (xS 1 60 56) (.only 10 [0,1,2,3,4,5] (xa 61 4 3) (.only 11 [0,1,2,3,4,5] (xS 1 61 58) (.done)))))))))))))) (.seq (kr [bI 63 .eql 8 9,xv 62 63] (.cond 62 (.skip) (xr [bI 64 .eql 8 11,xv 62 64]))) (.cond 62 (xr [xa 65 4 1,xl 66 65,xa 67 4 3,xS 1 67 66]) (kr [bI 69 .eql 8 10,xv 68 69] (.cond 68 (xr [xa 70 2 1,xl 71 70,xa 72 2 3,xS 1 72 71]) (.skip))))))))))))))))) (kR [xm 73 5 3,xS 5 2 73])))⟩
def m97:MFn:=⟨5,[.t 2],kr [xF 2] (kR [xv 3 0,xc3 4 59 (.t 3) (xi 0) (xi 3),xv 2 4])⟩
attribute [local go_sem] kD vY qZq qZs qSh qX0 qZt qWx qZr qX4 qSg qX5 qWy wO qS0 qIx Arg.ev wD bS qYf if_false if_true dR put del aG qCf Option.map_some Option.bind_some qQ Int.toNat_natCast qZu qWw qX1 gU true_and and_true qNf qNd qNe qDf qB2 Bool.false_eq_true aJ cellsOf yX List.isEmpty_nil List.isEmpty_cons fresh List.map_nil wBm List.cons_append List.nil_append gF List.take_zero List.drop_zero List.take_succ_cons List.getD_cons_zero List.length_cons List.length_nil List.drop_succ_cons List.drop_nil List.append_nil List.all_cons List.all_nil yS Bool.and_self Nat.zero_add qX2 qX3 qWv qSf qSe qSc qSd qX6 qZp qG6 qOb qJk qPm qPo qGy vH vJ xL qK0 cN yK apart List.filter_nil List.filter_cons Option.isSome_some Option.isSome_none List.contains_nil List.contains_cons List.forall_mem_cons List.mem_cons List.not_mem_nil false_implies implies_true forall_const forall_eq_or_imp forall_eq or_false beq_self_eq_true Bool.or_false Bool.false_or Bool.true_or Bool.or_true Bool.not_true Bool.not_false xv xo xg xr xi xz List.set_set qFp qD5 qJi qJj qAr rG qJf qC6 kT eqC eR qD0 List.replicate_zero decide_true decide_false qNy qN8 List.replicate_succ Int.toNat_zero Int.toNat_one eq_self Bool.and_true Bool.true_and Bool.and_false Bool.false_and List.set_cons_zero List.set_cons_succ List.getD_cons_succ rnm ixm jW aX yA jS cond_true cond_false rD rC qAt
attribute [local simp] fR bwT bwC bwL uQ rC wD Arg.ev gT tF sD qGl zM qL4 qE8 yZ okV okL nb nbs nbr uF qQ aG bnd jK yW jW aX ixm rnm apart cN vH vJ fresh yA jS dN qM2 gA fT uW del qAh xU rD qAt shp okB qN5 qJ4
theorem qHb {rs:List qE1} {fp:FP} {vs:List AV} {t:List (Nat×AV)} {h:wT} {nx:Nat} (h0:vs.length≠1) (h1:qM2 (rs.map fun r=>(dN t h r).2)∧(gA h (rs.map fun r=>(dN t h r).1)).2.2∧wJ (gA h (rs.map fun r=>(dN t h r).1)).1 vs∧∀x∈fp,qQ (gA h (rs.map fun r=>(dN t h r).1)).2.1 x.1=qQ (uW fp) x.1):yQ rs fp (.tup vs) (.mk t h nx):=by
 refine ⟨h1.1,h1.2.1,⟨vs,h1.2.2.1,?_⟩,h1.2.2.2⟩
 match vs,h0 with
 | [],_=>rfl
 | [_],h0=>exact absurd rfl h0
 | _::_::_,_=>rfl
theorem qU {rs:List qE1} {fp:FP} {v:AV} {t:List (Nat×AV)} {h:wT} {nx:Nat} (h1:qM2 (rs.map fun r=>(dN t h r).2)∧(gA h (rs.map fun r=>(dN t h r).1)).2.2∧wJ (gA h (rs.map fun r=>(dN t h r).1)).1 [v]∧∀x∈fp,qQ (gA h (rs.map fun r=>(dN t h r).1)).2.1 x.1=qQ (uW fp) x.1):yQ rs fp v (.mk t h nx) :=
 ⟨h1.1,h1.2.1,⟨[v],h1.2.2.1,rfl⟩,h1.2.2.2⟩
theorem qTs (c d:AV) (cs ds:List AV):wJ (c::cs) (d::ds)↔wK c d∧wJ cs ds:=by
 simp only [wJ,List.cons.injEq]
 exact ⟨fun ⟨_,_,⟨h1,h2⟩,h3,h4⟩=>by subst h1 h2; exact ⟨h3,h4⟩,fun ⟨h3,h4⟩=>⟨_,_,⟨rfl,rfl⟩,h3,h4⟩⟩
theorem qW0:wJ [] []↔True:=by simp [wJ]
theorem qVz (cs ds:List AV):wK (.agg cs) (.agg ds)↔wJ cs ds:=by simp [wK]
theorem qVu (cs ds:List AV):wK (.tup cs) (.tup ds)↔wJ cs ds:=by simp [wK]
theorem qPv (m:Mode) (sz:Nat):wK .nil (.sl m sz [])↔True:=by simp [wK]
theorem qVx:wK .nil .nil↔True:=by simp [wK]
theorem qYi (m:Mode) (sz:Nat) (rows:List (List AV)) (d:AV):wK (.sl m sz rows) d↔.sl m sz rows=d:=by simp [wK]
theorem qVy (k:IntKind) (n:Int) (d:AV):wK (.int k n) d↔.int k n=d:=by simp [wK]
theorem qTr (b:Bool) (d:AV):wK (.bool b) d↔.bool b=d:=by simp [wK]
theorem qVv (s:ByteArray) (d:AV):wK (.str s) d↔.str s=d:=by simp [wK]
theorem qYk (k o l:Nat) (d:AV):wK (.ns k o l) d↔.ns k o l=d:=by simp [wK]
theorem qVw (k o l:Nat) (d:AV):wK (.ptr k o l) d↔.ptr k o l=d:=by simp [wK]
theorem fN (r d:List AV) (rs ds:List (List AV)):dE (r::rs) (d::ds)↔wJ r d∧dE rs ds:=by
 simp only [dE,List.cons.injEq]
 exact ⟨fun ⟨_,_,⟨h1,h2⟩,h3,h4⟩=>by subst h1 h2; exact ⟨h3,h4⟩,fun ⟨h3,h4⟩=>⟨_,_,⟨rfl,rfl⟩,h3,h4⟩⟩
theorem qIv:dE [] []↔True:=by simp [dE]
theorem qWr:free []↔True:=by simp [free]
theorem qU9 (r:List AV) (rs:List (List AV)):free (r::rs)↔(∀c∈r,qAh c=false)∧free rs:=by simp [free]
structure Ins where
 op:Int
 r:Int
 a:Int
 b:Int
 n:Int
 deriving DecidableEq,Inhabited
def gE (x:Ins):List AV:=[.int .i64 x.op,.int .i64 x.r,.int .i64 x.a,.int .i64 x.b,.int .i64 x.n]
def yV (l:List Ins):List (List AV):=l.map gE
theorem qWl:yV []=[]:=rfl
theorem oW (l:List Ins):(yV l).length=l.length:=by simp [yV]
theorem qO0 (l k:List Ins):yV l++yV k=yV (l++k):=by simp [yV]
theorem qJ7 (l:List Ins) (n:Nat):(yV l).drop n=yV (l.drop n):=by simp [yV]
theorem qJ5 (l:List Ins) (n:Nat):(yV l).take n=yV (l.take n):=by simp [yV]
theorem qWk (l:List Ins) (i:Nat) (op_:Int) (r_:Int) (a_:Int) (b_:Int) (n_:Int):(yV l).set i [.int .i64 op_,.int .i64 r_,.int .i64 a_,.int .i64 b_,.int .i64 n_]=yV (l.set i ⟨op_,r_,a_,b_,n_⟩):=by simp [yV,gE]
theorem jQ (l:List Ins) (i:Nat) (h:i<l.length):(yV l).getD i []=[.int .i64 (l.getD i default).op,.int .i64 (l.getD i default).r,.int .i64 (l.getD i default).a,.int .i64 (l.getD i default).b,.int .i64 (l.getD i default).n]:=by simp [yV,gE,List.getD_eq_getElem?_getD,h]
theorem uG (A:Nat→Prop) (l:List Ins):yW A (yV l)↔True:=by
 simp only [iff_true]
 induction l with
 | nil=>trivial
 | cons x l ih=>exact ⟨by simp [gE,jK,bnd,zM,yZ],ih⟩
theorem bW (l:List Ins):nbr (yV l)↔True:=by
 simp only [iff_true]
 induction l with
 | nil=>trivial
 | cons x l ih=>exact ⟨by simp [gE,nbs,nb,uF],ih⟩
theorem bJ :∀(l:List Ins),bwR (yV l)=yV l
 | []=>rfl
 | x::l=>by
  have:=bJ l
  simp only [yV,wBm,bwR] at this⊢
  rw [this]
  simp [gE,bwL,bwC,uQ]
theorem qU6 (l:List Ins):free (yV l)↔True:=by
 simp only [iff_true]
 intro r hr c hc
 simp only [yV,wD5] at hr
 obtain ⟨x,_,rfl⟩:=hr
 simp [gE] at hc
 rcases hc with rfl | rfl | rfl | rfl | rfl<;>rfl
def yT (m:Mode) (l:List (List Ins)):List (List AV):=l.map fun b=>[.sl m 5 (yV b)]
theorem qGu (m:Mode):yT m []=[]:=rfl
theorem eT (m:Mode) (l:List (List Ins)):(yT m l).length=l.length:=by simp [yT]
theorem qI2 (m:Mode) (l k:List (List Ins)):yT m l++yT m k=yT m (l++k):=by simp [yT]
theorem qDn (m:Mode) (l:List (List Ins)) (n:Nat):(yT m l).drop n=yT m (l.drop n):=by simp [yT]
theorem qDm (m:Mode) (l:List (List Ins)) (n:Nat):(yT m l).take n=yT m (l.take n):=by simp [yT]
theorem qGt (m:Mode) (l:List (List Ins)) (i:Nat) (b_:List Ins):(yT m l).set i [.sl m 5 (yV b_)]=yT m (l.set i b_):=by simp [yT]
theorem wB (m:Mode) (l:List (List Ins)) (i:Nat) (h:i<l.length):(yT m l).getD i []=[.sl m 5 (yV (l.getD i []))]:=by simp [yT,List.getD_eq_getElem?_getD,h]
theorem jU (A:Nat→Prop) (m:Mode) (l:List (List Ins)):yW A (yT m l)↔True:=by
 simp only [iff_true]
 induction l with
 | nil=>trivial
 | cons x l ih=>exact ⟨by simp [jK,bnd,zM,yZ,uG],ih⟩
theorem vO (l:List (List Ins)):nbr (yT .own l)↔True:=by
 simp only [iff_true]
 induction l with
 | nil=>trivial
 | cons x l ih=>exact ⟨by simp [nbs,nb,uF,bW],ih⟩
theorem vE (m:Mode) :∀(l:List (List Ins)),bwR (yT m l)=yT .bw l
 | []=>rfl
 | x::l=>by
  have:=vE m l
  simp only [yT,wBm,bwR] at this⊢
  rw [this]
  simp [bwL,bwC,uQ,bJ]
theorem qOx (l:List (List Ins)):free (yT .bw l)↔True:=by
 simp only [iff_true]
 intro r hr c hc
 simp only [yT,wD5] at hr
 obtain ⟨x,_,rfl⟩:=hr
 simp [] at hc
 rcases hc with rfl<;>rfl
def jG (m:Mode) (l:List (List Int)):List (List AV):=l.map fun b=>[.sl m 1 (wE b)]
theorem qU5 (m:Mode):jG m []=[]:=rfl
theorem uE (m:Mode) (l:List (List Int)):(jG m l).length=l.length:=by simp [jG]
theorem qAk (m:Mode) (l k:List (List Int)):jG m l++jG m k=jG m (l++k):=by simp [jG]
theorem qU4 (m:Mode) (b_:List Int):[[.sl m 1 (wE b_)]]=jG m [b_]:=rfl
theorem qG0 (m:Mode) (l:List (List Int)) (n:Nat):(jG m l).drop n=jG m (l.drop n):=by simp [jG]
theorem qFz (m:Mode) (l:List (List Int)) (n:Nat):(jG m l).take n=jG m (l.take n):=by simp [jG]
theorem qJ3 (m:Mode) (l:List (List Int)) (i:Nat) (b_:List Int):(jG m l).set i [.sl m 1 (wE b_)]=jG m (l.set i b_):=by simp [jG]
theorem mK (m:Mode) (l:List (List Int)) (i:Nat) (h:i<l.length):(jG m l).getD i []=[.sl m 1 (wE (l.getD i []))]:=by simp [jG,List.getD_eq_getElem?_getD,h]
theorem vM (A:Nat→Prop) (m:Mode) (l:List (List Int)):yW A (jG m l)↔True:=by
 simp only [iff_true]
 induction l with
 | nil=>trivial
 | cons x l ih=>exact ⟨by simp [jK,bnd,zM,yZ,uG,jU],ih⟩
theorem bD (l:List (List Int)):nbr (jG .own l)↔True:=by
 simp only [iff_true]
 induction l with
 | nil=>trivial
 | cons x l ih=>exact ⟨by simp [nbs,nb,uF,bW,vO],ih⟩
theorem uS (m:Mode) :∀(l:List (List Int)),bwR (jG m l)=jG .bw l
 | []=>rfl
 | x::l=>by
  have:=uS m l
  simp only [jG,wBm,bwR] at this⊢
  rw [this]
  simp [bwL,bwC,uQ,bJ,vE]
theorem qQb (l:List (List Int)):free (jG .bw l)↔True:=by
 simp only [iff_true]
 intro r hr c hc
 simp only [jG,wD5] at hr
 obtain ⟨x,_,rfl⟩:=hr
 simp [] at hc
 rcases hc with rfl<;>rfl
structure jZ where
 cap:Int
 list:List Int
 closed:Bool
 deriving DecidableEq,Inhabited
def aZ (m:Mode) (x:jZ):List AV:=[.int .i64 x.cap,.sl m 1 (wE x.list),.bool x.closed]
def wH (m:Mode) (l:List jZ):List (List AV):=l.map (aZ m)
theorem qUm (m:Mode):wH m []=[]:=rfl
theorem xB (m:Mode) (l:List jZ):(wH m l).length=l.length:=by simp [wH]
theorem mU (m:Mode) (l k:List jZ):wH m l++wH m k=wH m (l++k):=by simp [wH]
theorem qGf (m:Mode) (l:List jZ) (n:Nat):(wH m l).drop n=wH m (l.drop n):=by simp [wH]
theorem qGe (m:Mode) (l:List jZ) (n:Nat):(wH m l).take n=wH m (l.take n):=by simp [wH]
theorem gX (m:Mode) (l:List jZ) (i:Nat) (cap_:Int) (list_:List Int) (closed_:Bool):(wH m l).set i [.int .i64 cap_,.sl m 1 (wE list_),.bool closed_]=wH m (l.set i ⟨cap_,list_,closed_⟩):=by simp [wH,aZ]
theorem bM (m:Mode) (l:List jZ) (i:Nat) (h:i<l.length):(wH m l).getD i []=[.int .i64 (l.getD i default).cap,.sl m 1 (wE (l.getD i default).list),.bool (l.getD i default).closed]:=by simp [wH,aZ,List.getD_eq_getElem?_getD,h]
theorem uK (A:Nat→Prop) (m:Mode) (l:List jZ):yW A (wH m l)↔True:=by
 simp only [iff_true]
 induction l with
 | nil=>trivial
 | cons x l ih=>exact ⟨by simp [aZ,jK,bnd,zM,yZ,uG,jU,vM],ih⟩
theorem bO (l:List jZ):nbr (wH .own l)↔True:=by
 simp only [iff_true]
 induction l with
 | nil=>trivial
 | cons x l ih=>exact ⟨by simp [aZ,nbs,nb,uF,bW,vO,bD],ih⟩
theorem bE (m:Mode) :∀(l:List jZ),bwR (wH m l)=wH .bw l
 | []=>rfl
 | x::l=>by
  have:=bE m l
  simp only [wH,wBm,bwR] at this⊢
  rw [this]
  simp [aZ,bwL,bwC,uQ,bJ,vE,uS]
theorem qQr (l:List jZ):free (wH .bw l)↔True:=by
 simp only [iff_true]
 intro r hr c hc
 simp only [wH,wD5] at hr
 obtain ⟨x,_,rfl⟩:=hr
 simp [aZ] at hc
 rcases hc with rfl | rfl | rfl<;>rfl
structure bP where
 who:Int
 v:Int
 deriving DecidableEq,Inhabited
def qA9 (x:bP):List AV:=[.int .i64 x.who,.int .i64 x.v]
def yY (l:List bP):List (List AV):=l.map qA9
theorem qTn:yY []=[]:=rfl
theorem mC (l:List bP):(yY l).length=l.length:=by simp [yY]
theorem mD (l k:List bP):yY l++yY k=yY (l++k):=by simp [yY]
theorem qIu (who_:Int) (v_:Int):[[.int .i64 who_,.int .i64 v_]]=yY [⟨who_,v_⟩]:=rfl
theorem qFm (l:List bP) (n:Nat):(yY l).drop n=yY (l.drop n):=by simp [yY]
theorem qFl (l:List bP) (n:Nat):(yY l).take n=yY (l.take n):=by simp [yY]
theorem qTl (l:List bP) (i:Nat) (who_:Int) (v_:Int):(yY l).set i [.int .i64 who_,.int .i64 v_]=yY (l.set i ⟨who_,v_⟩):=by simp [yY,qA9]
theorem sR (l:List bP) (i:Nat) (h:i<l.length):(yY l).getD i []=[.int .i64 (l.getD i default).who,.int .i64 (l.getD i default).v]:=by simp [yY,qA9,List.getD_eq_getElem?_getD,h]
theorem uU (A:Nat→Prop) (l:List bP):yW A (yY l)↔True:=by
 simp only [iff_true]
 induction l with
 | nil=>trivial
 | cons x l ih=>exact ⟨by simp [qA9,jK,bnd,zM,yZ,uG,jU,vM,uK],ih⟩
theorem bB (l:List bP):nbr (yY l)↔True:=by
 simp only [iff_true]
 induction l with
 | nil=>trivial
 | cons x l ih=>exact ⟨by simp [qA9,nbs,nb,uF,bW,vO,bD,bO],ih⟩
theorem bN :∀(l:List bP),bwR (yY l)=yY l
 | []=>rfl
 | x::l=>by
  have:=bN l
  simp only [yY,wBm,bwR] at this⊢
  rw [this]
  simp [qA9,bwL,bwC,uQ,bJ,vE,uS,bE]
theorem qPt (l:List bP):free (yY l)↔True:=by
 simp only [iff_true]
 intro r hr c hc
 simp only [yY,wD5] at hr
 obtain ⟨x,_,rfl⟩:=hr
 simp [qA9] at hc
 rcases hc with rfl | rfl<;>rfl
structure yP where
 at_:Int
 regs:List Int
 st:Int
 deriving DecidableEq,Inhabited
def cP (m:Mode) (x:yP):List AV:=[.int .i64 x.at_,.sl m 1 (wE x.regs),.int .i64 x.st]
def yH (m:Mode) (l:List yP):List (List AV):=l.map (cP m)
theorem qMk (m:Mode):yH m []=[]:=rfl
theorem dU (m:Mode) (l:List yP):(yH m l).length=l.length:=by simp [yH]
theorem fF (m:Mode) (l k:List yP):yH m l++yH m k=yH m (l++k):=by simp [yH]
theorem tQ (m:Mode) (l:List yP) (n:Nat):(yH m l).drop n=yH m (l.drop n):=by simp [yH]
theorem tP (m:Mode) (l:List yP) (n:Nat):(yH m l).take n=yH m (l.take n):=by simp [yH]
theorem qO (m:Mode) (l:List yP) (i:Nat) (at__:Int) (regs_:List Int) (st_:Int):(yH m l).set i [.int .i64 at__,.sl m 1 (wE regs_),.int .i64 st_]=yH m (l.set i ⟨at__,regs_,st_⟩):=by simp [yH,cP]
theorem qV (m:Mode) (l:List yP) (i:Nat) (h:i<l.length):(yH m l).getD i []=[.int .i64 (l.getD i default).at_,.sl m 1 (wE (l.getD i default).regs),.int .i64 (l.getD i default).st]:=by simp [yH,cP,List.getD_eq_getElem?_getD,h]
theorem vK (A:Nat→Prop) (m:Mode) (l:List yP):yW A (yH m l)↔True:=by
 simp only [iff_true]
 induction l with
 | nil=>trivial
 | cons x l ih=>exact ⟨by simp [cP,jK,bnd,zM,yZ,uG,jU,vM,uK,uU],ih⟩
theorem uB (l:List yP):nbr (yH .own l)↔True:=by
 simp only [iff_true]
 induction l with
 | nil=>trivial
 | cons x l ih=>exact ⟨by simp [cP,nbs,nb,uF,bW,vO,bD,bO,bB],ih⟩
theorem vT (m:Mode) :∀(l:List yP),bwR (yH m l)=yH .bw l
 | []=>rfl
 | x::l=>by
  have:=vT m l
  simp only [yH,wBm,bwR] at this⊢
  rw [this]
  simp [cP,bwL,bwC,uQ,bJ,vE,uS,bE,bN]
theorem qKi (l:List yP):free (yH .bw l)↔True:=by
 simp only [iff_true]
 intro r hr c hc
 simp only [yH,wD5] at hr
 obtain ⟨x,_,rfl⟩:=hr
 simp [cP] at hc
 rcases hc with rfl | rfl | rfl<;>rfl
structure qGz where
 sent:List Int
 taken:List Int
 deriving DecidableEq,Inhabited
def qCm (m:Mode) (x:qGz):List AV:=[.sl m 1 (wE x.sent),.sl m 1 (wE x.taken)]
def zJ (m:Mode) (l:List qGz):List (List AV):=l.map (qCm m)
theorem qSq (m:Mode):zJ m []=[]:=rfl
theorem lQ (m:Mode) (l:List qGz):(zJ m l).length=l.length:=by simp [zJ]
theorem qKa (m:Mode) (l k:List qGz):zJ m l++zJ m k=zJ m (l++k):=by simp [zJ]
theorem qEl (m:Mode) (l:List qGz) (n:Nat):(zJ m l).drop n=zJ m (l.drop n):=by simp [zJ]
theorem qEk (m:Mode) (l:List qGz) (n:Nat):(zJ m l).take n=zJ m (l.take n):=by simp [zJ]
theorem qSp (m:Mode) (l:List qGz) (i:Nat) (sent_:List Int) (taken_:List Int):(zJ m l).set i [.sl m 1 (wE sent_),.sl m 1 (wE taken_)]=zJ m (l.set i ⟨sent_,taken_⟩):=by simp [zJ,qCm]
theorem gC (A:Nat→Prop) (m:Mode) (l:List qGz):yW A (zJ m l)↔True:=by
 simp only [iff_true]
 induction l with
 | nil=>trivial
 | cons x l ih=>exact ⟨by simp [qCm,jK,bnd,zM,yZ,uG,jU,vM,uK,uU,vK],ih⟩
theorem dT (l:List qGz):nbr (zJ .own l)↔True:=by
 simp only [iff_true]
 induction l with
 | nil=>trivial
 | cons x l ih=>exact ⟨by simp [qCm,nbs,nb,uF,bW,vO,bD,bO,bB,uB],ih⟩
theorem gZ (m:Mode) :∀(l:List qGz),bwR (zJ m l)=zJ .bw l
 | []=>rfl
 | x::l=>by
  have:=gZ m l
  simp only [zJ,wBm,bwR] at this⊢
  rw [this]
  simp [qCm,bwL,bwC,uQ,bJ,vE,uS,bE,bN,vT]
theorem qPe (l:List qGz):free (zJ .bw l)↔True:=by
 simp only [iff_true]
 intro r hr c hc
 simp only [zJ,wD5] at hr
 obtain ⟨x,_,rfl⟩:=hr
 simp [qCm] at hc
 rcases hc with rfl | rfl<;>rfl
structure wQ where
 caps:List Int
 bods:List (List Ins)
 deriving DecidableEq,Inhabited
def jY (m:Mode) (x:wQ):List AV:=[.sl m 1 (wE x.caps),.sl m 1 (yT m x.bods)]
def zL (m:Mode) (l:List wQ):List (List AV):=l.map (jY m)
theorem qTe (m:Mode):zL m []=[]:=rfl
theorem lY (m:Mode) (l:List wQ):(zL m l).length=l.length:=by simp [zL]
theorem qL0 (m:Mode) (l k:List wQ):zL m l++zL m k=zL m (l++k):=by simp [zL]
theorem qFc (m:Mode) (l:List wQ) (n:Nat):(zL m l).drop n=zL m (l.drop n):=by simp [zL]
theorem qFb (m:Mode) (l:List wQ) (n:Nat):(zL m l).take n=zL m (l.take n):=by simp [zL]
theorem qTd (m:Mode) (l:List wQ) (i:Nat) (caps_:List Int) (bods_:List (List Ins)):(zL m l).set i [.sl m 1 (wE caps_),.sl m 1 (yT m bods_)]=zL m (l.set i ⟨caps_,bods_⟩):=by simp [zL,jY]
theorem gW (A:Nat→Prop) (m:Mode) (l:List wQ):yW A (zL m l)↔True:=by
 simp only [iff_true]
 induction l with
 | nil=>trivial
 | cons x l ih=>exact ⟨by simp [jY,jK,bnd,zM,yZ,uG,jU,vM,uK,uU,vK,gC],ih⟩
theorem zB (l:List wQ):nbr (zL .own l)↔True:=by
 simp only [iff_true]
 induction l with
 | nil=>trivial
 | cons x l ih=>exact ⟨by simp [jY,nbs,nb,uF,bW,vO,bD,bO,bB,uB,dT],ih⟩
theorem dX (m:Mode) :∀(l:List wQ),bwR (zL m l)=zL .bw l
 | []=>rfl
 | x::l=>by
  have:=dX m l
  simp only [zL,wBm,bwR] at this⊢
  rw [this]
  simp [jY,bwL,bwC,uQ,bJ,vE,uS,bE,bN,vT,gZ]
theorem qPn (l:List wQ):free (zL .bw l)↔True:=by
 simp only [iff_true]
 intro r hr c hc
 simp only [zL,wD5] at hr
 obtain ⟨x,_,rfl⟩:=hr
 simp [jY] at hc
 rcases hc with rfl | rfl<;>rfl
structure wA where
 ths:List yP
 chs:List jZ
 tr:List bP
 deriving DecidableEq,Inhabited
def uD (m:Mode) (x:wA):List AV:=[.sl m 3 (yH m x.ths),.sl m 3 (wH m x.chs),.sl m 2 (yY x.tr)]
def vW (m:Mode) (l:List wA):List (List AV):=l.map (uD m)
theorem qMo (m:Mode):vW m []=[]:=rfl
theorem fH (m:Mode) (l:List wA):(vW m l).length=l.length:=by simp [vW]
theorem qEx (m:Mode) (l k:List wA):vW m l++vW m k=vW m (l++k):=by simp [vW]
theorem tY (m:Mode) (l:List wA) (n:Nat):(vW m l).drop n=vW m (l.drop n):=by simp [vW]
theorem tX (m:Mode) (l:List wA) (n:Nat):(vW m l).take n=vW m (l.take n):=by simp [vW]
theorem qMn (m:Mode) (l:List wA) (i:Nat) (ths_:List yP) (chs_:List jZ) (tr_:List bP):(vW m l).set i [.sl m 3 (yH m ths_),.sl m 3 (wH m chs_),.sl m 2 (yY tr_)]=vW m (l.set i ⟨ths_,chs_,tr_⟩):=by simp [vW,uD]
theorem bA (A:Nat→Prop) (m:Mode) (l:List wA):yW A (vW m l)↔True:=by
 simp only [iff_true]
 induction l with
 | nil=>trivial
 | cons x l ih=>exact ⟨by simp [uD,jK,bnd,zM,yZ,uG,jU,vM,uK,uU,vK,gC,gW],ih⟩
theorem gG (l:List wA):nbr (vW .own l)↔True:=by
 simp only [iff_true]
 induction l with
 | nil=>trivial
 | cons x l ih=>exact ⟨by simp [uD,nbs,nb,uF,bW,vO,bD,bO,bB,uB,dT,zB],ih⟩
theorem bL (m:Mode) :∀(l:List wA),bwR (vW m l)=vW .bw l
 | []=>rfl
 | x::l=>by
  have:=bL m l
  simp only [vW,wBm,bwR] at this⊢
  rw [this]
  simp [uD,bwL,bwC,uQ,bJ,vE,uS,bE,bN,vT,gZ,dX]
theorem qKo (l:List wA):free (vW .bw l)↔True:=by
 simp only [iff_true]
 intro r hr c hc
 simp only [vW,wD5] at hr
 obtain ⟨x,_,rfl⟩:=hr
 simp [uD] at hc
 rcases hc with rfl | rfl | rfl<;>rfl
def bys (l:List Int):List (List AV):=l.map fun b=>[.int .u8 b]
theorem qZa:bys []=[]:=rfl
theorem tE (l:List Int):(bys l).length=l.length:=by simp [bys]
theorem qQy (l k:List Int):bys l++bys k=bys (l++k):=by simp [bys]
theorem qOr (l:List Int) (n:Nat):(bys l).drop n=bys (l.drop n):=by simp [bys]
theorem qOp (l:List Int) (n:Nat):(bys l).take n=bys (l.take n):=by simp [bys]
theorem qZ9 (l:List Int) (i:Nat) (b_:Int):(bys l).set i [.int .u8 b_]=bys (l.set i b_):=by simp [bys]
theorem qOq (l:List Int) (i:Nat) (h:i<l.length):(bys l).getD i []=[.int .u8 (l.getD i 0)]:=by simp [bys,List.getD_eq_getElem?_getD,h]
theorem eS (A:Nat→Prop) (l:List Int):yW A (bys l)↔True:=by
 simp only [iff_true]
 induction l with
 | nil=>trivial
 | cons x l ih=>exact ⟨by simp [jK,bnd,zM,yZ,uG,jU,vM,uK,uU,vK,gC,gW,bA],ih⟩
theorem kM (l:List Int):nbr (bys l)↔True:=by
 simp only [iff_true]
 induction l with
 | nil=>trivial
 | cons x l ih=>exact ⟨by simp [nbs,nb,uF,bW,vO,bD,bO,bB,uB,dT,zB,gG],ih⟩
theorem hB :∀(l:List Int),bwR (bys l)=bys l
 | []=>rfl
 | x::l=>by
  have:=hB l
  simp only [bys,wBm,bwR] at this⊢
  rw [this]
  simp [bwL,bwC,uQ,bJ,vE,uS,bE,bN,vT,gZ,dX,bL]
theorem qXk (l:List Int):free (bys l)↔True:=by
 simp only [iff_true]
 intro r hr c hc
 simp only [bys,wD5] at hr
 obtain ⟨x,_,rfl⟩:=hr
 simp [] at hc
 rcases hc with rfl<;>rfl
structure Cur where
 i:Nat
 h:Int
 deriving Inhabited
def eI (code:List Int) (c:Cur):List AV:=[.sl .fz 1 (bys code),.int .i64 c.i,.int .i64 c.h]
theorem fS:(∀n,del [] n=[])∧(∀m s h n,del ((m,s)::h) n=if n=m then del h n else (m,s)::del h n)∧(∀n r,put [] n r=[(n,r)])∧(∀m s h n r,put ((m,s)::h) n r=if n=m then (m,r)::h else (m,s)::put h n r)∧(∀{α:Type} (a b:α) (l:List α),(a::l).set 0 b=b::l)∧(∀{α:Type} (a b:α) (l:List α) (n:Nat),(a::l).set (n+1) b=a::l.set n b)∧(∀{α:Type} (a b:α),(if True then a else b)=a)∧(∀{α:Type} (a b:α),(if False then a else b)=b)∧(∀l,(wE l).length=l.length)∧(∀l n,(wE l).take n=wE (l.take n))∧(∀l n,(wE l).drop n=wE (l.drop n))∧(∀o l rows,xU o l rows=if o=0∧rows.length=l then rows else (rows.drop o).take l)∧(∀{α:Type} (a:α) (l:List α),(a::l).length=l.length+1)∧(∀{α:Type},([]:List α).length=0)∧(∀p:Prop,(p∧p)=p)∧(∀p:Prop,(p∧True)=p)∧(∀p:Prop,(True∧p)=p)∧(∀l,(yV l).length=l.length)∧(∀m l,(yT m l).length=l.length)∧(∀m l,(jG m l).length=l.length)∧(∀m l,(wH m l).length=l.length)∧(∀l,(yY l).length=l.length)∧(∀m l,(yH m l).length=l.length)∧(∀m l,(zJ m l).length=l.length)∧(∀m l,(zL m l).length=l.length)∧(∀m l,(vW m l).length=l.length)∧(∀l,(bys l).length=l.length)∧(∀{α:Type} (a b:List α),(a++b).length=a.length+b.length)∧(∀{α:Type} (n:Nat) (a:α),(List.replicate n a).length=n)∧(∀{α:Type} (l:List α) (n:Nat) (a:α),(l.set n a).length=l.length):=by
 refine ⟨?_,?_,?_,?_,?_,?_,?_,?_,?_,?_,?_,?_,?_,?_,?_,?_,?_,?_,?_,?_,?_,?_,?_,?_,?_,?_,?_,?_,?_,?_⟩<;>intros<;>simp [del,put,xU,aG,oW,eT,uE,xB,mC,dU,lQ,lY,fH,tE]
attribute [go_sem] kD vY qZq qZs qSh qX0 qZt qWx qZr qX4 qSg qX5 qWy wO qS0 qIx Arg.ev wD bS qYf if_false if_true dR put del aG qCf Option.map_some Option.bind_some qQ Int.toNat_natCast qZu qWw qX1 gU true_and and_true qNf qNd qNe qDf qB2 Bool.false_eq_true aJ cellsOf yX List.isEmpty_nil List.isEmpty_cons fresh List.map_nil wBm List.cons_append List.nil_append gF List.take_zero List.drop_zero List.take_succ_cons List.getD_cons_zero List.length_cons List.length_nil List.drop_succ_cons List.drop_nil List.append_nil List.all_cons List.all_nil yS Bool.and_self Nat.zero_add qX2 qX3 qWv qSf qSe qSc qSd qX6 qZp qG6 qOb qJk qPm qPo qGy vH vJ xL qK0 cN yK apart List.filter_nil List.filter_cons Option.isSome_some Option.isSome_none List.contains_nil List.contains_cons List.forall_mem_cons List.mem_cons List.not_mem_nil false_implies implies_true forall_const forall_eq_or_imp forall_eq or_false beq_self_eq_true Bool.or_false Bool.false_or Bool.true_or Bool.or_true Bool.not_true Bool.not_false xv xo xg xr xi xz List.set_set qFp qD5 qJi qJj qAr rG qJf qC6 kT eqC eR qD0 List.replicate_zero decide_true decide_false qNy qN8 List.replicate_succ Int.toNat_zero Int.toNat_one eq_self Bool.and_true Bool.true_and Bool.and_false Bool.false_and List.set_cons_zero List.set_cons_succ List.getD_cons_succ rnm ixm jW aX yA jS cond_true cond_false rD rC qAt oW qO0 qJ7 qJ5 qWk gE eT qI2 qDn qDm qGt uE qAk qG0 qFz qJ3 xB mU qGf qGe gX aZ mC mD qFm qFl qTl qA9 dU fF tQ tP qO cP lQ qKa qEl qEk qSp qCm lY qL0 qFc qFb qTd jY fH qEx tY tX qMn uD tE qQy qOr qOp qZ9
attribute [simp] fR bwT bwC bwL uQ rC wD Arg.ev gT tF sD qGl zM qL4 qE8 yZ okV okL nb nbs nbr uF qQ aG bnd jK yW jW aX ixm rnm apart cN vH vJ fresh yA jS dN qM2 gA fT uW del qAh xU rD qAt shp okB qN5 qJ4 qTs qW0 qVz qVu qPv qVx qYi qVy qTr qVv qYk qVw fN qIv qWr qU9 qWl bJ uG bW oW qJ5 qJ7 qU6 qGu vE jU vO eT qDm qDn qOx qU5 uS vM bD uE qFz qG0 qQb qUm bE uK bO xB qGe qGf qQr qTn bN uU bB mC qFl qFm qPt qMk vT vK uB dU tP tQ qKi qSq gZ gC dT lQ qEk qEl qPe qTe dX gW zB lY qFb qFc qPn qMo bL bA gG fH tX tY qKo qZa hB eS kM tE qOp qOr qXk eI gE aZ qA9 cP qCm jY uD
theorem qFn :∀(l:List (List AV)),dE l l
 | []=>by simp [dE]
 | r::l=>(fN r r l l).2 ⟨lB r,qFn l⟩
theorem qIw :∀{a a' b b':List (List AV)},dE a a'→dE b b'→dE (a++b) (a'++b')
 | [],a',b,b',h1,h2=>by
  simp only [dE] at h1
  subst h1
  exact h2
 | r::a,a',b,b',h1,h2=>by
  simp only [dE] at h1
  obtain ⟨d,ds,rfl,h3,h4⟩:=h1
  exact (fN r d _ _).2 ⟨h3,qIw h4 h2⟩
theorem Sub.nilRow (nm:Nat) {t:List (Nat×AV)} {h:wT} {nx sz:Nat} {rows rows':List (List AV)} (hl:qQ h nm=some (sz,rows)) (hn:dE rows rows') (hbn:yW (· < nx) rows'):Sub (.mk t h nx) (.mk t (put h nm (sz,rows')) nx):=by
 rintro B a w ⟨h1,h2,hb,hbt,φ,Lf,hl'⟩
 have hlk :∀n,qQ (put h nm (sz,rows')) n=if n=nm then some (sz,rows') else qQ h n:=fun n=>qFr n
 have hne :∀n,qQ (put h nm (sz,rows')) n≠none→qQ h n≠none:=fun n hn'=>by
  rw [hlk] at hn'
  split at hn'
  ·rename_i he; rw [he,hl]; simp
  ·exact hn'
 refine ⟨h1,h2,?_,hbt,φ,Lf,⟨hl'.ok.size0,hl'.ok.io0,hl'.ok.fr,hl'.ok.keep0,fun n hn'=>hl'.ok.own0 n (hne n hn'),?_,fun n hn'=>hl'.ok.rh.nodup n (hne n hn'),fun n hn'=>hl'.ok.rh.blk n (hne n hn'),fun n m hn' hm=>hl'.ok.rh.dis n m (hne n hn') (hne m hm),?_⟩,hl'.tm,hl'.φ0,hl'.ten⟩
 ·intro n row hr
  rw [hlk] at hr
  split at hr
  ·rename_i he
   simp only [Option.some.injEq] at hr
   subst hr he
   exact ⟨(hb n _ hl).1,hbn⟩
  ·exact hb n row hr
 ·intro n row hr
  rw [hlk] at hr
  split at hr
  ·rename_i he
   simp only [Option.some.injEq] at hr
   subst hr he
   have:=hl'.ok.rh.row n _ hl
   unfold uX gI at this⊢
   cases hq:(B.env w φ).φ n with
   | dead=>rw [hq] at this; exact this.elim
   | nilp =>
    rw [hq] at this
    simp only at this
    obtain ⟨h3,h4⟩:=this
    rw [h3] at hn
    simp only [dE] at hn
    exact ⟨hn,h4⟩
   | «at» p =>
    rw [hq] at this
    obtain ⟨h3,h4,Lr,h5,h6⟩:=this
    exact ⟨h3,by rw [cR hn]; exact h4,Lr,qAa hn h5,h6⟩
  ·exact hl'.ok.rh.row n row hr
 ·intro n hn'
  rw [hlk] at hn'
  split at hn'
  ·simp at hn'
  ·exact hl'.ok.rh.dead n hn'
theorem Sub.nilLast (nm:Nat) {t:List (Nat×AV)} {h:wT} {nx sz:Nat} {front:List (List AV)} {r r':List AV} (hl:qQ h nm=some (sz,front++[r])) (hn:wJ r r') (hbn:yW (· < nx) (front++[r'])):Sub (.mk t h nx) (.mk t (put h nm (sz,front++[r'])) nx) :=
 Sub.nilRow nm hl (qIw (qFn front) ((fN r r' [] []).2 ⟨hn,(qIv).2 trivial⟩)) hbn
theorem wI {rs:List qE1} {fp:FP} {v:AV} {s:AS} {t:List (Nat×AV)} {h:wT} {nx:Nat} (hs:Sub s (.mk t h nx)) (h1:qM2 (rs.map fun r=>(dN t h r).2)∧(gA h (rs.map fun r=>(dN t h r).1)).2.2∧wJ (gA h (rs.map fun r=>(dN t h r).1)).1 [v]∧∀x∈fp,qQ (gA h (rs.map fun r=>(dN t h r).1)).2.1 x.1=qQ (uW fp) x.1):Fin rs fp v s :=
 ⟨_,hs,qU h1⟩
theorem qEc {rs:List qE1} {fp:FP} {vs:List AV} {s:AS} {t:List (Nat×AV)} {h:wT} {nx:Nat} (h0:vs.length≠1) (hs:Sub s (.mk t h nx)) (h1:qM2 (rs.map fun r=>(dN t h r).2)∧(gA h (rs.map fun r=>(dN t h r).1)).2.2∧wJ (gA h (rs.map fun r=>(dN t h r).1)).1 vs∧∀x∈fp,qQ (gA h (rs.map fun r=>(dN t h r).1)).2.1 x.1=qQ (uW fp) x.1):Fin rs fp (.tup vs) s :=
 ⟨_,hs,qHb h0 h1⟩
theorem K {p q:Prop} (k:q) (h:p:=by first | omega | (simp [-List.getD_eq_getElem?_getD]; first | done | omega)):p∧q:=⟨h,k⟩
theorem CA {P:Program} {num:Nat→Nat} {fin:AS→Prop} {f nx:Nat} {ps:List Bool} {xs:List Arg} {t:List (Nat×AV)} {h:wT} {fp:FP} {res:AV} {vargs:List AV} {dst:Option Nat} {k:List It} (σ:List (Nat×Nat)) (hc:qY P num f vargs fp res)
  (hk:vc P num fin k (.mk (bS t dst (yA nx (jW (rnm σ) res)).1) (dR h (fp.map (fun x=>(rnm σ x.1,x.2))++fresh (yA nx (jW (rnm σ) res)).2.1)) (yA nx (jW (rnm σ) res)).2.2))
  (hv:wJ (fR (ixm σ) h ps (xs.map (Arg.ev (wD t)))) vargs:=by first | omega | (simp [wJ,wK]; done) | (simp [wJ,wK, *]; done))
  (hvo:gT h (fun n =>∃x∈fp,x.2.1≠none∧n=rnm σ x.1∧ixm σ n=x.1) (fun n =>∃x∈fp,n=rnm σ x.1) ps (xs.map (Arg.ev (wD t))):=by first | omega | (simp [wJ,wK]; done) | (simp [wJ,wK, *]; done))
  (hnd:(fp.map (fun x=>rnm σ x.1)).Nodup:=by first | (simp [wJ,wK]; done) | (simp [wJ,wK, *]; done))
  (hpre :∀x∈fp,qQ h (rnm σ x.1)=x.2.1∧(x.2.1=none→nx≤rnm σ x.1)∧rnm σ x.1<nx:=by first | (simp [wJ,wK]; done) | (simp [wJ,wK, *]; done))
  (hnb :∀x∈fp,(∀r,x.2.1=some r→nbr r.2)∧(∀r,x.2.2=some r→nbr r.2):=by first | (simp [wJ,wK]; done) | (simp [wJ,wK, *]; done))
  (hres:okV (fun k =>∃x∈fp,x.1=k∧x.2.2≠none) res:=by first | (simp [wJ,wK]; done) | (simp [wJ,wK, *]; done)):qJt P num fin (.call f ps xs) dst k (.mk t h nx) :=
 zQ (qGj σ hc hv hvo hnd hpre hnb hres) hk
theorem DA {P:Program} {num:Nat→Nat} {fin:AS→Prop} {f nx:Nat} {ps:List Bool} {xs:List Arg} {t:List (Nat×AV)} {h:wT} {fp:FP} {res:AV} {vargs:List AV} {pend:List (Nat×List Nat)} {dst:Option Nat} {tr:vZ} {k:List It} (σ:List (Nat×Nat)) (hc:qY P num f vargs fp res)
  (hk:vc P num fin (.draw tr pend::k) (.mk (bS t dst (yA nx (jW (rnm σ) res)).1) (dR h (fp.map (fun x=>(rnm σ x.1,x.2))++fresh (yA nx (jW (rnm σ) res)).2.1)) (yA nx (jW (rnm σ) res)).2.2))
  (hv:wJ (fR (ixm σ) h ps (xs.map (Arg.ev (wD t)))) vargs:=by first | omega | (simp [wJ,wK]; done) | (simp [wJ,wK, *]; done))
  (hvo:gT h (fun n =>∃x∈fp,x.2.1≠none∧n=rnm σ x.1∧ixm σ n=x.1) (fun n =>∃x∈fp,n=rnm σ x.1) ps (xs.map (Arg.ev (wD t))):=by first | omega | (simp [wJ,wK]; done) | (simp [wJ,wK, *]; done))
  (hnd:(fp.map (fun x=>rnm σ x.1)).Nodup:=by first | (simp [wJ,wK]; done) | (simp [wJ,wK, *]; done))
  (hpre :∀x∈fp,qQ h (rnm σ x.1)=x.2.1∧(x.2.1=none→nx≤rnm σ x.1)∧rnm σ x.1<nx:=by first | (simp [wJ,wK]; done) | (simp [wJ,wK, *]; done))
  (hnb :∀x∈fp,(∀r,x.2.1=some r→nbr r.2)∧(∀r,x.2.2=some r→nbr r.2):=by first | (simp [wJ,wK]; done) | (simp [wJ,wK, *]; done))
  (hres:okV (fun k =>∃x∈fp,x.1=k∧x.2.2≠none) res:=by first | (simp [wJ,wK]; done) | (simp [wJ,wK, *]; done))
  (ha:apart pend (fp.map (fun x=>(rnm σ x.1,x.2))++fresh (yA nx (jW (rnm σ) res)).2.1):=by first | (simp [wJ,wK]; done) | (simp [wJ,wK, *]; done)):qJm P num fin (.call f ps xs) pend dst tr k t h nx :=
 pC (qGj σ hc hv hvo hnd hpre hnb hres) ha hk
theorem DAV {P:Program} {num:Nat→Nat} {fin:AS→Prop} {f nx:Nat} {y:Arg} {xs:List Arg} {t:List (Nat×AV)} {h:wT} {fp:FP} {res:AV} {vargs:List AV} {pend:List (Nat×List Nat)} {dst:Option Nat} {tr:vZ} {k:List It} (σ:List (Nat×Nat)) (hc:qY P num f vargs fp res)
  (hk:vc P num fin (.draw tr pend::k) (.mk (bS t dst (yA nx (jW (rnm σ) res)).1) (dR h (fp.map (fun x=>(rnm σ x.1,x.2))++fresh (yA nx (jW (rnm σ) res)).2.1)) (yA nx (jW (rnm σ) res)).2.2))
  (hy:y.ev (wD t)=.fn f []:=by first | rfl | (simp; done) | (simp [*]; done))
  (hv:wJ (fR (ixm σ) h (xs.map fun _=>false) (xs.map (Arg.ev (wD t)))) vargs:=by first | omega | (simp [wJ,wK]; done) | (simp [wJ,wK, *]; done))
  (hvo:gT h (fun n =>∃x∈fp,x.2.1≠none∧n=rnm σ x.1∧ixm σ n=x.1) (fun n =>∃x∈fp,n=rnm σ x.1) (xs.map fun _=>false) (xs.map (Arg.ev (wD t))):=by first | omega | (simp [wJ,wK]; done) | (simp [wJ,wK, *]; done))
  (hnd:(fp.map (fun x=>rnm σ x.1)).Nodup:=by first | (simp [wJ,wK]; done) | (simp [wJ,wK, *]; done))
  (hpre :∀x∈fp,qQ h (rnm σ x.1)=x.2.1∧(x.2.1=none→nx≤rnm σ x.1)∧rnm σ x.1<nx:=by first | (simp [wJ,wK]; done) | (simp [wJ,wK, *]; done))
  (hnb :∀x∈fp,(∀r,x.2.1=some r→nbr r.2)∧(∀r,x.2.2=some r→nbr r.2):=by first | (simp [wJ,wK]; done) | (simp [wJ,wK, *]; done))
  (hres:okV (fun k =>∃x∈fp,x.1=k∧x.2.2≠none) res:=by first | (simp [wJ,wK]; done) | (simp [wJ,wK, *]; done))
  (ha:apart pend (fp.map (fun x=>(rnm σ x.1,x.2))++fresh (yA nx (jW (rnm σ) res)).2.1):=by first | (simp [wJ,wK]; done) | (simp [wJ,wK, *]; done)):qJm P num fin (.calv y xs) pend dst tr k t h nx :=
 pC (qZ8 σ hc hv hvo hnd hpre hnb hres (Nat.le_refl _) hy) ha hk
def qFq (k:Int) (n:Nat):List Int:=(List.range n).map fun (i:Nat)=>k+i
@[simp] theorem qYm (k:Int) (n:Nat):(qFq k n).length=n:=by simp [qFq]
@[simp] theorem wA9 (k:Int) (n:Nat):(qFq k n).take n=qFq k n:=List.take_of_length_le (by simp)
theorem cD (xs:List Int) (hx:8*xs.length≤2^47):qY Tryz.prog num 36 [.sl .bw 1 (wE xs)] [] (.sl .own 1 (wE xs)):=by
 refine EN m36 Tryz.func93 ?_
 unfold m36
 simp only [go_sem,seval]
 repeat refine K ?_
 refine fz ?_; simp [yQ,wJ,wK,wR,-wD9]
def qW (n lo hi:Int):Bool:=decide (lo≤n)&&decide (n≤hi)
theorem qL {n lo hi:Int}:qW n lo hi=true↔lo≤n∧n≤hi:=by simp [qW]
def vV (b:Bool):Int:=if b then 1 else 0
theorem bG (n lo hi:Int):qY Tryz.prog num 59 [.int .i64 n,.int .i64 lo,.int .i64 hi] [] (.bool (qW n lo hi)):=by
 refine EN m59 Tryz.func55 ?_
 unfold m59
 by_cases h1:lo≤n<;>by_cases h2:n≤hi<;>(simp only [go_sem,seval,h1,h2]; refine fz ?_; simp [yQ,wJ,wK,wR,-wD9]; simp [qW,h1,h2])
theorem mG (n lo hi:Int):qY Tryz.prog num 64 [.int .i64 n,.int .i64 lo,.int .i64 hi] [] (.bool (qW n lo hi)):=by
 refine EN m64 Tryz.func73 ?_
 unfold m64
 by_cases h1:lo≤n<;>by_cases h2:n≤hi<;>(simp only [go_sem,seval,h1,h2]; refine fz ?_; simp [yQ,wJ,wK,wR,-wD9]; simp [qW,h1,h2])
theorem lA (b:Bool):qY Tryz.prog num 78 [.bool b] [] (.int .i64 (vV b)):=by
 refine EN m78 Tryz.func127 ?_
 unfold m78
 cases b<;>(simp only [go_sem,seval]; refine fz ?_; simp [yQ,wJ,wK,wR,-wD9]; simp [vV])
theorem qWd (b:Bool):qY Tryz.prog num 85 [.bool b] [] (.int .i64 (vV b)):=by
 refine EN m85 Tryz.func64 ?_
 unfold m85
 cases b<;>(simp only [go_sem,seval]; refine fz ?_; simp [yQ,wJ,wK,wR,-wD9]; simp [vV])
theorem qNx (n:Int):qY Tryz.prog num 97 [.int .i64 n] [] (.bool (qW n 0 3)):=by
 refine EN m97 Tryz.func115 ?_
 unfold m97
 simp only [go_sem,seval]
 refine CA [] (bG n 0 3) ?_
 try simp only [go_sem,seval]
 refine fz ?_; simp [yQ,wJ,wK,wR,-wD9]
theorem qIq (n:Int):qY Tryz.prog num 44 [.int .i64 n] [] (.bool (qW n 5 9)):=by
 refine EN m44 Tryz.func116 ?_
 unfold m44
 simp only [go_sem,seval]
 refine CA [] (bG n 5 9) ?_
 try simp only [go_sem,seval]
 refine fz ?_; simp [yQ,wJ,wK,wR,-wD9]
theorem qLl (l:List bP) (hx:16*l.length≤2^47):qY Tryz.prog num 69 [.sl .bw 2 (yY l)] [] (.sl .own 2 (yY l)):=by
 refine EN m69 Tryz.func104 ?_
 unfold m69
 simp only [go_sem,seval]
 repeat refine K ?_
 refine fz ?_; simp [yQ,wJ,wK,wR,-wD9]
theorem iO (c:jZ) (hx:8*c.list.length≤2^47):qY Tryz.prog num 70 [.agg (aZ .bw c)] [] (.agg (aZ .own c)):=by
 refine EN m70 Tryz.func105 ?_
 unfold m70
 simp only [go_sem,seval]
 refine CA [] (cD c.list hx) ?_
 try simp only [go_sem,seval]
 refine fz ?_; simp [yQ,wJ,wK,wR,-wD9]
def jT (c:jZ):Bool:=qW c.cap 1 4&&decide ((c.list.length:Int)≤c.cap)
theorem eO (c:jZ):qY Tryz.prog num 72 [.agg (aZ .bw c)] [] (.bool (jT c)):=by
 refine EN m72 Tryz.func107 ?_
 unfold m72
 simp only [go_sem,seval]
 refine CA [] (bG c.cap 1 4) ?_
 try simp only [go_sem,seval]
 cases h:qW c.cap 1 4
 ·simp only [go_sem,seval,h]
  refine fz ?_; simp [yQ,wJ,wK,wR,-wD9]
  simp [jT,h]
 ·simp only [go_sem,seval,h]
  refine fz ?_; simp [yQ,wJ,wK,wR,-wD9]
  simp [jT,h]
def jJ (x:Ins) (pl ch:Int):Bool :=
 qW x.r 0 3&&qW x.a 0 3&&qW x.b 0 3&&qW ch 0 3 &&
 (if x.op=1 then qW x.n (-1000000000) 1000000000&&decide (x.a=0)&&decide (x.b=0)
  else if x.op=2∨x.op=3∨x.op=4 then decide (x.n=0)
  else if x.op=5 then qW x.n 0 (ch-1)&&decide (x.r=0)&&decide (x.b=0)
  else if x.op=6∨x.op=8 then qW x.n 0 (ch-1)&&decide (x.a=0)&&!decide (x.r=x.b)
  else if x.op=7 then qW x.n 0 (ch-1)&&decide (x.b=0)
  else if x.op=9 then qW x.n 0 (ch-1)&&decide (x.r=0)&&decide (x.a=0)&&decide (x.b=0)
  else if x.op=10 then decide (x.r=0)&&decide (x.b=0)&&decide (x.n=0)
  else if x.op=11 then decide (0≤x.n)&&decide (x.n<pl)&&decide (x.r=0)&&decide (x.a=0)&&decide (x.b=0)
  else if x.op=12 then decide (0≤x.n)&&decide (x.n<pl)&&decide (x.r=0)&&decide (x.b=0)
  else if x.op=13 then decide (x.op=13)&&(decide (x.r=0)&&(decide (x.a=0)&&(decide (x.b=0)&&decide (x.n=0))))
  else false)
def qCw (x:Ins):Ins :=
 if x.op=1 then ⟨x.op,x.r,0,0,x.n⟩
 else if x.op=2∨x.op=3∨x.op=4 then ⟨x.op,x.r,x.a,x.b,0⟩
 else if x.op=5∨x.op=12 then ⟨x.op,0,x.a,0,x.n⟩
 else if x.op=6∨x.op=8 then ⟨x.op,x.r,0,x.b,x.n⟩
 else if x.op=7 then ⟨x.op,x.r,x.a,0,x.n⟩
 else if x.op=9∨x.op=11 then ⟨x.op,0,0,0,x.n⟩
 else if x.op=10 then ⟨x.op,0,x.a,0,0⟩
 else ⟨x.op,0,0,0,0⟩
def oY (x:Ins) (pl ch:Int):Bool :=
 qW ch 0 3&&qW x.op 1 13&&(decide (x.op=(qCw x).op)&&(decide (x.r=(qCw x).r)&&(decide (x.a=(qCw x).a)&&(decide (x.b=(qCw x).b)&&decide (x.n=(qCw x).n))))) &&
 qW x.r 0 3&&qW x.a 0 3&&qW x.b 0 3 &&
 (if x.op=1 then qW x.n (-1000000000) 1000000000
  else if x.op=11∨x.op=12 then qW x.n 0 (pl-1)
  else if (x.op=6∨x.op=8)∧x.r=x.b then false
  else !qW x.op 5 9||qW x.n 0 (ch-1))
theorem qN9 (x:Ins):qY Tryz.prog num 96 [.agg (gE x)] [] (.agg (gE (qCw x))):=by
 refine EN m96 Tryz.func114 ?_
 unfold m96
 repeat' (first
  | (simp only [go_sem,seval])
  | (refine qP (fun hc=>?_) (fun hc=>?_)<;>((try simp only [wDa,wDb,ne_eq,wDc,wDd] at hc)<;>(try simp only [hc])))
  | (refine aE (fun hc=>?_) (fun hc=>?_)<;>((try simp only [wDa,wDb,ne_eq,wDc,wDd] at hc)<;>(try simp only [hc])))
  | (refine zZ (fun hc=>?_) (fun hc=>?_)<;>((try simp only [wDa,wDb,ne_eq,wDc,wDd] at hc)<;>(try simp only [hc])))
  | (refine ⟨by first | omega | (simp; done),?_⟩)
  | fail)
 all_goals (refine fz ?_; simp [yQ,wJ,wK,wR,-wD9])
 all_goals (try (simp_all [qCw]; done))
theorem qBa (n lo hi:Int):qW n lo hi=decide (lo≤n∧n≤hi):=by simp [qW]
theorem rE (x:Ins) (pl ch:Int):oY x pl ch=jJ x pl ch:=by
 obtain ⟨op,r,a,b,n⟩:=x
 by_cases h:1≤op∧op≤13
 ·obtain rfl | rfl | rfl | rfl | rfl | rfl | rfl | rfl | rfl | rfl | rfl | rfl | rfl:op=1∨op=2∨op=3∨op=4∨op=5∨op=6∨op=7∨op=8∨op=9∨op=10∨op=11∨op=12∨op=13:=by omega
  all_goals (rw [Bool.eq_iff_iff]; simp [oY,jJ,qCw,qBa]; try omega)
 ·have h1 :¬op=1:=by omega
  have h2 :¬op=2:=by omega
  have h3 :¬op=3:=by omega
  have h4 :¬op=4:=by omega
  have h5 :¬op=5:=by omega
  have h6 :¬op=6:=by omega
  have h7 :¬op=7:=by omega
  have h8 :¬op=8:=by omega
  have h9 :¬op=9:=by omega
  have h10 :¬op=10:=by omega
  have h11 :¬op=11:=by omega
  have h12 :¬op=12:=by omega
  have h13 :¬op=13:=by omega
  have hw:qW op 1 13=false:=by rw [qBa]; simp; omega
  simp [oY,jJ,hw,h1,h2,h3,h4,h5,h6,h7,h8,h9,h10,h11,h12,h13]
end Go.Sep
