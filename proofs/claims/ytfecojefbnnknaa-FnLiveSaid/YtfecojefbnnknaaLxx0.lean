/- Contracts of functions. -/
import Derived.Test.YtfecojefbnnknaaLzFns
open Bool renaming not_eq_false → wBi, not_eq_false' → wBg, not_eq_true → wBh, not_eq_true' → wBf
open List renaming drop_one → wBe, getD_eq_getElem?_getD → qZw, map_cons → qZr, mem_map → wBa
namespace Go.Sep
set_option maxHeartbeats 16000000
open Go.Proofs
set_option linter.unusedSimpArgs false
set_option linter.unusedVariables false
set_option maxRecDepth 100000
def m36:MFn:=⟨6,[.t 2],kr [xo 2 (.mv (.c (.nil)))] (kR [xo 3 (.mkSl [xz] 0 []),xv 4 0,xA 5 1 8 3 4,xv 2 5])⟩
def m44:MFn:=⟨5,[.t 2],kr [xF 2] (kR [xv 3 0,xc3 4 59 (.t 3) (xi 5) (xi 9),xv 2 4])⟩
def m59:MFn:=⟨15,[.t 6],kr [xF 6] (kR [xv 7 0,xv 8 1,bT 9 .geq 7 8,xv 10 9,yv 11 0 10,yv 12 2 10,xg 13 (.bin .leq (.t 11) (.t 12)) 10 true,xP 14 10 13,xv 6 14])⟩
def m64:MFn:=⟨15,[.t 6],kr [xF 6] (kR [xv 7 0,xv 8 1,bT 9 .geq 7 8,xv 10 9,yv 11 0 10,yv 12 2 10,xg 13 (.bin .leq (.t 11) (.t 12)) 10 true,xP 14 10 13,xv 6 14])⟩
def m69:MFn:=⟨6,[.t 2],kr [xo 2 (.mv (.c (.nil)))] (kR [xo 3 (.mkSl [xz,xz] 0 []),xv 4 0,xA 5 2 16 3 4,xv 2 5])⟩
def m70:MFn:=⟨8,[.cell 2 3 true],kr [xb 1 0,xo 2 (.alloc [.int .i64 0,.nil,.bool false])] (kr [xa 3 1 1,xl 4 3,xc1 5 36 (.t 4),xa 6 1 1,xS 1 6 5] (kR [xm 7 3 1,xS 3 2 7]))⟩
def m72:MFn:=⟨14,[.t 2],kr [xb 1 0,xF 2] (kR [xa 3 0 1,xl 4 3,xc3 5 59 (.t 4) (xi 1) (xi 4),xv 6 5,ya 7 1 1 6,yl 8 1 7 6,ye 9 8 6,ya 10 0 1 6,yl 11 1 10 6,xg 12 (.bin .leq (.t 9) (.t 11)) 6 true,xP 13 6 12,xv 2 13])⟩
def m78:MFn:=⟨4,[.t 2],kr [xI 2 0] (.seq (kr [xv 3 0] (kF 3 [xI 2 1])) (kR [xI 2 0]))⟩
def m96:MFn:=⟨74,[.cell 2 5 true],kr [xb 1 0,xo 2 (.alloc [xz,xz,xz,xz,xz])] (kr [xa 4 0 1,xl 5 4,xo 6 (.build [xz,xz,xz,xz,xz] [(0,1,.t 5)]),xo 3 (.alloc [xz,xz,xz,xz,xz]),xS 5 3 6] (.seq (kr [xa 7 0 1,xl 8 7] (.blk 0 (kr [bI 10 .eql 8 1,xv 9 10] (.cond 9 (.dreg (.take 0 (xa 11 1 1) (.take 1 (xl 12 11) (.take 2 (xa 13 4 1) (.take 3 (xl 14 13) (.only 4 [0,1] (xa 15 1 3) (.only 5 [0,1] (xS 1 15 12) (.only 6 [0,1,2,3] (xa 16 4 3) (.only 7 [0,1,2,3] (xS 1 16 14) (.done)))))))))) (.seq (kr [bI 18 .eql 8 2,xv 17 18] (.cond 17 (.skip) (kr [bI 19 .eql 8 3,xv 17 19] (.cond 17 (.skip) (xr [bI 20 .eql 8 4,xv 17 20]))))) (.cond 17 (.dreg (.take 0 (xa 21 1 1) (.take 1 (xl 22 21) (.take 2 (xa 23 2 1) (.take 3 (xl 24 23) (.take 4 (xa 25 3 1) (.take 5 (xl 26 25) (.only 6 [0,1] (xa 27 1 3) (.only 7 [0,1] (xS 1 27 22) (.only 8 [0,1,2,3] (xa 28 2 3) (.only 9 [0,1,2,3] (xS 1 28 24) (.only 10 [0,1,2,3,4,5] (xa 29 3 3) (.only 11 [0,1,2,3,4,5] (xS 1 29 26) (.done)))))))))))))) (.seq (kr [bI 31 .eql 8 5,xv 30 31] (.cond 30 (.skip) (xr [bI 32 .eql 8 12,xv 30 32]))) (.cond 30 (.dreg (.take 0 (xa 33 2 1) (.take 1 (xl 34 33) (.take 2 (xa 35 4 1) (.take 3 (xl 36 35) (.only 4 [0,1] (xa 37 2 3) (.only 5 [0,1] (xS 1 37 34) (.only 6 [0,1,2,3] (xa 38 4 3) (.only 7 [0,1,2,3] (xS 1 38 36) (.done)))))))))) (.seq (kr [bI 40 .eql 8 6,xv 39 40] (.cond 39 (.skip) (xr [bI 41 .eql 8 8,xv 39 41]))) (.cond 39 (.dreg (.take 0 (xa 42 1 1) (.take 1 (xl 43 42) (.take 2 (xa 44 3 1) (.take 3 (xl 45 44) (.take 4 (xa 46 4 1) (.take 5 (xl 47 46) (.only 6 [0,1] (xa 48 1 3) (.only 7 [0,1] (xS 1 48 43) (.only 8 [0,1,2,3] (xa 49 3 3) (.only 9 [0,1,2,3] (xS 1 49 45) (.only 10 [0,1,2,3,4,5] (xa 50 4 3) (.only 11 [0,1,2,3,4,5] (xS 1 50 47) (.done)))))))))))))) (kr [bI 52 .eql 8 7,xv 51 52] (.cond 51 (.dreg (.take 0 (xa 53 1 1) (.take 1 (xl 54 53) (.take 2 (xa 55 2 1) (.take 3 (xl 56 55) (.take 4 (xa 57 4 1) (.take 5 (xl 58 57) (.only 6 [0,1] (xa 59 1 3) (.only 7 [0,1] (xS 1 59 54) (.only 8 [0,1,2,3] (xa 60 2 3) (.only 9 [0,1,2,3] (xS 1 60 56) (.only 10 [0,1,2,3,4,5] (xa 61 4 3) (.only 11 [0,1,2,3,4,5] (xS 1 61 58) (.done)))))))))))))) (.seq (kr [bI 63 .eql 8 9,xv 62 63] (.cond 62 (.skip) (xr [bI 64 .eql 8 11,xv 62 64]))) (.cond 62 (xr [xa 65 4 1,xl 66 65,xa 67 4 3,xS 1 67 66]) (kr [bI 69 .eql 8 10,xv 68 69] (.cond 68 (xr [xa 70 2 1,xl 71 70,xa 72 2 3,xS 1 72 71]) (.skip))))))))))))))))) (kR [xm 73 5 3,xS 5 2 73])))⟩
def m97:MFn:=⟨5,[.t 2],kr [xF 2] (kR [xv 3 0,xc3 4 59 (.t 3) (xi 0) (xi 3),xv 2 4])⟩
attribute [local go_sem] hZ vV qXu qXw qQd qV3 qXx qV0 qXv qV7 qQc qV8 qV1 wO qPw qHk Arg.ev wB bX qWm if_false if_true dQ put del zJ qBa Option.map_some Option.bind_some qN Int.toNat_natCast qXy qUz qV4 gO true_and and_true qLo qLm qLn qCd tT Bool.false_eq_true xY cellsOf yR List.isEmpty_nil List.isEmpty_cons fresh List.map_nil qZr List.cons_append List.nil_append bZ List.take_zero List.drop_zero List.take_succ_cons List.getD_cons_zero List.length_cons List.length_nil List.drop_succ_cons List.drop_nil List.append_nil List.all_cons List.all_nil yM Bool.and_self Nat.zero_add qV5 qV6 qUy qQb qQa qQ8 qQ9 qV9 qXt qF0 qMf qHz qNi qNk qFr vB vE zX qId eV yH apart List.filter_nil List.filter_cons Option.isSome_some Option.isSome_none List.contains_nil List.contains_cons List.forall_mem_cons List.mem_cons List.not_mem_nil false_implies implies_true forall_const forall_eq_or_imp forall_eq or_false beq_self_eq_true Bool.or_false Bool.false_or Bool.true_or Bool.or_true Bool.not_true Bool.not_false xv xo xg xr xi xz List.set_set qEi qC3 qHx qHy tI oQ qHv qB2 iN eqC eE qBy List.replicate_zero decide_true decide_false qM5 qLh List.replicate_succ Int.toNat_zero Int.toNat_one eq_self Bool.and_true Bool.true_and Bool.and_false Bool.false_and List.set_cons_zero List.set_cons_succ List.getD_cons_succ rnm ixm vG aN yF jL cond_true cond_false oN oL tK
attribute [local simp] iE bwT bwC bwL uL oL wB Arg.ev dP rI pK qFg zG qJg qD4 yU okV okL nb nbs nbr vZ qN zJ bnd jF yQ vG aN ixm rnm apart eV vB vE fresh yF jL dH qKf bS cY uS del sW xC oN tK shp okB qLe qHn
theorem qG4 {rs:List qCx} {fp:FP} {vs:List AV} {t:List (Nat×AV)} {h:wT} {nx:Nat} (h0:vs.length≠1) (h1:qKf (rs.map fun r=>(dH t h r).2)∧(bS h (rs.map fun r=>(dH t h r).1)).2.2∧wM (bS h (rs.map fun r=>(dH t h r).1)).1 vs∧∀x∈fp,qN (bS h (rs.map fun r=>(dH t h r).1)).2.1 x.1=qN (uS fp) x.1):yL rs fp (.tup vs) (.mk t h nx):=by
 refine ⟨h1.1,h1.2.1,⟨vs,h1.2.2.1,?_⟩,h1.2.2.2⟩
 match vs,h0 with
 | [],_=>rfl
 | [_],h0=>exact absurd rfl h0
 | _::_::_,_=>rfl
theorem qZ {rs:List qCx} {fp:FP} {v:AV} {t:List (Nat×AV)} {h:wT} {nx:Nat} (h1:qKf (rs.map fun r=>(dH t h r).2)∧(bS h (rs.map fun r=>(dH t h r).1)).2.2∧wM (bS h (rs.map fun r=>(dH t h r).1)).1 [v]∧∀x∈fp,qN (bS h (rs.map fun r=>(dH t h r).1)).2.1 x.1=qN (uS fp) x.1):yL rs fp v (.mk t h nx) :=
 ⟨h1.1,h1.2.1,⟨[v],h1.2.2.1,rfl⟩,h1.2.2.2⟩
theorem qRs (c d:AV) (cs ds:List AV):wM (c::cs) (d::ds)↔wL c d∧wM cs ds:=by
 simp only [wM,List.cons.injEq]
 exact ⟨fun ⟨_,_,⟨h1,h2⟩,h3,h4⟩=>by subst h1 h2; exact ⟨h3,h4⟩,fun ⟨h3,h4⟩=>⟨_,_,⟨rfl,rfl⟩,h3,h4⟩⟩
theorem qU2:wM [] []↔True:=by simp [wM]
theorem qU1 (cs ds:List AV):wL (.agg cs) (.agg ds)↔wM cs ds:=by simp [wL]
theorem qTw (cs ds:List AV):wL (.tup cs) (.tup ds)↔wM cs ds:=by simp [wL]
theorem qNr (m:Mode) (sz:Nat):wL .nil (.sl m sz [])↔True:=by simp [wL]
theorem qTz:wL .nil .nil↔True:=by simp [wL]
theorem qWo (m:Mode) (sz:Nat) (rows:List (List AV)) (d:AV):wL (.sl m sz rows) d↔.sl m sz rows=d:=by simp [wL]
theorem qU0 (k:IntKind) (n:Int) (d:AV):wL (.int k n) d↔.int k n=d:=by simp [wL]
theorem qRr (b:Bool) (d:AV):wL (.bool b) d↔.bool b=d:=by simp [wL]
theorem qTx (s:ByteArray) (d:AV):wL (.str s) d↔.str s=d:=by simp [wL]
theorem qWq (k o l:Nat) (d:AV):wL (.ns k o l) d↔.ns k o l=d:=by simp [wL]
theorem qTy (k o l:Nat) (d:AV):wL (.ptr k o l) d↔.ptr k o l=d:=by simp [wL]
theorem cU (r d:List AV) (rs ds:List (List AV)):gZ (r::rs) (d::ds)↔wM r d∧gZ rs ds:=by
 simp only [gZ,List.cons.injEq]
 exact ⟨fun ⟨_,_,⟨h1,h2⟩,h3,h4⟩=>by subst h1 h2; exact ⟨h3,h4⟩,fun ⟨h3,h4⟩=>⟨_,_,⟨rfl,rfl⟩,h3,h4⟩⟩
theorem qHi:gZ [] []↔True:=by simp [gZ]
theorem qUt:free []↔True:=by simp [free]
theorem qSb (r:List AV) (rs:List (List AV)):free (r::rs)↔(∀c∈r,sW c=false)∧free rs:=by simp [free]
structure Ins where
 op:Int
 r:Int
 a:Int
 b:Int
 n:Int
 deriving DecidableEq,Inhabited
def gB (x:Ins):List AV:=[.int .i64 x.op,.int .i64 x.r,.int .i64 x.a,.int .i64 x.b,.int .i64 x.n]
def vR (l:List Ins):List (List AV):=l.map gB
theorem qUn:vR []=[]:=rfl
theorem nH (l:List Ins):(vR l).length=l.length:=by simp [vR]
theorem qM7 (l k:List Ins):vR l++vR k=vR (l++k):=by simp [vR]
theorem qHp (l:List Ins) (n:Nat):(vR l).drop n=vR (l.drop n):=by simp [vR]
theorem qHo (l:List Ins) (n:Nat):(vR l).take n=vR (l.take n):=by simp [vR]
theorem qUm (l:List Ins) (i:Nat) (op_:Int) (r_:Int) (a_:Int) (b_:Int) (n_:Int):(vR l).set i [.int .i64 op_,.int .i64 r_,.int .i64 a_,.int .i64 b_,.int .i64 n_]=vR (l.set i ⟨op_,r_,a_,b_,n_⟩):=by simp [vR,gB]
theorem bY (l:List Ins) (i:Nat) (h:i<l.length):(vR l).getD i []=[.int .i64 (l.getD i default).op,.int .i64 (l.getD i default).r,.int .i64 (l.getD i default).a,.int .i64 (l.getD i default).b,.int .i64 (l.getD i default).n]:=by simp [vR,gB,List.getD_eq_getElem?_getD,h]
theorem uA (A:Nat→Prop) (l:List Ins):yQ A (vR l)↔True:=by
 simp only [iff_true]
 induction l with
 | nil=>trivial
 | cons x l ih=>exact ⟨by simp [gB,jF,bnd,zG,yU],ih⟩
theorem bO (l:List Ins):nbr (vR l)↔True:=by
 simp only [iff_true]
 induction l with
 | nil=>trivial
 | cons x l ih=>exact ⟨by simp [gB,nbs,nb,vZ],ih⟩
theorem bE :∀(l:List Ins),bwR (vR l)=vR l
 | []=>rfl
 | x::l=>by
  have:=bE l
  simp only [vR,qZr,bwR] at this⊢
  rw [this]
  simp [gB,bwL,bwC,uL]
theorem qS8 (l:List Ins):free (vR l)↔True:=by
 simp only [iff_true]
 intro r hr c hc
 simp only [vR,wBa] at hr
 obtain ⟨x,_,rfl⟩:=hr
 simp [gB] at hc
 rcases hc with rfl | rfl | rfl | rfl | rfl<;>rfl
def jQ (m:Mode) (l:List (List Ins)):List (List AV):=l.map fun b=>[.sl m 5 (vR b)]
theorem qOy (m:Mode):jQ m []=[]:=rfl
theorem xG (m:Mode) (l:List (List Ins)):(jQ m l).length=l.length:=by simp [jQ]
theorem qGr (m:Mode) (l k:List (List Ins)):jQ m l++jQ m k=jQ m (l++k):=by simp [jQ]
theorem qCl (m:Mode) (l:List (List Ins)) (n:Nat):(jQ m l).drop n=jQ m (l.drop n):=by simp [jQ]
theorem qCk (m:Mode) (l:List (List Ins)) (n:Nat):(jQ m l).take n=jQ m (l.take n):=by simp [jQ]
theorem qOx (m:Mode) (l:List (List Ins)) (i:Nat) (b_:List Ins):(jQ m l).set i [.sl m 5 (vR b_)]=jQ m (l.set i b_):=by simp [jQ]
theorem wG (m:Mode) (l:List (List Ins)) (i:Nat) (h:i<l.length):(jQ m l).getD i []=[.sl m 5 (vR (l.getD i []))]:=by simp [jQ,List.getD_eq_getElem?_getD,h]
theorem jN (A:Nat→Prop) (m:Mode) (l:List (List Ins)):yQ A (jQ m l)↔True:=by
 simp only [iff_true]
 induction l with
 | nil=>trivial
 | cons x l ih=>exact ⟨by simp [jF,bnd,zG,yU,uA],ih⟩
theorem vL (l:List (List Ins)):nbr (jQ .own l)↔True:=by
 simp only [iff_true]
 induction l with
 | nil=>trivial
 | cons x l ih=>exact ⟨by simp [nbs,nb,vZ,bO],ih⟩
theorem jX (m:Mode) :∀(l:List (List Ins)),bwR (jQ m l)=jQ .bw l
 | []=>rfl
 | x::l=>by
  have:=jX m l
  simp only [jQ,qZr,bwR] at this⊢
  rw [this]
  simp [bwL,bwC,uL,bE]
theorem qMw (l:List (List Ins)):free (jQ .bw l)↔True:=by
 simp only [iff_true]
 intro r hr c hc
 simp only [jQ,wBa] at hr
 obtain ⟨x,_,rfl⟩:=hr
 simp [] at hc
 rcases hc with rfl<;>rfl
def yY (m:Mode) (l:List (List Int)):List (List AV):=l.map fun b=>[.sl m 1 (wC b)]
theorem qS7 (m:Mode):yY m []=[]:=rfl
theorem vY (m:Mode) (l:List (List Int)):(yY m l).length=l.length:=by simp [yY]
theorem sZ (m:Mode) (l k:List (List Int)):yY m l++yY m k=yY m (l++k):=by simp [yY]
theorem qS6 (m:Mode) (b_:List Int):[[.sl m 1 (wC b_)]]=yY m [b_]:=rfl
theorem qEu (m:Mode) (l:List (List Int)) (n:Nat):(yY m l).drop n=yY m (l.drop n):=by simp [yY]
theorem qEt (m:Mode) (l:List (List Int)) (n:Nat):(yY m l).take n=yY m (l.take n):=by simp [yY]
theorem qHm (m:Mode) (l:List (List Int)) (i:Nat) (b_:List Int):(yY m l).set i [.sl m 1 (wC b_)]=yY m (l.set i b_):=by simp [yY]
theorem lC (m:Mode) (l:List (List Int)) (i:Nat) (h:i<l.length):(yY m l).getD i []=[.sl m 1 (wC (l.getD i []))]:=by simp [yY,List.getD_eq_getElem?_getD,h]
theorem vJ (A:Nat→Prop) (m:Mode) (l:List (List Int)):yQ A (yY m l)↔True:=by
 simp only [iff_true]
 induction l with
 | nil=>trivial
 | cons x l ih=>exact ⟨by simp [jF,bnd,zG,yU,uA,jN],ih⟩
theorem bA (l:List (List Int)):nbr (yY .own l)↔True:=by
 simp only [iff_true]
 induction l with
 | nil=>trivial
 | cons x l ih=>exact ⟨by simp [nbs,nb,vZ,bO,vL],ih⟩
theorem uO (m:Mode) :∀(l:List (List Int)),bwR (yY m l)=yY .bw l
 | []=>rfl
 | x::l=>by
  have:=uO m l
  simp only [yY,qZr,bwR] at this⊢
  rw [this]
  simp [bwL,bwC,uL,bE,jX]
theorem qO7 (l:List (List Int)):free (yY .bw l)↔True:=by
 simp only [iff_true]
 intro r hr c hc
 simp only [yY,wBa] at hr
 obtain ⟨x,_,rfl⟩:=hr
 simp [] at hc
 rcases hc with rfl<;>rfl
structure jS where
 cap:Int
 list:List Int
 closed:Bool
 deriving DecidableEq,Inhabited
def aP (m:Mode) (x:jS):List AV:=[.int .i64 x.cap,.sl m 1 (wC x.list),.bool x.closed]
def wF (m:Mode) (l:List jS):List (List AV):=l.map (aP m)
theorem qSp (m:Mode):wF m []=[]:=rfl
theorem cE (m:Mode) (l:List jS):(wF m l).length=l.length:=by simp [wF]
theorem lL (m:Mode) (l k:List jS):wF m l++wF m k=wF m (l++k):=by simp [wF]
theorem qF9 (m:Mode) (l:List jS) (n:Nat):(wF m l).drop n=wF m (l.drop n):=by simp [wF]
theorem qF8 (m:Mode) (l:List jS) (n:Nat):(wF m l).take n=wF m (l.take n):=by simp [wF]
theorem gQ (m:Mode) (l:List jS) (i:Nat) (cap_:Int) (list_:List Int) (closed_:Bool):(wF m l).set i [.int .i64 cap_,.sl m 1 (wC list_),.bool closed_]=wF m (l.set i ⟨cap_,list_,closed_⟩):=by simp [wF,aP]
theorem gC (m:Mode) (l:List jS) (i:Nat) (h:i<l.length):(wF m l).getD i []=[.int .i64 (l.getD i default).cap,.sl m 1 (wC (l.getD i default).list),.bool (l.getD i default).closed]:=by simp [wF,aP,List.getD_eq_getElem?_getD,h]
theorem uE (A:Nat→Prop) (m:Mode) (l:List jS):yQ A (wF m l)↔True:=by
 simp only [iff_true]
 induction l with
 | nil=>trivial
 | cons x l ih=>exact ⟨by simp [aP,jF,bnd,zG,yU,uA,jN,vJ],ih⟩
theorem bJ (l:List jS):nbr (wF .own l)↔True:=by
 simp only [iff_true]
 induction l with
 | nil=>trivial
 | cons x l ih=>exact ⟨by simp [aP,nbs,nb,vZ,bO,vL,bA],ih⟩
theorem bB (m:Mode) :∀(l:List jS),bwR (wF m l)=wF .bw l
 | []=>rfl
 | x::l=>by
  have:=bB m l
  simp only [wF,qZr,bwR] at this⊢
  rw [this]
  simp [aP,bwL,bwC,uL,bE,jX,uO]
theorem qOk (l:List jS):free (wF .bw l)↔True:=by
 simp only [iff_true]
 intro r hr c hc
 simp only [wF,wBa] at hr
 obtain ⟨x,_,rfl⟩:=hr
 simp [aP] at hc
 rcases hc with rfl | rfl | rfl<;>rfl
structure bK where
 who:Int
 v:Int
 deriving DecidableEq,Inhabited
def sM (x:bK):List AV:=[.int .i64 x.who,.int .i64 x.v]
def yT (l:List bK):List (List AV):=l.map sM
theorem qRn:yT []=[]:=rfl
theorem kV (l:List bK):(yT l).length=l.length:=by simp [yT]
theorem kW (l k:List bK):yT l++yT k=yT (l++k):=by simp [yT]
theorem qHh (who_:Int) (v_:Int):[[.int .i64 who_,.int .i64 v_]]=yT [⟨who_,v_⟩]:=rfl
theorem qEe (l:List bK) (n:Nat):(yT l).drop n=yT (l.drop n):=by simp [yT]
theorem qEd (l:List bK) (n:Nat):(yT l).take n=yT (l.take n):=by simp [yT]
theorem qRl (l:List bK) (i:Nat) (who_:Int) (v_:Int):(yT l).set i [.int .i64 who_,.int .i64 v_]=yT (l.set i ⟨who_,v_⟩):=by simp [yT,sM]
theorem pY (l:List bK) (i:Nat) (h:i<l.length):(yT l).getD i []=[.int .i64 (l.getD i default).who,.int .i64 (l.getD i default).v]:=by simp [yT,sM,List.getD_eq_getElem?_getD,h]
theorem uQ (A:Nat→Prop) (l:List bK):yQ A (yT l)↔True:=by
 simp only [iff_true]
 induction l with
 | nil=>trivial
 | cons x l ih=>exact ⟨by simp [sM,jF,bnd,zG,yU,uA,jN,vJ,uE],ih⟩
theorem uY (l:List bK):nbr (yT l)↔True:=by
 simp only [iff_true]
 induction l with
 | nil=>trivial
 | cons x l ih=>exact ⟨by simp [sM,nbs,nb,vZ,bO,vL,bA,bJ],ih⟩
theorem bH :∀(l:List bK),bwR (yT l)=yT l
 | []=>rfl
 | x::l=>by
  have:=bH l
  simp only [yT,qZr,bwR] at this⊢
  rw [this]
  simp [sM,bwL,bwC,uL,bE,jX,uO,bB]
theorem qNp (l:List bK):free (yT l)↔True:=by
 simp only [iff_true]
 intro r hr c hc
 simp only [yT,wBa] at hr
 obtain ⟨x,_,rfl⟩:=hr
 simp [sM] at hc
 rcases hc with rfl | rfl<;>rfl
structure yJ where
 at_:Int
 regs:List Int
 st:Int
 deriving DecidableEq,Inhabited
def eX (m:Mode) (x:yJ):List AV:=[.int .i64 x.at_,.sl m 1 (wC x.regs),.int .i64 x.st]
def wW (m:Mode) (l:List yJ):List (List AV):=l.map (eX m)
theorem qKw (m:Mode):wW m []=[]:=rfl
theorem uW (m:Mode) (l:List yJ):(wW m l).length=l.length:=by simp [wW]
theorem aA (m:Mode) (l k:List yJ):wW m l++wW m k=wW m (l++k):=by simp [wW]
theorem rT (m:Mode) (l:List yJ) (n:Nat):(wW m l).drop n=wW m (l.drop n):=by simp [wW]
theorem rS (m:Mode) (l:List yJ) (n:Nat):(wW m l).take n=wW m (l.take n):=by simp [wW]
theorem qL (m:Mode) (l:List yJ) (i:Nat) (at__:Int) (regs_:List Int) (st_:Int):(wW m l).set i [.int .i64 at__,.sl m 1 (wC regs_),.int .i64 st_]=wW m (l.set i ⟨at__,regs_,st_⟩):=by simp [wW,eX]
theorem qO (m:Mode) (l:List yJ) (i:Nat) (h:i<l.length):(wW m l).getD i []=[.int .i64 (l.getD i default).at_,.sl m 1 (wC (l.getD i default).regs),.int .i64 (l.getD i default).st]:=by simp [wW,eX,List.getD_eq_getElem?_getD,h]
theorem vF (A:Nat→Prop) (m:Mode) (l:List yJ):yQ A (wW m l)↔True:=by
 simp only [iff_true]
 induction l with
 | nil=>trivial
 | cons x l ih=>exact ⟨by simp [eX,jF,bnd,zG,yU,uA,jN,vJ,uE,uQ],ih⟩
theorem vX (l:List yJ):nbr (wW .own l)↔True:=by
 simp only [iff_true]
 induction l with
 | nil=>trivial
 | cons x l ih=>exact ⟨by simp [eX,nbs,nb,vZ,bO,vL,bA,bJ,uY],ih⟩
theorem vP (m:Mode) :∀(l:List yJ),bwR (wW m l)=wW .bw l
 | []=>rfl
 | x::l=>by
  have:=vP m l
  simp only [wW,qZr,bwR] at this⊢
  rw [this]
  simp [eX,bwL,bwC,uL,bE,jX,uO,bB,bH]
theorem qIw (l:List yJ):free (wW .bw l)↔True:=by
 simp only [iff_true]
 intro r hr c hc
 simp only [wW,wBa] at hr
 obtain ⟨x,_,rfl⟩:=hr
 simp [eX] at hc
 rcases hc with rfl | rfl | rfl<;>rfl
structure qFs where
 sent:List Int
 taken:List Int
 deriving DecidableEq,Inhabited
def qBh (m:Mode) (x:qFs):List AV:=[.sl m 1 (wC x.sent),.sl m 1 (wC x.taken)]
def zD (m:Mode) (l:List qFs):List (List AV):=l.map (qBh m)
theorem qQn (m:Mode):zD m []=[]:=rfl
theorem kH (m:Mode) (l:List qFs):(zD m l).length=l.length:=by simp [zD]
theorem qIo (m:Mode) (l k:List qFs):zD m l++zD m k=zD m (l++k):=by simp [zD]
theorem qDg (m:Mode) (l:List qFs) (n:Nat):(zD m l).drop n=zD m (l.drop n):=by simp [zD]
theorem qDf (m:Mode) (l:List qFs) (n:Nat):(zD m l).take n=zD m (l.take n):=by simp [zD]
theorem qQm (m:Mode) (l:List qFs) (i:Nat) (sent_:List Int) (taken_:List Int):(zD m l).set i [.sl m 1 (wC sent_),.sl m 1 (wC taken_)]=zD m (l.set i ⟨sent_,taken_⟩):=by simp [zD,qBh]
theorem bW (A:Nat→Prop) (m:Mode) (l:List qFs):yQ A (zD m l)↔True:=by
 simp only [iff_true]
 induction l with
 | nil=>trivial
 | cons x l ih=>exact ⟨by simp [qBh,jF,bnd,zG,yU,uA,jN,vJ,uE,uQ,vF],ih⟩
theorem dL (l:List qFs):nbr (zD .own l)↔True:=by
 simp only [iff_true]
 induction l with
 | nil=>trivial
 | cons x l ih=>exact ⟨by simp [qBh,nbs,nb,vZ,bO,vL,bA,bJ,uY,vX],ih⟩
theorem gU (m:Mode) :∀(l:List qFs),bwR (zD m l)=zD .bw l
 | []=>rfl
 | x::l=>by
  have:=gU m l
  simp only [zD,qZr,bwR] at this⊢
  rw [this]
  simp [qBh,bwL,bwC,uL,bE,jX,uO,bB,bH,vP]
theorem qNb (l:List qFs):free (zD .bw l)↔True:=by
 simp only [iff_true]
 intro r hr c hc
 simp only [zD,wBa] at hr
 obtain ⟨x,_,rfl⟩:=hr
 simp [qBh] at hc
 rcases hc with rfl | rfl<;>rfl
structure wU where
 caps:List Int
 bods:List (List Ins)
 deriving DecidableEq,Inhabited
def dU (m:Mode) (x:wU):List AV:=[.sl m 1 (wC x.caps),.sl m 1 (jQ m x.bods)]
def zF (m:Mode) (l:List wU):List (List AV):=l.map (dU m)
theorem qRd (m:Mode):zF m []=[]:=rfl
theorem kP (m:Mode) (l:List wU):(zF m l).length=l.length:=by simp [zF]
theorem qJc (m:Mode) (l k:List wU):zF m l++zF m k=zF m (l++k):=by simp [zF]
theorem qE4 (m:Mode) (l:List wU) (n:Nat):(zF m l).drop n=zF m (l.drop n):=by simp [zF]
theorem qE3 (m:Mode) (l:List wU) (n:Nat):(zF m l).take n=zF m (l.take n):=by simp [zF]
theorem qRc (m:Mode) (l:List wU) (i:Nat) (caps_:List Int) (bods_:List (List Ins)):(zF m l).set i [.sl m 1 (wC caps_),.sl m 1 (jQ m bods_)]=zF m (l.set i ⟨caps_,bods_⟩):=by simp [zF,dU]
theorem gP (A:Nat→Prop) (m:Mode) (l:List wU):yQ A (zF m l)↔True:=by
 simp only [iff_true]
 induction l with
 | nil=>trivial
 | cons x l ih=>exact ⟨by simp [dU,jF,bnd,zG,yU,uA,jN,vJ,uE,uQ,vF,bW],ih⟩
theorem dT (l:List wU):nbr (zF .own l)↔True:=by
 simp only [iff_true]
 induction l with
 | nil=>trivial
 | cons x l ih=>exact ⟨by simp [dU,nbs,nb,vZ,bO,vL,bA,bJ,uY,vX,dL],ih⟩
theorem dO (m:Mode) :∀(l:List wU),bwR (zF m l)=zF .bw l
 | []=>rfl
 | x::l=>by
  have:=dO m l
  simp only [zF,qZr,bwR] at this⊢
  rw [this]
  simp [dU,bwL,bwC,uL,bE,jX,uO,bB,bH,vP,gU]
theorem qNj (l:List wU):free (zF .bw l)↔True:=by
 simp only [iff_true]
 intro r hr c hc
 simp only [zF,wBa] at hr
 obtain ⟨x,_,rfl⟩:=hr
 simp [dU] at hc
 rcases hc with rfl | rfl<;>rfl
structure qS where
 ths:List yJ
 chs:List jS
 tr:List bK
 deriving DecidableEq,Inhabited
def jJ (m:Mode) (x:qS):List AV:=[.sl m 3 (wW m x.ths),.sl m 3 (wF m x.chs),.sl m 2 (yT x.tr)]
def vT (m:Mode) (l:List qS):List (List AV):=l.map (jJ m)
theorem qL0 (m:Mode):vT m []=[]:=rfl
theorem cP (m:Mode) (l:List qS):(vT m l).length=l.length:=by simp [vT]
theorem qDr (m:Mode) (l k:List qS):vT m l++vT m k=vT m (l++k):=by simp [vT]
theorem sB (m:Mode) (l:List qS) (n:Nat):(vT m l).drop n=vT m (l.drop n):=by simp [vT]
theorem sA (m:Mode) (l:List qS) (n:Nat):(vT m l).take n=vT m (l.take n):=by simp [vT]
theorem qKz (m:Mode) (l:List qS) (i:Nat) (ths_:List yJ) (chs_:List jS) (tr_:List bK):(vT m l).set i [.sl m 3 (wW m ths_),.sl m 3 (wF m chs_),.sl m 2 (yT tr_)]=vT m (l.set i ⟨ths_,chs_,tr_⟩):=by simp [vT,jJ]
theorem uX (A:Nat→Prop) (m:Mode) (l:List qS):yQ A (vT m l)↔True:=by
 simp only [iff_true]
 induction l with
 | nil=>trivial
 | cons x l ih=>exact ⟨by simp [jJ,jF,bnd,zG,yU,uA,jN,vJ,uE,uQ,vF,bW,gP],ih⟩
theorem gA (l:List qS):nbr (vT .own l)↔True:=by
 simp only [iff_true]
 induction l with
 | nil=>trivial
 | cons x l ih=>exact ⟨by simp [jJ,nbs,nb,vZ,bO,vL,bA,bJ,uY,vX,dL,dT],ih⟩
theorem bG (m:Mode) :∀(l:List qS),bwR (vT m l)=vT .bw l
 | []=>rfl
 | x::l=>by
  have:=bG m l
  simp only [vT,qZr,bwR] at this⊢
  rw [this]
  simp [jJ,bwL,bwC,uL,bE,jX,uO,bB,bH,vP,gU,dO]
theorem qJ2 (l:List qS):free (vT .bw l)↔True:=by
 simp only [iff_true]
 intro r hr c hc
 simp only [vT,wBa] at hr
 obtain ⟨x,_,rfl⟩:=hr
 simp [jJ] at hc
 rcases hc with rfl | rfl | rfl<;>rfl
def bys (l:List Int):List (List AV):=l.map fun b=>[.int .u8 b]
theorem qXe:bys []=[]:=rfl
theorem rH (l:List Int):(bys l).length=l.length:=by simp [bys]
theorem qOq (l k:List Int):bys l++bys k=bys (l++k):=by simp [bys]
theorem qMr (l:List Int) (n:Nat):(bys l).drop n=bys (l.drop n):=by simp [bys]
theorem qMq (l:List Int) (n:Nat):(bys l).take n=bys (l.take n):=by simp [bys]
theorem qXd (l:List Int) (i:Nat) (b_:Int):(bys l).set i [.int .u8 b_]=bys (l.set i b_):=by simp [bys]
theorem qFf (l:List Int) (i:Nat) (h:i<l.length):(bys l).getD i []=[.int .u8 (l.getD i 0)]:=by simp [bys,List.getD_eq_getElem?_getD,h]
theorem eF (A:Nat→Prop) (l:List Int):yQ A (bys l)↔True:=by
 simp only [iff_true]
 induction l with
 | nil=>trivial
 | cons x l ih=>exact ⟨by simp [jF,bnd,zG,yU,uA,jN,vJ,uE,uQ,vF,bW,gP,uX],ih⟩
theorem iG (l:List Int):nbr (bys l)↔True:=by
 simp only [iff_true]
 induction l with
 | nil=>trivial
 | cons x l ih=>exact ⟨by simp [nbs,nb,vZ,bO,vL,bA,bJ,uY,vX,dL,dT,gA],ih⟩
theorem fD :∀(l:List Int),bwR (bys l)=bys l
 | []=>rfl
 | x::l=>by
  have:=fD l
  simp only [bys,qZr,bwR] at this⊢
  rw [this]
  simp [bwL,bwC,uL,bE,jX,uO,bB,bH,vP,gU,dO,bG]
theorem qVp (l:List Int):free (bys l)↔True:=by
 simp only [iff_true]
 intro r hr c hc
 simp only [bys,wBa] at hr
 obtain ⟨x,_,rfl⟩:=hr
 simp [] at hc
 rcases hc with rfl<;>rfl
structure Cur where
 i:Nat
 h:Int
 deriving Inhabited
def eS (code:List Int) (c:Cur):List AV:=[.sl .fz 1 (bys code),.int .i64 c.i,.int .i64 c.h]
theorem fS:(∀n,del [] n=[])∧(∀m s h n,del ((m,s)::h) n=if n=m then del h n else (m,s)::del h n)∧(∀n r,put [] n r=[(n,r)])∧(∀m s h n r,put ((m,s)::h) n r=if n=m then (m,r)::h else (m,s)::put h n r)∧(∀{α:Type} (a b:α) (l:List α),(a::l).set 0 b=b::l)∧(∀{α:Type} (a b:α) (l:List α) (n:Nat),(a::l).set (n+1) b=a::l.set n b)∧(∀{α:Type} (a b:α),(if True then a else b)=a)∧(∀{α:Type} (a b:α),(if False then a else b)=b)∧(∀l,(wC l).length=l.length)∧(∀l n,(wC l).take n=wC (l.take n))∧(∀l n,(wC l).drop n=wC (l.drop n))∧(∀o l rows,xC o l rows=if o=0∧rows.length=l then rows else (rows.drop o).take l)∧(∀{α:Type} (a:α) (l:List α),(a::l).length=l.length+1)∧(∀{α:Type},([]:List α).length=0)∧(∀p:Prop,(p∧p)=p)∧(∀p:Prop,(p∧True)=p)∧(∀p:Prop,(True∧p)=p)∧(∀l,(vR l).length=l.length)∧(∀m l,(jQ m l).length=l.length)∧(∀m l,(yY m l).length=l.length)∧(∀m l,(wF m l).length=l.length)∧(∀l,(yT l).length=l.length)∧(∀m l,(wW m l).length=l.length)∧(∀m l,(zD m l).length=l.length)∧(∀m l,(zF m l).length=l.length)∧(∀m l,(vT m l).length=l.length)∧(∀l,(bys l).length=l.length)∧(∀{α:Type} (a b:List α),(a++b).length=a.length+b.length)∧(∀{α:Type} (n:Nat) (a:α),(List.replicate n a).length=n)∧(∀{α:Type} (l:List α) (n:Nat) (a:α),(l.set n a).length=l.length):=by
 refine ⟨?_,?_,?_,?_,?_,?_,?_,?_,?_,?_,?_,?_,?_,?_,?_,?_,?_,?_,?_,?_,?_,?_,?_,?_,?_,?_,?_,?_,?_,?_⟩<;>intros<;>simp [del,put,xC,zJ,nH,xG,vY,cE,kV,uW,kH,kP,cP,rH]
attribute [go_sem] hZ vV qXu qXw qQd qV3 qXx qV0 qXv qV7 qQc qV8 qV1 wO qPw qHk Arg.ev wB bX qWm if_false if_true dQ put del zJ qBa Option.map_some Option.bind_some qN Int.toNat_natCast qXy qUz qV4 gO true_and and_true qLo qLm qLn qCd tT Bool.false_eq_true xY cellsOf yR List.isEmpty_nil List.isEmpty_cons fresh List.map_nil qZr List.cons_append List.nil_append bZ List.take_zero List.drop_zero List.take_succ_cons List.getD_cons_zero List.length_cons List.length_nil List.drop_succ_cons List.drop_nil List.append_nil List.all_cons List.all_nil yM Bool.and_self Nat.zero_add qV5 qV6 qUy qQb qQa qQ8 qQ9 qV9 qXt qF0 qMf qHz qNi qNk qFr vB vE zX qId eV yH apart List.filter_nil List.filter_cons Option.isSome_some Option.isSome_none List.contains_nil List.contains_cons List.forall_mem_cons List.mem_cons List.not_mem_nil false_implies implies_true forall_const forall_eq_or_imp forall_eq or_false beq_self_eq_true Bool.or_false Bool.false_or Bool.true_or Bool.or_true Bool.not_true Bool.not_false xv xo xg xr xi xz List.set_set qEi qC3 qHx qHy tI oQ qHv qB2 iN eqC eE qBy List.replicate_zero decide_true decide_false qM5 qLh List.replicate_succ Int.toNat_zero Int.toNat_one eq_self Bool.and_true Bool.true_and Bool.and_false Bool.false_and List.set_cons_zero List.set_cons_succ List.getD_cons_succ rnm ixm vG aN yF jL cond_true cond_false oN oL tK nH qM7 qHp qHo qUm gB xG qGr qCl qCk qOx vY sZ qEu qEt qHm cE lL qF9 qF8 gQ aP kV kW qEe qEd qRl sM uW aA rT rS qL eX kH qIo qDg qDf qQm qBh kP qJc qE4 qE3 qRc dU cP qDr sB sA qKz jJ rH qOq qMr qMq qXd
attribute [simp] iE bwT bwC bwL uL oL wB Arg.ev dP rI pK qFg zG qJg qD4 yU okV okL nb nbs nbr vZ qN zJ bnd jF yQ vG aN ixm rnm apart eV vB vE fresh yF jL dH qKf bS cY uS del sW xC oN tK shp okB qLe qHn qRs qU2 qU1 qTw qNr qTz qWo qU0 qRr qTx qWq qTy cU qHi qUt qSb qUn bE uA bO nH qHo qHp qS8 qOy jX jN vL xG qCk qCl qMw qS7 uO vJ bA vY qEt qEu qO7 qSp bB uE bJ cE qF8 qF9 qOk qRn bH uQ uY kV qEd qEe qNp qKw vP vF vX uW rS rT qIw qQn gU bW dL kH qDf qDg qNb qRd dO gP dT kP qE3 qE4 qNj qL0 bG uX gA cP sA sB qJ2 qXe fD eF iG rH qMq qMr qVp eS gB aP sM eX qBh dU jJ
theorem qEf :∀(l:List (List AV)),gZ l l
 | []=>by simp [gZ]
 | r::l=>(cU r r l l).2 ⟨iT r,qEf l⟩
theorem qHj :∀{a a' b b':List (List AV)},gZ a a'→gZ b b'→gZ (a++b) (a'++b')
 | [],a',b,b',h1,h2=>by
  simp only [gZ] at h1
  subst h1
  exact h2
 | r::a,a',b,b',h1,h2=>by
  simp only [gZ] at h1
  obtain ⟨d,ds,rfl,h3,h4⟩:=h1
  exact (cU r d _ _).2 ⟨h3,qHj h4 h2⟩
theorem Sub.nilRow (nm:Nat) {t:List (Nat×AV)} {h:wT} {nx sz:Nat} {rows rows':List (List AV)} (hl:qN h nm=some (sz,rows)) (hn:gZ rows rows') (hbn:yQ (· < nx) rows'):Sub (.mk t h nx) (.mk t (put h nm (sz,rows')) nx):=by
 rintro B a w ⟨h1,h2,hb,hbt,φ,Lf,hl'⟩
 have hlk :∀n,qN (put h nm (sz,rows')) n=if n=nm then some (sz,rows') else qN h n:=fun n=>qEk n
 have hne :∀n,qN (put h nm (sz,rows')) n≠none→qN h n≠none:=fun n hn'=>by
  rw [hlk] at hn'
  split at hn'
  ·rename_i he; rw [he,hl]; simp
  ·exact hn'
 refine ⟨h1,h2,?_,hbt,φ,Lf,⟨hl'.ok.size0,hl'.ok.io0,hl'.ok.fr,hl'.ok.keep0,fun n hn'=>hl'.ok.own0 n (hne n hn'),?_,fun n hn'=>hl'.ok.rh.nodup n (hne n hn'),fun n hn'=>hl'.ok.rh.blk n (hne n hn'),fun n m hn' hm=>hl'.ok.rh.dis n m (hne n hn') (hne m hm),?_⟩,hl'.tm,hl'.φ0,hl'.ten⟩
 ·intro n row hr
  rw [hlk] at hr
  split at hr
  ·rename_i he
   simp only [Option.some.injEq] at hr
   subst hr he
   exact ⟨(hb n _ hl).1,hbn⟩
  ·exact hb n row hr
 ·intro n row hr
  rw [hlk] at hr
  split at hr
  ·rename_i he
   simp only [Option.some.injEq] at hr
   subst hr he
   have:=hl'.ok.rh.row n _ hl
   unfold uT gF at this⊢
   cases hq:(B.env w φ).φ n with
   | dead=>rw [hq] at this; exact this.elim
   | nilp =>
    rw [hq] at this
    simp only at this
    obtain ⟨h3,h4⟩:=this
    rw [h3] at hn
    simp only [gZ] at hn
    exact ⟨hn,h4⟩
   | «at» p =>
    rw [hq] at this
    obtain ⟨h3,h4,Lr,h5,h6⟩:=this
    exact ⟨h3,by rw [eZ hn]; exact h4,Lr,sN hn h5,h6⟩
  ·exact hl'.ok.rh.row n row hr
 ·intro n hn'
  rw [hlk] at hn'
  split at hn'
  ·simp at hn'
  ·exact hl'.ok.rh.dead n hn'
theorem Sub.nilLast (nm:Nat) {t:List (Nat×AV)} {h:wT} {nx sz:Nat} {front:List (List AV)} {r r':List AV} (hl:qN h nm=some (sz,front++[r])) (hn:wM r r') (hbn:yQ (· < nx) (front++[r'])):Sub (.mk t h nx) (.mk t (put h nm (sz,front++[r'])) nx) :=
 Sub.nilRow nm hl (qHj (qEf front) ((cU r r' [] []).2 ⟨hn,(qHi).2 trivial⟩)) hbn
theorem wH {rs:List qCx} {fp:FP} {v:AV} {s:AS} {t:List (Nat×AV)} {h:wT} {nx:Nat} (hs:Sub s (.mk t h nx)) (h1:qKf (rs.map fun r=>(dH t h r).2)∧(bS h (rs.map fun r=>(dH t h r).1)).2.2∧wM (bS h (rs.map fun r=>(dH t h r).1)).1 [v]∧∀x∈fp,qN (bS h (rs.map fun r=>(dH t h r).1)).2.1 x.1=qN (uS fp) x.1):Fin rs fp v s :=
 ⟨_,hs,qZ h1⟩
theorem qD8 {rs:List qCx} {fp:FP} {vs:List AV} {s:AS} {t:List (Nat×AV)} {h:wT} {nx:Nat} (h0:vs.length≠1) (hs:Sub s (.mk t h nx)) (h1:qKf (rs.map fun r=>(dH t h r).2)∧(bS h (rs.map fun r=>(dH t h r).1)).2.2∧wM (bS h (rs.map fun r=>(dH t h r).1)).1 vs∧∀x∈fp,qN (bS h (rs.map fun r=>(dH t h r).1)).2.1 x.1=qN (uS fp) x.1):Fin rs fp (.tup vs) s :=
 ⟨_,hs,qG4 h0 h1⟩
theorem K {p q:Prop} (k:q) (h:p:=by first | omega | (simp [-List.getD_eq_getElem?_getD]; first | done | omega)):p∧q:=⟨h,k⟩
theorem CA {P:Program} {num:Nat→Nat} {fin:AS→Prop} {f nx:Nat} {ps:List Bool} {xs:List Arg} {t:List (Nat×AV)} {h:wT} {fp:FP} {res:AV} {vargs:List AV} {dst:Option Nat} {k:List It} (σ:List (Nat×Nat)) (hc:wD P num f vargs fp res)
  (hk:vc P num fin k (.mk (bX t dst (yF nx (vG (rnm σ) res)).1) (dQ h (fp.map (fun x=>(rnm σ x.1,x.2))++fresh (yF nx (vG (rnm σ) res)).2.1)) (yF nx (vG (rnm σ) res)).2.2))
  (hv:wM (iE (ixm σ) h ps (xs.map (Arg.ev (wB t)))) vargs:=by first | omega | (simp [wM,wL]; done) | (simp [wM,wL, *]; done))
  (hvo:dP h (fun n =>∃x∈fp,x.2.1≠none∧n=rnm σ x.1∧ixm σ n=x.1) (fun n =>∃x∈fp,n=rnm σ x.1) ps (xs.map (Arg.ev (wB t))):=by first | omega | (simp [wM,wL]; done) | (simp [wM,wL, *]; done))
  (hnd:(fp.map (fun x=>rnm σ x.1)).Nodup:=by first | (simp [wM,wL]; done) | (simp [wM,wL, *]; done))
  (hpre :∀x∈fp,qN h (rnm σ x.1)=x.2.1∧(x.2.1=none→nx≤rnm σ x.1)∧rnm σ x.1<nx:=by first | (simp [wM,wL]; done) | (simp [wM,wL, *]; done))
  (hnb :∀x∈fp,(∀r,x.2.1=some r→nbr r.2)∧(∀r,x.2.2=some r→nbr r.2):=by first | (simp [wM,wL]; done) | (simp [wM,wL, *]; done))
  (hres:okV (fun k =>∃x∈fp,x.1=k∧x.2.2≠none) res:=by first | (simp [wM,wL]; done) | (simp [wM,wL, *]; done)):qI7 P num fin (.call f ps xs) dst k (.mk t h nx) :=
 fT (qFd σ hc hv hvo hnd hpre hnb hres) hk
theorem DA {P:Program} {num:Nat→Nat} {fin:AS→Prop} {f nx:Nat} {ps:List Bool} {xs:List Arg} {t:List (Nat×AV)} {h:wT} {fp:FP} {res:AV} {vargs:List AV} {pend:List (Nat×List Nat)} {dst:Option Nat} {tr:uI} {k:List It} (σ:List (Nat×Nat)) (hc:wD P num f vargs fp res)
  (hk:vc P num fin (.draw tr pend::k) (.mk (bX t dst (yF nx (vG (rnm σ) res)).1) (dQ h (fp.map (fun x=>(rnm σ x.1,x.2))++fresh (yF nx (vG (rnm σ) res)).2.1)) (yF nx (vG (rnm σ) res)).2.2))
  (hv:wM (iE (ixm σ) h ps (xs.map (Arg.ev (wB t)))) vargs:=by first | omega | (simp [wM,wL]; done) | (simp [wM,wL, *]; done))
  (hvo:dP h (fun n =>∃x∈fp,x.2.1≠none∧n=rnm σ x.1∧ixm σ n=x.1) (fun n =>∃x∈fp,n=rnm σ x.1) ps (xs.map (Arg.ev (wB t))):=by first | omega | (simp [wM,wL]; done) | (simp [wM,wL, *]; done))
  (hnd:(fp.map (fun x=>rnm σ x.1)).Nodup:=by first | (simp [wM,wL]; done) | (simp [wM,wL, *]; done))
  (hpre :∀x∈fp,qN h (rnm σ x.1)=x.2.1∧(x.2.1=none→nx≤rnm σ x.1)∧rnm σ x.1<nx:=by first | (simp [wM,wL]; done) | (simp [wM,wL, *]; done))
  (hnb :∀x∈fp,(∀r,x.2.1=some r→nbr r.2)∧(∀r,x.2.2=some r→nbr r.2):=by first | (simp [wM,wL]; done) | (simp [wM,wL, *]; done))
  (hres:okV (fun k =>∃x∈fp,x.1=k∧x.2.2≠none) res:=by first | (simp [wM,wL]; done) | (simp [wM,wL, *]; done))
  (ha:apart pend (fp.map (fun x=>(rnm σ x.1,x.2))++fresh (yF nx (vG (rnm σ) res)).2.1):=by first | (simp [wM,wL]; done) | (simp [wM,wL, *]; done)):qQf P num fin (.call f ps xs) pend dst tr k t h nx :=
 qC4 (qFd σ hc hv hvo hnd hpre hnb hres) ha hk
def qEj (k:Int) (n:Nat):List Int:=(List.range n).map fun (i:Nat)=>k+i
@[simp] theorem qWs (k:Int) (n:Nat):(qEj k n).length=n:=by simp [qEj]
@[simp] theorem qYd (k:Int) (n:Nat):(qEj k n).take n=qEj k n:=List.take_of_length_le (by simp)
theorem nN (xs:List Int) (hx:8*xs.length≤2^47):wD Try.prog num 36 [.sl .bw 1 (wC xs)] [] (.sl .own 1 (wC xs)):=by
 refine EN m36 Try.func32 ?_
 unfold m36
 simp only [go_sem,seval]
 repeat refine K ?_
 refine fz ?_; simp [yL,wM,wL,wR,-wBe]
def qV (n lo hi:Int):Bool:=decide (lo≤n)&&decide (n≤hi)
theorem qK {n lo hi:Int}:qV n lo hi=true↔lo≤n∧n≤hi:=by simp [qV]
def uN (b:Bool):Int:=if b then 1 else 0
theorem bV (n lo hi:Int):wD Try.prog num 59 [.int .i64 n,.int .i64 lo,.int .i64 hi] [] (.bool (qV n lo hi)):=by
 refine EN m59 Try.func52 ?_
 unfold m59
 by_cases h1:lo≤n<;>by_cases h2:n≤hi<;>(simp only [go_sem,seval,h1,h2]; refine fz ?_; simp [yL,wM,wL,wR,-wBe]; simp [qV,h1,h2])
theorem sT (n lo hi:Int):wD Try.prog num 64 [.int .i64 n,.int .i64 lo,.int .i64 hi] [] (.bool (qV n lo hi)):=by
 refine EN m64 Try.func68 ?_
 unfold m64
 by_cases h1:lo≤n<;>by_cases h2:n≤hi<;>(simp only [go_sem,seval,h1,h2]; refine fz ?_; simp [yL,wM,wL,wR,-wBe]; simp [qV,h1,h2])
theorem iS (b:Bool):wD Try.prog num 78 [.bool b] [] (.int .i64 (uN b)):=by
 refine EN m78 Try.func76 ?_
 unfold m78
 cases b<;>(simp only [go_sem,seval]; refine fz ?_; simp [yL,wM,wL,wR,-wBe]; simp [uN])
theorem qM4 (n:Int):wD Try.prog num 97 [.int .i64 n] [] (.bool (qV n 0 3)):=by
 refine EN m97 Try.func81 ?_
 unfold m97
 simp only [go_sem,seval]
 refine CA [] (bV n 0 3) ?_
 try simp only [go_sem,seval]
 refine fz ?_; simp [yL,wM,wL,wR,-wBe]
theorem qHd (n:Int):wD Try.prog num 44 [.int .i64 n] [] (.bool (qV n 5 9)):=by
 refine EN m44 Try.func82 ?_
 unfold m44
 simp only [go_sem,seval]
 refine CA [] (bV n 5 9) ?_
 try simp only [go_sem,seval]
 refine fz ?_; simp [yL,wM,wL,wR,-wBe]
theorem qJx (l:List bK) (hx:16*l.length≤2^47):wD Try.prog num 69 [.sl .bw 2 (yT l)] [] (.sl .own 2 (yT l)):=by
 refine EN m69 Try.func53 ?_
 unfold m69
 simp only [go_sem,seval]
 repeat refine K ?_
 refine fz ?_; simp [yL,wM,wL,wR,-wBe]
theorem fQ (c:jS) (hx:8*c.list.length≤2^47):wD Try.prog num 70 [.agg (aP .bw c)] [] (.agg (aP .own c)):=by
 refine EN m70 Try.func54 ?_
 unfold m70
 simp only [go_sem,seval]
 refine CA [] (nN c.list hx) ?_
 try simp only [go_sem,seval]
 refine fz ?_; simp [yL,wM,wL,wR,-wBe]
def jM (c:jS):Bool:=qV c.cap 1 4&&decide ((c.list.length:Int)≤c.cap)
theorem eB (c:jS):wD Try.prog num 72 [.agg (aP .bw c)] [] (.bool (jM c)):=by
 refine EN m72 Try.func56 ?_
 unfold m72
 simp only [go_sem,seval]
 refine CA [] (bV c.cap 1 4) ?_
 try simp only [go_sem,seval]
 cases h:qV c.cap 1 4
 ·simp only [go_sem,seval,h]
  refine fz ?_; simp [yL,wM,wL,wR,-wBe]
  simp [jM,h]
 ·simp only [go_sem,seval,h]
  refine fz ?_; simp [yL,wM,wL,wR,-wBe]
  simp [jM,h]
def jE (x:Ins) (pl ch:Int):Bool :=
 qV x.r 0 3&&qV x.a 0 3&&qV x.b 0 3&&qV ch 0 3 &&
 (if x.op=1 then qV x.n (-1000000000) 1000000000&&decide (x.a=0)&&decide (x.b=0)
  else if x.op=2∨x.op=3∨x.op=4 then decide (x.n=0)
  else if x.op=5 then qV x.n 0 (ch-1)&&decide (x.r=0)&&decide (x.b=0)
  else if x.op=6∨x.op=8 then qV x.n 0 (ch-1)&&decide (x.a=0)&&!decide (x.r=x.b)
  else if x.op=7 then qV x.n 0 (ch-1)&&decide (x.b=0)
  else if x.op=9 then qV x.n 0 (ch-1)&&decide (x.r=0)&&decide (x.a=0)&&decide (x.b=0)
  else if x.op=10 then decide (x.r=0)&&decide (x.b=0)&&decide (x.n=0)
  else if x.op=11 then decide (0≤x.n)&&decide (x.n<pl)&&decide (x.r=0)&&decide (x.a=0)&&decide (x.b=0)
  else if x.op=12 then decide (0≤x.n)&&decide (x.n<pl)&&decide (x.r=0)&&decide (x.b=0)
  else if x.op=13 then decide (x.op=13)&&(decide (x.r=0)&&(decide (x.a=0)&&(decide (x.b=0)&&decide (x.n=0))))
  else false)
def qBt (x:Ins):Ins :=
 if x.op=1 then ⟨x.op,x.r,0,0,x.n⟩
 else if x.op=2∨x.op=3∨x.op=4 then ⟨x.op,x.r,x.a,x.b,0⟩
 else if x.op=5∨x.op=12 then ⟨x.op,0,x.a,0,x.n⟩
 else if x.op=6∨x.op=8 then ⟨x.op,x.r,0,x.b,x.n⟩
 else if x.op=7 then ⟨x.op,x.r,x.a,0,x.n⟩
 else if x.op=9∨x.op=11 then ⟨x.op,0,0,0,x.n⟩
 else if x.op=10 then ⟨x.op,0,x.a,0,0⟩
 else ⟨x.op,0,0,0,0⟩
def nJ (x:Ins) (pl ch:Int):Bool :=
 qV ch 0 3&&qV x.op 1 13&&(decide (x.op=(qBt x).op)&&(decide (x.r=(qBt x).r)&&(decide (x.a=(qBt x).a)&&(decide (x.b=(qBt x).b)&&decide (x.n=(qBt x).n))))) &&
 qV x.r 0 3&&qV x.a 0 3&&qV x.b 0 3 &&
 (if x.op=1 then qV x.n (-1000000000) 1000000000
  else if x.op=11∨x.op=12 then qV x.n 0 (pl-1)
  else if (x.op=6∨x.op=8)∧x.r=x.b then false
  else !qV x.op 5 9||qV x.n 0 (ch-1))
theorem qLi (x:Ins):wD Try.prog num 96 [.agg (gB x)] [] (.agg (gB (qBt x))):=by
 refine EN m96 Try.func80 ?_
 unfold m96
 repeat' (first
  | (simp only [go_sem,seval])
  | (refine qU (fun hc=>?_) (fun hc=>?_)<;>((try simp only [wBf,wBg,ne_eq,wBh,wBi] at hc)<;>(try simp only [hc])))
  | (refine xR (fun hc=>?_) (fun hc=>?_)<;>((try simp only [wBf,wBg,ne_eq,wBh,wBi] at hc)<;>(try simp only [hc])))
  | (refine zR (fun hc=>?_) (fun hc=>?_)<;>((try simp only [wBf,wBg,ne_eq,wBh,wBi] at hc)<;>(try simp only [hc])))
  | (refine ⟨by first | omega | (simp; done),?_⟩)
  | fail)
 all_goals (refine fz ?_; simp [yL,wM,wL,wR,-wBe])
 all_goals (try (simp_all [qBt]; done))
theorem qA3 (n lo hi:Int):qV n lo hi=decide (lo≤n∧n≤hi):=by simp [qV]
theorem oO (x:Ins) (pl ch:Int):nJ x pl ch=jE x pl ch:=by
 obtain ⟨op,r,a,b,n⟩:=x
 by_cases h:1≤op∧op≤13
 ·obtain rfl | rfl | rfl | rfl | rfl | rfl | rfl | rfl | rfl | rfl | rfl | rfl | rfl:op=1∨op=2∨op=3∨op=4∨op=5∨op=6∨op=7∨op=8∨op=9∨op=10∨op=11∨op=12∨op=13:=by omega
  all_goals (rw [Bool.eq_iff_iff]; simp [nJ,jE,qBt,qA3]; try omega)
 ·have h1 :¬op=1:=by omega
  have h2 :¬op=2:=by omega
  have h3 :¬op=3:=by omega
  have h4 :¬op=4:=by omega
  have h5 :¬op=5:=by omega
  have h6 :¬op=6:=by omega
  have h7 :¬op=7:=by omega
  have h8 :¬op=8:=by omega
  have h9 :¬op=9:=by omega
  have h10 :¬op=10:=by omega
  have h11 :¬op=11:=by omega
  have h12 :¬op=12:=by omega
  have h13 :¬op=13:=by omega
  have hw:qV op 1 13=false:=by rw [qA3]; simp; omega
  simp [nJ,jE,hw,h1,h2,h3,h4,h5,h6,h7,h8,h9,h10,h11,h12,h13]
end Go.Sep
