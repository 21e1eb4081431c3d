/- Contracts of functions. -/
import Derived.Test.YtebbppogicgpkaaGreatQzFns
namespace Go.Sep
set_option maxHeartbeats 16000000
open Go.Proofs
set_option linter.unusedSimpArgs false
set_option linter.unusedVariables false
set_option maxRecDepth 100000
def m5:MFn:=⟨22,[.t 2],kr [xo 2 (.mv (.c (.nil)))] (kr [xv 5 0,xe 6 5,xo 7 (.mkS [xz] 8 (.t 6) (.t 6)),xv 3 7] (.seq (kr [xI 4 0] (.blk 0 (.loop (.seq (kr [xv 8 4,xv 9 0,xe 10 9,bT 11 .lss 8 10] (kX 11 0)) (.seq (.blk 1 (xr [xv 14 3,xv 15 4,xv 16 0,xv 17 4,xD 18 1 16 17,xl 19 18,xD 20 1 14 15,xS 1 20 19])) (xr [xv 12 4,bI 13 .add 12 1,xv 4 13])))))) (kR [xv 21 3,xv 2 21])))⟩
def m36:MFn:=⟨6,[.t 2],kr [xo 2 (.mv (.c (.nil)))] (kR [xo 3 (.mkSl [xz] 0 []),xv 4 0,xA 5 1 8 3 4,xv 2 5])⟩
def m44:MFn:=⟨5,[.t 2],kr [xF 2] (kR [xv 3 0,xc3 4 59 (.t 3) (xi 5) (xi 9),xv 2 4])⟩
def m59:MFn:=⟨15,[.t 6],kr [xF 6] (kR [xv 7 0,xv 8 1,bT 9 .geq 7 8,xv 10 9,yv 11 0 10,yv 12 2 10,xg 13 (.bin .leq (.t 11) (.t 12)) 10 true,xP 14 10 13,xv 6 14])⟩
def m64:MFn:=⟨15,[.t 6],kr [xF 6] (kR [xv 7 0,xv 8 1,bT 9 .geq 7 8,xv 10 9,yv 11 0 10,yv 12 2 10,xg 13 (.bin .leq (.t 11) (.t 12)) 10 true,xP 14 10 13,xv 6 14])⟩
def m78:MFn:=⟨4,[.t 2],kr [xI 2 0] (.seq (kr [xv 3 0] (kF 3 [xI 2 1])) (kR [xI 2 0]))⟩
def m85:MFn:=⟨4,[.t 2],kr [xI 2 0] (.seq (kr [xv 3 0] (kF 3 [xI 2 1])) (kR [xI 2 0]))⟩
def m96:MFn:=⟨74,[.cell 2 5 true],kr [xb 1 0,xo 2 (.alloc [xz,xz,xz,xz,xz])] (kr [xa 4 0 1,xl 5 4,xo 6 (.build [xz,xz,xz,xz,xz] [(0,1,.t 5)]),xo 3 (.alloc [xz,xz,xz,xz,xz]),xS 5 3 6] (.seq (kr [xa 7 0 1,xl 8 7] (.blk 0 (kr [bI 10 .eql 8 1,xv 9 10] (.cond 9 (.dreg (.take 0 (xa 11 1 1) (.take 1 (xl 12 11) (.take 2 (xa 13 4 1) (.take 3 (xl 14 13) (.only 4 [0,1] (xa 15 1 3) (.only 5 [0,1] (xS 1 15 12) (.only 6 [0,1,2,3] (xa 16 4 3) (.only 7 [0,1,2,3] (xS 1 16 14) (.done)))))))))) (.seq (kr [bI 18 .eql 8 2,xv 17 18] (.cond 17 (.skip) (kr [bI 19 .eql 8 3,xv 17 19] (.cond 17 (.skip) (xr [bI 20 .eql 8 4,xv 17 20]))))) (.cond 17 (.dreg (.take 0 (xa 21 1 1) (.take 1 (xl 22 21) (.take 2 (xa 23 2 1) (.take 3 (xl 24 23) (.take 4 (xa 25 3 1) (.take 5 (xl 26 25) (.only 6 [0,1] (xa 27 1 3) (.only 7 [0,1] (xS 1 27 22) (.only 8 [0,1,2,3] (xa 28 2 3) (.only 9 [0,1,2,3] (xS 1 28 24) (.only 10 [0,1,2,3,4,5] (xa 29 3 3) (.only 11 [0,1,2,3,4,5] (xS 1 29 26) (.done)))))))))))))) (.seq (kr [bI 31 .eql 8 5,xv 30 31] (.cond 30 (.skip) (xr [bI 32 .eql 8 12,xv 30 32]))) (.cond 30 (.dreg (.take 0 (xa 33 2 1) (.take 1 (xl 34 33) (.take 2 (xa 35 4 1) (.take 3 (xl 36 35) (.only 4 [0,1] (xa 37 2 3) (.only 5 [0,1] (xS 1 37 34) (.only 6 [0,1,2,3] (xa 38 4 3) (.only 7 [0,1,2,3] (xS 1 38 36) (.done)))))))))) (.seq (kr [bI 40 .eql 8 6,xv 39 40] (.cond 39 (.skip) (xr [bI 41 .eql 8 8,xv 39 41]))) (.cond 39 (.dreg (.take 0 (xa 42 1 1) (.take 1 (xl 43 42) (.take 2 (xa 44 3 1) (.take 3 (xl 45 44) (.take 4 (xa 46 4 1) (.take 5 (xl 47 46) (.only 6 [0,1] (xa 48 1 3) (.only 7 [0,1] (xS 1 48 43) (.only 8 [0,1,2,3] (xa 49 3 3) (.only 9 [0,1,2,3] (xS 1 49 45) (.only 10 [0,1,2,3,4,5] (xa 50 4 3) (.only 11 [0,1,2,3,4,5] (xS 1 50 47) (.done)))))))))))))) (kr [bI 52 .eql 8 7,xv 51 52] (.cond 51 (.dreg (.take 0 (xa 53 1 1) (.take 1 (xl 54 53) (.take 2 (xa 55 2 1) (.take 3 (xl 56 55) (.take 4 (xa 57 4 1) (.take 5 (xl 58 57) (.only 6 [0,1] (xa 59 1 3) (.only 7 [0,1] (xS 1 59 54) (.only 8 [0,1,2,3] (xa 60 2 3) (.only 9 [0,1,2,3] (xS 1 60 56) (.only 10 [0,1,2,3,4,5] (xa 61 4 3) (.only 11 [0,1,2,3,4,5] (xS 1 61 58) (.done)))))))))))))) (.seq (kr [bI 63 .eql 8 9,xv 62 63] (.cond 62 (.skip) (xr [bI 64 .eql 8 11,xv 62 64]))) (.cond 62 (xr [xa 65 4 1,xl 66 65,xa 67 4 3,xS 1 67 66]) (kr [bI 69 .eql 8 10,xv 68 69] (.cond 68 (xr [xa 70 2 1,xl 71 70,xa 72 2 3,xS 1 72 71]) (.skip))))))))))))))))) (kR [xm 73 5 3,xS 5 2 73])))⟩
def m97:MFn:=⟨5,[.t 2],kr [xF 2] (kR [xv 3 0,xc3 4 59 (.t 3) (xi 0) (xi 3),xv 2 4])⟩
attribute [local go_sem] paramT preH e_seq e_reg e_block e_loop e_ops e_skip e_ret e_cond e_guard e_call e_ops1 plan next_ok next_some Arg.ev lookT putD putT if_false if_true app1 put del qB6 binA Option.map_some Option.bind_some look Int.toNat_natCast e_blk e_stop e_exit exitIt true_and and_true maybe_do maybe_tf maybe_ft branch_true branch_false Bool.false_eq_true bnd? cellsOf openL List.isEmpty_nil List.isEmpty_cons fresh List.map_nil List.map_cons List.cons_append List.nil_append splice List.take_zero List.drop_zero List.take_succ_cons List.getD_cons_zero List.length_cons List.length_nil List.drop_succ_cons List.drop_nil List.append_nil List.all_cons List.all_nil cellOk Bool.and_self Nat.zero_add e_dreg e_done e_take e_only1 e_onlyc e_takeg e_onlyg e_both e_tri dnext_some dnext_ok dmaybe_do rdTake pdTake addP rdOnly pdOnly isRead alive needs undep apart List.filter_nil List.filter_cons Option.isSome_some Option.isSome_none List.contains_nil List.contains_cons List.forall_mem_cons List.mem_cons List.not_mem_nil false_implies implies_true forall_const forall_eq_or_imp forall_eq or_false beq_self_eq_true Bool.or_false Bool.false_or Bool.true_or Bool.or_true Bool.not_true Bool.not_false xv xo xg xr xi xz List.set_set maybe_skip dmaybe_skip dmaybe_tf dmaybe_ft fillR fillROk fillA fillOk srcA eqC bytesOf ints_append List.replicate_zero decide_true decide_false ints_set nil_bind List.replicate_succ Int.toNat_zero Int.toNat_one eq_self Bool.and_true Bool.true_and Bool.and_false Bool.false_and List.set_cons_zero List.set_cons_succ List.getD_cons_succ rnm ixm renV renL openV openVs cond_true cond_false ints_drop ints_take drop_all
attribute [local simp] hand bwT bwC bwL qAv ints_take lookT Arg.ev handOk bwOk bwOks bwTs nf_sl nf_int nf_bool qA9 okV okL nb nbs nbr qAt look qB6 bnd bnds bndr renV renL ixm rnm apart needs rdOnly pdOnly fresh openV openVs resAV allP giveL giveV postH del isOwn partR ints_drop drop_all shp okB okBs ints_free
theorem FinS_tup {rs:List MRes} {fp:FP} {vs:List AV} {t:List (Nat×AV)} {h:Heap} {nx:Nat} (h0:vs.length≠1) (h1:allP (rs.map fun r=>(resAV t h r).2)∧(giveL h (rs.map fun r=>(resAV t h r).1)).2.2∧nilL (giveL h (rs.map fun r=>(resAV t h r).1)).1 vs∧∀x∈fp,look (giveL h (rs.map fun r=>(resAV t h r).1)).2.1 x.1=look (postH fp) x.1):FinS rs fp (.tup vs) (.mk t h nx):=by
 refine ⟨h1.1,h1.2.1,⟨vs,h1.2.2.1,?_⟩,h1.2.2.2⟩
 match vs,h0 with
 | [],_=>rfl
 | [_],h0=>exact absurd rfl h0
 | _::_::_,_=>rfl
theorem FinS_one {rs:List MRes} {fp:FP} {v:AV} {t:List (Nat×AV)} {h:Heap} {nx:Nat} (h1:allP (rs.map fun r=>(resAV t h r).2)∧(giveL h (rs.map fun r=>(resAV t h r).1)).2.2∧nilL (giveL h (rs.map fun r=>(resAV t h r).1)).1 [v]∧∀x∈fp,look (giveL h (rs.map fun r=>(resAV t h r).1)).2.1 x.1=look (postH fp) x.1):FinS rs fp v (.mk t h nx) :=
 ⟨h1.1,h1.2.1,⟨[v],h1.2.2.1,rfl⟩,h1.2.2.2⟩
theorem nilL_cons (c d:AV) (cs ds:List AV):nilL (c::cs) (d::ds)↔nilV c d∧nilL cs ds:=by
 simp only [nilL,List.cons.injEq]
 exact ⟨fun ⟨_,_,⟨h1,h2⟩,h3,h4⟩=>by subst h1 h2; exact ⟨h3,h4⟩,fun ⟨h3,h4⟩=>⟨_,_,⟨rfl,rfl⟩,h3,h4⟩⟩
theorem nilL_nil:nilL [] []↔True:=by simp [nilL]
theorem nilV_agg (cs ds:List AV):nilV (.agg cs) (.agg ds)↔nilL cs ds:=by simp [nilV]
theorem nilV_tup (cs ds:List AV):nilV (.tup cs) (.tup ds)↔nilL cs ds:=by simp [nilV]
theorem nilV_nilsl (m:Mode) (sz:Nat):nilV .nil (.sl m sz [])↔True:=by simp [nilV]
theorem nilV_nil:nilV .nil .nil↔True:=by simp [nilV]
theorem nilV_sl (m:Mode) (sz:Nat) (rows:List (List AV)) (d:AV):nilV (.sl m sz rows) d↔.sl m sz rows=d:=by simp [nilV]
theorem nilV_int (k:IntKind) (n:Int) (d:AV):nilV (.int k n) d↔.int k n=d:=by simp [nilV]
theorem nilV_bool (b:Bool) (d:AV):nilV (.bool b) d↔.bool b=d:=by simp [nilV]
theorem nilV_str (s:ByteArray) (d:AV):nilV (.str s) d↔.str s=d:=by simp [nilV]
theorem nilV_ns (k o l:Nat) (d:AV):nilV (.ns k o l) d↔.ns k o l=d:=by simp [nilV]
theorem nilV_ptr (k o l:Nat) (d:AV):nilV (.ptr k o l) d↔.ptr k o l=d:=by simp [nilV]
theorem nilRs_cons (r d:List AV) (rs ds:List (List AV)):nilRs (r::rs) (d::ds)↔nilL r d∧nilRs rs ds:=by
 simp only [nilRs,List.cons.injEq]
 exact ⟨fun ⟨_,_,⟨h1,h2⟩,h3,h4⟩=>by subst h1 h2; exact ⟨h3,h4⟩,fun ⟨h3,h4⟩=>⟨_,_,⟨rfl,rfl⟩,h3,h4⟩⟩
theorem nilRs_nil:nilRs [] []↔True:=by simp [nilRs]
theorem free_nil:free []↔True:=by simp [free]
theorem free_cons (r:List AV) (rs:List (List AV)):free (r::rs)↔(∀c∈r,isOwn c=false)∧free rs:=by simp [free]
structure Ins where
 op:Int
 r:Int
 a:Int
 b:Int
 n:Int
 deriving DecidableEq,Inhabited
def insC (x:Ins):List AV:=[.int .i64 x.op,.int .i64 x.r,.int .i64 x.a,.int .i64 x.b,.int .i64 x.n]
def inss (l:List Ins):List (List AV):=l.map insC
theorem inss_nil:inss []=[]:=rfl
theorem inss_length (l:List Ins):(inss l).length=l.length:=by simp [inss]
theorem inss_append (l k:List Ins):inss l++inss k=inss (l++k):=by simp [inss]
theorem inss_drop (l:List Ins) (n:Nat):(inss l).drop n=inss (l.drop n):=by simp [inss]
theorem inss_take (l:List Ins) (n:Nat):(inss l).take n=inss (l.take n):=by simp [inss]
theorem inss_set (l:List Ins) (i:Nat) (op_:Int) (r_:Int) (a_:Int) (b_:Int) (n_:Int):(inss l).set i [.int .i64 op_,.int .i64 r_,.int .i64 a_,.int .i64 b_,.int .i64 n_]=inss (l.set i ⟨op_,r_,a_,b_,n_⟩):=by simp [inss,insC]
theorem inss_getD (l:List Ins) (i:Nat) (h:i<l.length):(inss l).getD i []=[.int .i64 (l.getD i default).op,.int .i64 (l.getD i default).r,.int .i64 (l.getD i default).a,.int .i64 (l.getD i default).b,.int .i64 (l.getD i default).n]:=by simp [inss,insC,List.getD_eq_getElem?_getD,h]
theorem qAw (A:Nat→Prop) (l:List Ins):bndr A (inss l)↔True:=by
 simp only [iff_true]
 induction l with
 | nil=>trivial
 | cons x l ih=>exact ⟨by simp [insC,bnds,bnd,nf_sl,qA9],ih⟩
theorem qBj (l:List Ins):nbr (inss l)↔True:=by
 simp only [iff_true]
 induction l with
 | nil=>trivial
 | cons x l ih=>exact ⟨by simp [insC,nbs,nb,qAt],ih⟩
theorem qBd :∀(l:List Ins),bwR (inss l)=inss l
 | []=>rfl
 | x::l=>by
  have:=qBd l
  simp only [inss,List.map_cons,bwR] at this⊢
  rw [this]
  simp [insC,bwL,bwC,qAv]
theorem inss_free (l:List Ins):free (inss l)↔True:=by
 simp only [iff_true]
 intro r hr c hc
 simp only [inss,List.mem_map] at hr
 obtain ⟨x,_,rfl⟩:=hr
 simp [insC] at hc
 rcases hc with rfl | rfl | rfl | rfl | rfl<;>rfl
def bodies (m:Mode) (l:List (List Ins)):List (List AV):=l.map fun b=>[.sl m 5 (inss b)]
theorem bodies_nil (m:Mode):bodies m []=[]:=rfl
theorem bodies_length (m:Mode) (l:List (List Ins)):(bodies m l).length=l.length:=by simp [bodies]
theorem bodies_append (m:Mode) (l k:List (List Ins)):bodies m l++bodies m k=bodies m (l++k):=by simp [bodies]
theorem bodies_drop (m:Mode) (l:List (List Ins)) (n:Nat):(bodies m l).drop n=bodies m (l.drop n):=by simp [bodies]
theorem bodies_take (m:Mode) (l:List (List Ins)) (n:Nat):(bodies m l).take n=bodies m (l.take n):=by simp [bodies]
theorem bodies_set (m:Mode) (l:List (List Ins)) (i:Nat) (b_:List Ins):(bodies m l).set i [.sl m 5 (inss b_)]=bodies m (l.set i b_):=by simp [bodies]
theorem bodies_getD (m:Mode) (l:List (List Ins)) (i:Nat) (h:i<l.length):(bodies m l).getD i []=[.sl m 5 (inss (l.getD i []))]:=by simp [bodies,List.getD_eq_getElem?_getD,h]
theorem qAb (A:Nat→Prop) (m:Mode) (l:List (List Ins)):bndr A (bodies m l)↔True:=by
 simp only [iff_true]
 induction l with
 | nil=>trivial
 | cons x l ih=>exact ⟨by simp [bnds,bnd,nf_sl,qA9,qAw],ih⟩
theorem qAm (l:List (List Ins)):nbr (bodies .own l)↔True:=by
 simp only [iff_true]
 induction l with
 | nil=>trivial
 | cons x l ih=>exact ⟨by simp [nbs,nb,qAt,qBj],ih⟩
theorem qAi (m:Mode) :∀(l:List (List Ins)),bwR (bodies m l)=bodies .bw l
 | []=>rfl
 | x::l=>by
  have:=qAi m l
  simp only [bodies,List.map_cons,bwR] at this⊢
  rw [this]
  simp [bwL,bwC,qAv,qBd]
theorem bodies_free (l:List (List Ins)):free (bodies .bw l)↔True:=by
 simp only [iff_true]
 intro r hr c hc
 simp only [bodies,List.mem_map] at hr
 obtain ⟨x,_,rfl⟩:=hr
 simp [] at hc
 rcases hc with rfl<;>rfl
def intss (m:Mode) (l:List (List Int)):List (List AV):=l.map fun b=>[.sl m 1 (ints b)]
theorem intss_nil (m:Mode):intss m []=[]:=rfl
theorem intss_length (m:Mode) (l:List (List Int)):(intss m l).length=l.length:=by simp [intss]
theorem intss_append (m:Mode) (l k:List (List Int)):intss m l++intss m k=intss m (l++k):=by simp [intss]
theorem intss_drop (m:Mode) (l:List (List Int)) (n:Nat):(intss m l).drop n=intss m (l.drop n):=by simp [intss]
theorem intss_take (m:Mode) (l:List (List Int)) (n:Nat):(intss m l).take n=intss m (l.take n):=by simp [intss]
theorem intss_set (m:Mode) (l:List (List Int)) (i:Nat) (b_:List Int):(intss m l).set i [.sl m 1 (ints b_)]=intss m (l.set i b_):=by simp [intss]
theorem qAs (A:Nat→Prop) (m:Mode) (l:List (List Int)):bndr A (intss m l)↔True:=by
 simp only [iff_true]
 induction l with
 | nil=>trivial
 | cons x l ih=>exact ⟨by simp [bnds,bnd,nf_sl,qA9,qAw,qAb],ih⟩
theorem qBa (l:List (List Int)):nbr (intss .own l)↔True:=by
 simp only [iff_true]
 induction l with
 | nil=>trivial
 | cons x l ih=>exact ⟨by simp [nbs,nb,qAt,qBj,qAm],ih⟩
theorem qB4 (m:Mode) :∀(l:List (List Int)),bwR (intss m l)=intss .bw l
 | []=>rfl
 | x::l=>by
  have:=qB4 m l
  simp only [intss,List.map_cons,bwR] at this⊢
  rw [this]
  simp [bwL,bwC,qAv,qBd,qAi]
theorem intss_free (l:List (List Int)):free (intss .bw l)↔True:=by
 simp only [iff_true]
 intro r hr c hc
 simp only [intss,List.mem_map] at hr
 obtain ⟨x,_,rfl⟩:=hr
 simp [] at hc
 rcases hc with rfl<;>rfl
structure Chan where
 cap:Int
 list:List Int
 closed:Bool
 deriving DecidableEq,Inhabited
def chanC (m:Mode) (x:Chan):List AV:=[.int .i64 x.cap,.sl m 1 (ints x.list),.bool x.closed]
def chans (m:Mode) (l:List Chan):List (List AV):=l.map (chanC m)
theorem chans_nil (m:Mode):chans m []=[]:=rfl
theorem chans_length (m:Mode) (l:List Chan):(chans m l).length=l.length:=by simp [chans]
theorem chans_append (m:Mode) (l k:List Chan):chans m l++chans m k=chans m (l++k):=by simp [chans]
theorem chans_drop (m:Mode) (l:List Chan) (n:Nat):(chans m l).drop n=chans m (l.drop n):=by simp [chans]
theorem chans_take (m:Mode) (l:List Chan) (n:Nat):(chans m l).take n=chans m (l.take n):=by simp [chans]
theorem chans_set (m:Mode) (l:List Chan) (i:Nat) (cap_:Int) (list_:List Int) (closed_:Bool):(chans m l).set i [.int .i64 cap_,.sl m 1 (ints list_),.bool closed_]=chans m (l.set i ⟨cap_,list_,closed_⟩):=by simp [chans,chanC]
theorem qAy (A:Nat→Prop) (m:Mode) (l:List Chan):bndr A (chans m l)↔True:=by
 simp only [iff_true]
 induction l with
 | nil=>trivial
 | cons x l ih=>exact ⟨by simp [chanC,bnds,bnd,nf_sl,qA9,qAw,qAb,qAs],ih⟩
theorem qBg (l:List Chan):nbr (chans .own l)↔True:=by
 simp only [iff_true]
 induction l with
 | nil=>trivial
 | cons x l ih=>exact ⟨by simp [chanC,nbs,nb,qAt,qBj,qAm,qBa],ih⟩
theorem qBb (m:Mode) :∀(l:List Chan),bwR (chans m l)=chans .bw l
 | []=>rfl
 | x::l=>by
  have:=qBb m l
  simp only [chans,List.map_cons,bwR] at this⊢
  rw [this]
  simp [chanC,bwL,bwC,qAv,qBd,qAi,qB4]
theorem chans_free (l:List Chan):free (chans .bw l)↔True:=by
 simp only [iff_true]
 intro r hr c hc
 simp only [chans,List.mem_map] at hr
 obtain ⟨x,_,rfl⟩:=hr
 simp [chanC] at hc
 rcases hc with rfl | rfl | rfl<;>rfl
structure Note where
 who:Int
 v:Int
 deriving DecidableEq,Inhabited
def noteC (x:Note):List AV:=[.int .i64 x.who,.int .i64 x.v]
def notes (l:List Note):List (List AV):=l.map noteC
theorem notes_nil:notes []=[]:=rfl
theorem notes_length (l:List Note):(notes l).length=l.length:=by simp [notes]
theorem notes_append (l k:List Note):notes l++notes k=notes (l++k):=by simp [notes]
theorem notes_one (who_:Int) (v_:Int):[[.int .i64 who_,.int .i64 v_]]=notes [⟨who_,v_⟩]:=rfl
theorem notes_drop (l:List Note) (n:Nat):(notes l).drop n=notes (l.drop n):=by simp [notes]
theorem notes_take (l:List Note) (n:Nat):(notes l).take n=notes (l.take n):=by simp [notes]
theorem notes_set (l:List Note) (i:Nat) (who_:Int) (v_:Int):(notes l).set i [.int .i64 who_,.int .i64 v_]=notes (l.set i ⟨who_,v_⟩):=by simp [notes,noteC]
theorem notes_getD (l:List Note) (i:Nat) (h:i<l.length):(notes l).getD i []=[.int .i64 (l.getD i default).who,.int .i64 (l.getD i default).v]:=by simp [notes,noteC,List.getD_eq_getElem?_getD,h]
theorem qB5 (A:Nat→Prop) (l:List Note):bndr A (notes l)↔True:=by
 simp only [iff_true]
 induction l with
 | nil=>trivial
 | cons x l ih=>exact ⟨by simp [noteC,bnds,bnd,nf_sl,qA9,qAw,qAb,qAs,qAy],ih⟩
theorem qB9 (l:List Note):nbr (notes l)↔True:=by
 simp only [iff_true]
 induction l with
 | nil=>trivial
 | cons x l ih=>exact ⟨by simp [noteC,nbs,nb,qAt,qBj,qAm,qBa,qBg],ih⟩
theorem qBf :∀(l:List Note),bwR (notes l)=notes l
 | []=>rfl
 | x::l=>by
  have:=qBf l
  simp only [notes,List.map_cons,bwR] at this⊢
  rw [this]
  simp [noteC,bwL,bwC,qAv,qBd,qAi,qB4,qBb]
theorem notes_free (l:List Note):free (notes l)↔True:=by
 simp only [iff_true]
 intro r hr c hc
 simp only [notes,List.mem_map] at hr
 obtain ⟨x,_,rfl⟩:=hr
 simp [noteC] at hc
 rcases hc with rfl | rfl<;>rfl
structure Thread where
 at_:Int
 regs:List Int
 st:Int
 deriving DecidableEq,Inhabited
def threadC (m:Mode) (x:Thread):List AV:=[.int .i64 x.at_,.sl m 1 (ints x.regs),.int .i64 x.st]
def threads (m:Mode) (l:List Thread):List (List AV):=l.map (threadC m)
theorem threads_nil (m:Mode):threads m []=[]:=rfl
theorem threads_length (m:Mode) (l:List Thread):(threads m l).length=l.length:=by simp [threads]
theorem threads_append (m:Mode) (l k:List Thread):threads m l++threads m k=threads m (l++k):=by simp [threads]
theorem threads_drop (m:Mode) (l:List Thread) (n:Nat):(threads m l).drop n=threads m (l.drop n):=by simp [threads]
theorem threads_take (m:Mode) (l:List Thread) (n:Nat):(threads m l).take n=threads m (l.take n):=by simp [threads]
theorem threads_set (m:Mode) (l:List Thread) (i:Nat) (at__:Int) (regs_:List Int) (st_:Int):(threads m l).set i [.int .i64 at__,.sl m 1 (ints regs_),.int .i64 st_]=threads m (l.set i ⟨at__,regs_,st_⟩):=by simp [threads,threadC]
theorem qAo (A:Nat→Prop) (m:Mode) (l:List Thread):bndr A (threads m l)↔True:=by
 simp only [iff_true]
 induction l with
 | nil=>trivial
 | cons x l ih=>exact ⟨by simp [threadC,bnds,bnd,nf_sl,qA9,qAw,qAb,qAs,qAy,qB5],ih⟩
theorem qB0 (l:List Thread):nbr (threads .own l)↔True:=by
 simp only [iff_true]
 induction l with
 | nil=>trivial
 | cons x l ih=>exact ⟨by simp [threadC,nbs,nb,qAt,qBj,qAm,qBa,qBg,qB9],ih⟩
theorem qAr (m:Mode) :∀(l:List Thread),bwR (threads m l)=threads .bw l
 | []=>rfl
 | x::l=>by
  have:=qAr m l
  simp only [threads,List.map_cons,bwR] at this⊢
  rw [this]
  simp [threadC,bwL,bwC,qAv,qBd,qAi,qB4,qBb,qBf]
theorem threads_free (l:List Thread):free (threads .bw l)↔True:=by
 simp only [iff_true]
 intro r hr c hc
 simp only [threads,List.mem_map] at hr
 obtain ⟨x,_,rfl⟩:=hr
 simp [threadC] at hc
 rcases hc with rfl | rfl | rfl<;>rfl
structure Went where
 sent:List Int
 taken:List Int
 deriving DecidableEq,Inhabited
def wentC (m:Mode) (x:Went):List AV:=[.sl m 1 (ints x.sent),.sl m 1 (ints x.taken)]
def wents (m:Mode) (l:List Went):List (List AV):=l.map (wentC m)
theorem wents_nil (m:Mode):wents m []=[]:=rfl
theorem wents_length (m:Mode) (l:List Went):(wents m l).length=l.length:=by simp [wents]
theorem wents_append (m:Mode) (l k:List Went):wents m l++wents m k=wents m (l++k):=by simp [wents]
theorem wents_drop (m:Mode) (l:List Went) (n:Nat):(wents m l).drop n=wents m (l.drop n):=by simp [wents]
theorem wents_take (m:Mode) (l:List Went) (n:Nat):(wents m l).take n=wents m (l.take n):=by simp [wents]
theorem wents_set (m:Mode) (l:List Went) (i:Nat) (sent_:List Int) (taken_:List Int):(wents m l).set i [.sl m 1 (ints sent_),.sl m 1 (ints taken_)]=wents m (l.set i ⟨sent_,taken_⟩):=by simp [wents,wentC]
theorem wents_bnd (A:Nat→Prop) (m:Mode) (l:List Went):bndr A (wents m l)↔True:=by
 simp only [iff_true]
 induction l with
 | nil=>trivial
 | cons x l ih=>exact ⟨by simp [wentC,bnds,bnd,nf_sl,qA9,qAw,qAb,qAs,qAy,qB5,qAo],ih⟩
theorem wents_nb (l:List Went):nbr (wents .own l)↔True:=by
 simp only [iff_true]
 induction l with
 | nil=>trivial
 | cons x l ih=>exact ⟨by simp [wentC,nbs,nb,qAt,qBj,qAm,qBa,qBg,qB9,qB0],ih⟩
theorem wents_bw (m:Mode) :∀(l:List Went),bwR (wents m l)=wents .bw l
 | []=>rfl
 | x::l=>by
  have:=wents_bw m l
  simp only [wents,List.map_cons,bwR] at this⊢
  rw [this]
  simp [wentC,bwL,bwC,qAv,qBd,qAi,qB4,qBb,qBf,qAr]
theorem wents_free (l:List Went):free (wents .bw l)↔True:=by
 simp only [iff_true]
 intro r hr c hc
 simp only [wents,List.mem_map] at hr
 obtain ⟨x,_,rfl⟩:=hr
 simp [wentC] at hc
 rcases hc with rfl | rfl<;>rfl
structure Prog where
 caps:List Int
 bods:List (List Ins)
 deriving DecidableEq,Inhabited
def progC (m:Mode) (x:Prog):List AV:=[.sl m 1 (ints x.caps),.sl m 1 (bodies m x.bods)]
def progs (m:Mode) (l:List Prog):List (List AV):=l.map (progC m)
theorem progs_nil (m:Mode):progs m []=[]:=rfl
theorem progs_length (m:Mode) (l:List Prog):(progs m l).length=l.length:=by simp [progs]
theorem progs_append (m:Mode) (l k:List Prog):progs m l++progs m k=progs m (l++k):=by simp [progs]
theorem progs_drop (m:Mode) (l:List Prog) (n:Nat):(progs m l).drop n=progs m (l.drop n):=by simp [progs]
theorem progs_take (m:Mode) (l:List Prog) (n:Nat):(progs m l).take n=progs m (l.take n):=by simp [progs]
theorem progs_set (m:Mode) (l:List Prog) (i:Nat) (caps_:List Int) (bods_:List (List Ins)):(progs m l).set i [.sl m 1 (ints caps_),.sl m 1 (bodies m bods_)]=progs m (l.set i ⟨caps_,bods_⟩):=by simp [progs,progC]
theorem progs_bnd (A:Nat→Prop) (m:Mode) (l:List Prog):bndr A (progs m l)↔True:=by
 simp only [iff_true]
 induction l with
 | nil=>trivial
 | cons x l ih=>exact ⟨by simp [progC,bnds,bnd,nf_sl,qA9,qAw,qAb,qAs,qAy,qB5,qAo,wents_bnd],ih⟩
theorem progs_nb (l:List Prog):nbr (progs .own l)↔True:=by
 simp only [iff_true]
 induction l with
 | nil=>trivial
 | cons x l ih=>exact ⟨by simp [progC,nbs,nb,qAt,qBj,qAm,qBa,qBg,qB9,qB0,wents_nb],ih⟩
theorem progs_bw (m:Mode) :∀(l:List Prog),bwR (progs m l)=progs .bw l
 | []=>rfl
 | x::l=>by
  have:=progs_bw m l
  simp only [progs,List.map_cons,bwR] at this⊢
  rw [this]
  simp [progC,bwL,bwC,qAv,qBd,qAi,qB4,qBb,qBf,qAr,wents_bw]
theorem progs_free (l:List Prog):free (progs .bw l)↔True:=by
 simp only [iff_true]
 intro r hr c hc
 simp only [progs,List.mem_map] at hr
 obtain ⟨x,_,rfl⟩:=hr
 simp [progC] at hc
 rcases hc with rfl | rfl<;>rfl
structure Source where
 ths:List Thread
 chs:List Chan
 tr:List Note
 deriving DecidableEq,Inhabited
def sourceC (m:Mode) (x:Source):List AV:=[.sl m 3 (threads m x.ths),.sl m 3 (chans m x.chs),.sl m 2 (notes x.tr)]
def sources (m:Mode) (l:List Source):List (List AV):=l.map (sourceC m)
theorem sources_nil (m:Mode):sources m []=[]:=rfl
theorem sources_length (m:Mode) (l:List Source):(sources m l).length=l.length:=by simp [sources]
theorem sources_append (m:Mode) (l k:List Source):sources m l++sources m k=sources m (l++k):=by simp [sources]
theorem sources_drop (m:Mode) (l:List Source) (n:Nat):(sources m l).drop n=sources m (l.drop n):=by simp [sources]
theorem sources_take (m:Mode) (l:List Source) (n:Nat):(sources m l).take n=sources m (l.take n):=by simp [sources]
theorem sources_set (m:Mode) (l:List Source) (i:Nat) (ths_:List Thread) (chs_:List Chan) (tr_:List Note):(sources m l).set i [.sl m 3 (threads m ths_),.sl m 3 (chans m chs_),.sl m 2 (notes tr_)]=sources m (l.set i ⟨ths_,chs_,tr_⟩):=by simp [sources,sourceC]
theorem qBi (A:Nat→Prop) (m:Mode) (l:List Source):bndr A (sources m l)↔True:=by
 simp only [iff_true]
 induction l with
 | nil=>trivial
 | cons x l ih=>exact ⟨by simp [sourceC,bnds,bnd,nf_sl,qA9,qAw,qAb,qAs,qAy,qB5,qAo,wents_bnd,progs_bnd],ih⟩
theorem sources_nb (l:List Source):nbr (sources .own l)↔True:=by
 simp only [iff_true]
 induction l with
 | nil=>trivial
 | cons x l ih=>exact ⟨by simp [sourceC,nbs,nb,qAt,qBj,qAm,qBa,qBg,qB9,qB0,wents_nb,progs_nb],ih⟩
theorem qBk (m:Mode) :∀(l:List Source),bwR (sources m l)=sources .bw l
 | []=>rfl
 | x::l=>by
  have:=qBk m l
  simp only [sources,List.map_cons,bwR] at this⊢
  rw [this]
  simp [sourceC,bwL,bwC,qAv,qBd,qAi,qB4,qBb,qBf,qAr,wents_bw,progs_bw]
theorem sources_free (l:List Source):free (sources .bw l)↔True:=by
 simp only [iff_true]
 intro r hr c hc
 simp only [sources,List.mem_map] at hr
 obtain ⟨x,_,rfl⟩:=hr
 simp [sourceC] at hc
 rcases hc with rfl | rfl | rfl<;>rfl
def bys (l:List Int):List (List AV):=l.map fun b=>[.int .u8 b]
theorem bys_nil:bys []=[]:=rfl
theorem bys_length (l:List Int):(bys l).length=l.length:=by simp [bys]
theorem bys_append (l k:List Int):bys l++bys k=bys (l++k):=by simp [bys]
theorem bys_drop (l:List Int) (n:Nat):(bys l).drop n=bys (l.drop n):=by simp [bys]
theorem bys_take (l:List Int) (n:Nat):(bys l).take n=bys (l.take n):=by simp [bys]
theorem bys_set (l:List Int) (i:Nat) (b_:Int):(bys l).set i [.int .u8 b_]=bys (l.set i b_):=by simp [bys]
theorem bys_getD (l:List Int) (i:Nat) (h:i<l.length):(bys l).getD i []=[.int .u8 (l.getD i 0)]:=by simp [bys,List.getD_eq_getElem?_getD,h]
theorem bys_bnd (A:Nat→Prop) (l:List Int):bndr A (bys l)↔True:=by
 simp only [iff_true]
 induction l with
 | nil=>trivial
 | cons x l ih=>exact ⟨by simp [bnds,bnd,nf_sl,qA9,qAw,qAb,qAs,qAy,qB5,qAo,wents_bnd,progs_bnd,qBi],ih⟩
theorem bys_nb (l:List Int):nbr (bys l)↔True:=by
 simp only [iff_true]
 induction l with
 | nil=>trivial
 | cons x l ih=>exact ⟨by simp [nbs,nb,qAt,qBj,qAm,qBa,qBg,qB9,qB0,wents_nb,progs_nb,sources_nb],ih⟩
theorem bys_bw :∀(l:List Int),bwR (bys l)=bys l
 | []=>rfl
 | x::l=>by
  have:=bys_bw l
  simp only [bys,List.map_cons,bwR] at this⊢
  rw [this]
  simp [bwL,bwC,qAv,qBd,qAi,qB4,qBb,qBf,qAr,wents_bw,progs_bw,qBk]
theorem bys_free (l:List Int):free (bys l)↔True:=by
 simp only [iff_true]
 intro r hr c hc
 simp only [bys,List.mem_map] at hr
 obtain ⟨x,_,rfl⟩:=hr
 simp [] at hc
 rcases hc with rfl<;>rfl
structure Cur where
 i:Nat
 h:Int
 deriving Inhabited
def curC (code:List Int) (c:Cur):List AV:=[.sl .fz 1 (bys code),.int .i64 c.i,.int .i64 c.h]
theorem fS:(∀n,del [] n=[])∧(∀m s h n,del ((m,s)::h) n=if n=m then del h n else (m,s)::del h n)∧(∀n r,put [] n r=[(n,r)])∧(∀m s h n r,put ((m,s)::h) n r=if n=m then (m,r)::h else (m,s)::put h n r)∧(∀{α:Type} (a b:α) (l:List α),(a::l).set 0 b=b::l)∧(∀{α:Type} (a b:α) (l:List α) (n:Nat),(a::l).set (n+1) b=a::l.set n b)∧(∀{α:Type} (a b:α),(if True then a else b)=a)∧(∀{α:Type} (a b:α),(if False then a else b)=b)∧(∀l,(ints l).length=l.length)∧(∀l n,(ints l).take n=ints (l.take n))∧(∀l n,(ints l).drop n=ints (l.drop n))∧(∀o l rows,partR o l rows=if o=0∧rows.length=l then rows else (rows.drop o).take l)∧(∀{α:Type} (a:α) (l:List α),(a::l).length=l.length+1)∧(∀{α:Type},([]:List α).length=0)∧(∀p:Prop,(p∧p)=p)∧(∀p:Prop,(p∧True)=p)∧(∀p:Prop,(True∧p)=p)∧(∀l,(inss l).length=l.length)∧(∀m l,(bodies m l).length=l.length)∧(∀m l,(intss m l).length=l.length)∧(∀m l,(chans m l).length=l.length)∧(∀l,(notes l).length=l.length)∧(∀m l,(threads m l).length=l.length)∧(∀m l,(wents m l).length=l.length)∧(∀m l,(progs m l).length=l.length)∧(∀m l,(sources m l).length=l.length)∧(∀l,(bys l).length=l.length)∧(∀{α:Type} (a b:List α),(a++b).length=a.length+b.length)∧(∀{α:Type} (n:Nat) (a:α),(List.replicate n a).length=n)∧(∀{α:Type} (l:List α) (n:Nat) (a:α),(l.set n a).length=l.length):=by
 refine ⟨?_,?_,?_,?_,?_,?_,?_,?_,?_,?_,?_,?_,?_,?_,?_,?_,?_,?_,?_,?_,?_,?_,?_,?_,?_,?_,?_,?_,?_,?_⟩<;>intros<;>simp [del,put,partR,qB6,inss_length,bodies_length,intss_length,chans_length,notes_length,threads_length,wents_length,progs_length,sources_length,bys_length]
attribute [go_sem] paramT preH e_seq e_reg e_block e_loop e_ops e_skip e_ret e_cond e_guard e_call e_ops1 plan next_ok next_some Arg.ev lookT putD putT if_false if_true app1 put del qB6 binA Option.map_some Option.bind_some look Int.toNat_natCast e_blk e_stop e_exit exitIt true_and and_true maybe_do maybe_tf maybe_ft branch_true branch_false Bool.false_eq_true bnd? cellsOf openL List.isEmpty_nil List.isEmpty_cons fresh List.map_nil List.map_cons List.cons_append List.nil_append splice List.take_zero List.drop_zero List.take_succ_cons List.getD_cons_zero List.length_cons List.length_nil List.drop_succ_cons List.drop_nil List.append_nil List.all_cons List.all_nil cellOk Bool.and_self Nat.zero_add e_dreg e_done e_take e_only1 e_onlyc e_takeg e_onlyg e_both e_tri dnext_some dnext_ok dmaybe_do rdTake pdTake addP rdOnly pdOnly isRead alive needs undep apart List.filter_nil List.filter_cons Option.isSome_some Option.isSome_none List.contains_nil List.contains_cons List.forall_mem_cons List.mem_cons List.not_mem_nil false_implies implies_true forall_const forall_eq_or_imp forall_eq or_false beq_self_eq_true Bool.or_false Bool.false_or Bool.true_or Bool.or_true Bool.not_true Bool.not_false xv xo xg xr xi xz List.set_set maybe_skip dmaybe_skip dmaybe_tf dmaybe_ft fillR fillROk fillA fillOk srcA eqC bytesOf ints_append List.replicate_zero decide_true decide_false ints_set nil_bind List.replicate_succ Int.toNat_zero Int.toNat_one eq_self Bool.and_true Bool.true_and Bool.and_false Bool.false_and List.set_cons_zero List.set_cons_succ List.getD_cons_succ rnm ixm renV renL openV openVs cond_true cond_false ints_drop ints_take drop_all inss_length inss_append inss_drop inss_take inss_set insC bodies_length bodies_append bodies_drop bodies_take bodies_set intss_length intss_append intss_drop intss_take intss_set chans_length chans_append chans_drop chans_take chans_set chanC notes_length notes_append notes_drop notes_take notes_set noteC threads_length threads_append threads_drop threads_take threads_set threadC wents_length wents_append wents_drop wents_take wents_set wentC progs_length progs_append progs_drop progs_take progs_set progC sources_length sources_append sources_drop sources_take sources_set sourceC bys_length bys_append bys_drop bys_take bys_set
attribute [simp] hand bwT bwC bwL qAv ints_take lookT Arg.ev handOk bwOk bwOks bwTs nf_sl nf_int nf_bool qA9 okV okL nb nbs nbr qAt look qB6 bnd bnds bndr renV renL ixm rnm apart needs rdOnly pdOnly fresh openV openVs resAV allP giveL giveV postH del isOwn partR ints_drop drop_all shp okB okBs ints_free nilL_cons nilL_nil nilV_agg nilV_tup nilV_nilsl nilV_nil nilV_sl nilV_int nilV_bool nilV_str nilV_ns nilV_ptr nilRs_cons nilRs_nil free_nil free_cons inss_nil qBd qAw qBj inss_length inss_take inss_drop inss_free bodies_nil qAi qAb qAm bodies_length bodies_take bodies_drop bodies_free intss_nil qB4 qAs qBa intss_length intss_take intss_drop intss_free chans_nil qBb qAy qBg chans_length chans_take chans_drop chans_free notes_nil qBf qB5 qB9 notes_length notes_take notes_drop notes_free threads_nil qAr qAo qB0 threads_length threads_take threads_drop threads_free wents_nil wents_bw wents_bnd wents_nb wents_length wents_take wents_drop wents_free progs_nil progs_bw progs_bnd progs_nb progs_length progs_take progs_drop progs_free sources_nil qBk qBi sources_nb sources_length sources_take sources_drop sources_free bys_nil bys_bw bys_bnd bys_nb bys_length bys_take bys_drop bys_free curC insC chanC noteC threadC wentC progC sourceC
theorem nilRs_refl :∀(l:List (List AV)),nilRs l l
 | []=>by simp [nilRs]
 | r::l=>(nilRs_cons r r l l).2 ⟨nilL_refl r,nilRs_refl l⟩
theorem nilRs_app :∀{a a' b b':List (List AV)},nilRs a a'→nilRs b b'→nilRs (a++b) (a'++b')
 | [],a',b,b',h1,h2=>by
  simp only [nilRs] at h1
  subst h1
  exact h2
 | r::a,a',b,b',h1,h2=>by
  simp only [nilRs] at h1
  obtain ⟨d,ds,rfl,h3,h4⟩:=h1
  exact (nilRs_cons r d _ _).2 ⟨h3,nilRs_app h4 h2⟩
theorem Sub.nilRow (nm:Nat) {t:List (Nat×AV)} {h:Heap} {nx sz:Nat} {rows rows':List (List AV)} (hl:look h nm=some (sz,rows)) (hn:nilRs rows rows') (hbn:bndr (· < nx) rows'):Sub (.mk t h nx) (.mk t (put h nm (sz,rows')) nx):=by
 rintro B a w ⟨h1,h2,hb,hbt,φ,Lf,hl'⟩
 have hlk :∀n,look (put h nm (sz,rows')) n=if n=nm then some (sz,rows') else look h n:=fun n=>look_put n
 have hne :∀n,look (put h nm (sz,rows')) n≠none→look h n≠none:=fun n hn'=>by
  rw [hlk] at hn'
  split at hn'
  ·rename_i he; rw [he,hl]; simp
  ·exact hn'
 refine ⟨h1,h2,?_,hbt,φ,Lf,⟨hl'.ok.size0,hl'.ok.io0,hl'.ok.fr,hl'.ok.keep0,fun n hn'=>hl'.ok.own0 n (hne n hn'),?_,fun n hn'=>hl'.ok.rh.nodup n (hne n hn'),fun n hn'=>hl'.ok.rh.blk n (hne n hn'),fun n m hn' hm=>hl'.ok.rh.dis n m (hne n hn') (hne m hm),?_⟩,hl'.tm,hl'.φ0,hl'.ten⟩
 ·intro n row hr
  rw [hlk] at hr
  split at hr
  ·rename_i he
   simp only [Option.some.injEq] at hr
   subst hr he
   exact ⟨(hb n _ hl).1,hbn⟩
  ·exact hb n row hr
 ·intro n row hr
  rw [hlk] at hr
  split at hr
  ·rename_i he
   simp only [Option.some.injEq] at hr
   subst hr he
   have:=hl'.ok.rh.row n _ hl
   unfold RowAt RowSp at this⊢
   cases hq:(B.env w φ).φ n with
   | dead=>rw [hq] at this; exact this.elim
   | nilp =>
    rw [hq] at this
    simp only at this
    obtain ⟨h3,h4⟩:=this
    rw [h3] at hn
    simp only [nilRs] at hn
    exact ⟨hn,h4⟩
   | «at» p =>
    rw [hq] at this
    obtain ⟨h3,h4,Lr,h5,h6⟩:=this
    exact ⟨h3,by rw [nilRs_length hn]; exact h4,Lr,nilRs_ok hn h5,h6⟩
  ·exact hl'.ok.rh.row n row hr
 ·intro n hn'
  rw [hlk] at hn'
  split at hn'
  ·simp at hn'
  ·exact hl'.ok.rh.dead n hn'
theorem Sub.nilLast (nm:Nat) {t:List (Nat×AV)} {h:Heap} {nx sz:Nat} {front:List (List AV)} {r r':List AV} (hl:look h nm=some (sz,front++[r])) (hn:nilL r r') (hbn:bndr (· < nx) (front++[r'])):Sub (.mk t h nx) (.mk t (put h nm (sz,front++[r'])) nx) :=
 Sub.nilRow nm hl (nilRs_app (nilRs_refl front) ((nilRs_cons r r' [] []).2 ⟨hn,(nilRs_nil).2 trivial⟩)) hbn
theorem fin_one {rs:List MRes} {fp:FP} {v:AV} {s:AS} {t:List (Nat×AV)} {h:Heap} {nx:Nat} (hs:Sub s (.mk t h nx)) (h1:allP (rs.map fun r=>(resAV t h r).2)∧(giveL h (rs.map fun r=>(resAV t h r).1)).2.2∧nilL (giveL h (rs.map fun r=>(resAV t h r).1)).1 [v]∧∀x∈fp,look (giveL h (rs.map fun r=>(resAV t h r).1)).2.1 x.1=look (postH fp) x.1):Fin rs fp v s :=
 ⟨_,hs,FinS_one h1⟩
theorem fin_tup {rs:List MRes} {fp:FP} {vs:List AV} {s:AS} {t:List (Nat×AV)} {h:Heap} {nx:Nat} (h0:vs.length≠1) (hs:Sub s (.mk t h nx)) (h1:allP (rs.map fun r=>(resAV t h r).2)∧(giveL h (rs.map fun r=>(resAV t h r).1)).2.2∧nilL (giveL h (rs.map fun r=>(resAV t h r).1)).1 vs∧∀x∈fp,look (giveL h (rs.map fun r=>(resAV t h r).1)).2.1 x.1=look (postH fp) x.1):Fin rs fp (.tup vs) s :=
 ⟨_,hs,FinS_tup h0 h1⟩
theorem calls_mk {P:Program} {num:Nat→Nat} {fin:AS→Prop} {op:MOp} {dst:Option Nat} {k:List It} {s:AS} {t:List (Nat×AV)} {h:Heap} {nx:Nat} (hs:Sub s (.mk t h nx)) (h1:calls P num fin op dst k (.mk t h nx)):calls P num fin op dst k s:=calls_sub hs h1
theorem K {p q:Prop} (k:q) (h:p:=by first | omega | (simp [-List.getD_eq_getElem?_getD]; first | done | omega)):p∧q:=⟨h,k⟩
theorem CA {P:Program} {num:Nat→Nat} {fin:AS→Prop} {f nx:Nat} {ps:List Bool} {xs:List Arg} {t:List (Nat×AV)} {h:Heap} {fp:FP} {res:AV} {vargs:List AV} {dst:Option Nat} {k:List It} (σ:List (Nat×Nat)) (hc:CallOk P num f vargs fp res)
  (hk:vc P num fin k (.mk (putD t dst (openV nx (renV (rnm σ) res)).1) (app1 h (fp.map (fun x=>(rnm σ x.1,x.2))++fresh (openV nx (renV (rnm σ) res)).2.1)) (openV nx (renV (rnm σ) res)).2.2))
  (hv:nilL (hand (ixm σ) h ps (xs.map (Arg.ev (lookT t)))) vargs:=by first | omega | (simp [nilL,nilV]; done) | (simp [nilL,nilV, *]; done))
  (hvo:handOk h (fun n =>∃x∈fp,x.2.1≠none∧n=rnm σ x.1∧ixm σ n=x.1) (fun n =>∃x∈fp,n=rnm σ x.1) ps (xs.map (Arg.ev (lookT t))):=by first | omega | (simp [nilL,nilV]; done) | (simp [nilL,nilV, *]; done))
  (hnd:(fp.map (fun x=>rnm σ x.1)).Nodup:=by first | (simp [nilL,nilV]; done) | (simp [nilL,nilV, *]; done))
  (hpre :∀x∈fp,look h (rnm σ x.1)=x.2.1∧(x.2.1=none→nx≤rnm σ x.1)∧rnm σ x.1<nx:=by first | (simp [nilL,nilV]; done) | (simp [nilL,nilV, *]; done))
  (hnb :∀x∈fp,(∀r,x.2.1=some r→nbr r.2)∧(∀r,x.2.2=some r→nbr r.2):=by first | (simp [nilL,nilV]; done) | (simp [nilL,nilV, *]; done))
  (hres:okV (fun k =>∃x∈fp,x.1=k∧x.2.2≠none) res:=by first | (simp [nilL,nilV]; done) | (simp [nilL,nilV, *]; done)):calls P num fin (.call f ps xs) dst k (.mk t h nx) :=
 calls_intro (call_ok0 σ hc hv hvo hnd hpre hnb hres) hk
theorem DA {P:Program} {num:Nat→Nat} {fin:AS→Prop} {f nx:Nat} {ps:List Bool} {xs:List Arg} {t:List (Nat×AV)} {h:Heap} {fp:FP} {res:AV} {vargs:List AV} {pend:List (Nat×List Nat)} {dst:Option Nat} {tr:DTree} {k:List It} (σ:List (Nat×Nat)) (hc:CallOk P num f vargs fp res)
  (hk:vc P num fin (.draw tr pend::k) (.mk (putD t dst (openV nx (renV (rnm σ) res)).1) (app1 h (fp.map (fun x=>(rnm σ x.1,x.2))++fresh (openV nx (renV (rnm σ) res)).2.1)) (openV nx (renV (rnm σ) res)).2.2))
  (hv:nilL (hand (ixm σ) h ps (xs.map (Arg.ev (lookT t)))) vargs:=by first | omega | (simp [nilL,nilV]; done) | (simp [nilL,nilV, *]; done))
  (hvo:handOk h (fun n =>∃x∈fp,x.2.1≠none∧n=rnm σ x.1∧ixm σ n=x.1) (fun n =>∃x∈fp,n=rnm σ x.1) ps (xs.map (Arg.ev (lookT t))):=by first | omega | (simp [nilL,nilV]; done) | (simp [nilL,nilV, *]; done))
  (hnd:(fp.map (fun x=>rnm σ x.1)).Nodup:=by first | (simp [nilL,nilV]; done) | (simp [nilL,nilV, *]; done))
  (hpre :∀x∈fp,look h (rnm σ x.1)=x.2.1∧(x.2.1=none→nx≤rnm σ x.1)∧rnm σ x.1<nx:=by first | (simp [nilL,nilV]; done) | (simp [nilL,nilV, *]; done))
  (hnb :∀x∈fp,(∀r,x.2.1=some r→nbr r.2)∧(∀r,x.2.2=some r→nbr r.2):=by first | (simp [nilL,nilV]; done) | (simp [nilL,nilV, *]; done))
  (hres:okV (fun k =>∃x∈fp,x.1=k∧x.2.2≠none) res:=by first | (simp [nilL,nilV]; done) | (simp [nilL,nilV, *]; done))
  (ha:apart pend (fp.map (fun x=>(rnm σ x.1,x.2))++fresh (openV nx (renV (rnm σ) res)).2.1):=by first | (simp [nilL,nilV]; done) | (simp [nilL,nilV, *]; done)):dcall P num fin (.call f ps xs) pend dst tr k t h nx :=
 dcall_intro (call_ok0 σ hc hv hvo hnd hpre hnb hres) ha hk
def marks (k:Int) (n:Nat):List Int:=(List.range n).map fun (i:Nat)=>k+i
@[simp] theorem marks_length (k:Int) (n:Nat):(marks k n).length=n:=by simp [marks]
@[simp] theorem marks_take (k:Int) (n:Nat):(marks k n).take n=marks k n:=List.take_of_length_le (by simp)
theorem copyInts_ok (xs:List Int) (hx:8*xs.length≤2^47):CallOk Tryz.prog num 36 [.sl .bw 1 (ints xs)] [] (.sl .own 1 (ints xs)):=by
 refine EN m36 Tryz.func143 ?_
 unfold m36
 simp only [go_sem,seval]
 repeat refine K ?_
 refine fz ?_; simp [FinS,nilL,nilV,oneOr,-List.drop_one]
def within (n lo hi:Int):Bool:=decide (lo≤n)&&decide (n≤hi)
theorem within_iff {n lo hi:Int}:within n lo hi=true↔lo≤n∧n≤hi:=by simp [within]
def numb (b:Bool):Int:=if b then 1 else 0
theorem within_ok (n lo hi:Int):CallOk Tryz.prog num 59 [.int .i64 n,.int .i64 lo,.int .i64 hi] [] (.bool (within n lo hi)):=by
 refine EN m59 Tryz.func91 ?_
 unfold m59
 by_cases h1:lo≤n<;>by_cases h2:n≤hi<;>(simp only [go_sem,seval,h1,h2]; refine fz ?_; simp [FinS,nilL,nilV,oneOr,-List.drop_one]; simp [within,h1,h2])
theorem l1In_ok (n lo hi:Int):CallOk Tryz.prog num 64 [.int .i64 n,.int .i64 lo,.int .i64 hi] [] (.bool (within n lo hi)):=by
 refine EN m64 Tryz.func69 ?_
 unfold m64
 by_cases h1:lo≤n<;>by_cases h2:n≤hi<;>(simp only [go_sem,seval,h1,h2]; refine fz ?_; simp [FinS,nilL,nilV,oneOr,-List.drop_one]; simp [within,h1,h2])
theorem number_ok (b:Bool):CallOk Tryz.prog num 78 [.bool b] [] (.int .i64 (numb b)):=by
 refine EN m78 Tryz.func175 ?_
 unfold m78
 cases b<;>(simp only [go_sem,seval]; refine fz ?_; simp [FinS,nilL,nilV,oneOr,-List.drop_one]; simp [numb])
theorem l4Bit_ok (b:Bool):CallOk Tryz.prog num 85 [.bool b] [] (.int .i64 (numb b)):=by
 refine EN m85 Tryz.func104 ?_
 unfold m85
 cases b<;>(simp only [go_sem,seval]; refine fz ?_; simp [FinS,nilL,nilV,oneOr,-List.drop_one]; simp [numb])
theorem isReg_ok (n:Int):CallOk Tryz.prog num 97 [.int .i64 n] [] (.bool (within n 0 3)):=by
 refine EN m97 Tryz.func216 ?_
 unfold m97
 simp only [go_sem,seval]
 refine CA [] (within_ok n 0 3) ?_
 try simp only [go_sem,seval]
 repeat refine K ?_
 refine fz ?_; simp [FinS,nilL,nilV,oneOr,-List.drop_one]
theorem ofChan_ok (n:Int):CallOk Tryz.prog num 44 [.int .i64 n] [] (.bool (within n 5 9)):=by
 refine EN m44 Tryz.func199 ?_
 unfold m44
 simp only [go_sem,seval]
 refine CA [] (within_ok n 5 9) ?_
 try simp only [go_sem,seval]
 repeat refine K ?_
 refine fz ?_; simp [FinS,nilL,nilV,oneOr,-List.drop_one]
def chanOk (c:Chan):Bool:=within c.cap 1 4&&decide ((c.list.length:Int)≤c.cap)
def insOk (x:Ins) (pl ch:Int):Bool :=
 within x.r 0 3&&within x.a 0 3&&within x.b 0 3&&within ch 0 3 &&
 (if x.op=1 then within x.n (-1000000000) 1000000000&&decide (x.a=0)&&decide (x.b=0)
  else if x.op=2∨x.op=3∨x.op=4 then decide (x.n=0)
  else if x.op=5 then within x.n 0 (ch-1)&&decide (x.r=0)&&decide (x.b=0)
  else if x.op=6∨x.op=8 then within x.n 0 (ch-1)&&decide (x.a=0)&&!decide (x.r=x.b)
  else if x.op=7 then within x.n 0 (ch-1)&&decide (x.b=0)
  else if x.op=9 then within x.n 0 (ch-1)&&decide (x.r=0)&&decide (x.a=0)&&decide (x.b=0)
  else if x.op=10 then decide (x.r=0)&&decide (x.b=0)&&decide (x.n=0)
  else if x.op=11 then decide (0≤x.n)&&decide (x.n<pl)&&decide (x.r=0)&&decide (x.a=0)&&decide (x.b=0)
  else if x.op=12 then decide (0≤x.n)&&decide (x.n<pl)&&decide (x.r=0)&&decide (x.b=0)
  else if x.op=13 then decide (x.op=13)&&(decide (x.r=0)&&(decide (x.a=0)&&(decide (x.b=0)&&decide (x.n=0))))
  else false)
def named (x:Ins):Ins :=
 if x.op=1 then ⟨x.op,x.r,0,0,x.n⟩
 else if x.op=2∨x.op=3∨x.op=4 then ⟨x.op,x.r,x.a,x.b,0⟩
 else if x.op=5∨x.op=12 then ⟨x.op,0,x.a,0,x.n⟩
 else if x.op=6∨x.op=8 then ⟨x.op,x.r,0,x.b,x.n⟩
 else if x.op=7 then ⟨x.op,x.r,x.a,0,x.n⟩
 else if x.op=9∨x.op=11 then ⟨x.op,0,0,0,x.n⟩
 else if x.op=10 then ⟨x.op,0,x.a,0,0⟩
 else ⟨x.op,0,0,0,0⟩
def insOkF (x:Ins) (pl ch:Int):Bool :=
 within ch 0 3&&within x.op 1 13&&(decide (x.op=(named x).op)&&(decide (x.r=(named x).r)&&(decide (x.a=(named x).a)&&(decide (x.b=(named x).b)&&decide (x.n=(named x).n))))) &&
 within x.r 0 3&&within x.a 0 3&&within x.b 0 3 &&
 (if x.op=1 then within x.n (-1000000000) 1000000000
  else if x.op=11∨x.op=12 then within x.n 0 (pl-1)
  else if (x.op=6∨x.op=8)∧x.r=x.b then false
  else !within x.op 5 9||within x.n 0 (ch-1))
theorem named_ok (x:Ins):CallOk Tryz.prog num 96 [.agg (insC x)] [] (.agg (insC (named x))):=by
 refine EN m96 Tryz.func215 ?_
 unfold m96
 repeat' (first
  | (simp only [go_sem,seval])
  | (refine branch_intro (fun hc=>?_) (fun hc=>?_)<;>((try simp only [Bool.not_eq_true',Bool.not_eq_false',ne_eq,Bool.not_eq_true,Bool.not_eq_false] at hc)<;>(try simp only [hc])))
  | (refine maybe_intro (fun hc=>?_) (fun hc=>?_)<;>((try simp only [Bool.not_eq_true',Bool.not_eq_false',ne_eq,Bool.not_eq_true,Bool.not_eq_false] at hc)<;>(try simp only [hc])))
  | (refine dmaybe_intro (fun hc=>?_) (fun hc=>?_)<;>((try simp only [Bool.not_eq_true',Bool.not_eq_false',ne_eq,Bool.not_eq_true,Bool.not_eq_false] at hc)<;>(try simp only [hc])))
  | (refine ⟨by first | omega | (simp; done),?_⟩)
  | fail)
 all_goals (refine fz ?_; simp [FinS,nilL,nilV,oneOr,-List.drop_one])
 all_goals (try (simp_all [named]; done))
theorem within_eq (n lo hi:Int):within n lo hi=decide (lo≤n∧n≤hi):=by simp [within]
theorem insOkF_eq (x:Ins) (pl ch:Int):insOkF x pl ch=insOk x pl ch:=by
 obtain ⟨op,r,a,b,n⟩:=x
 by_cases h:1≤op∧op≤13
 ·obtain rfl | rfl | rfl | rfl | rfl | rfl | rfl | rfl | rfl | rfl | rfl | rfl | rfl:op=1∨op=2∨op=3∨op=4∨op=5∨op=6∨op=7∨op=8∨op=9∨op=10∨op=11∨op=12∨op=13:=by omega
  all_goals (rw [Bool.eq_iff_iff]; simp [insOkF,insOk,named,within_eq]; try omega)
 ·have h1 :¬op=1:=by omega
  have h2 :¬op=2:=by omega
  have h3 :¬op=3:=by omega
  have h4 :¬op=4:=by omega
  have h5 :¬op=5:=by omega
  have h6 :¬op=6:=by omega
  have h7 :¬op=7:=by omega
  have h8 :¬op=8:=by omega
  have h9 :¬op=9:=by omega
  have h10 :¬op=10:=by omega
  have h11 :¬op=11:=by omega
  have h12 :¬op=12:=by omega
  have h13 :¬op=13:=by omega
  have hw:within op 1 13=false:=by rw [within_eq]; simp; omega
  simp [insOkF,insOk,hw,h1,h2,h3,h4,h5,h6,h7,h8,h9,h10,h11,h12,h13]
end Go.Sep
