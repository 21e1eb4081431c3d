/- Contracts of functions. -/
import Derived.Test.YtfecojefbnnknaaGreatRxx20
open Int renaming toNat_natCast → wDg
open List renaming drop_one → wD9, getD_eq_getElem?_getD → wBr, length_set → wD6, mem_singleton → wC6
namespace Go.Sep
set_option maxHeartbeats 16000000
open Go.Proofs
set_option linter.unusedSimpArgs false
set_option linter.unusedVariables false
set_option maxRecDepth 100000
def m215:MFn:=⟨22,[.t 2],kr [xb 1 0,xo 2 (.mv (.c (.nil)))] (.seq (kr [xa 3 0 1,xl 4 3] (.blk 0 (.seq (kr [bI 6 .eql 4 2,xv 5 6] (.cond 5 (.skip) (kr [bI 7 .eql 4 3,xv 5 7] (.cond 5 (.skip) (xr [bI 8 .eql 4 4,xv 5 8]))))) (.cond 5 (kR [xa 9 2 1,xl 10 9,xa 11 3 1,xl 12 11,xo 13 (.mkSl [xz] 2 [(0,.t 10),(1,.t 12)]),xv 2 13]) (.seq (kr [bI 15 .eql 4 5,xv 14 15] (.cond 14 (.skip) (kr [bI 16 .eql 4 7,xv 14 16] (.cond 14 (.skip) (kr [bI 17 .eql 4 10,xv 14 17] (.cond 14 (.skip) (xr [bI 18 .eql 4 12,xv 14 18]))))))) (kF 14 [xa 19 2 1,xl 20 19,xo 21 (.mkSl [xz] 1 [(0,.t 20)]),xv 2 21])))))) (kR [xo 2 (.mv (.c (.nil)))]))⟩
def m218:MFn:=⟨9,[.t 4],kr [xF 4] (kR [xv 5 0,xv 6 1,xc2 7 271 (.t 5) (.t 6),bI 8 .geq 7 0,xv 4 8])⟩
def m271:MFn:=⟨19,[.t 4],kr [xI 4 0] (.seq (kr [xv 6 0,xe 7 6,xI 8 0] (.blk 0 (.loop (kr [bT 9 .lss 8 7] (.seq (kX 9 0) (.seq (.blk 1 (kr [xv 10 8,xv 5 10] (kr [xv 11 1,xv 12 0,xv 13 5,xD 14 1 12 13,xl 15 14,bT 16 .eql 11 15] (kF 16 [xv 17 5,xv 4 17])))) (xr [bI 18 .add 8 1,xv 8 18]))))))) (kR [xo 4 (.mv (.c (.int .i64 (-1))))]))⟩
def vS (x:Ins):List Int:=if x.op=2∨x.op=3∨x.op=4 then [x.a,x.b] else if x.op=5∨x.op=7∨x.op=10∨x.op=12 then [x.a] else []
theorem qLf (x:Ins):qY Tryz.prog num 215 [.agg (gE x)] [] (.sl .own 1 (wE (vS x))):=by
 refine EN m215 Tryz.func94 ?_
 unfold m215
 by_cases h2:x.op=2
 ·simp only [go_sem,seval,h2]
  repeat refine K ?_
  refine ⟨_,Sub.refl _,qU ?_⟩; simp [-wD9]
  all_goals simp [vS,h2,wE]
 by_cases h3:x.op=3
 ·simp only [go_sem,seval,h2,h3]
  repeat refine K ?_
  refine ⟨_,Sub.refl _,qU ?_⟩; simp [-wD9]
  all_goals simp [vS,h3,wE]
 by_cases h4:x.op=4
 ·simp only [go_sem,seval,h2,h3,h4]
  repeat refine K ?_
  refine ⟨_,Sub.refl _,qU ?_⟩; simp [-wD9]
  all_goals simp [vS,h4,wE]
 by_cases h5:x.op=5
 ·simp only [go_sem,seval,h2,h3,h4,h5]
  repeat refine K ?_
  refine ⟨_,Sub.refl _,qU ?_⟩; simp [-wD9]
  all_goals simp [vS,h5,wE]
 by_cases h7:x.op=7
 ·simp only [go_sem,seval,h2,h3,h4,h5,h7]
  repeat refine K ?_
  refine ⟨_,Sub.refl _,qU ?_⟩; simp [-wD9]
  all_goals simp [vS,h7,wE]
 by_cases h10:x.op=10
 ·simp only [go_sem,seval,h2,h3,h4,h5,h7,h10]
  repeat refine K ?_
  refine ⟨_,Sub.refl _,qU ?_⟩; simp [-wD9]
  all_goals simp [vS,h10,wE]
 by_cases h12:x.op=12
 ·simp only [go_sem,seval,h2,h3,h4,h5,h7,h10,h12]
  repeat refine K ?_
  refine ⟨_,Sub.refl _,qU ?_⟩; simp [-wD9]
  all_goals simp [vS,h12,wE]
 simp only [go_sem,seval,h2,h3,h4,h5,h7,h10,h12]
 repeat refine K ?_
 refine ⟨_,Sub.refl _,qU ?_⟩; simp [-wD9]
 all_goals simp [vS,h2,h3,h4,h5,h7,h10,h12,wE]
theorem qWs (l:List Int) (v:Int) :∀n,n<l.length→l.getD n 0=v→∃n,n<l.length∧l.getD n 0=v∧∀m,m<n→l.getD m 0≠v:=by
 intro n
 induction n using Nat.strongRecOn with
 | ind n ih =>
  intro h1 h2
  by_cases hb :∃m,m<n∧l.getD m 0=v
  ·obtain ⟨m,hm,e⟩:=hb
   exact ih m hm (by omega) e
  ·exact ⟨n,h1,h2,fun m hm e=>hb ⟨m,hm,e⟩⟩
theorem qOf (l:List Int) (v:Int) (hl:l.length<2^47) :∃i:Int,(0≤i↔v∈l)∧qY Tryz.prog num 271 [.sl .bw 1 (wE l),.int .i64 v] [] (.int .i64 i):=by
 by_cases hv:v∈l
 ·obtain ⟨n,hn,hat,hbefore⟩ :∃n,n<l.length∧l.getD n 0=v∧∀m,m<n→l.getD m 0≠v:=by
   have hex :∃n,n<l.length∧l.getD n 0=v:=by
    obtain ⟨n,hn,e⟩:=List.getElem_of_mem hv
    exact ⟨n,hn,by rw [←e]; simp [wBr,hn]⟩
   obtain ⟨n,h1,h2⟩:=hex
   exact qWs l v n h1 h2
  refine ⟨n,by simp [hv],?_⟩
  refine EN m271 Tryz.func100 ?_
  unfold m271
  simp only [go_sem,seval]
  repeat refine K ?_
  refine qZ (ι:=Nat) (fun i=>.mk [(0,.sl .bw 1 (wE l)),(1,.int .i64 v),(7,.int .i64 l.length),(8,.int .i64 i)] [] 10) (fun i=>i≤n) (fun i=>l.length-i) 0 (by omega) ?_ ?_
  ·refine Sub.shape [] id (by omega) ?_ ?_ ?_ ?_<;>simp [qK]
  ·intro i hi
   have d1:decide ((i:Int)<(l.length:Int))=true:=by simp; omega
   have hg:=qI l i (by omega)
   by_cases he:i=n
   ·subst he
    rw [hat] at hg
    simp only [go_sem,seval,d1,hg]
    repeat refine K ?_
    refine fz ?_; simp [yQ,wJ,wK,wR,-wD9]
   ·have hne:=hbefore i (by omega)
    have d2:decide (v=l.getD i 0)=false:=by simp only [decide_eq_false_iff_not]; exact fun e=>hne e.symm
    generalize l.getD i 0=u at hg d2
    simp only [go_sem,seval,d1,hg,d2,qN (i:=i) (by omega)]
    repeat refine K ?_
    refine qM (i+1) (Sub.shape [] id (by omega) ?_ ?_ ?_ ?_) (by omega) (by omega)<;>simp [qK]
 ·refine ⟨-1,by simp [hv],?_⟩
  refine EN m271 Tryz.func100 ?_
  unfold m271
  simp only [go_sem,seval]
  repeat refine K ?_
  refine qZ (ι:=Nat) (fun i=>.mk [(0,.sl .bw 1 (wE l)),(1,.int .i64 v),(7,.int .i64 l.length),(8,.int .i64 i)] [] 10) (fun i=>i≤l.length) (fun i=>l.length-i) 0 (by omega) ?_ ?_
  ·refine Sub.shape [] id (by omega) ?_ ?_ ?_ ?_<;>simp [qK]
  ·intro i hi
   simp only [go_sem,seval]
   refine qP (fun hc=>?_) (fun hc=>?_)
   ·simp only [decide_eq_true_eq] at hc
    have hl':i<l.length:=by omega
    have hg:=qI l i hl'
    have d2:decide (v=l.getD i 0)=false:=by simp only [decide_eq_false_iff_not]; exact fun e=>hv (e▸yB l i 0 hl')
    generalize l.getD i 0=u at hg d2
    simp only [go_sem,seval,hg,d2,qN (i:=i) (by omega)]
    repeat refine K ?_
    refine qM (i+1) (Sub.shape [] id (by omega) ?_ ?_ ?_ ?_) (by omega) (by omega)<;>simp [qK]
   ·simp only [go_sem,seval]
    repeat refine K ?_
    refine fz ?_; simp [yQ,wJ,wK,wR,-wD9]
theorem qCp (l:List Int) (v:Int) (hl:l.length<2^47):qY Tryz.prog num 218 [.sl .bw 1 (wE l),.int .i64 v] [] (.bool (decide (v∈l))):=by
 obtain ⟨i,hi,hc⟩:=qOf l v hl
 have hd:decide (0≤i)=decide (v∈l):=by simp only [hi]
 refine EN m218 Tryz.func56 ?_
 unfold m218
 simp only [go_sem,seval]
 repeat refine K ?_
 refine CA [] (hc) ?_
 try simp only [go_sem,seval]
 repeat refine K ?_
 try simp only [go_sem,seval,hd]
 repeat refine K ?_
 refine fz ?_; simp [yQ,wJ,wK,wR,-wD9]
def qEh (l:List Ins) (N:Nat→Int→Prop):Prop :=∀a r,a<l.length→(r∈vS (l.getD a default)∨(r∉uR (l.getD a default)∧∃m∈yO l a,N m.toNat r))→N a r
def qE2 (l:List Ins) (a:Nat) (r:Int):Prop :=∀N,qEh l N→N a r
theorem oN (l:List Ins):qEh l (qE2 l):=fun a r ha h N hN=>hN a r ha (h.imp_right fun ⟨h1,m,h2,h3⟩=>⟨h1,m,h2,h3 N hN⟩)
theorem cY {u v:List Int} {r i:Nat} {w:Int} (hu:i<u.length) (hv:i<v.length) (h:r=i∨u.getD r 0=v.getD r 0):(u.set i w).getD r 0=(v.set i w).getD r 0:=by
 rw [jL _ _ _ _ _ hu,jL _ _ _ _ _ hv]
 split
 ·rfl
 ·rename_i hn
  exact h.resolve_left hn
theorem qUw {x:Ins} {u v:List Int} (ho:Op4 x) (hu:u.length=4) (hv:v.length=4) (h :∀r∈vS x,u.getD r.toNat 0=v.getD r.toNat 0) :
  (∀a,qDt x u a=qDt x v a)∧(∀chs,qDu x u chs=qDu x v chs)∧(∀c,cB x u c=cB x v c)∧(∀i tr,qDs i x u tr=qDs i x v tr)∧
  (∀(c:jZ) (r:Nat),r<4→((r:Int)∈uR x∨u.getD r 0=v.getD r 0)→cB x u c=true→(cU x u c).getD r 0=(cU x v c).getD r 0):=by
 obtain ⟨r0,r1,a0,a1,b0,b1⟩:=ho
 have hch :∀c,mJ x=true→(wC ⟨0,u,0⟩ c x).2=(wC ⟨0,v,0⟩ c x).2:=by
  intro c hc
  have ha:x.op=5∨x.op=7→u.getD x.a.toNat 0=v.getD x.a.toNat 0:=by
   intro hx
   refine h x.a ?_
   unfold vS
   rw [if_neg (by omega),if_pos (by omega)]
   exact List.mem_singleton.2 rfl
  unfold wC reg
  simp only
  split
  ·rename_i hx
   rw [ha hx]
  split
  ·rfl
  ·rfl
 refine ⟨fun a=>?_,fun chs=>?_,fun c=>?_,fun i tr=>?_,fun c r hr hs hk=>?_⟩
 ·unfold qDt
  split
  ·rfl
  split
  ·rename_i h12
   rw [h x.a (by unfold vS; rw [if_neg (by omega),if_pos (by omega)]; exact List.mem_singleton.2 rfl)]
  ·rfl
 ·unfold qDu
  split
  ·rename_i hc
   rw [hch _ hc]
  ·rfl
 ·unfold cB
  split
  ·rename_i hc
   rw [hch _ hc]
  ·rfl
 ·unfold qDs
  split
  ·rename_i h10
   rw [h x.a (by unfold vS; rw [if_neg (by omega),if_pos (by omega)]; exact List.mem_singleton.2 rfl)]
  ·rfl
 ·unfold cU
  split
  ·rename_i h1
   refine cY (by omega) (by omega) ?_
   rcases hs with hs | hs
   ·left
    unfold uR at hs
    rw [if_pos (by omega),wC6] at hs
    omega
   ·exact .inr hs
  split
  ·rename_i h1 h2
   have ha:u.getD x.a.toNat 0=v.getD x.a.toNat 0:=h x.a (by unfold vS; rw [if_pos h2]; simp)
   have hb:u.getD x.b.toNat 0=v.getD x.b.toNat 0:=h x.b (by unfold vS; rw [if_pos h2]; simp)
   rw [ha,hb]
   refine cY (by omega) (by omega) ?_
   rcases hs with hs | hs
   ·left
    unfold uR at hs
    rw [if_pos (by omega),wC6] at hs
    omega
   ·exact .inr hs
  split
  ·rename_i h1 h2 hc
   have hcx:=hc
   unfold mJ at hcx
   simp only [Bool.and_eq_true,decide_eq_true_eq] at hcx
   unfold cB at hk
   rw [if_pos hc] at hk
   have e2:=hch c hc
   unfold wC reg wV at hk e2⊢
   simp only at hk e2⊢
   by_cases h57:x.op=5∨x.op=7
   ·have ha:u.getD x.a.toNat 0=v.getD x.a.toNat 0:=h x.a (by unfold vS; rw [if_neg (by omega),if_pos (by omega)]; exact List.mem_singleton.2 rfl)
    rw [if_pos h57,if_pos h57,ha]
    rw [if_pos h57,ha] at hk
    simp only at hk⊢
    have hk2 :¬(yD c (v.getD x.a.toNat 0)).2=2:=by
     intro e
     rw [e] at hk
     exact absurd hk (by decide)
    by_cases h7:x.op=7
    ·rw [if_pos ⟨h7,hk2⟩,if_pos ⟨h7,hk2⟩]
     refine cY (by omega) (by omega) ?_
     rcases hs with hs | hs
     ·left
      unfold uR at hs
      rw [if_pos (by omega),wC6] at hs
      omega
     ·exact .inr hs
    ·rw [if_neg (fun e=>h7 e.1),if_neg (fun e=>h7 e.1)]
     rcases hs with hs | hs
     ·unfold uR at hs
      rw [if_neg (by omega),if_neg (by omega)] at hs
      exact absurd hs (by simp)
     ·exact hs
   rw [if_neg h57,if_neg h57]
   by_cases h68:x.op=6∨x.op=8
   ·have hs':r=x.b.toNat∨r=x.r.toNat∨u.getD r 0=v.getD r 0:=by
     rcases hs with hs | hs
     ·unfold uR at hs
      rw [if_neg (by omega),if_pos h68] at hs
      simp only [List.mem_cons,List.not_mem_nil,or_false] at hs
      omega
     ·exact .inr (.inr hs)
    rw [if_pos h68,if_pos h68]
    have hin :∀w1 w2:Int,((u.set x.r.toNat w1).set x.b.toNat w2).getD r 0=((v.set x.r.toNat w1).set x.b.toNat w2).getD r 0:=by
     intro w1 w2
     refine cY (by rw [wD6]; omega) (by rw [wD6]; omega) ?_
     rcases hs' with e | e
     ·exact .inl e
     ·exact .inr (cY (by omega) (by omega) e)
    by_cases hq:(wP c).2.2=3∧x.op=8
    ·rw [if_pos hq,if_pos hq]
     exact cY (by rw [wD6,wD6]; omega) (by rw [wD6,wD6]; omega) (.inr (hin _ _))
    ·rw [if_neg hq,if_neg hq]
     exact hin _ _
   ·rw [if_neg h68,if_neg h68]
    simp only
    rcases hs with hs | hs
    ·unfold uR at hs
     rw [if_neg (by omega),if_neg (by omega)] at hs
     exact absurd hs (by simp)
    ·exact hs
  ·rename_i h1 h2 h3
   have h3' :¬(5≤x.op∧x.op≤9):=by
    unfold mJ at h3
    simpa using h3
   rcases hs with hs | hs
   ·unfold uR at hs
    rw [if_neg (by omega),if_neg (by omega)] at hs
    exact absurd hs (by simp)
   ·exact hs
def qP6 (l:List Ins) (a:Nat):Prop:=(1≤(l.getD a default).op∧(l.getD a default).op≤4)∧a+1<l.length∧¬qE2 l (a+1) (l.getD a default).r
def Trm (l k:List Ins):Prop:=k.length=l.length∧∀a,a<l.length→k.getD a default=l.getD a default∨(qP6 l a∧k.getD a default=⟨11,0,0,0,((a+1:Nat):Int)⟩)
theorem Trm.refl (l:List Ins):Trm l l:=⟨rfl,fun _ _=>.inl rfl⟩
structure LvI (p q:wQ) (s t:wA):Prop where
 ok:wG p s=true
 okq:wG q t=true
 chs:t.chs=s.chs
 tr:t.tr=s.tr
 len:t.ths.length=s.ths.length
 th :∀i,i<s.ths.length→(thd t i).at_=(thd s i).at_∧(thd t i).st=(thd s i).st∧∀r:Nat,r<4→qE2 (body p i) (thd s i).at_.toNat r→(thd t i).regs.getD r 0=(thd s i).regs.getD r 0
theorem LvI.put {p q:wQ} {s t:wA} {i:Nat} (h:LvI p q s t) (hi:i<s.ths.length) {T U:yP} {c:List jZ} {tr:List bP}
  (h1:U.at_=T.at_) (h2:U.st=T.st) (h3 :∀r:Nat,r<4→qE2 (body p i) T.at_.toNat r→U.regs.getD r 0=T.regs.getD r 0)
  (k1:wG p ⟨s.ths.set i T,c,tr⟩=true) (k2:wG q ⟨t.ths.set i U,c,tr⟩=true):LvI p q ⟨s.ths.set i T,c,tr⟩ ⟨t.ths.set i U,c,tr⟩:=by
 refine ⟨k1,k2,rfl,rfl,by simp only [wD6]; exact h.len,fun j hj=>?_⟩
 have hj':j<s.ths.length:=by simpa using hj
 have hl:=h.len
 rw [pP T hi,pP U (by omega)]
 by_cases e:j=i
 ·subst e
  rw [if_pos rfl,if_pos rfl]
  exact ⟨h1,h2,h3⟩
 ·rw [if_neg e,if_neg e]
  exact h.th j hj'
theorem LvI.step {p q:wQ} (hT :∀i,i<p.bods.length→Trm (body p i) (body q i)) {s t:wA} (h:LvI p q s t) (who:Int) :
  (qX q t who).2=(qX p s who).2∧LvI p q (qX p s who).1 (qX q t who).1:=by
 by_cases hw:0≤who∧who.toNat<s.ths.length
 case neg =>
  have hno :∀(q:wQ) (s':wA),s'.ths.length=s.ths.length→wU q s' who=2:=by
   intro q s' hl
   unfold wU
   have hw2:qW who 0 ((s'.ths.length:Int)-1)=false:=by
    cases hh:qW who 0 ((s'.ths.length:Int)-1)
    ·rfl
    ·rw [qL] at hh
     exact absurd ⟨hh.1,by omega⟩ hw
   rw [hw2,if_pos rfl]
  unfold qX
  rw [hno p s rfl,hno q t h.len]
  exact ⟨rfl,h⟩
 obtain ⟨i,rfl⟩:=Int.eq_ofNat_of_zero_le hw.1
 have hi:i<s.ths.length:=by simpa using hw.2
 clear hw
 have hl:=h.len
 have hit:i<t.ths.length:=by omega
 have hA:=qB4 h.ok hi
 have hAt:=qB4 h.okq hit
 obtain ⟨e1,e2,e3⟩:=h.th i hi
 have hat0:0≤(thd s i).at_:=hA.at0
 have hat1:(thd s i).at_.toNat<(body p i).length:=hA.at1
 obtain ⟨b1,b2⟩:=hT i hA.hb
 have hx:ins p s i=(body p i).getD (thd s i).at_.toNat default:=rfl
 have hy:ins q t i=(body q i).getD (thd s i).at_.toNat default:=by
  show (body q i).getD (thd t i).at_.toNat default=_
  rw [e1]
 have hcase:=b2 _ hat1
 rw [←hx,←hy] at hcase
 have hop:=hA.op
 have hst:(t.ths.getD i default).st=(s.ths.getD i default).st:=e2
 have hcode:wU q t i=wU p s i:=by
  unfold wU
  rw [wDg,hst,h.chs,h.tr,hl]
  rcases hcase with e | ⟨⟨d1,_⟩,e⟩
  ·rw [e]
  ·rw [←hx] at d1
   rw [e]
   have c1 :¬((11:Int)=10∧(s.tr.length:Int)=4000):=by omega
   have c2 :¬((ins p s i).op=10∧(s.tr.length:Int)=4000):=by omega
   have c3 :¬(ins p s i).op=5∧¬(ins p s i).op=6:=by omega
   have c4 :¬(11:Int)=5∧¬(11:Int)=6:=by omega
   simp only [c1,c2,or_false]
   rw [if_pos c3,if_pos c4]
 by_cases hc:wU p s i=0
 case neg =>
  have g1:qX p s i=(s,wU p s i):=by unfold qX; rw [if_neg hc]
  have g2:qX q t i=(t,wU p s i):=by unfold qX; rw [hcode,if_neg hc]
  rw [g1,g2]
  exact ⟨rfl,h⟩
 have k1:=dV i h.ok
 have k2:=dV i h.okq
 have g1:qX p s i=(wN p s i,0):=by unfold qX; rw [if_pos hc]; rfl
 have g2:qX q t i=(wN q t i,0):=by unfold qX; rw [hcode,if_pos hc]; rfl
 rw [g1,g2]
 rw [g1] at k1
 rw [g2] at k2
 refine ⟨rfl,?_⟩
 show LvI p q (wN p s i) (wN q t i)
 have hW:=qD4 h.ok hi
 have hlv:=oN (body p i)
 have hrl:(thd s i).regs.length=4:=hA.regs
 have hrt:(thd t i).regs.length=4:=hAt.regs
 rcases hcase with e | ⟨⟨d1,d2,d3⟩,e⟩
 ·have ho4:Op4 (ins p s i):=⟨hA.r0,by have:=hA.r1; omega,hA.a0,by have:=hA.a1; omega,hA.b0,by have:=hA.b1; omega⟩
  have hrd :∀r∈vS (ins p s i),(thd s i).regs.getD r.toNat 0=(thd t i).regs.getD r.toNat 0:=by
   intro r hr
   have hr4:0≤r∧r<4:=by
    have a1:=hA.a1
    have b1:=hA.b1
    have a0:=hA.a0
    have b0:=hA.b0
    unfold vS at hr
    split at hr
    ·simp only [List.mem_cons,List.not_mem_nil,or_false] at hr
     omega
    split at hr
    ·rw [wC6] at hr
     omega
    ·exact absurd hr (by simp)
   obtain ⟨n,rfl⟩:=Int.eq_ofNat_of_zero_le hr4.1
   exact (e3 n (by omega) (hlv _ _ hat1 (.inl hr))).symm
  obtain ⟨f1,f2,f3,f4,f5⟩:=qUw ho4 hrl hrt hrd
  have ec:chn t (ins p s i).n.toNat=chn s (ins p s i).n.toNat:=by unfold chn; rw [h.chs]
  have hD:wN q t i=if (ins p s i).op=13 then ⟨t.ths.set i ⟨(thd t i).at_,(thd t i).regs,1⟩,s.chs,s.tr⟩ else vQ q ⟨t.ths,qDu (ins p s i) (thd s i).regs s.chs,qDs i (ins p s i) (thd s i).regs s.tr⟩ i ⟨(thd s i).at_,cU (ins p s i) (thd t i).regs (chn s (ins p s i).n.toNat),(thd s i).st⟩ (cB (ins p s i) (thd s i).regs (chn s (ins p s i).n.toNat)) (qDt (ins p s i) (thd s i).regs (thd s i).at_):=by
   rw [sY hAt.op,e,ec,h.chs,h.tr,f1,f2,f3,f4,e2]
   rw [e1]
  rw [hD] at k2⊢
  revert k1 hW
  generalize wN p s i=S'
  intro k1 hW
  revert k1
  cases hW with
  | ended h13 =>
   intro k1
   rw [if_pos h13] at k2⊢
   exact h.put hi e1 rfl e3 k1 k2
  | fault hf =>
   intro k1
   have h13 :¬(ins p s i).op=13:=by
    intro h13
    have hx13:mJ (ins p s i)=false:=by unfold mJ; simp; omega
    unfold cB at hf
    rw [hx13] at hf
    simp at hf
   rw [if_neg h13,hf,qWp] at k2⊢
   have q1:=sX (kC h.ok hi) hf
   have q2:cU (ins p s i) (thd t i).regs (chn s (ins p s i).n.toNat)=(thd t i).regs:=sX (kC h.ok hi) (by rw [←f3]; exact hf)
   refine h.put hi rfl rfl ?_ k1 k2
   intro r hr hL
   show (cU (ins p s i) (thd t i).regs (chn s (ins p s i).n.toNat)).getD r 0=(cU (ins p s i) (thd s i).regs (chn s (ins p s i).n.toNat)).getD r 0
   rw [q1,q2]
   exact e3 r hr hL
  | next n hok h13 hn hl2 hm =>
   intro k1
   rw [if_neg h13,hok,hn,qSa (by rw [b1]; omega)] at k2⊢
   refine h.put hi rfl rfl ?_ k1 k2
   intro r hr hL
   show (cU (ins p s i) (thd t i).regs (chn s (ins p s i).n.toNat)).getD r 0=(cU (ins p s i) (thd s i).regs (chn s (ins p s i).n.toNat)).getD r 0
   refine (f5 _ r hr ?_ hok).symm
   by_cases hs:(r:Int)∈uR (ins p s i)
   ·exact .inl hs
   ·right
    exact (e3 r hr (hlv _ _ hat1 (.inr ⟨hs,_,hm,by rw [wDg]; rw [wDg] at hL; exact hL⟩))).symm
 ·rw [←hx] at d1 d3
  have hD:wN q t i=⟨t.ths.set i ⟨(((thd s i).at_.toNat+1:Nat):Int),(thd t i).regs,(thd s i).st⟩,s.chs,s.tr⟩:=by
   obtain ⟨j1,j2,j3,j4⟩:=qWf (x:=ins q t i) (.inl (by rw [e])) i (thd t i).regs (chn t (ins q t i).n.toNat) t.chs t.tr
   have n2:qDt (ins q t i) (thd t i).regs (thd t i).at_=(((thd s i).at_.toNat+1:Nat):Int):=by
    rw [e]
    unfold qDt
    rw [if_pos rfl]
   rw [sY hAt.op,if_neg (by rw [e]; simp),j1,j2,j3,j4,n2,qSa (by rw [b1]; omega),h.chs,h.tr,e2]
  rw [hD] at k2⊢
  have hxc:mJ (ins p s i)=false:=by unfold mJ; simp; omega
  have hC:qDu (ins p s i) (thd s i).regs s.chs=s.chs:=by unfold qDu; rw [hxc]; rfl
  have hTr:qDs i (ins p s i) (thd s i).regs s.tr=s.tr:=by unfold qDs; rw [if_neg (by omega)]
  revert k1 hW
  generalize wN p s i=S'
  intro k1 hW
  revert k1
  cases hW with
  | ended h13=>exact absurd h13 (by omega)
  | fault hf =>
   unfold cB at hf
   rw [hxc] at hf
   simp at hf
  | next n hok h13 hn hl2 hm =>
   intro k1
   rw [hC,hTr] at k1⊢
   have hn2:n=(thd s i).at_.toNat+1:=by
    unfold qDt at hn
    rw [if_neg (by omega),if_neg (by omega)] at hn
    omega
   subst hn2
   refine h.put hi rfl rfl ?_ k1 k2
   intro r hr hL
   rw [wDg] at hL
   have hne:(r:Int)≠(ins p s i).r:=by
    intro e
    rw [e] at hL
    exact d3 hL
   have hr0:=hA.r0
   have hns:(r:Int)∉uR (ins p s i):=by
    unfold uR
    rw [if_pos (by omega),wC6]
    exact hne
   have hold:=e3 r hr (hlv _ _ hat1 (.inr ⟨hns,_,hm,by rw [wDg]; exact hL⟩))
   have hrn :¬(ins p s i).r.toNat=r:=by omega
   have hR:(cU (ins p s i) (thd s i).regs (chn s (ins p s i).n.toNat)).getD r 0=(thd s i).regs.getD r 0:=by
    unfold cU
    rw [hxc]
    repeat' split
    all_goals first
     | (simp [wBr,List.getElem?_set,hrn]; done)
     | (rename_i hh; exact absurd hh Bool.false_ne_true)
     | rfl
   show (thd t i).regs.getD r 0=(cU (ins p s i) (thd s i).regs (chn s (ins p s i).n.toNat)).getD r 0
   rw [hR,hold]
theorem LvI.run {p q:wQ} (hT :∀i,i<p.bods.length→Trm (body p i) (body q i)) :∀(l:List Int) {s t:wA},LvI p q s t→LvI p q (tW p s l) (tW q t l)∧cI q t l=cI p s l
 | [],s,t,h=>⟨h,rfl⟩
 | x::l,s,t,h=>by
  obtain ⟨h1,h2⟩:=h.step hT x
  obtain ⟨h3,h4⟩:=LvI.run hT l h2
  simp only [tW,cI]
  exact ⟨h3,by rw [h1,h4]⟩
end Go.Sep
