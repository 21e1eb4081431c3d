/- Contracts of functions. -/
import Derived.Test.YtfecojefbnnknaaLxx19
open Int renaming toNat_natCast → wBl
open List renaming drop_one → wBe, getD_eq_getElem?_getD → qZw, length_set → wBb, mem_singleton → wAb
namespace Go.Sep
set_option maxHeartbeats 16000000
open Go.Proofs
set_option linter.unusedSimpArgs false
set_option linter.unusedVariables false
set_option maxRecDepth 100000
def m215:MFn:=⟨22,[.t 2],kr [xb 1 0,xo 2 (.mv (.c (.nil)))] (.seq (kr [xa 3 0 1,xl 4 3] (.blk 0 (.seq (kr [bI 6 .eql 4 2,xv 5 6] (.cond 5 (.skip) (kr [bI 7 .eql 4 3,xv 5 7] (.cond 5 (.skip) (xr [bI 8 .eql 4 4,xv 5 8]))))) (.cond 5 (kR [xa 9 2 1,xl 10 9,xa 11 3 1,xl 12 11,xo 13 (.mkSl [xz] 2 [(0,.t 10),(1,.t 12)]),xv 2 13]) (.seq (kr [bI 15 .eql 4 5,xv 14 15] (.cond 14 (.skip) (kr [bI 16 .eql 4 7,xv 14 16] (.cond 14 (.skip) (kr [bI 17 .eql 4 10,xv 14 17] (.cond 14 (.skip) (xr [bI 18 .eql 4 12,xv 14 18]))))))) (kF 14 [xa 19 2 1,xl 20 19,xo 21 (.mkSl [xz] 1 [(0,.t 20)]),xv 2 21])))))) (kR [xo 2 (.mv (.c (.nil)))]))⟩
def m218:MFn:=⟨9,[.t 4],kr [xF 4] (kR [xv 5 0,xv 6 1,xc2 7 271 (.t 5) (.t 6),bI 8 .geq 7 0,xv 4 8])⟩
def m271:MFn:=⟨19,[.t 4],kr [xI 4 0] (.seq (kr [xv 6 0,xe 7 6,xI 8 0] (.blk 0 (.loop (kr [bT 9 .lss 8 7] (.seq (kX 9 0) (.seq (.blk 1 (kr [xv 10 8,xv 5 10] (kr [xv 11 1,xv 12 0,xv 13 5,xD 14 1 12 13,xl 15 14,bT 16 .eql 11 15] (kF 16 [xv 17 5,xv 4 17])))) (xr [bI 18 .add 8 1,xv 8 18]))))))) (kR [xo 4 (.mv (.c (.int .i64 (-1))))]))⟩
def vO (x:Ins):List Int:=if x.op=2∨x.op=3∨x.op=4 then [x.a,x.b] else if x.op=5∨x.op=7∨x.op=10∨x.op=12 then [x.a] else []
theorem qJr (x:Ins):wD Try.prog num 215 [.agg (gB x)] [] (.sl .own 1 (wC (vO x))):=by
 refine EN m215 Try.func33 ?_
 unfold m215
 by_cases h2:x.op=2
 ·simp only [go_sem,seval,h2]
  repeat refine K ?_
  refine ⟨_,Sub.refl _,qZ ?_⟩; simp [-wBe]
  all_goals simp [vO,h2,wC]
 by_cases h3:x.op=3
 ·simp only [go_sem,seval,h2,h3]
  repeat refine K ?_
  refine ⟨_,Sub.refl _,qZ ?_⟩; simp [-wBe]
  all_goals simp [vO,h3,wC]
 by_cases h4:x.op=4
 ·simp only [go_sem,seval,h2,h3,h4]
  repeat refine K ?_
  refine ⟨_,Sub.refl _,qZ ?_⟩; simp [-wBe]
  all_goals simp [vO,h4,wC]
 by_cases h5:x.op=5
 ·simp only [go_sem,seval,h2,h3,h4,h5]
  repeat refine K ?_
  refine ⟨_,Sub.refl _,qZ ?_⟩; simp [-wBe]
  all_goals simp [vO,h5,wC]
 by_cases h7:x.op=7
 ·simp only [go_sem,seval,h2,h3,h4,h5,h7]
  repeat refine K ?_
  refine ⟨_,Sub.refl _,qZ ?_⟩; simp [-wBe]
  all_goals simp [vO,h7,wC]
 by_cases h10:x.op=10
 ·simp only [go_sem,seval,h2,h3,h4,h5,h7,h10]
  repeat refine K ?_
  refine ⟨_,Sub.refl _,qZ ?_⟩; simp [-wBe]
  all_goals simp [vO,h10,wC]
 by_cases h12:x.op=12
 ·simp only [go_sem,seval,h2,h3,h4,h5,h7,h10,h12]
  repeat refine K ?_
  refine ⟨_,Sub.refl _,qZ ?_⟩; simp [-wBe]
  all_goals simp [vO,h12,wC]
 simp only [go_sem,seval,h2,h3,h4,h5,h7,h10,h12]
 repeat refine K ?_
 refine ⟨_,Sub.refl _,qZ ?_⟩; simp [-wBe]
 all_goals simp [vO,h2,h3,h4,h5,h7,h10,h12,wC]
theorem qUu (l:List Int) (v:Int) :∀n,n<l.length→l.getD n 0=v→∃n,n<l.length∧l.getD n 0=v∧∀m,m<n→l.getD m 0≠v:=by
 intro n
 induction n using Nat.strongRecOn with
 | ind n ih =>
  intro h1 h2
  by_cases hb :∃m,m<n∧l.getD m 0=v
  ·obtain ⟨m,hm,e⟩:=hb
   exact ih m hm (by omega) e
  ·exact ⟨n,h1,h2,fun m hm e=>hb ⟨m,hm,e⟩⟩
theorem qMh (l:List Int) (v:Int) (hl:l.length<2^47) :∃i:Int,(0≤i↔v∈l)∧wD Try.prog num 271 [.sl .bw 1 (wC l),.int .i64 v] [] (.int .i64 i):=by
 by_cases hv:v∈l
 ·obtain ⟨n,hn,hat,hbefore⟩ :∃n,n<l.length∧l.getD n 0=v∧∀m,m<n→l.getD m 0≠v:=by
   have hex :∃n,n<l.length∧l.getD n 0=v:=by
    obtain ⟨n,hn,e⟩:=List.getElem_of_mem hv
    exact ⟨n,hn,by rw [←e]; simp [qZw,hn]⟩
   obtain ⟨n,h1,h2⟩:=hex
   exact qUu l v n h1 h2
  refine ⟨n,by simp [hv],?_⟩
  refine EN m271 Try.func61 ?_
  unfold m271
  simp only [go_sem,seval]
  repeat refine K ?_
  refine wE (ι:=Nat) (fun i=>.mk [(0,.sl .bw 1 (wC l)),(1,.int .i64 v),(7,.int .i64 l.length),(8,.int .i64 i)] [] 10) (fun i=>i≤n) (fun i=>l.length-i) 0 (by omega) ?_ ?_
  ·refine Sub.shape [] id (by omega) ?_ ?_ ?_ ?_<;>simp [qM]
  ·intro i hi
   have d1:decide ((i:Int)<(l.length:Int))=true:=by simp; omega
   have hg:=qJ l i (by omega)
   by_cases he:i=n
   ·subst he
    rw [hat] at hg
    simp only [go_sem,seval,d1,hg]
    repeat refine K ?_
    refine fz ?_; simp [yL,wM,wL,wR,-wBe]
   ·have hne:=hbefore i (by omega)
    have d2:decide (v=l.getD i 0)=false:=by simp only [decide_eq_false_iff_not]; exact fun e=>hne e.symm
    generalize l.getD i 0=u at hg d2
    simp only [go_sem,seval,d1,hg,d2,wA (i:=i) (by omega)]
    repeat refine K ?_
    refine qW (i+1) (Sub.shape [] id (by omega) ?_ ?_ ?_ ?_) (by omega) (by omega)<;>simp [qM]
 ·refine ⟨-1,by simp [hv],?_⟩
  refine EN m271 Try.func61 ?_
  unfold m271
  simp only [go_sem,seval]
  repeat refine K ?_
  refine wE (ι:=Nat) (fun i=>.mk [(0,.sl .bw 1 (wC l)),(1,.int .i64 v),(7,.int .i64 l.length),(8,.int .i64 i)] [] 10) (fun i=>i≤l.length) (fun i=>l.length-i) 0 (by omega) ?_ ?_
  ·refine Sub.shape [] id (by omega) ?_ ?_ ?_ ?_<;>simp [qM]
  ·intro i hi
   simp only [go_sem,seval]
   refine qU (fun hc=>?_) (fun hc=>?_)
   ·simp only [decide_eq_true_eq] at hc
    have hl':i<l.length:=by omega
    have hg:=qJ l i hl'
    have d2:decide (v=l.getD i 0)=false:=by simp only [decide_eq_false_iff_not]; exact fun e=>hv (e▸yO l i 0 hl')
    generalize l.getD i 0=u at hg d2
    simp only [go_sem,seval,hg,d2,wA (i:=i) (by omega)]
    repeat refine K ?_
    refine qW (i+1) (Sub.shape [] id (by omega) ?_ ?_ ?_ ?_) (by omega) (by omega)<;>simp [qM]
   ·simp only [go_sem,seval]
    repeat refine K ?_
    refine fz ?_; simp [yL,wM,wL,wR,-wBe]
theorem qL3 (l:List Int) (v:Int) (hl:l.length<2^47):wD Try.prog num 218 [.sl .bw 1 (wC l),.int .i64 v] [] (.bool (decide (v∈l))):=by
 obtain ⟨i,hi,hc⟩:=qMh l v hl
 have hd:decide (0≤i)=decide (v∈l):=by simp only [hi]
 refine EN m218 Try.func35 ?_
 unfold m218
 simp only [go_sem,seval]
 repeat refine K ?_
 refine CA [] (hc) ?_
 try simp only [go_sem,seval]
 repeat refine K ?_
 try simp only [go_sem,seval,hd]
 repeat refine K ?_
 refine fz ?_; simp [yL,wM,wL,wR,-wBe]
def qDd (l:List Ins) (N:Nat→Int→Prop):Prop :=∀a r,a<l.length→(r∈vO (l.getD a default)∨(r∉uM (l.getD a default)∧∃m∈jA l a,N m.toNat r))→N a r
def qCy (l:List Ins) (a:Nat) (r:Int):Prop :=∀N,qDd l N→N a r
theorem nB (l:List Ins):qDd l (qCy l):=fun a r ha h N hN=>hN a r ha (h.imp_right fun ⟨h1,m,h2,h3⟩=>⟨h1,m,h2,h3 N hN⟩)
theorem cH {u v:List Int} {r i:Nat} {w:Int} (hu:i<u.length) (hv:i<v.length) (h:r=i∨u.getD r 0=v.getD r 0):(u.set i w).getD r 0=(v.set i w).getD r 0:=by
 rw [vS _ _ _ _ _ hu,vS _ _ _ _ _ hv]
 split
 ·rfl
 ·rename_i hn
  exact h.resolve_left hn
theorem qSz {x:Ins} {u v:List Int} (ho:Op4 x) (hu:u.length=4) (hv:v.length=4) (h :∀r∈vO x,u.getD r.toNat 0=v.getD r.toNat 0) :
  (∀a,qCr x u a=qCr x v a)∧(∀chs,qCs x u chs=qCs x v chs)∧(∀c,eL x u c=eL x v c)∧(∀i tr,qCq i x u tr=qCq i x v tr)∧
  (∀(c:jS) (r:Nat),r<4→((r:Int)∈uM x∨u.getD r 0=v.getD r 0)→eL x u c=true→(cC x u c).getD r 0=(cC x v c).getD r 0):=by
 obtain ⟨r0,r1,a0,a1,b0,b1⟩:=ho
 have hch :∀c,lB x=true→(qX ⟨0,u,0⟩ c x).2=(qX ⟨0,v,0⟩ c x).2:=by
  intro c hc
  have ha:x.op=5∨x.op=7→u.getD x.a.toNat 0=v.getD x.a.toNat 0:=by
   intro hx
   refine h x.a ?_
   unfold vO
   rw [if_neg (by omega),if_pos (by omega)]
   exact List.mem_singleton.2 rfl
  unfold qX reg
  simp only
  split
  ·rename_i hx
   rw [ha hx]
  split
  ·rfl
  ·rfl
 refine ⟨fun a=>?_,fun chs=>?_,fun c=>?_,fun i tr=>?_,fun c r hr hs hk=>?_⟩
 ·unfold qCr
  split
  ·rfl
  split
  ·rename_i h12
   rw [h x.a (by unfold vO; rw [if_neg (by omega),if_pos (by omega)]; exact List.mem_singleton.2 rfl)]
  ·rfl
 ·unfold qCs
  split
  ·rename_i hc
   rw [hch _ hc]
  ·rfl
 ·unfold eL
  split
  ·rename_i hc
   rw [hch _ hc]
  ·rfl
 ·unfold qCq
  split
  ·rename_i h10
   rw [h x.a (by unfold vO; rw [if_neg (by omega),if_pos (by omega)]; exact List.mem_singleton.2 rfl)]
  ·rfl
 ·unfold cC
  split
  ·rename_i h1
   refine cH (by omega) (by omega) ?_
   rcases hs with hs | hs
   ·left
    unfold uM at hs
    rw [if_pos (by omega),wAb] at hs
    omega
   ·exact .inr hs
  split
  ·rename_i h1 h2
   have ha:u.getD x.a.toNat 0=v.getD x.a.toNat 0:=h x.a (by unfold vO; rw [if_pos h2]; simp)
   have hb:u.getD x.b.toNat 0=v.getD x.b.toNat 0:=h x.b (by unfold vO; rw [if_pos h2]; simp)
   rw [ha,hb]
   refine cH (by omega) (by omega) ?_
   rcases hs with hs | hs
   ·left
    unfold uM at hs
    rw [if_pos (by omega),wAb] at hs
    omega
   ·exact .inr hs
  split
  ·rename_i h1 h2 hc
   have hcx:=hc
   unfold lB at hcx
   simp only [Bool.and_eq_true,decide_eq_true_eq] at hcx
   unfold eL at hk
   rw [if_pos hc] at hk
   have e2:=hch c hc
   unfold qX reg wV at hk e2⊢
   simp only at hk e2⊢
   by_cases h57:x.op=5∨x.op=7
   ·have ha:u.getD x.a.toNat 0=v.getD x.a.toNat 0:=h x.a (by unfold vO; rw [if_neg (by omega),if_pos (by omega)]; exact List.mem_singleton.2 rfl)
    rw [if_pos h57,if_pos h57,ha]
    rw [if_pos h57,ha] at hk
    simp only at hk⊢
    have hk2 :¬(yB c (v.getD x.a.toNat 0)).2=2:=by
     intro e
     rw [e] at hk
     exact absurd hk (by decide)
    by_cases h7:x.op=7
    ·rw [if_pos ⟨h7,hk2⟩,if_pos ⟨h7,hk2⟩]
     refine cH (by omega) (by omega) ?_
     rcases hs with hs | hs
     ·left
      unfold uM at hs
      rw [if_pos (by omega),wAb] at hs
      omega
     ·exact .inr hs
    ·rw [if_neg (fun e=>h7 e.1),if_neg (fun e=>h7 e.1)]
     rcases hs with hs | hs
     ·unfold uM at hs
      rw [if_neg (by omega),if_neg (by omega)] at hs
      exact absurd hs (by simp)
     ·exact hs
   rw [if_neg h57,if_neg h57]
   by_cases h68:x.op=6∨x.op=8
   ·have hs':r=x.b.toNat∨r=x.r.toNat∨u.getD r 0=v.getD r 0:=by
     rcases hs with hs | hs
     ·unfold uM at hs
      rw [if_neg (by omega),if_pos h68] at hs
      simp only [List.mem_cons,List.not_mem_nil,or_false] at hs
      omega
     ·exact .inr (.inr hs)
    rw [if_pos h68,if_pos h68]
    have hin :∀w1 w2:Int,((u.set x.r.toNat w1).set x.b.toNat w2).getD r 0=((v.set x.r.toNat w1).set x.b.toNat w2).getD r 0:=by
     intro w1 w2
     refine cH (by rw [wBb]; omega) (by rw [wBb]; omega) ?_
     rcases hs' with e | e
     ·exact .inl e
     ·exact .inr (cH (by omega) (by omega) e)
    by_cases hq:(wP c).2.2=3∧x.op=8
    ·rw [if_pos hq,if_pos hq]
     exact cH (by rw [wBb,wBb]; omega) (by rw [wBb,wBb]; omega) (.inr (hin _ _))
    ·rw [if_neg hq,if_neg hq]
     exact hin _ _
   ·rw [if_neg h68,if_neg h68]
    simp only
    rcases hs with hs | hs
    ·unfold uM at hs
     rw [if_neg (by omega),if_neg (by omega)] at hs
     exact absurd hs (by simp)
    ·exact hs
  ·rename_i h1 h2 h3
   have h3' :¬(5≤x.op∧x.op≤9):=by
    unfold lB at h3
    simpa using h3
   rcases hs with hs | hs
   ·unfold uM at hs
    rw [if_neg (by omega),if_neg (by omega)] at hs
    exact absurd hs (by simp)
   ·exact hs
def qW2 (l:List Ins) (a:Nat):Prop:=(1≤(l.getD a default).op∧(l.getD a default).op≤4)∧a+1<l.length∧¬qCy l (a+1) (l.getD a default).r
def Trm (l k:List Ins):Prop:=k.length=l.length∧∀a,a<l.length→k.getD a default=l.getD a default∨(qW2 l a∧k.getD a default=⟨11,0,0,0,((a+1:Nat):Int)⟩)
theorem Trm.refl (l:List Ins):Trm l l:=⟨rfl,fun _ _=>.inl rfl⟩
structure LvI (p q:wU) (s t:qS):Prop where
 ok:qY p s=true
 okq:qY q t=true
 chs:t.chs=s.chs
 tr:t.tr=s.tr
 len:t.ths.length=s.ths.length
 th :∀i,i<s.ths.length→(thd t i).at_=(thd s i).at_∧(thd t i).st=(thd s i).st∧∀r:Nat,r<4→qCy (body p i) (thd s i).at_.toNat r→(thd t i).regs.getD r 0=(thd s i).regs.getD r 0
theorem LvI.put {p q:wU} {s t:qS} {i:Nat} (h:LvI p q s t) (hi:i<s.ths.length) {T U:yJ} {c:List jS} {tr:List bK}
  (h1:U.at_=T.at_) (h2:U.st=T.st) (h3 :∀r:Nat,r<4→qCy (body p i) T.at_.toNat r→U.regs.getD r 0=T.regs.getD r 0)
  (k1:qY p ⟨s.ths.set i T,c,tr⟩=true) (k2:qY q ⟨t.ths.set i U,c,tr⟩=true):LvI p q ⟨s.ths.set i T,c,tr⟩ ⟨t.ths.set i U,c,tr⟩:=by
 refine ⟨k1,k2,rfl,rfl,by simp only [wBb]; exact h.len,fun j hj=>?_⟩
 have hj':j<s.ths.length:=by simpa using hj
 have hl:=h.len
 rw [oB T hi,oB U (by omega)]
 by_cases e:j=i
 ·subst e
  rw [if_pos rfl,if_pos rfl]
  exact ⟨h1,h2,h3⟩
 ·rw [if_neg e,if_neg e]
  exact h.th j hj'
theorem LvI.step {p q:wU} (hT :∀i,i<p.bods.length→Trm (body p i) (body q i)) {s t:qS} (h:LvI p q s t) (who:Int) :
  (qT q t who).2=(qT p s who).2∧LvI p q (qT p s who).1 (qT q t who).1:=by
 by_cases hw:0≤who∧who.toNat<s.ths.length
 case neg =>
  have hno :∀(q:wU) (s':qS),s'.ths.length=s.ths.length→wQ q s' who=2:=by
   intro q s' hl
   unfold wQ
   have hw2:qV who 0 ((s'.ths.length:Int)-1)=false:=by
    cases hh:qV who 0 ((s'.ths.length:Int)-1)
    ·rfl
    ·rw [qK] at hh
     exact absurd ⟨hh.1,by omega⟩ hw
   rw [hw2,if_pos rfl]
  unfold qT
  rw [hno p s rfl,hno q t h.len]
  exact ⟨rfl,h⟩
 obtain ⟨i,rfl⟩:=Int.eq_ofNat_of_zero_le hw.1
 have hi:i<s.ths.length:=by simpa using hw.2
 clear hw
 have hl:=h.len
 have hit:i<t.ths.length:=by omega
 have hA:=tW h.ok hi
 have hAt:=tW h.okq hit
 obtain ⟨e1,e2,e3⟩:=h.th i hi
 have hat0:0≤(thd s i).at_:=hA.at0
 have hat1:(thd s i).at_.toNat<(body p i).length:=hA.at1
 obtain ⟨b1,b2⟩:=hT i hA.hb
 have hx:ins p s i=(body p i).getD (thd s i).at_.toNat default:=rfl
 have hy:ins q t i=(body q i).getD (thd s i).at_.toNat default:=by
  show (body q i).getD (thd t i).at_.toNat default=_
  rw [e1]
 have hcase:=b2 _ hat1
 rw [←hx,←hy] at hcase
 have hop:=hA.op
 have hst:(t.ths.getD i default).st=(s.ths.getD i default).st:=e2
 have hcode:wQ q t i=wQ p s i:=by
  unfold wQ
  rw [wBl,hst,h.chs,h.tr,hl]
  rcases hcase with e | ⟨⟨d1,_⟩,e⟩
  ·rw [e]
  ·rw [←hx] at d1
   rw [e]
   have c1 :¬((11:Int)=10∧(s.tr.length:Int)=4000):=by omega
   have c2 :¬((ins p s i).op=10∧(s.tr.length:Int)=4000):=by omega
   have c3 :¬(ins p s i).op=5∧¬(ins p s i).op=6:=by omega
   have c4 :¬(11:Int)=5∧¬(11:Int)=6:=by omega
   simp only [c1,c2,or_false]
   rw [if_pos c3,if_pos c4]
 by_cases hc:wQ p s i=0
 case neg =>
  have g1:qT p s i=(s,wQ p s i):=by unfold qT; rw [if_neg hc]
  have g2:qT q t i=(t,wQ p s i):=by unfold qT; rw [hcode,if_neg hc]
  rw [g1,g2]
  exact ⟨rfl,h⟩
 have k1:=dM i h.ok
 have k2:=dM i h.okq
 have g1:qT p s i=(wN p s i,0):=by unfold qT; rw [if_pos hc]; rfl
 have g2:qT q t i=(wN q t i,0):=by unfold qT; rw [hcode,if_pos hc]; rfl
 rw [g1,g2]
 rw [g1] at k1
 rw [g2] at k2
 refine ⟨rfl,?_⟩
 show LvI p q (wN p s i) (wN q t i)
 have hW:=qC2 h.ok hi
 have hlv:=nB (body p i)
 have hrl:(thd s i).regs.length=4:=hA.regs
 have hrt:(thd t i).regs.length=4:=hAt.regs
 rcases hcase with e | ⟨⟨d1,d2,d3⟩,e⟩
 ·have ho4:Op4 (ins p s i):=⟨hA.r0,by have:=hA.r1; omega,hA.a0,by have:=hA.a1; omega,hA.b0,by have:=hA.b1; omega⟩
  have hrd :∀r∈vO (ins p s i),(thd s i).regs.getD r.toNat 0=(thd t i).regs.getD r.toNat 0:=by
   intro r hr
   have hr4:0≤r∧r<4:=by
    have a1:=hA.a1
    have b1:=hA.b1
    have a0:=hA.a0
    have b0:=hA.b0
    unfold vO at hr
    split at hr
    ·simp only [List.mem_cons,List.not_mem_nil,or_false] at hr
     omega
    split at hr
    ·rw [wAb] at hr
     omega
    ·exact absurd hr (by simp)
   obtain ⟨n,rfl⟩:=Int.eq_ofNat_of_zero_le hr4.1
   exact (e3 n (by omega) (hlv _ _ hat1 (.inl hr))).symm
  obtain ⟨f1,f2,f3,f4,f5⟩:=qSz ho4 hrl hrt hrd
  have ec:chn t (ins p s i).n.toNat=chn s (ins p s i).n.toNat:=by unfold chn; rw [h.chs]
  have hD:wN q t i=if (ins p s i).op=13 then ⟨t.ths.set i ⟨(thd t i).at_,(thd t i).regs,1⟩,s.chs,s.tr⟩ else vM q ⟨t.ths,qCs (ins p s i) (thd s i).regs s.chs,qCq i (ins p s i) (thd s i).regs s.tr⟩ i ⟨(thd s i).at_,cC (ins p s i) (thd t i).regs (chn s (ins p s i).n.toNat),(thd s i).st⟩ (eL (ins p s i) (thd s i).regs (chn s (ins p s i).n.toNat)) (qCr (ins p s i) (thd s i).regs (thd s i).at_):=by
   rw [rE hAt.op,e,ec,h.chs,h.tr,f1,f2,f3,f4,e2]
   rw [e1]
  rw [hD] at k2⊢
  revert k1 hW
  generalize wN p s i=S'
  intro k1 hW
  revert k1
  cases hW with
  | ended h13 =>
   intro k1
   rw [if_pos h13] at k2⊢
   exact h.put hi e1 rfl e3 k1 k2
  | fault hf =>
   intro k1
   have h13 :¬(ins p s i).op=13:=by
    intro h13
    have hx13:lB (ins p s i)=false:=by unfold lB; simp; omega
    unfold eL at hf
    rw [hx13] at hf
    simp at hf
   rw [if_neg h13,hf,qUr] at k2⊢
   have q1:=rD (hY h.ok hi) hf
   have q2:cC (ins p s i) (thd t i).regs (chn s (ins p s i).n.toNat)=(thd t i).regs:=rD (hY h.ok hi) (by rw [←f3]; exact hf)
   refine h.put hi rfl rfl ?_ k1 k2
   intro r hr hL
   show (cC (ins p s i) (thd t i).regs (chn s (ins p s i).n.toNat)).getD r 0=(cC (ins p s i) (thd s i).regs (chn s (ins p s i).n.toNat)).getD r 0
   rw [q1,q2]
   exact e3 r hr hL
  | next n hok h13 hn hl2 hm =>
   intro k1
   rw [if_neg h13,hok,hn,qQ6 (by rw [b1]; omega)] at k2⊢
   refine h.put hi rfl rfl ?_ k1 k2
   intro r hr hL
   show (cC (ins p s i) (thd t i).regs (chn s (ins p s i).n.toNat)).getD r 0=(cC (ins p s i) (thd s i).regs (chn s (ins p s i).n.toNat)).getD r 0
   refine (f5 _ r hr ?_ hok).symm
   by_cases hs:(r:Int)∈uM (ins p s i)
   ·exact .inl hs
   ·right
    exact (e3 r hr (hlv _ _ hat1 (.inr ⟨hs,_,hm,by rw [wBl]; rw [wBl] at hL; exact hL⟩))).symm
 ·rw [←hx] at d1 d3
  have hD:wN q t i=⟨t.ths.set i ⟨(((thd s i).at_.toNat+1:Nat):Int),(thd t i).regs,(thd s i).st⟩,s.chs,s.tr⟩:=by
   obtain ⟨j1,j2,j3,j4⟩:=qUh (x:=ins q t i) (.inl (by rw [e])) i (thd t i).regs (chn t (ins q t i).n.toNat) t.chs t.tr
   have n2:qCr (ins q t i) (thd t i).regs (thd t i).at_=(((thd s i).at_.toNat+1:Nat):Int):=by
    rw [e]
    unfold qCr
    rw [if_pos rfl]
   rw [rE hAt.op,if_neg (by rw [e]; simp),j1,j2,j3,j4,n2,qQ6 (by rw [b1]; omega),h.chs,h.tr,e2]
  rw [hD] at k2⊢
  have hxc:lB (ins p s i)=false:=by unfold lB; simp; omega
  have hC:qCs (ins p s i) (thd s i).regs s.chs=s.chs:=by unfold qCs; rw [hxc]; rfl
  have hTr:qCq i (ins p s i) (thd s i).regs s.tr=s.tr:=by unfold qCq; rw [if_neg (by omega)]
  revert k1 hW
  generalize wN p s i=S'
  intro k1 hW
  revert k1
  cases hW with
  | ended h13=>exact absurd h13 (by omega)
  | fault hf =>
   unfold eL at hf
   rw [hxc] at hf
   simp at hf
  | next n hok h13 hn hl2 hm =>
   intro k1
   rw [hC,hTr] at k1⊢
   have hn2:n=(thd s i).at_.toNat+1:=by
    unfold qCr at hn
    rw [if_neg (by omega),if_neg (by omega)] at hn
    omega
   subst hn2
   refine h.put hi rfl rfl ?_ k1 k2
   intro r hr hL
   rw [wBl] at hL
   have hne:(r:Int)≠(ins p s i).r:=by
    intro e
    rw [e] at hL
    exact d3 hL
   have hr0:=hA.r0
   have hns:(r:Int)∉uM (ins p s i):=by
    unfold uM
    rw [if_pos (by omega),wAb]
    exact hne
   have hold:=e3 r hr (hlv _ _ hat1 (.inr ⟨hns,_,hm,by rw [wBl]; exact hL⟩))
   have hrn :¬(ins p s i).r.toNat=r:=by omega
   have hR:(cC (ins p s i) (thd s i).regs (chn s (ins p s i).n.toNat)).getD r 0=(thd s i).regs.getD r 0:=by
    unfold cC
    rw [hxc]
    repeat' split
    all_goals first
     | (simp [qZw,List.getElem?_set,hrn]; done)
     | (rename_i hh; exact absurd hh Bool.false_ne_true)
     | rfl
   show (thd t i).regs.getD r 0=(cC (ins p s i) (thd s i).regs (chn s (ins p s i).n.toNat)).getD r 0
   rw [hR,hold]
theorem LvI.run {p q:wU} (hT :∀i,i<p.bods.length→Trm (body p i) (body q i)) :∀(l:List Int) {s t:qS},LvI p q s t→LvI p q (rZ p s l) (rZ q t l)∧eR q t l=eR p s l
 | [],s,t,h=>⟨h,rfl⟩
 | x::l,s,t,h=>by
  obtain ⟨h1,h2⟩:=h.step hT x
  obtain ⟨h3,h4⟩:=LvI.run hT l h2
  simp only [rZ,eR]
  exact ⟨h3,by rw [h1,h4]⟩
end Go.Sep
