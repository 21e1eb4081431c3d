/- Contracts of functions. -/
import Derived.Test.YtfecojefbnnknaaTxx20
open Int renaming toNat_natCast → wAz
open List renaming drop_one → wAs, getD_eq_getElem?_getD → qZa, length_set → wAp, mem_singleton → qZp
namespace Go.Sep
set_option maxHeartbeats 16000000
open Go.Proofs
set_option linter.unusedSimpArgs false
set_option linter.unusedVariables false
set_option maxRecDepth 100000
def m215:MFn:=⟨22,[.t 2],kr [xb 1 0,xo 2 (.mv (.c (.nil)))] (.seq (kr [xa 3 0 1,xl 4 3] (.blk 0 (.seq (kr [bI 6 .eql 4 2,xv 5 6] (.cond 5 (.skip) (kr [bI 7 .eql 4 3,xv 5 7] (.cond 5 (.skip) (xr [bI 8 .eql 4 4,xv 5 8]))))) (.cond 5 (kR [xa 9 2 1,xl 10 9,xa 11 3 1,xl 12 11,xo 13 (.mkSl [xz] 2 [(0,.t 10),(1,.t 12)]),xv 2 13]) (.seq (kr [bI 15 .eql 4 5,xv 14 15] (.cond 14 (.skip) (kr [bI 16 .eql 4 7,xv 14 16] (.cond 14 (.skip) (kr [bI 17 .eql 4 10,xv 14 17] (.cond 14 (.skip) (xr [bI 18 .eql 4 12,xv 14 18]))))))) (kF 14 [xa 19 2 1,xl 20 19,xo 21 (.mkSl [xz] 1 [(0,.t 20)]),xv 2 21])))))) (kR [xo 2 (.mv (.c (.nil)))]))⟩
def m218:MFn:=⟨9,[.t 4],kr [xF 4] (kR [xv 5 0,xv 6 1,xc2 7 271 (.t 5) (.t 6),bI 8 .geq 7 0,xv 4 8])⟩
def m271:MFn:=⟨19,[.t 4],kr [xI 4 0] (.seq (kr [xv 6 0,xe 7 6,xI 8 0] (.blk 0 (.loop (kr [bT 9 .lss 8 7] (.seq (kX 9 0) (.seq (.blk 1 (kr [xv 10 8,xv 5 10] (kr [xv 11 1,xv 12 0,xv 13 5,xD 14 1 12 13,xl 15 14,bT 16 .eql 11 15] (kF 16 [xv 17 5,xv 4 17])))) (xr [bI 18 .add 8 1,xv 8 18]))))))) (kR [xo 4 (.mv (.c (.int .i64 (-1))))]))⟩
def gX (x:Ins):List Int:=if x.op=2∨x.op=3∨x.op=4 then [x.a,x.b] else if x.op=5∨x.op=7∨x.op=10∨x.op=12 then [x.a] else []
theorem qJa (x:Ins):wB Try.prog num 215 [.agg (dZ x)] [] (.sl .own 1 (wK (gX x))):=by
 refine EN m215 Try.func33 ?_
 unfold m215
 by_cases h2:x.op=2
 ·simp only [go_sem,seval,h2]
  repeat refine K ?_
  refine ⟨_,Sub.refl _,wO ?_⟩; simp [-wAs]
  all_goals simp [gX,h2,wK]
 by_cases h3:x.op=3
 ·simp only [go_sem,seval,h2,h3]
  repeat refine K ?_
  refine ⟨_,Sub.refl _,wO ?_⟩; simp [-wAs]
  all_goals simp [gX,h3,wK]
 by_cases h4:x.op=4
 ·simp only [go_sem,seval,h2,h3,h4]
  repeat refine K ?_
  refine ⟨_,Sub.refl _,wO ?_⟩; simp [-wAs]
  all_goals simp [gX,h4,wK]
 by_cases h5:x.op=5
 ·simp only [go_sem,seval,h2,h3,h4,h5]
  repeat refine K ?_
  refine ⟨_,Sub.refl _,wO ?_⟩; simp [-wAs]
  all_goals simp [gX,h5,wK]
 by_cases h7:x.op=7
 ·simp only [go_sem,seval,h2,h3,h4,h5,h7]
  repeat refine K ?_
  refine ⟨_,Sub.refl _,wO ?_⟩; simp [-wAs]
  all_goals simp [gX,h7,wK]
 by_cases h10:x.op=10
 ·simp only [go_sem,seval,h2,h3,h4,h5,h7,h10]
  repeat refine K ?_
  refine ⟨_,Sub.refl _,wO ?_⟩; simp [-wAs]
  all_goals simp [gX,h10,wK]
 by_cases h12:x.op=12
 ·simp only [go_sem,seval,h2,h3,h4,h5,h7,h10,h12]
  repeat refine K ?_
  refine ⟨_,Sub.refl _,wO ?_⟩; simp [-wAs]
  all_goals simp [gX,h12,wK]
 simp only [go_sem,seval,h2,h3,h4,h5,h7,h10,h12]
 repeat refine K ?_
 refine ⟨_,Sub.refl _,wO ?_⟩; simp [-wAs]
 all_goals simp [gX,h2,h3,h4,h5,h7,h10,h12,wK]
theorem qUf (l:List Int) (v:Int) :∀n,n<l.length→l.getD n 0=v→∃n,n<l.length∧l.getD n 0=v∧∀m,m<n→l.getD m 0≠v:=by
 intro n
 induction n using Nat.strongRecOn with
 | ind n ih =>
  intro h1 h2
  by_cases hb :∃m,m<n∧l.getD m 0=v
  ·obtain ⟨m,hm,e⟩:=hb
   exact ih m hm (by omega) e
  ·exact ⟨n,h1,h2,fun m hm e=>hb ⟨m,hm,e⟩⟩
theorem qLv (l:List Int) (v:Int) (hl:l.length<2^47) :∃i:Int,(0≤i↔v∈l)∧wB Try.prog num 271 [.sl .bw 1 (wK l),.int .i64 v] [] (.int .i64 i):=by
 by_cases hv:v∈l
 ·obtain ⟨n,hn,hat,hbefore⟩ :∃n,n<l.length∧l.getD n 0=v∧∀m,m<n→l.getD m 0≠v:=by
   have hex :∃n,n<l.length∧l.getD n 0=v:=by
    obtain ⟨n,hn,e⟩:=List.getElem_of_mem hv
    exact ⟨n,hn,by rw [←e]; simp [qZa,hn]⟩
   obtain ⟨n,h1,h2⟩:=hex
   exact qUf l v n h1 h2
  refine ⟨n,by simp [hv],?_⟩
  refine EN m271 Try.func61 ?_
  unfold m271
  simp only [go_sem,seval]
  repeat refine K ?_
  refine wR (ι:=Nat) (fun i=>.mk [(0,.sl .bw 1 (wK l)),(1,.int .i64 v),(7,.int .i64 l.length),(8,.int .i64 i)] [] 10) (fun i=>i≤n) (fun i=>l.length-i) 0 (by omega) ?_ ?_
  ·refine Sub.shape [] id (by omega) ?_ ?_ ?_ ?_<;>simp [qU]
  ·intro i hi
   have d1:decide ((i:Int)<(l.length:Int))=true:=by simp; omega
   have hg:=qJ l i (by omega)
   by_cases he:i=n
   ·subst he
    rw [hat] at hg
    simp only [go_sem,seval,d1,hg]
    repeat refine K ?_
    refine fz ?_; simp [jE,wL,wN,yF,-wAs]
   ·have hne:=hbefore i (by omega)
    have d2:decide (v=l.getD i 0)=false:=by simp only [decide_eq_false_iff_not]; exact fun e=>hne e.symm
    generalize l.getD i 0=u at hg d2
    simp only [go_sem,seval,d1,hg,d2,wD (i:=i) (by omega)]
    repeat refine K ?_
    refine wC (i+1) (Sub.shape [] id (by omega) ?_ ?_ ?_ ?_) (by omega) (by omega)<;>simp [qU]
 ·refine ⟨-1,by simp [hv],?_⟩
  refine EN m271 Try.func61 ?_
  unfold m271
  simp only [go_sem,seval]
  repeat refine K ?_
  refine wR (ι:=Nat) (fun i=>.mk [(0,.sl .bw 1 (wK l)),(1,.int .i64 v),(7,.int .i64 l.length),(8,.int .i64 i)] [] 10) (fun i=>i≤l.length) (fun i=>l.length-i) 0 (by omega) ?_ ?_
  ·refine Sub.shape [] id (by omega) ?_ ?_ ?_ ?_<;>simp [qU]
  ·intro i hi
   simp only [go_sem,seval]
   refine qZ (fun hc=>?_) (fun hc=>?_)
   ·simp only [decide_eq_true_eq] at hc
    have hl':i<l.length:=by omega
    have hg:=qJ l i hl'
    have d2:decide (v=l.getD i 0)=false:=by simp only [decide_eq_false_iff_not]; exact fun e=>hv (e▸yL l i 0 hl')
    generalize l.getD i 0=u at hg d2
    simp only [go_sem,seval,hg,d2,wD (i:=i) (by omega)]
    repeat refine K ?_
    refine wC (i+1) (Sub.shape [] id (by omega) ?_ ?_ ?_ ?_) (by omega) (by omega)<;>simp [qU]
   ·simp only [go_sem,seval]
    repeat refine K ?_
    refine fz ?_; simp [jE,wL,wN,yF,-wAs]
theorem qBa (l:List Int) (v:Int) (hl:l.length<2^47):wB Try.prog num 218 [.sl .bw 1 (wK l),.int .i64 v] [] (.bool (decide (v∈l))):=by
 obtain ⟨i,hi,hc⟩:=qLv l v hl
 have hd:decide (0≤i)=decide (v∈l):=by simp only [hi]
 refine EN m218 Try.func35 ?_
 unfold m218
 simp only [go_sem,seval]
 repeat refine K ?_
 refine CA [] (hc) ?_
 try simp only [go_sem,seval]
 repeat refine K ?_
 try simp only [go_sem,seval,hd]
 repeat refine K ?_
 refine fz ?_; simp [jE,wL,wN,yF,-wAs]
def qK0 (l:List Ins) (N:Nat→Int→Prop):Prop :=∀a r,a<l.length→(r∈gX (l.getD a default)∨(r∉gW (l.getD a default)∧∃m∈vM l a,N m.toNat r))→N a r
def qG9 (l:List Ins) (a:Nat) (r:Int):Prop :=∀N,qK0 l N→N a r
theorem qBj (l:List Ins):qK0 l (qG9 l):=fun a r ha h N hN=>hN a r ha (h.imp_right fun ⟨h1,m,h2,h3⟩=>⟨h1,m,h2,h3 N hN⟩)
theorem cG {u v:List Int} {r i:Nat} {w:Int} (hu:i<u.length) (hv:i<v.length) (h:r=i∨u.getD r 0=v.getD r 0):(u.set i w).getD r 0=(v.set i w).getD r 0:=by
 rw [jC _ _ _ _ _ hu,jC _ _ _ _ _ hv]
 split
 ·rfl
 ·rename_i hn
  exact h.resolve_left hn
theorem qSe {x:Ins} {u v:List Int} (ho:Op4 x) (hu:u.length=4) (hv:v.length=4) (h :∀r∈gX x,u.getD r.toNat 0=v.getD r.toNat 0) :
  (∀a,qCf x u a=qCf x v a)∧(∀chs,qCg x u chs=qCg x v chs)∧(∀c,eK x u c=eK x v c)∧(∀i tr,qCe i x u tr=qCe i x v tr)∧
  (∀(c:jN) (r:Nat),r<4→((r:Int)∈gW x∨u.getD r 0=v.getD r 0)→eK x u c=true→(cB x u c).getD r 0=(cB x v c).getD r 0):=by
 obtain ⟨r0,r1,a0,a1,b0,b1⟩:=ho
 have hch :∀c,lI x=true→(qW ⟨0,u,0⟩ c x).2=(qW ⟨0,v,0⟩ c x).2:=by
  intro c hc
  have ha:x.op=5∨x.op=7→u.getD x.a.toNat 0=v.getD x.a.toNat 0:=by
   intro hx
   refine h x.a ?_
   unfold gX
   rw [if_neg (by omega),if_pos (by omega)]
   exact List.mem_singleton.2 rfl
  unfold qW reg
  simp only
  split
  ·rename_i hx
   rw [ha hx]
  split
  ·rfl
  ·rfl
 refine ⟨fun a=>?_,fun chs=>?_,fun c=>?_,fun i tr=>?_,fun c r hr hs hk=>?_⟩
 ·unfold qCf
  split
  ·rfl
  split
  ·rename_i h12
   rw [h x.a (by unfold gX; rw [if_neg (by omega),if_pos (by omega)]; exact List.mem_singleton.2 rfl)]
  ·rfl
 ·unfold qCg
  split
  ·rename_i hc
   rw [hch _ hc]
  ·rfl
 ·unfold eK
  split
  ·rename_i hc
   rw [hch _ hc]
  ·rfl
 ·unfold qCe
  split
  ·rename_i h10
   rw [h x.a (by unfold gX; rw [if_neg (by omega),if_pos (by omega)]; exact List.mem_singleton.2 rfl)]
  ·rfl
 ·unfold cB
  split
  ·rename_i h1
   refine cG (by omega) (by omega) ?_
   rcases hs with hs | hs
   ·left
    unfold gW at hs
    rw [if_pos (by omega),qZp] at hs
    omega
   ·exact .inr hs
  split
  ·rename_i h1 h2
   have ha:u.getD x.a.toNat 0=v.getD x.a.toNat 0:=h x.a (by unfold gX; rw [if_pos h2]; simp)
   have hb:u.getD x.b.toNat 0=v.getD x.b.toNat 0:=h x.b (by unfold gX; rw [if_pos h2]; simp)
   rw [ha,hb]
   refine cG (by omega) (by omega) ?_
   rcases hs with hs | hs
   ·left
    unfold gW at hs
    rw [if_pos (by omega),qZp] at hs
    omega
   ·exact .inr hs
  split
  ·rename_i h1 h2 hc
   have hcx:=hc
   unfold lI at hcx
   simp only [Bool.and_eq_true,decide_eq_true_eq] at hcx
   unfold eK at hk
   rw [if_pos hc] at hk
   have e2:=hch c hc
   unfold qW reg wU at hk e2⊢
   simp only at hk e2⊢
   by_cases h57:x.op=5∨x.op=7
   ·have ha:u.getD x.a.toNat 0=v.getD x.a.toNat 0:=h x.a (by unfold gX; rw [if_neg (by omega),if_pos (by omega)]; exact List.mem_singleton.2 rfl)
    rw [if_pos h57,if_pos h57,ha]
    rw [if_pos h57,ha] at hk
    simp only at hk⊢
    have hk2 :¬(yB c (v.getD x.a.toNat 0)).2=2:=by
     intro e
     rw [e] at hk
     exact absurd hk (by decide)
    by_cases h7:x.op=7
    ·rw [if_pos ⟨h7,hk2⟩,if_pos ⟨h7,hk2⟩]
     refine cG (by omega) (by omega) ?_
     rcases hs with hs | hs
     ·left
      unfold gW at hs
      rw [if_pos (by omega),qZp] at hs
      omega
     ·exact .inr hs
    ·rw [if_neg (fun e=>h7 e.1),if_neg (fun e=>h7 e.1)]
     rcases hs with hs | hs
     ·unfold gW at hs
      rw [if_neg (by omega),if_neg (by omega)] at hs
      exact absurd hs (by simp)
     ·exact hs
   rw [if_neg h57,if_neg h57]
   by_cases h68:x.op=6∨x.op=8
   ·have hs':r=x.b.toNat∨r=x.r.toNat∨u.getD r 0=v.getD r 0:=by
     rcases hs with hs | hs
     ·unfold gW at hs
      rw [if_neg (by omega),if_pos h68] at hs
      simp only [List.mem_cons,List.not_mem_nil,or_false] at hs
      omega
     ·exact .inr (.inr hs)
    rw [if_pos h68,if_pos h68]
    have hin :∀w1 w2:Int,((u.set x.r.toNat w1).set x.b.toNat w2).getD r 0=((v.set x.r.toNat w1).set x.b.toNat w2).getD r 0:=by
     intro w1 w2
     refine cG (by rw [wAp]; omega) (by rw [wAp]; omega) ?_
     rcases hs' with e | e
     ·exact .inl e
     ·exact .inr (cG (by omega) (by omega) e)
    by_cases hq:(wI c).2.2=3∧x.op=8
    ·rw [if_pos hq,if_pos hq]
     exact cG (by rw [wAp,wAp]; omega) (by rw [wAp,wAp]; omega) (.inr (hin _ _))
    ·rw [if_neg hq,if_neg hq]
     exact hin _ _
   ·rw [if_neg h68,if_neg h68]
    simp only
    rcases hs with hs | hs
    ·unfold gW at hs
     rw [if_neg (by omega),if_neg (by omega)] at hs
     exact absurd hs (by simp)
    ·exact hs
  ·rename_i h1 h2 h3
   have h3' :¬(5≤x.op∧x.op≤9):=by
    unfold lI at h3
    simpa using h3
   rcases hs with hs | hs
   ·unfold gW at hs
    rw [if_neg (by omega),if_neg (by omega)] at hs
    exact absurd hs (by simp)
   ·exact hs
def qQ3 (l:List Ins) (a:Nat):Prop:=(1≤(l.getD a default).op∧(l.getD a default).op≤4)∧a+1<l.length∧¬qG9 l (a+1) (l.getD a default).r
def Trm (l k:List Ins):Prop:=k.length=l.length∧∀a,a<l.length→k.getD a default=l.getD a default∨(qQ3 l a∧k.getD a default=⟨11,0,0,0,((a+1:Nat):Int)⟩)
theorem Trm.refl (l:List Ins):Trm l l:=⟨rfl,fun _ _=>.inl rfl⟩
structure LvI (p q:wT) (s t:qS):Prop where
 ok:qY p s=true
 okq:qY q t=true
 chs:t.chs=s.chs
 tr:t.tr=s.tr
 len:t.ths.length=s.ths.length
 th :∀i,i<s.ths.length→(thd t i).at_=(thd s i).at_∧(thd t i).st=(thd s i).st∧∀r:Nat,r<4→qG9 (body p i) (thd s i).at_.toNat r→(thd t i).regs.getD r 0=(thd s i).regs.getD r 0
theorem LvI.put {p q:wT} {s t:qS} {i:Nat} (h:LvI p q s t) (hi:i<s.ths.length) {T U:yJ} {c:List jN} {tr:List bS}
  (h1:U.at_=T.at_) (h2:U.st=T.st) (h3 :∀r:Nat,r<4→qG9 (body p i) T.at_.toNat r→U.regs.getD r 0=T.regs.getD r 0)
  (k1:qY p ⟨s.ths.set i T,c,tr⟩=true) (k2:qY q ⟨t.ths.set i U,c,tr⟩=true):LvI p q ⟨s.ths.set i T,c,tr⟩ ⟨t.ths.set i U,c,tr⟩:=by
 refine ⟨k1,k2,rfl,rfl,by simp only [wAp]; exact h.len,fun j hj=>?_⟩
 have hj':j<s.ths.length:=by simpa using hj
 have hl:=h.len
 rw [oE T hi,oE U (by omega)]
 by_cases e:j=i
 ·subst e
  rw [if_pos rfl,if_pos rfl]
  exact ⟨h1,h2,h3⟩
 ·rw [if_neg e,if_neg e]
  exact h.th j hj'
theorem LvI.step {p q:wT} (hT :∀i,i<p.bods.length→Trm (body p i) (body q i)) {s t:qS} (h:LvI p q s t) (who:Int) :
  (qQ q t who).2=(qQ p s who).2∧LvI p q (qQ p s who).1 (qQ q t who).1:=by
 by_cases hw:0≤who∧who.toNat<s.ths.length
 case neg =>
  have hno :∀(q:wT) (s':qS),s'.ths.length=s.ths.length→wQ q s' who=2:=by
   intro q s' hl
   unfold wQ
   have hw2:qT who 0 ((s'.ths.length:Int)-1)=false:=by
    cases hh:qT who 0 ((s'.ths.length:Int)-1)
    ·rfl
    ·rw [qK] at hh
     exact absurd ⟨hh.1,by omega⟩ hw
   rw [hw2,if_pos rfl]
  unfold qQ
  rw [hno p s rfl,hno q t h.len]
  exact ⟨rfl,h⟩
 obtain ⟨i,rfl⟩:=Int.eq_ofNat_of_zero_le hw.1
 have hi:i<s.ths.length:=by simpa using hw.2
 clear hw
 have hl:=h.len
 have hit:i<t.ths.length:=by omega
 have hA:=tQ h.ok hi
 have hAt:=tQ h.okq hit
 obtain ⟨e1,e2,e3⟩:=h.th i hi
 have hat0:0≤(thd s i).at_:=hA.at0
 have hat1:(thd s i).at_.toNat<(body p i).length:=hA.at1
 obtain ⟨b1,b2⟩:=hT i hA.hb
 have hx:ins p s i=(body p i).getD (thd s i).at_.toNat default:=rfl
 have hy:ins q t i=(body q i).getD (thd s i).at_.toNat default:=by
  show (body q i).getD (thd t i).at_.toNat default=_
  rw [e1]
 have hcase:=b2 _ hat1
 rw [←hx,←hy] at hcase
 have hop:=hA.op
 have hst:(t.ths.getD i default).st=(s.ths.getD i default).st:=e2
 have hcode:wQ q t i=wQ p s i:=by
  unfold wQ
  rw [wAz,hst,h.chs,h.tr,hl]
  rcases hcase with e | ⟨⟨d1,_⟩,e⟩
  ·rw [e]
  ·rw [←hx] at d1
   rw [e]
   have c1 :¬((11:Int)=10∧(s.tr.length:Int)=4000):=by omega
   have c2 :¬((ins p s i).op=10∧(s.tr.length:Int)=4000):=by omega
   have c3 :¬(ins p s i).op=5∧¬(ins p s i).op=6:=by omega
   have c4 :¬(11:Int)=5∧¬(11:Int)=6:=by omega
   simp only [c1,c2,or_false]
   rw [if_pos c3,if_pos c4]
 by_cases hc:wQ p s i=0
 case neg =>
  have g1:qQ p s i=(s,wQ p s i):=by unfold qQ; rw [if_neg hc]
  have g2:qQ q t i=(t,wQ p s i):=by unfold qQ; rw [hcode,if_neg hc]
  rw [g1,g2]
  exact ⟨rfl,h⟩
 have k1:=dM i h.ok
 have k2:=dM i h.okq
 have g1:qQ p s i=(wG p s i,0):=by unfold qQ; rw [if_pos hc]; rfl
 have g2:qQ q t i=(wG q t i,0):=by unfold qQ; rw [hcode,if_pos hc]; rfl
 rw [g1,g2]
 rw [g1] at k1
 rw [g2] at k2
 refine ⟨rfl,?_⟩
 show LvI p q (wG p s i) (wG q t i)
 have hW:=qBr h.ok hi
 have hlv:=qBj (body p i)
 have hrl:(thd s i).regs.length=4:=hA.regs
 have hrt:(thd t i).regs.length=4:=hAt.regs
 rcases hcase with e | ⟨⟨d1,d2,d3⟩,e⟩
 ·have ho4:Op4 (ins p s i):=⟨hA.r0,by have:=hA.r1; omega,hA.a0,by have:=hA.a1; omega,hA.b0,by have:=hA.b1; omega⟩
  have hrd :∀r∈gX (ins p s i),(thd s i).regs.getD r.toNat 0=(thd t i).regs.getD r.toNat 0:=by
   intro r hr
   have hr4:0≤r∧r<4:=by
    have a1:=hA.a1
    have b1:=hA.b1
    have a0:=hA.a0
    have b0:=hA.b0
    unfold gX at hr
    split at hr
    ·simp only [List.mem_cons,List.not_mem_nil,or_false] at hr
     omega
    split at hr
    ·rw [qZp] at hr
     omega
    ·exact absurd hr (by simp)
   obtain ⟨n,rfl⟩:=Int.eq_ofNat_of_zero_le hr4.1
   exact (e3 n (by omega) (hlv _ _ hat1 (.inl hr))).symm
  obtain ⟨f1,f2,f3,f4,f5⟩:=qSe ho4 hrl hrt hrd
  have ec:chn t (ins p s i).n.toNat=chn s (ins p s i).n.toNat:=by unfold chn; rw [h.chs]
  have hD:wG q t i=if (ins p s i).op=13 then ⟨t.ths.set i ⟨(thd t i).at_,(thd t i).regs,1⟩,s.chs,s.tr⟩ else vJ q ⟨t.ths,qCg (ins p s i) (thd s i).regs s.chs,qCe i (ins p s i) (thd s i).regs s.tr⟩ i ⟨(thd s i).at_,cB (ins p s i) (thd t i).regs (chn s (ins p s i).n.toNat),(thd s i).st⟩ (eK (ins p s i) (thd s i).regs (chn s (ins p s i).n.toNat)) (qCf (ins p s i) (thd s i).regs (thd s i).at_):=by
   rw [pZ hAt.op,e,ec,h.chs,h.tr,f1,f2,f3,f4,e2]
   rw [e1]
  rw [hD] at k2⊢
  revert k1 hW
  generalize wG p s i=S'
  intro k1 hW
  revert k1
  cases hW with
  | ended h13 =>
   intro k1
   rw [if_pos h13] at k2⊢
   exact h.put hi e1 rfl e3 k1 k2
  | fault hf =>
   intro k1
   have h13 :¬(ins p s i).op=13:=by
    intro h13
    have hx13:lI (ins p s i)=false:=by unfold lI; simp; omega
    unfold eK at hf
    rw [hx13] at hf
    simp at hf
   rw [if_neg h13,hf,qUc] at k2⊢
   have q1:=pY (iD h.ok hi) hf
   have q2:cB (ins p s i) (thd t i).regs (chn s (ins p s i).n.toNat)=(thd t i).regs:=pY (iD h.ok hi) (by rw [←f3]; exact hf)
   refine h.put hi rfl rfl ?_ k1 k2
   intro r hr hL
   show (cB (ins p s i) (thd t i).regs (chn s (ins p s i).n.toNat)).getD r 0=(cB (ins p s i) (thd s i).regs (chn s (ins p s i).n.toNat)).getD r 0
   rw [q1,q2]
   exact e3 r hr hL
  | next n hok h13 hn hl2 hm =>
   intro k1
   rw [if_neg h13,hok,hn,qPo (by rw [b1]; omega)] at k2⊢
   refine h.put hi rfl rfl ?_ k1 k2
   intro r hr hL
   show (cB (ins p s i) (thd t i).regs (chn s (ins p s i).n.toNat)).getD r 0=(cB (ins p s i) (thd s i).regs (chn s (ins p s i).n.toNat)).getD r 0
   refine (f5 _ r hr ?_ hok).symm
   by_cases hs:(r:Int)∈gW (ins p s i)
   ·exact .inl hs
   ·right
    exact (e3 r hr (hlv _ _ hat1 (.inr ⟨hs,_,hm,by rw [wAz]; rw [wAz] at hL; exact hL⟩))).symm
 ·rw [←hx] at d1 d3
  have hD:wG q t i=⟨t.ths.set i ⟨(((thd s i).at_.toNat+1:Nat):Int),(thd t i).regs,(thd s i).st⟩,s.chs,s.tr⟩:=by
   obtain ⟨j1,j2,j3,j4⟩:=qU2 (x:=ins q t i) (.inl (by rw [e])) i (thd t i).regs (chn t (ins q t i).n.toNat) t.chs t.tr
   have n2:qCf (ins q t i) (thd t i).regs (thd t i).at_=(((thd s i).at_.toNat+1:Nat):Int):=by
    rw [e]
    unfold qCf
    rw [if_pos rfl]
   rw [pZ hAt.op,if_neg (by rw [e]; simp),j1,j2,j3,j4,n2,qPo (by rw [b1]; omega),h.chs,h.tr,e2]
  rw [hD] at k2⊢
  have hxc:lI (ins p s i)=false:=by unfold lI; simp; omega
  have hC:qCg (ins p s i) (thd s i).regs s.chs=s.chs:=by unfold qCg; rw [hxc]; rfl
  have hTr:qCe i (ins p s i) (thd s i).regs s.tr=s.tr:=by unfold qCe; rw [if_neg (by omega)]
  revert k1 hW
  generalize wG p s i=S'
  intro k1 hW
  revert k1
  cases hW with
  | ended h13=>exact absurd h13 (by omega)
  | fault hf =>
   unfold eK at hf
   rw [hxc] at hf
   simp at hf
  | next n hok h13 hn hl2 hm =>
   intro k1
   rw [hC,hTr] at k1⊢
   have hn2:n=(thd s i).at_.toNat+1:=by
    unfold qCf at hn
    rw [if_neg (by omega),if_neg (by omega)] at hn
    omega
   subst hn2
   refine h.put hi rfl rfl ?_ k1 k2
   intro r hr hL
   rw [wAz] at hL
   have hne:(r:Int)≠(ins p s i).r:=by
    intro e
    rw [e] at hL
    exact d3 hL
   have hr0:=hA.r0
   have hns:(r:Int)∉gW (ins p s i):=by
    unfold gW
    rw [if_pos (by omega),qZp]
    exact hne
   have hold:=e3 r hr (hlv _ _ hat1 (.inr ⟨hns,_,hm,by rw [wAz]; exact hL⟩))
   have hrn :¬(ins p s i).r.toNat=r:=by omega
   have hR:(cB (ins p s i) (thd s i).regs (chn s (ins p s i).n.toNat)).getD r 0=(thd s i).regs.getD r 0:=by
    unfold cB
    rw [hxc]
    repeat' split
    all_goals first
     | (simp [qZa,List.getElem?_set,hrn]; done)
     | (rename_i hh; exact absurd hh Bool.false_ne_true)
     | rfl
   show (thd t i).regs.getD r 0=(cB (ins p s i) (thd s i).regs (chn s (ins p s i).n.toNat)).getD r 0
   rw [hR,hold]
theorem LvI.run {p q:wT} (hT :∀i,i<p.bods.length→Trm (body p i) (body q i)) :∀(l:List Int) {s t:qS},LvI p q s t→LvI p q (rU p s l) (rU q t l)∧eQ q t l=eQ p s l
 | [],s,t,h=>⟨h,rfl⟩
 | x::l,s,t,h=>by
  obtain ⟨h1,h2⟩:=h.step hT x
  obtain ⟨h3,h4⟩:=LvI.run hT l h2
  simp only [rU,eQ]
  exact ⟨h3,by rw [h1,h4]⟩
end Go.Sep
