/- The executor of symbolic states: the texts Enter Enter2 View Open, one after the other. No condition. -/
import Derived.Test.YtfecojefbnnknaaGreatRzSound
import Derived.Below
import Derived.ChangeArms
import Derived.WideShapes
import Derived.DataReads
open Bool renaming and_eq_true → wBp
open List renaming all_cons → wC1, flatMap_cons → wCe, getD_eq_getElem?_getD → wBr, getElem?_eq_getElem → wD8, getElem?_eq_none → wCa, getElem_mem → wCj, length_set → wD6, map_append → wD2, map_cons → wBm, map_map → wD4, mem_append → wCp, mem_cons_of_mem → wCk, mem_map → wD5, mem_or_eq_of_mem_set → wD7, mem_singleton → wC6, nodup_cons → wCb, nodup_nil → wD1, replicate → wBj, take_append_drop → wBv
open Nat renaming le_refl → wBo, le_trans → wD3, lt_of_lt_of_le → wCq
namespace Go.Sep
set_option maxHeartbeats 16000000
set_option linter.unusedVariables false
set_option linter.unusedSimpArgs false
def vY:FP→wT
 | []=>[]
 | (n,some r,_)::fp=>(n,r)::vY fp
 | (_,none,_)::fp=>vY fp
def uW:FP→wT
 | []=>[]
 | (n,_,some r)::fp=>(n,r)::uW fp
 | (_,_,none)::fp=>uW fp
def qCe (Lf:Nat→List Nat) (h:wT):List Nat:=h.flatMap fun x=>Lf x.1
def qZg (e:Env) (Lf:Nat→List Nat) (fp:FP) (res:AV) (v:Value) (w':World):Prop :=
 ∃e' Lf' L,e'.w=w'∧dP e (qQ (vY fp)) Lf (fun n=>n∈fp.map (·.1)) e' (qQ (uW fp)) Lf'∧RV e' res v L∧L.Nodup∧
  (∀b∈L,b<e'.w.heap.size∧(e.w.heap.size≤b∨∃m,m∈fp.map (·.1)∧qQ (vY fp) m≠none∧b∈Lf m))∧
  ∀b∈L,∀m,m∈fp.map (·.1)→qQ (uW fp) m≠none→b∉Lf' m
def qZh (P:Program) (g:Nat):Prop :=∃fn,P.funcs[g]?=some fn∧(fn.name == "runtime.NumGoroutine")=false∧fn.body.isNone=false
def qY (P:Program) (num:Nat→Nat) (f:Nat) (args:List AV) (fp:FP) (res:AV):Prop :=
 qZh P (num f)∧∀(e:Env) (Lf:Nat→List Nat) (cs:List Value),e.num=num→e.w0=e.w→Ok e (qCe Lf (vY fp)) (qQ (vY fp)) Lf→RVs e args cs []→
  Calls P (num f) cs.toArray e.w fun | .returned v,w'=>qZg e Lf fp res v w' | _,_=>False
def xU (off len:Nat) (rows:List (List AV)):List (List AV):=if off=0∧rows.length=len then rows else (rows.drop off).take len
theorem qN2 {off len:Nat} {rows:List (List AV)}:xU off len rows=(rows.drop off).take len:=by
 unfold xU
 split
 ·rename_i h
  rw [h.1,←h.2]
  simp
 ·rfl
mutual
def fT:wT→AV→AV×wT×Prop
 | h,.ns k off len=>(match qQ h k with | some (sz,rows)=>(.sl .own sz (xU off len rows),del h k,off+len≤rows.length) | none=>(.ns k off len,h,True))
 | h,.agg cs=>(.agg (gA h cs).1,(gA h cs).2.1,(gA h cs).2.2)
 | h,.tup cs=>(.tup (gA h cs).1,(gA h cs).2.1,(gA h cs).2.2)
 | h,v=>(v,h,True)
def gA:wT→List AV→List AV×wT×Prop
 | h,[]=>([],h,True)
 | h,c::cs=>((fT h c).1::(gA (fT h c).2.1 cs).1,(gA (fT h c).2.1 cs).2.1,(fT h c).2.2∧(gA (fT h c).2.1 cs).2.2)
end
mutual
def wK:AV→AV→Prop
 | .nil,d=>d=.nil∨∃m sz,d=.sl m sz []
 | .agg cs,d =>∃ds,d=.agg ds∧wJ cs ds
 | .tup cs,d =>∃ds,d=.tup ds∧wJ cs ds
 | c,d=>c=d
def wJ:List AV→List AV→Prop
 | [],ds=>ds=[]
 | c::cs,ds =>∃d ds',ds=d::ds'∧wK c d∧wJ cs ds'
end
def dN (t:List (Nat×AV)) (h:wT):qE1→AV×Prop
 | .t n=>(wD t n,True)
 | .cell a n ag=>match wD t a with
  | .ptr nm 0 0=>(match qQ h nm with
   | some (sz,[cells])=>(if ag then .agg cells else cells.getD 0 .any,cells.length=n∧∀c∈cells,qAh c=false)
   | _=>(.any,False))
  | _=>(.any,False)
def wR:List AV→AV
 | [v]=>v
 | vs=>.tup vs
def qM2:List Prop→Prop
 | []=>True
 | p::ps=>p∧qM2 ps
def yQ (rs:List qE1) (fp:FP) (res:AV):AS→Prop
 | .bad=>True
 | .mk t h nx=>qM2 (rs.map fun r=>(dN t h r).2)∧(gA h (rs.map fun r=>(dN t h r).1)).2.2∧
   (∃vs,wJ (gA h (rs.map fun r=>(dN t h r).1)).1 vs∧res=wR vs)∧
   ∀x∈fp,qQ (gA h (rs.map fun r=>(dN t h r).1)).2.1 x.1=qQ (uW fp) x.1
def Fin (rs:List qE1) (fp:FP) (res:AV) (s:AS):Prop :=∃s1,Sub s s1∧yQ rs fp res s1
mutual
theorem qYj {e:Env} :∀{c d:AV} {v:Value} {L:List Nat},wK c d→RV e c v L→RV e d v L
 | .nil,d,v,L,hn,h=>by
  simp only [wK] at hn
  simp only [RV] at h
  obtain ⟨rfl,rfl⟩:=h
  rcases hn with rfl | ⟨m,sz,rfl⟩
  ·simp [RV]
  ·cases m
   ·simp [RV]
   ·simp only [RV,true_and]
    exact .inl ⟨none,0,rfl,fun _=>rfl⟩
   ·simp only [RV,true_and]
    exact .inl ⟨none,0,rfl,fun _=>rfl⟩
 | .agg cs,d,v,L,hn,h=>by
  simp only [wK] at hn
  obtain ⟨ds,rfl,hn⟩:=hn
  simp only [RV] at h⊢
  obtain ⟨vs,h1,h2⟩:=h
  exact ⟨vs,h1,pW hn h2⟩
 | .tup cs,d,v,L,hn,h=>by
  simp only [wK] at hn
  obtain ⟨ds,rfl,hn⟩:=hn
  simp only [RV] at h⊢
  obtain ⟨vs,h1,h2⟩:=h
  exact ⟨vs,h1,pW hn h2⟩
 | .any,d,v,L,hn,h | .int _ _,d,v,L,hn,h | .bool _,d,v,L,hn,h | .str _,d,v,L,hn,h | .fn _ _,d,v,L,hn,h | .nilp,d,v,L,hn,h | .ptr _ _ _,d,v,L,hn,h
 | .fptr _ _ _,d,v,L,hn,h | .nilI,d,v,L,hn,h | .ifc,d,v,L,hn,h | .ns _ _ _,d,v,L,hn,h | .sl _ _ _,d,v,L,hn,h=>by
  simp only [wK] at hn
  subst hn
  exact h
theorem pW {e:Env} :∀{cs ds:List AV} {vs:List Value} {L:List Nat},wJ cs ds→RVs e cs vs L→RVs e ds vs L
 | [],ds,vs,L,hn,h=>by
  simp only [wJ] at hn
  subst hn
  exact h
 | c::cs,ds,vs,L,hn,h=>by
  simp only [wJ] at hn
  obtain ⟨d,ds',rfl,h1,h2⟩:=hn
  simp only [RVs] at h⊢
  obtain ⟨v,vs',L1,L2,rfl,h3,h4,rfl⟩:=h
  exact ⟨v,vs',L1,L2,rfl,qYj h1 h3,pW h2 h4,rfl⟩
end
structure cM (Lf:Nat→List Nat) (h h':wT) (L:List Nat):Prop where
 nodup:L.Nodup
 of :∀b∈L,∃k,qQ h k≠none∧qQ h' k=none∧b∈Lf k
 left :∀n r,qQ h' n=some r→qQ h n=some r
theorem qK3 {e:Env} {k off len:Nat} {sz:Nat} {rows:List (List AV)} {L:List Nat} {c:Value} (hr:uX e k (sz,rows) L) (h:RV e (.ns k off len) c []) (hl:off+len≤rows.length) :
  ∃L',RV e (.sl .own sz (xU off len rows)) c L'∧(∀b∈L',b∈L)∧(L.Nodup→L'.Nodup):=by
 rw [qN2]
 simp only [RV] at h⊢
 obtain ⟨_,h⟩:=h
 have hlen:((rows.drop off).take len).length=len:=by simp; omega
 unfold uX gI at hr
 cases hq:e.φ k with
 | dead=>rw [hq] at hr; exact hr.elim
 | nilp =>
  rw [hq] at hr h
  obtain ⟨h1,h2⟩:=hr
  simp only at h1
  refine ⟨[],.inl ⟨by rw [h1]; simp,rfl,h.2.2⟩,by simp,fun _=>wD1⟩
 | «at» q =>
  rw [hq] at hr h
  obtain ⟨h1,⟨h2,h2',arr,ty,h2'',h2'''⟩,Lr,h3,h4⟩:=hr
  simp only at h1
  obtain ⟨h5,a,h6,h7⟩:=h
  by_cases hc:off<q.cap
  ·have hs:rows=rows.take off++((rows.drop off).take len++rows.drop (off+len)):=by
    rw [←List.drop_drop,wBv,wBv]
   simp only at h3
   rw [hs] at h3
   obtain ⟨M1,M2,_,g2,g3⟩:=(jM _ _).1 h3
   obtain ⟨M3,M4,g4,_,g5⟩:=(jM _ _).1 g2
   rw [List.length_take,Nat.min_eq_left (by omega)] at g4
   subst g3 g5
   refine ⟨q.block::M3,.inr ⟨⟨q.block,q.off+off*q.sz,q.cap-off,q.sz⟩,M3,⟨h1,?_⟩,?_,?_,g4,rfl⟩,?_,?_⟩
   ·show 0<q.cap-off
    omega
   ·rw [h6,h7 hc,hlen]
   ·refine ⟨h2,?_,arr,ty,h2'',?_⟩
    ·rw [hlen]
     show len≤q.cap-off
     omega
    ·show q.off+off*q.sz+(q.cap-off)*q.sz≤arr.size
     have:off*q.sz+(q.cap-off)*q.sz=q.cap*q.sz:=by rw [←Nat.add_mul]; congr 1; omega
     omega
   ·intro b hb
    rw [h4]
    rcases List.mem_cons.1 hb with rfl | hb
    ·simp
    ·simp [hb]
   ·intro hnd
    rw [h4] at hnd
    obtain ⟨n1,n2⟩:=List.nodup_cons.1 hnd
    refine List.nodup_cons.2 ⟨fun hb=>n1 (by simp [hb]),?_⟩
    exact (List.nodup_append.1 (List.nodup_append.1 n2).2.1).1
  ·have hl0:len=0:=by omega
   subst hl0
   have h0:q.cap-off=0:=by omega
   refine ⟨[],.inl ⟨by simp,rfl,some a,by rw [h6,h0]⟩,by simp,fun _=>wD1⟩
theorem qHp {h:wT} {k n:Nat} {r:Row} (hl:qQ (del h k) n=some r):qQ h n=some r:=by
 rw [qAd] at hl
 split at hl
 ·simp at hl
 ·exact hl
theorem cM.refl (Lf:Nat→List Nat) (h:wT):cM Lf h h []:=⟨wD1,by simp,fun _ _ h=>h⟩
theorem cM.trans {Lf:Nat→List Nat} {h h1 h2:wT} {L1 L2:List Nat} {e:Env} {H:Nat→Option Row} (hr:RH e H Lf) (hH :∀n r,qQ h n=some r→H n=some r) (a:cM Lf h h1 L1) (b:cM Lf h1 h2 L2):cM Lf h h2 (L1++L2):=by
 have toH :∀n,qQ h n≠none→H n≠none:=fun n hn=>by
  cases hl:qQ h n with
  | none=>exact absurd hl hn
  | some r=>simp [hH n r hl]
 have to1 :∀n,qQ h1 n≠none→qQ h n≠none:=fun n hn=>by
  cases hl:qQ h1 n with
  | none=>exact absurd hl hn
  | some r=>simp [a.left n r hl]
 refine ⟨?_,?_,fun n r hn=>a.left n r (b.left n r hn)⟩
 ·refine List.nodup_append.2 ⟨a.nodup,b.nodup,?_⟩
  intro x hx y hy hxy
  subst hxy
  obtain ⟨k1,p1,p2,p3⟩:=a.of x hx
  obtain ⟨k2,q1,q2,q3⟩:=b.of x hy
  refine hr.dis k1 k2 (toH _ p1) (toH _ (to1 _ q1)) (fun he=>?_) x p3 q3
  rw [he] at p2
  exact q1 p2
 ·intro x hx
  rcases List.mem_append.1 hx with hx | hx
  ·obtain ⟨k,p1,p2,p3⟩:=a.of x hx
   refine ⟨k,p1,?_,p3⟩
   cases hl:qQ h2 k with
   | none=>rfl
   | some r=>have:=b.left k r hl; rw [p2] at this; simp at this
  ·obtain ⟨k,p1,p2,p3⟩:=b.of x hx
   exact ⟨k,to1 k p1,p2,p3⟩
mutual
theorem qWq {e:Env} {H:Nat→Option Row} {Lf:Nat→List Nat} (hr:RH e H Lf) :∀(v:AV) (h:wT) {c:Value},(∀n r,qQ h n=some r→H n=some r)→(fT h v).2.2→RV e v c []→∃L,RV e (fT h v).1 c L∧cM Lf h (fT h v).2.1 L
 | .ns k off len,h,c,hH,hc,hv=>by
  unfold fT at hc⊢
  cases hl:qQ h k with
  | none =>
   simp only [hl] at hc⊢
   exact ⟨[],hv,cM.refl Lf h⟩
  | some row =>
   obtain ⟨sz,rows⟩:=row
   simp only [hl] at hc⊢
   have hk:=hH k _ hl
   obtain ⟨L',h1,h2,h3⟩:=qK3 (hr.row k _ hk) hv hc
   refine ⟨L',h1,h3 (hr.nodup k (by simp [hk])),?_,fun n r hn=>qHp hn⟩
   intro b hb
   exact ⟨k,by simp [hl],by simp [qAd],h2 b hb⟩
 | .agg cs,h,c,hH,hc,hv=>by
  simp only [fT] at hc⊢
  simp only [RV] at hv⊢
  obtain ⟨vs,h1,h2⟩:=hv
  obtain ⟨L,h3,h4⟩:=qAn hr cs h hH hc h2
  exact ⟨L,⟨vs,h1,h3⟩,h4⟩
 | .tup cs,h,c,hH,hc,hv=>by
  simp only [fT] at hc⊢
  simp only [RV] at hv⊢
  obtain ⟨vs,h1,h2⟩:=hv
  obtain ⟨L,h3,h4⟩:=qAn hr cs h hH hc h2
  exact ⟨L,⟨vs,h1,h3⟩,h4⟩
 | .any,h,c,hH,hc,hv | .int _ _,h,c,hH,hc,hv | .bool _,h,c,hH,hc,hv | .str _,h,c,hH,hc,hv | .fn _ _,h,c,hH,hc,hv | .nilp,h,c,hH,hc,hv | .ptr _ _ _,h,c,hH,hc,hv
 | .fptr _ _ _,h,c,hH,hc,hv | .nil,h,c,hH,hc,hv | .nilI,h,c,hH,hc,hv | .ifc,h,c,hH,hc,hv | .sl _ _ _,h,c,hH,hc,hv=>by
  simp only [fT]
  exact ⟨[],hv,cM.refl Lf h⟩
theorem qAn {e:Env} {H:Nat→Option Row} {Lf:Nat→List Nat} (hr:RH e H Lf) :∀(vs:List AV) (h:wT) {cs:List Value},(∀n r,qQ h n=some r→H n=some r)→(gA h vs).2.2→RVs e vs cs []→∃L,RVs e (gA h vs).1 cs L∧cM Lf h (gA h vs).2.1 L
 | [],h,cs,hH,hc,hv=>by
  simp only [gA]
  exact ⟨[],hv,cM.refl Lf h⟩
 | v::vs,h,cs,hH,hc,hv=>by
  simp only [gA] at hc⊢
  simp only [RVs] at hv⊢
  obtain ⟨c,cs',L1,L2,rfl,h2,h3,h4⟩:=hv
  have hL1:L1=[]:=(wY h4).1
  have hL2:L2=[]:=(wY h4).2
  subst hL1 hL2
  obtain ⟨M1,g1,g2⟩:=qWq hr v h hH hc.1 h2
  obtain ⟨M2,g3,g4⟩:=qAn hr vs (fT h v).2.1 (fun n r hn=>hH n r (g2.left n r hn)) hc.2 h3
  exact ⟨M1++M2,⟨c,cs',M1,M2,rfl,g1,g3,rfl⟩,cM.trans hr hH g2 g4⟩
end
end Go.Sep
namespace Go.Sep
set_option linter.unusedVariables false
set_option linter.unusedSimpArgs false
def aS (P:Program):List ResultVar→List qE1→Bool
 | [],[]=>true
 | .tmp t::rs,.t n::ms=>t==n&&aS P rs ms
 | .cell a t::rs,.cell b n ag::ms=>a==b&&fI P t n&&qDx P t==some ag&&(ag||n==1)&&aS P rs ms
 | _,_=>false
def kD:Nat→List AV→List (Nat×AV)
 | _,[]=>[]
 | n,v::vs=>(n,v)::kD (n+1) vs
theorem mE :∀(vs:List AV) (k n:Nat),wD (kD k vs) n=if k≤n then vs.getD (n-k) .any else .any
 | [],k,n=>by simp [kD,wD]
 | v::vs,k,n=>by
  simp only [kD,wD,mE vs]
  by_cases h:n=k
  ·subst h; simp
  ·rw [if_neg h]
   by_cases h2:k+1≤n
   ·rw [if_pos h2,if_pos (by omega),show n-k=(n-(k+1))+1 by omega]
    rfl
   ·rw [if_neg h2,if_neg (by omega)]
def qBj (tmps:Array Value):ResultVar→Sem Value
 | .tmp t=>pure (tmps.getD t undef)
 | .cell a t=>do loadVar t (←asAddr (tmps.getD a undef))
theorem qPk (fn:Func) (tmps:Array Value):results fn tmps=(do
  let vs←fn.results.mapM (qBj tmps)
  pure (if h:vs.size=1 then vs[0] else .tuple vs)):=by
 unfold results
 congr 1
section
variable {P:Program}
theorem nW {e:Env} {L0:List Nat} {t:List (Nat×AV)} {h:wT} {Lf:Nat→List Nat} {tmps:Array Value} (hk:Ok e L0 (qQ h) Lf) (ht :∀n,RV e (wD t n) (tmps.getD n undef) []) :
  ∀(rs:List ResultVar) (ms:List qE1),aS P rs ms=true→qM2 (ms.map fun r=>(dN t h r).2)→
   ∃vs:List Value,(rs.mapM (qBj tmps)).run P e.w=.ok vs e.w∧RVs e (ms.map fun r=>(dN t h r).1) vs []
 | [],[],_,_=>⟨[],by simp,by simp [RVs]⟩
 | [],m::ms,hc,_=>by simp [aS] at hc
 | .tmp x::rs,.t n::ms,hc,ha=>by
  simp only [aS,wBp,beq_iff_eq] at hc
  obtain ⟨rfl,hc⟩:=hc
  obtain ⟨vs,h1,h2⟩:=nW hk ht rs ms hc ha.2
  refine ⟨tmps.getD x undef::vs,?_,?_⟩
  ·rw [List.mapM_cons]
   simp only [qBj,Sem.run_bind,Sem.run_pure,Result.andThen_ok,h1]
  ·simp only [wBm,RVs]
   exact ⟨_,vs,[],[],rfl,ht x,h2,rfl⟩
 | .cell x ty::rs,.cell a n ag::ms,hc,ha=>by
  simp only [aS,wBp,beq_iff_eq,Bool.or_eq_true] at hc
  obtain ⟨⟨⟨⟨rfl,hsz⟩,hag⟩,h1n⟩,hc⟩:=hc
  obtain ⟨vs,h1,h2⟩:=nW hk ht rs ms hc ha.2
  have ha1:(dN t h (.cell x n ag)).2:=ha.1
  have hx:=ht x
  have key :∃v,(qBj tmps (.cell x ty)).run P e.w=.ok v e.w∧RV e (dN t h (.cell x n ag)).1 v []:=by
   unfold dN at ha1⊢
   simp only at ha1⊢
   split at ha1
   ·rename_i nm hnm
    rw [hnm] at hx
    split at ha1
    ·rename_i sz cells hrow
     obtain ⟨i,hi,his⟩:=dD hsz
     obtain ⟨p,hp,hv⟩:=sM (hk.rh.row nm _ hrow) hx
     have hr:=hk.rh.row nm _ hrow
     unfold uX gI at hr
     rw [hp] at hr
     obtain ⟨hq,ho,Lr,hrr,hLr⟩:=hr
     simp only [yM] at hrr
     obtain ⟨us,L1,L2,⟨e1,e2⟩,e3,e4,e5,_,_⟩:=hrr
     have hL1:L1=[]:=by
      have key :∀(l:List AV) (us:List Value) (M:List Nat),(∀c∈l,qAh c=false)→l.all yS=true→RVs e l us M→M=[]:=by
       intro l
       induction l with
       | nil=>intro us M _ _ h; simp only [RVs] at h; exact h.2
       | cons c l ih =>
        intro us M hfc hok h
        simp only [RVs] at h
        obtain ⟨v,vs',M1,M2,rfl,k1,k2,rfl⟩:=h
        simp only [wC1,wBp] at hok
        have:=qCa hok.1 (fun sz rows he=>by have:=hfc c (by simp); rw [he] at this; simp [qAh] at this) k1
        rw [this,ih vs' M2 (fun x hx=>hfc x (by simp [hx])) hok.2 k2]
        rfl
      exact key cells us L1 ha1.2 e2 e5
     subst hL1
     refine ⟨_,?_,qCi h1n ha1.1 e5⟩
     simp only [qBj,hv,Sem.run_bind,asAddr,Sem.run_pure,Result.andThen_ok]
     refine nU hag hi (fun hf=>by rcases h1n with h | h<;>simp_all) (by rw [e3,his,←ha1.1,e1]) (fun j hj=>?_)
     have:=e4 j (by rw [←e1,ha1.1,←his]; exact hj)
     simpa using this
    ·exact ha1.elim
   ·exact ha1.elim
  obtain ⟨v,k1,k2⟩:=key
  refine ⟨v::vs,?_,?_⟩
  ·rw [List.mapM_cons]
   simp only [Sem.run_bind]
   rw [k1]
   simp only [Result.andThen_ok,h1,Sem.run_pure]
  ·simp only [wBm,RVs]
   exact ⟨_,vs,[],[],rfl,k2,h2,rfl⟩
 | .tmp _::_,[],hc,_=>by simp [aS] at hc
 | .tmp _::_,.cell ..::_,hc,_=>by simp [aS] at hc
 | .cell ..::_,[],hc,_=>by simp [aS] at hc
 | .cell ..::_,.t _::_,hc,_=>by simp [aS] at hc
theorem fA {fp:FP} {n:Nat}:qQ (vY fp) n≠none→n∈fp.map (·.1):=by
 induction fp with
 | nil=>simp [vY,qQ]
 | cons x fp ih =>
  obtain ⟨m,a,b⟩:=x
  intro h
  cases a with
  | none=>simp only [vY] at h; exact wCk _ (ih h)
  | some r =>
   simp only [vY,qQ] at h
   by_cases hn:n=m
   ·simp [hn]
   ·rw [if_neg hn] at h; exact wCk _ (ih h)
theorem qIo {fp:FP} {n:Nat}:qQ (uW fp) n≠none→n∈fp.map (·.1):=by
 induction fp with
 | nil=>simp [uW,qQ]
 | cons x fp ih =>
  obtain ⟨m,a,b⟩:=x
  intro h
  cases b with
  | none=>simp only [uW] at h; exact wCk _ (ih h)
  | some r =>
   simp only [uW,qQ] at h
   by_cases hn:n=m
   ·simp [hn]
   ·rw [if_neg hn] at h; exact wCk _ (ih h)
theorem oL {Lf:Nat→List Nat} {h:wT} {b:Nat}:b∈qCe Lf h→∃n,qQ h n≠none∧b∈Lf n:=by
 induction h with
 | nil=>simp [qCe]
 | cons x h ih =>
  intro hb
  simp only [qCe,wCe,wCp] at hb
  rcases hb with hb | hb
  ·exact ⟨x.1,by simp [qQ],hb⟩
  ·obtain ⟨n,h1,h2⟩:=ih hb
   refine ⟨n,?_,h2⟩
   obtain ⟨m,r⟩:=x
   simp only [qQ]
   split
   ·simp
   ·exact h1
theorem qXo {Lf:Nat→List Nat} {h:wT} {n b:Nat} (hn:qQ h n≠none) (hb:b∈Lf n):b∈qCe Lf h:=by
 induction h with
 | nil=>simp [qQ] at hn
 | cons x h ih =>
  obtain ⟨m,r⟩:=x
  simp only [qCe,wCe,wCp]
  by_cases he:n=m
  ·subst he; exact .inl hb
  ·simp only [qQ] at hn
   rw [if_neg he] at hn
   exact .inr (ih hn)
theorem qCv :∀{cs ds:List AV},wJ cs ds→ds.length=cs.length
 | [],ds,h=>by simp only [wJ] at h; simp [h]
 | c::cs,ds,h=>by
  simp only [wJ] at h
  obtain ⟨d,ds',rfl,_,h2⟩:=h
  simp [qCv h2]
theorem qN0 {num:Nat→Nat} {fn:Func} {rs:List qE1} {e:Env} {Lf0:Nat→List Nat} {fp:FP} {res:AV} {nt:Nat} {a:Act} {w:World} {s:AS} (hr:aS P fn.results.toList rs=true) (hw0:e.w0=e.w)
  (hk0:Ok e (qCe Lf0 (vY fp)) (qQ (vY fp)) Lf0)
  (hfin:yQ rs fp res s) (hs:St {num:=e.num,w0:=e.w,Fr:=e.Fr,Bo:=e.Bo,L0:=qCe Lf0 (vY fp),φ0:=e.φ,nt:=nt} s a w) :
  a.defers=[]∧∃v,(results fn a.tmps).run P w=.ok v w∧qZg e Lf0 fp res v w:=by
 cases s with
 | bad=>exact hs.elim
 | mk t h nx =>
  obtain ⟨_,hdef,hb,hbt,φ,Lf,hl⟩:=hs
  obtain ⟨f1,f2,⟨vs,f3,f4⟩,f5⟩:=hfin
  refine ⟨hdef,?_⟩
  let B:lP:={num:=e.num,w0:=e.w,Fr:=e.Fr,Bo:=e.Bo,L0:=qCe Lf0 (vY fp),φ0:=e.φ,nt:=nt}
  have hl':pM B t h nx a w φ Lf:=hl
  obtain ⟨us,r1,r2⟩:=nW hl'.ok hl'.tm fn.results.toList rs hr f1
  obtain ⟨L,g1,g2⟩:=qAn hl'.ok.rh _ h (fun n r hn=>hn) f2 r2
  have g3:=pW f3 g1
  let h':=(gA h (rs.map fun r=>(dN t h r).1)).2.1
  have hlen:us.length=vs.length:=yU g3
  have hrun:(results fn a.tmps).run P w=.ok (if us.length=1 then us.getD 0 undef else .tuple us.toArray) w:=by
   rw [qPk]
   simp only [Sem.run_bind]
   rw [Array.mapM_eq_mapM_toList,Sem.run_map]
   have r1':(fn.results.toList.mapM (qBj a.tmps)).run P w=.ok us w:=r1
   rw [r1']
   simp only [Result.andThen_ok,Sem.run_pure]
   by_cases h1:us.length=1
   ·rw [if_pos h1,dif_pos (by simpa using h1)]
    congr 1
    cases us with
    | nil=>simp at h1
    | cons u us=>rfl
   ·rw [if_neg h1,dif_neg (by simpa using h1)]
  refine ⟨_,hrun,?_⟩
  let F:Nat→Prop:=fun n=>n∈fp.map (·.1)
  classical
  let e'':Env:=B.env w (fun n=>if F n∧qQ (uW fp) n≠none then φ n else .dead)
  have hke:dI (B.env w φ) e'' (fun _=>True) (L++[]) :=
   {num:=rfl,fr:=fun m b hb=>by cases m<;>exact hb,cells:=fun b _ o=>rfl,φ:=fun n _=>by
     by_cases hn:F n∧qQ (uW fp) n≠none
     ·left; show (if F n∧qQ (uW fp) n≠none then φ n else vG.dead)=φ n; rw [if_pos hn]
     ·right; show (if F n∧qQ (uW fp) n≠none then φ n else vG.dead)=vG.dead; rw [if_neg hn],own:=fun b _=>rfl}
  have hke' :∀M:List Nat,dI (B.env w φ) e'' (fun _=>True) M:=fun M=>{hke with own:=fun b _=>rfl}
  have hres:RV e'' res (if us.length=1 then us.getD 0 undef else .tuple us.toArray) L:=by
   refine iS res (hke' L) (qB3 _) ?_
   rw [f4]
   by_cases h1:us.length=1
   ·rw [if_pos h1]
    cases vs with
    | nil=>rw [hlen] at h1; simp at h1
    | cons v vs =>
     cases vs with
     | nil =>
      simp only [RVs] at g3
      obtain ⟨u,us',L1,L2,rfl,k1,⟨rfl,rfl⟩,rfl⟩:=g3
      simpa [wR] using k1
     | cons v' vs=>rw [hlen] at h1; simp at h1
   ·rw [if_neg h1]
    have:wR vs=.tup vs:=by
     cases vs with
     | nil=>rfl
     | cons v vs =>
      cases vs with
      | nil=>exact absurd (hlen.trans rfl) h1
      | cons v' vs=>rfl
    rw [this]
    simp only [RV]
    exact ⟨us,rfl,g3⟩
  have hrow :∀nm,F nm→qQ (uW fp) nm=qQ h' nm:=by
   intro nm hn
   obtain ⟨x,hx,rfl⟩:=List.mem_map.1 hn
   exact (f5 x hx).symm
  have hleft :∀nm,F nm→qQ (uW fp) nm≠none→qQ h nm=qQ (uW fp) nm:=by
   intro nm hn hp
   rw [hrow nm hn] at hp⊢
   cases hh:qQ h' nm with
   | none=>exact absurd hh hp
   | some r=>exact g2.left nm r hh
  have hblk :∀nm,qQ h nm≠none→∀b∈Lf nm,b<w.heap.size∧(e.w.heap.size≤b∨∃m,F m∧qQ (vY fp) m≠none∧b∈Lf0 m):=by
   intro nm hn b hb
   refine ⟨(hl'.ok.rh.blk nm hn b hb).1,?_⟩
   rcases hl'.ok.own0 nm hn b hb with h1 | h1
   ·obtain ⟨m,h2,h3⟩:=oL h1
    exact .inr ⟨m,fA h2,h2,h3⟩
   ·exact .inl h1
  have hdead0 :∀nm,¬F nm→e.φ nm=.dead:=by
   intro nm hn
   refine hk0.rh.dead nm ?_
   cases hh:qQ (vY fp) nm with
   | none=>rfl
   | some r=>exact absurd (fA (by simp [hh])) hn
  refine ⟨e'',Lf,L,rfl,?_,hres,g2.nodup,?_,?_⟩
  ·exact {
    num:=rfl
    w0:=hw0.symm
    Fr:=rfl
    Bo:=rfl
    io:=hl'.ok.io0
    size:=hl'.ok.size0
    keep:=fun b h1 h2=>by
     refine hl'.ok.keep0 b h1 (fun hm=>?_)
     obtain ⟨m,h3,h4⟩:=oL hm
     exact h2 m (fA h3) h3 h4
    φ:=fun nm hn=>by
     rw [hdead0 nm hn]
     show (if F nm∧qQ (uW fp) nm≠none then φ nm else vG.dead)=vG.dead
     rw [if_neg (fun hh=>hn hh.1)]
    φF:=fun nm hn hp=>by
     show (if F nm∧qQ (uW fp) nm≠none then φ nm else vG.dead)=e.φ nm∨(if F nm∧qQ (uW fp) nm≠none then φ nm else vG.dead)=vG.dead
     split
     ·refine (hl'.φ0 nm ?_).2
      intro hd
      have hd':e.φ nm=.dead:=hd
      cases hh:qQ (vY fp) nm with
      | none=>exact hp hh
      | some r =>
       have:=hk0.rh.row nm r hh
       unfold uX gI at this
       rw [hd'] at this
       exact this
     ·exact .inr rfl
    rest:=fun nm hn=>by
     have h1:qQ (vY fp) nm=none:=by
      cases hh:qQ (vY fp) nm with
      | none=>rfl
      | some r=>exact absurd (fA (by simp [hh])) hn
     have h2:qQ (uW fp) nm=none:=by
      cases hh:qQ (uW fp) nm with
      | none=>rfl
      | some r=>exact absurd (qIo (by simp [hh])) hn
     rw [h1,h2]
    row:=fun nm row hn hp=>by
     have h1:=hleft nm hn (by simp [hp])
     have h2:=hl'.ok.rh.row nm row (by rw [h1,hp])
     refine h2.keep (hke' _) ?_ (rL _)
     show (if F nm∧qQ (uW fp) nm≠none then φ nm else vG.dead)=φ nm
     rw [if_pos ⟨hn,by simp [hp]⟩]
    nodup:=fun nm hn hp=>hl'.ok.rh.nodup nm (by rw [hleft nm hn hp]; exact hp)
    blk:=fun nm hn hp b hb=>hblk nm (by rw [hleft nm hn hp]; exact hp) b hb
    dis:=fun n m hn hm hp hq hne b hb=>hl'.ok.rh.dis n m (by rw [hleft n hn hp]; exact hp) (by rw [hleft m hm hq]; exact hq) hne b hb
    dead:=fun nm hn hp=>by
     show (if F nm∧qQ (uW fp) nm≠none then φ nm else vG.dead)=vG.dead
     rw [if_neg (fun hh=>hh.2 hp)]}
  ·intro b hb
   obtain ⟨k,h1,_,h3⟩:=g2.of b hb
   exact hblk k h1 b h3
  ·intro b hb m hm hp hbm
   obtain ⟨k,h1,h2,h3⟩:=g2.of b hb
   have hm':=hleft m hm hp
   refine hl'.ok.rh.dis k m h1 (by rw [hm']; exact hp) (fun he=>?_) b h3 hbm
   subst he
   have h2':qQ h' k=none:=h2
   rw [hrow k hm] at hp
   exact hp h2'
theorem enter {num:Nat→Nat} {f:Nat} {fn:Func} {c:Code} {m:MFn} {args:List AV} {fp:FP} {res:AV} (hf:P.funcs[num f]?=some fn) (hnm:(fn.name == "runtime.NumGoroutine")=false) (hbd:fn.body=some c) (hc:mT P num fn.ntmps m.body c=true)
  (hr:aS P fn.results.toList m.results=true) (hn:args.length≤fn.ntmps) (hb:jK (· < 10) args) (hh:HB (vY fp) 10)
  (hv:vc P num (Fin m.results fp res) [.code m.body] (.mk (kD 0 args) (vY fp) 10)):qY P num f args fp res:=by
 refine ⟨⟨fn,hf,hnm,by rw [hbd]; rfl⟩,?_⟩
 intro e Lf cs hnum hw0 hk hargs
 subst hnum
 have hlen:=yU hargs
 let B:lP:={num:=e.num,w0:=e.w,Fr:=e.Fr,Bo:=e.Bo,L0:=qCe Lf (vY fp),φ0:=e.φ,nt:=fn.ntmps}
 let a0:Act:={tmps:=cs.toArray++Array.replicate (fn.ntmps-cs.toArray.size) undef,defers:=[]}
 have he:B.env e.w e.φ=e:=by
  cases e
  simp only at hw0
  subst hw0
  rfl
 have hst:St B (.mk (kD 0 args) (vY fp) 10) a0 e.w:=by
  refine ⟨?_,rfl,hh,?_,e.φ,Lf,?_,?_,?_,wBo _⟩
  ·show (cs.toArray++Array.replicate (fn.ntmps-cs.toArray.size) undef).size=fn.ntmps
   simp
   omega
  ·intro n
   rw [mE,if_pos (Nat.zero_le _)]
   exact lL hb _
  ·rw [he]; exact hk
  ·intro n
   rw [he,mE,if_pos (Nat.zero_le _),Nat.sub_zero]
   show RV e (args.getD n .any) ((cs.toArray++Array.replicate (fn.ntmps-cs.toArray.size) undef).getD n undef) []
   by_cases hn':n<args.length
   ·obtain ⟨v,h1,h2⟩:=cG hargs n hn'
    rw [fU hn',Array.getD_eq_getD_getElem?,Array.getElem?_append_left (by simpa [hlen] using hn')]
    simp only [List.getElem?_toArray,h1,Option.getD_some]
    exact h2
   ·have:args.getD n .any=.any:=by
     rw [wBr,wCa (by omega)]; rfl
    rw [this]
    simp [RV]
  ·intro n hne
   have hne':e.φ n≠.dead:=hne
   refine ⟨?_,.inl rfl⟩
   cases hl:qQ (vY fp) n with
   | none=>exact absurd (hk.rh.dead n hl) hne'
   | some r=>exact (hh n r hl).1
 have:=qV4 (R:=fun a w=>a.defers=[]∧∃v,(results fn a.tmps).run P w=.ok v w∧qZg e Lf fp res v w) (B:=B) rfl (fun s a w ⟨s1,h1,h2⟩ hs=>qN0 (num:=e.num) hr hw0 hk h2 (h1 _ _ _ hs)) _ _ (wBo _) _ hv a0 e.w hst
 simp only [sem] at this
 refine calls_of_wp hf hbd (wp_mono (this c hc) ?_)
 rintro ex a w ⟨hex,h1,v,h2,h3⟩
 rcases hex with rfl | rfl<;>exact ⟨h1,v,h2,h3⟩
end
end Go.Sep
namespace Go.Sep
set_option linter.unusedVariables false
set_option linter.unusedSimpArgs false
mutual
def nb:AV→Prop
 | .ptr _ _ _ | .ns _ _ _=>False
 | .sl .bw _ _=>False
 | .sl _ _ rows=>nbr rows
 | .fptr .fz cells _=>nbs cells
 | .fptr _ _ _=>False
 | .agg cs=>nbs cs
 | .tup cs=>nbs cs
 | .fn _ cap=>nbs cap
 | _=>True
def nbs:List AV→Prop
 | []=>True
 | c::cs=>nb c∧nbs cs
def nbr:List (List AV)→Prop
 | []=>True
 | r::rs=>nbs r∧nbr rs
end
mutual
def bwC:AV→AV
 | .sl _ sz rows=>.sl .bw sz (bwR rows)
 | .fptr _ cells f=>.fptr .bw (bwL cells) f
 | .agg cs=>.agg (bwL cs)
 | .tup cs=>.tup (bwL cs)
 | .fn f cap=>.fn f (bwL cap)
 | v=>v
def bwL:List AV→List AV
 | []=>[]
 | c::cs=>bwC c::bwL cs
def bwR:List (List AV)→List (List AV)
 | []=>[]
 | r::rs=>bwL r::bwR rs
end
theorem eJ :∀l:List AV,(bwL l).length=l.length
 | []=>rfl
 | c::cs=>by simp [bwL,eJ cs]
theorem zA :∀l:List (List AV),(bwR l).length=l.length
 | []=>rfl
 | c::cs=>by simp [bwR,zA cs]
theorem qXl :∀l:List AV,l.all yS=true→(bwL l).all yS=true
 | [],_=>rfl
 | c::cs,h=>by
  simp only [wC1,wBp,bwL] at h⊢
  refine ⟨?_,qXl cs h.2⟩
  have:=h.1
  cases c<;>simp_all [bwC,yS]
structure qDy (e e':Env):Prop where
 num:e'.num=e.num
 fr :∀b,e.Fr b→e'.Fr b
 cells :∀b,e.Fr b→∀o,e'.w0.cell? ⟨b,o,none⟩=e.w0.cell? ⟨b,o,none⟩
mutual
theorem qXs {e e':Env} (hs:qDy e e') :∀(v:AV) {c:Value} {L:List Nat},(∀b∈L,e'.w.heap[b]?=e.w.heap[b]?)→nb v→RV e v c L→RV e' v c L
 | .any,_,_,_,_,h | .int ..,_,_,_,_,h | .bool ..,_,_,_,_,h | .str ..,_,_,_,_,h | .nilp,_,_,_,_,h | .nil,_,_,_,_,h | .nilI,_,_,_,_,h | .ifc,_,_,_,_,h=>h
 | .fn f cap,_,_,k,hb,h=>by
  simp only [RV] at h⊢
  obtain ⟨vs,h1,h2,h3⟩:=h
  exact ⟨vs,by rw [hs.num]; exact h1,qCh hs cap k hb h2,h3⟩
 | .ptr ..,_,_,_,hb,_=>by simp [nb] at hb
 | .ns ..,_,_,_,hb,_=>by simp [nb] at hb
 | .fptr .own _ _,_,_,_,hb,_=>by simp [nb] at hb
 | .fptr .bw _ _,_,_,_,hb,_=>by simp [nb] at hb
 | .fptr .fz cells f,_,_,k,hb,h=>by
  simp only [RV] at h⊢
  obtain ⟨h0,b,o,vs,h1,h2,h3,h4,h5⟩:=h
  subst h0
  have h2':e.Fr b:=h2
  exact ⟨rfl,b,o,vs,h1,hs.fr b h2',h3,fun j hj=>by rw [hs.cells b h2']; exact h4 j hj,qCh hs cells k (by simpa [nb] using hb) h5⟩
 | .sl .bw _ _,_,_,_,hb,_=>by simp [nb] at hb
 | .sl .own sz rows,_,_,k,hb,h=>by
  simp only [RV] at h⊢
  rcases h with h | ⟨p,Lr,h0,h1,h2,h3,h4⟩
  ·exact .inl h
  ·subst h4
   exact .inr ⟨p,Lr,h0,h1,h2.keep (k _ (by simp)),qH6 hs rows (fun b hb=>k b (by simp [hb])) (by simpa [nb] using hb) (fun o'=>uZ (k _ (by simp)) o') h3,rfl⟩
 | .sl .fz sz rows,_,_,k,hb,h=>by
  simp only [RV] at h⊢
  obtain ⟨h0,h⟩:=h
  subst h0
  refine ⟨rfl,?_⟩
  rcases h with h | ⟨b,o,c,h1,h2,h3,h4⟩
  ·exact .inl h
  ·have h3':e.Fr b:=h3
   exact .inr ⟨b,o,c,h1,h2,hs.fr b h3',qH6 hs rows k (by simpa [nb] using hb) (fun o'=>hs.cells b h3' o') h4⟩
 | .agg cs,_,_,k,hb,h=>by
  simp only [RV] at h⊢
  obtain ⟨vs,h1,h2⟩:=h
  exact ⟨vs,h1,qCh hs cs k hb h2⟩
 | .tup cs,_,_,k,hb,h=>by
  simp only [RV] at h⊢
  obtain ⟨vs,h1,h2⟩:=h
  exact ⟨vs,h1,qCh hs cs k hb h2⟩
theorem qCh {e e':Env} (hs:qDy e e') :∀(l:List AV) {cs:List Value} {L:List Nat},(∀b∈L,e'.w.heap[b]?=e.w.heap[b]?)→nbs l→RVs e l cs L→RVs e' l cs L
 | [],_,_,_,_,h=>by simpa only [RVs] using h
 | c::cs,_,_,k,hb,h=>by
  simp only [RVs] at h⊢
  obtain ⟨v,vs',L1,L2,h1,h2,h3,h4⟩:=h
  subst h4
  exact ⟨v,vs',L1,L2,h1,qXs hs c (fun b hb=>k b (by simp [hb])) hb.1 h2,qCh hs cs (fun b hb=>k b (by simp [hb])) hb.2 h3,rfl⟩
theorem qH6 {e e':Env} (hs:qDy e e') :∀(rs:List (List AV)) {W W':World} {b o sz:Nat} {L:List Nat},(∀b∈L,e'.w.heap[b]?=e.w.heap[b]?)→nbr rs→
  (∀o',W'.cell? ⟨b,o',none⟩=W.cell? ⟨b,o',none⟩)→yM e W b o sz rs L→yM e' W' b o sz rs L
 | [],_,_,_,_,_,_,_,_,_,h=>by simpa only [yM] using h
 | r::rs,W,W',b,o,sz,L,k,hb,hW,h=>by
  simp only [yM] at h⊢
  obtain ⟨vs,L1,L2,h1,h2,h3,h4,h5,h6⟩:=h
  subst h6
  exact ⟨vs,L1,L2,h1,h2,fun j hj=>by rw [hW]; exact h3 j hj,qCh hs r (fun b hb=>k b (by simp [hb])) hb.1 h4,qH6 hs rs (fun b hb=>k b (by simp [hb])) hb.2 hW h5,rfl⟩
end
structure qH9 (e e':Env) (V:Nat→Prop):Prop where
 num:e'.num=e.num
 w0:e'.w0=e.w
 fr :∀b,e.Fr b→e'.Fr b
 bo :∀b,e.Fr b∨e.Bo b∨V b→e'.Fr b∨e'.Bo b
 cells :∀b,e.Fr b∨e.Bo b→∀o,e.w.cell? ⟨b,o,none⟩=e.w0.cell? ⟨b,o,none⟩
mutual
theorem qZx {e e':Env} {V:Nat→Prop} (hs:qH9 e e' V) :∀(v:AV) {c:Value} {L:List Nat},(∀b∈L,V b)→bnd (fun _=>False) v→RV e v c L→RV e' (bwC v) c []
 | .any,_,_,_,_,h=>by simp [bwC,RV]
 | .int ..,_,_,_,_,h | .bool ..,_,_,_,_,h | .str ..,_,_,_,_,h | .nilp,_,_,_,_,h | .nil,_,_,_,_,h | .nilI,_,_,_,_,h | .ifc,_,_,_,_,h=>by
  simp only [bwC,RV] at h⊢
  exact ⟨h.1,trivial⟩
 | .fn f cap,_,_,k,hb,h=>by
  simp only [RV,bwC] at h⊢
  obtain ⟨vs,h1,h2,h3⟩:=h
  subst h3
  exact ⟨vs,by rw [hs.num]; exact h1,tJ hs cap k hb h2,trivial⟩
 | .ptr ..,_,_,_,hb,_=>by simp [bnd] at hb
 | .ns ..,_,_,_,hb,_=>by simp [bnd] at hb
 | .fptr m cells f,_,_,k,hb,h=>by
  simp only [RV,bwC] at h⊢
  obtain ⟨h0,b,o,vs,h1,h2,h3,h4,h5⟩:=h
  subst h0
  have h2':=Env.frozen_or h2
  refine ⟨trivial,b,o,vs,h1,hs.bo b (h2'.imp id .inl),by rw [eJ]; exact h3,fun j hj=>?_,tJ hs cells (by simp) hb h5⟩
  rw [hs.w0,hs.cells b h2']
  exact h4 j (by rw [eJ] at hj; exact hj)
 | .sl .own sz rows,_,_,k,hb,h=>by
  simp only [RV,bwC] at h⊢
  refine ⟨trivial,?_⟩
  rcases h with ⟨rfl,_,a,rfl⟩ | ⟨p,Lr,⟨rfl,h0⟩,rfl,h2,h3,rfl⟩
  ·exact .inl ⟨rfl,a,0,rfl,fun _=>rfl⟩
  ·refine .inr ⟨p.block,p.off,p.cap,by rw [zA],by rw [zA]; exact h2.2.1,hs.bo _ (.inr (.inr (k _ (by simp)))),?_⟩
   exact pK hs rows (fun b hb=>k b (by simp [hb])) hb (fun o'=>by rw [hs.w0]) h3
 | .sl .bw sz rows,_,_,k,hb,h=>by
  simp only [RV,bwC] at h⊢
  refine ⟨trivial,?_⟩
  rcases h with ⟨rfl,⟨rfl,h⟩ | ⟨b,o,c,rfl,h2,h3,h4⟩⟩
  ·exact .inl ⟨rfl,h⟩
  ·have h3':=Env.frozen_or h3
   exact .inr ⟨b,o,c,by rw [zA],by rw [zA]; exact h2,hs.bo b (h3'.imp id .inl),pK hs rows (by simp) hb (fun o'=>by rw [hs.w0,hs.cells b h3']) h4⟩
 | .sl .fz sz rows,_,_,k,hb,h=>by
  simp only [RV,bwC] at h⊢
  refine ⟨trivial,?_⟩
  rcases h with ⟨rfl,⟨rfl,h⟩ | ⟨b,o,c,rfl,h2,h3,h4⟩⟩
  ·exact .inl ⟨rfl,h⟩
  ·have h3':=Env.frozen_or h3
   exact .inr ⟨b,o,c,by rw [zA],by rw [zA]; exact h2,hs.bo b (h3'.imp id .inl),pK hs rows (by simp) hb (fun o'=>by rw [hs.w0,hs.cells b h3']) h4⟩
 | .agg cs,_,_,k,hb,h=>by
  simp only [RV,bwC] at h⊢
  obtain ⟨vs,h1,h2⟩:=h
  exact ⟨vs,h1,tJ hs cs k hb h2⟩
 | .tup cs,_,_,k,hb,h=>by
  simp only [RV,bwC] at h⊢
  obtain ⟨vs,h1,h2⟩:=h
  exact ⟨vs,h1,tJ hs cs k hb h2⟩
theorem tJ {e e':Env} {V:Nat→Prop} (hs:qH9 e e' V) :∀(l:List AV) {cs:List Value} {L:List Nat},(∀b∈L,V b)→jK (fun _=>False) l→RVs e l cs L→RVs e' (bwL l) cs []
 | [],_,_,_,_,h=>by
  simp only [RVs,bwL] at h⊢
  exact ⟨h.1,trivial⟩
 | c::cs,_,_,k,hb,h=>by
  simp only [RVs,bwL] at h⊢
  obtain ⟨v,vs',L1,L2,h1,h2,h3,h4⟩:=h
  subst h4
  exact ⟨v,vs',[],[],h1,qZx hs c (fun b hb=>k b (by simp [hb])) hb.1 h2,tJ hs cs (fun b hb=>k b (by simp [hb])) hb.2 h3,rfl⟩
theorem pK {e e':Env} {V:Nat→Prop} (hs:qH9 e e' V) :∀(rs:List (List AV)) {W W':World} {b o sz:Nat} {L:List Nat},(∀b∈L,V b)→yW (fun _=>False) rs→
  (∀o',W'.cell? ⟨b,o',none⟩=W.cell? ⟨b,o',none⟩)→yM e W b o sz rs L→yM e' W' b o sz (bwR rs) []
 | [],_,_,_,_,_,_,_,_,_,h=>by simp [bwR,yM]
 | r::rs,W,W',b,o,sz,L,k,hb,hW,h=>by
  simp only [yM,bwR] at h⊢
  obtain ⟨vs,L1,L2,h1,h2,h3,h4,h5,h6⟩:=h
  subst h6
  exact ⟨vs,[],[],⟨by rw [eJ]; exact h1.1,qXl r h1.2⟩,h2,fun j hj=>by rw [hW]; exact h3 j hj,tJ hs r (fun b hb=>k b (by simp [hb])) hb.1 h4,pK hs rs (fun b hb=>k b (by simp [hb])) hb.2 hW h5,rfl⟩
end
mutual
theorem qW2 {A:Nat→Prop} :∀(v:AV),nb v→bnd A v
 | .any,_ | .int ..,_ | .bool ..,_ | .str ..,_ | .nilp,_ | .nil,_ | .nilI,_ | .ifc,_=>trivial
 | .fn f cap,h=>pX cap h
 | .ptr ..,h=>by simp [nb] at h
 | .ns ..,h=>by simp [nb] at h
 | .fptr .own _ _,h=>by simp [nb] at h
 | .fptr .bw _ _,h=>by simp [nb] at h
 | .fptr .fz cells _,h=>pX cells (by simpa [nb] using h)
 | .sl .bw _ _,h=>by simp [nb] at h
 | .sl .own _ rows,h=>qL5 rows (by simpa [nb] using h)
 | .sl .fz _ rows,h=>qL5 rows (by simpa [nb] using h)
 | .agg cs,h=>pX cs h
 | .tup cs,h=>pX cs h
theorem pX {A:Nat→Prop} :∀(l:List AV),nbs l→jK A l
 | [],_=>trivial
 | c::cs,h=>⟨qW2 c h.1,pX cs h.2⟩
theorem qL5 {A:Nat→Prop} :∀(l:List (List AV)),nbr l→yW A l
 | [],_=>trivial
 | c::cs,h=>⟨pX c h.1,qL5 cs h.2⟩
end
mutual
def yA:Nat→AV→AV×List (Nat×Row)×Nat
 | n,.sl .own sz rows=>(.ns n 0 rows.length,[(n,(sz,rows))],n+1)
 | n,.agg cs=>(.agg (jS n cs).1,(jS n cs).2.1,(jS n cs).2.2)
 | n,.tup cs=>(.tup (jS n cs).1,(jS n cs).2.1,(jS n cs).2.2)
 | n,v=>(v,[],n)
def jS:Nat→List AV→List AV×List (Nat×Row)×Nat
 | n,[]=>([],[],n)
 | n,v::l=>((yA n v).1::(jS (yA n v).2.2 l).1,(yA n v).2.1++(jS (yA n v).2.2 l).2.1,(jS (yA n v).2.2 l).2.2)
end
end Go.Sep
namespace Go.Sep
set_option linter.unusedVariables false
set_option linter.unusedSimpArgs false
theorem qPq (n:Nat) (v:AV) (h1 :∀sz rows,v≠.sl .own sz rows) (h2 :∀cs,v≠.agg cs) (h3 :∀cs,v≠.tup cs):yA n v=(v,[],n):=by
 cases v
 case sl m sz rows =>
  cases m
  ·exact absurd rfl (h1 _ _)
  all_goals simp [yA]
 case agg cs=>exact absurd rfl (h2 _)
 case tup cs=>exact absurd rfl (h3 _)
 all_goals simp [yA]
theorem qZf {e:Env} {v:AV} {c:Value} {L:List Nat} (h1 :∀sz rows,v≠.sl .own sz rows) (h2 :∀cs,v≠.agg cs) (h3 :∀cs,v≠.tup cs) (h:RV e v c L):L=[]:=by
 cases v
 case any=>simpa [RV] using h
 case agg cs=>exact absurd rfl (h2 _)
 case tup cs=>exact absurd rfl (h3 _)
 case sl m sz rows =>
  cases m
  ·exact absurd rfl (h1 _ _)
  all_goals simp only [RV] at h; exact h.1
 case fn=>simp only [RV] at h; obtain ⟨_,_,_,h⟩:=h; exact h
 all_goals simp only [RV] at h
 case ptr=>exact h.1
 case fptr=>exact h.1
 case ns=>exact h.1
 all_goals exact h.2
mutual
theorem fM :∀(v:AV) (n:Nat),n≤(yA n v).2.2∧∀x∈(yA n v).2.1,n≤x.1∧x.1<(yA n v).2.2
 | .sl .own sz rows,n=>by simp [yA]
 | .agg cs,n=>by simp only [yA]; exact eC cs n
 | .tup cs,n=>by simp only [yA]; exact eC cs n
 | .any,n | .int _ _,n | .bool _,n | .str _,n | .fn _ _,n | .nilp,n | .ptr _ _ _,n | .fptr _ _ _,n | .nil,n | .nilI,n | .ifc,n | .ns _ _ _,n | .sl .bw _ _,n | .sl .fz _ _,n=>by simp [yA]
theorem eC :∀(l:List AV) (n:Nat),n≤(jS n l).2.2∧∀x∈(jS n l).2.1,n≤x.1∧x.1<(jS n l).2.2
 | [],n=>by simp [jS]
 | v::l,n=>by
  obtain ⟨a1,a2⟩:=fM v n
  obtain ⟨b1,b2⟩:=eC l (yA n v).2.2
  simp only [jS]
  refine ⟨by omega,fun x hx=>?_⟩
  rcases List.mem_append.1 hx with hx | hx
  ·have:=a2 x hx; omega
  ·have:=b2 x hx; omega
end
mutual
theorem oE :∀(v:AV) (n:Nat),((yA n v).2.1.map (·.1)).Nodup
 | .sl .own sz rows,n=>by simp [yA]
 | .agg cs,n=>by simp only [yA]; exact mA cs n
 | .tup cs,n=>by simp only [yA]; exact mA cs n
 | .any,n | .int _ _,n | .bool _,n | .str _,n | .fn _ _,n | .nilp,n | .ptr _ _ _,n | .fptr _ _ _,n | .nil,n | .nilI,n | .ifc,n | .ns _ _ _,n | .sl .bw _ _,n | .sl .fz _ _,n=>by simp [yA]
theorem mA :∀(l:List AV) (n:Nat),((jS n l).2.1.map (·.1)).Nodup
 | [],n=>by simp [jS]
 | v::l,n=>by
  simp only [jS,wD2]
  refine List.nodup_append.2 ⟨oE v n,mA l _,?_⟩
  intro x hx y hy hxy
  obtain ⟨x',hx',rfl⟩:=List.mem_map.1 hx
  obtain ⟨y',hy',rfl⟩:=List.mem_map.1 hy
  have:=(fM v n).2 x' hx'
  have:=(eC l (yA n v).2.2).2 y' hy'
  omega
end
mutual
theorem qIp :∀(v:AV) (n:Nat),bnd (· < n) v→bnd (· < (yA n v).2.2) (yA n v).1∧∀x∈(yA n v).2.1,yW (· < (yA n v).2.2) x.2.2
 | .sl .own sz rows,n,h=>by
  simp only [yA,wC6]
  refine ⟨Nat.lt_succ_self n,?_⟩
  rintro x rfl
  exact uV (fun k hk=>Nat.lt_succ_of_lt hk) rows h
 | .agg cs,n,h=>by simp only [yA]; exact sP cs n h
 | .tup cs,n,h=>by simp only [yA]; exact sP cs n h
 | .any,n,h | .int _ _,n,h | .bool _,n,h | .str _,n,h | .fn _ _,n,h | .nilp,n,h | .ptr _ _ _,n,h | .fptr _ _ _,n,h | .nil,n,h | .nilI,n,h | .ifc,n,h | .ns _ _ _,n,h | .sl .bw _ _,n,h | .sl .fz _ _,n,h=>by
  simp only [yA]
  exact ⟨h,by simp⟩
theorem sP :∀(l:List AV) (n:Nat),jK (· < n) l→jK (· < (jS n l).2.2) (jS n l).1∧∀x∈(jS n l).2.1,yW (· < (jS n l).2.2) x.2.2
 | [],n,h=>by simp [jS,jK]
 | v::l,n,h=>by
  obtain ⟨a1,a2⟩:=qIp v n h.1
  have hle:=(fM v n).1
  have hle2:=(eC l (yA n v).2.2).1
  obtain ⟨b1,b2⟩:=sP l (yA n v).2.2 (xC (fun k hk=>wCq hk hle) l h.2)
  have mono :∀k,k<(yA n v).2.2→k<(jS (yA n v).2.2 l).2.2:=fun k hk=>wCq hk hle2
  simp only [jS,jK]
  refine ⟨⟨lO mono _ a1,b1⟩,fun x hx=>?_⟩
  rcases List.mem_append.1 hx with hx | hx
  ·exact uV mono _ (a2 x hx)
  ·exact b2 x hx
end
def qXt (e:Env) (A:Nat→Prop) (L:List Nat) (fr:List (Nat×Row)) (ok:Env→Prop):Prop :=
 ∃S:List (Nat×vG×List Nat),S.map (·.1)=fr.map (·.1)∧L=S.flatMap (·.2.2)∧
  ∀e',(∀x∈S,e'.φ x.1=x.2.1)→dI e e' A L→ok e'∧∀x∈S,∀row,(x.1,row)∈fr→gI e' x.2.1 row x.2.2
mutual
theorem qN4 {e:Env} {A:Nat→Prop} :∀(v:AV) (n:Nat) {c:Value} {L:List Nat},bnd A v→RV e v c L→qXt e A L (yA n v).2.1 (fun e'=>RV e' (yA n v).1 c [])
 | .sl .own sz rows,n,c,L,hb,h=>by
  obtain ⟨o1,o2⟩:=qN3 h
  refine ⟨[(n,iX sz c,L)],by simp [yA],by simp,fun e' he hk=>⟨?_,?_⟩⟩
  ·simp only [yA]
   exact o2 e' n (he (n,iX sz c,L) (by simp))
  ·intro x hx row hr
   simp only [wC6] at hx
   subst hx
   simp only [yA,wC6,Prod.mk.injEq,true_and] at hr
   subst hr
   exact o1.keep hk hb
 | .agg cs,n,c,L,hb,h=>by
  simp only [RV] at h
  obtain ⟨vs,h1,h2⟩:=h
  obtain ⟨S,s1,s2,s3⟩:=qBs cs n hb h2
  refine ⟨S,by simpa [yA] using s1,s2,fun e' he hk=>?_⟩
  obtain ⟨g1,g2⟩:=s3 e' he hk
  simp only [yA,RV]
  exact ⟨⟨vs,h1,g1⟩,g2⟩
 | .tup cs,n,c,L,hb,h=>by
  simp only [RV] at h
  obtain ⟨vs,h1,h2⟩:=h
  obtain ⟨S,s1,s2,s3⟩:=qBs cs n hb h2
  refine ⟨S,by simpa [yA] using s1,s2,fun e' he hk=>?_⟩
  obtain ⟨g1,g2⟩:=s3 e' he hk
  simp only [yA,RV]
  exact ⟨⟨vs,h1,g1⟩,g2⟩
 | .any,n,c,L,hb,h | .int _ _,n,c,L,hb,h | .bool _,n,c,L,hb,h | .str _,n,c,L,hb,h | .fn _ _,n,c,L,hb,h | .nilp,n,c,L,hb,h | .ptr _ _ _,n,c,L,hb,h | .fptr _ _ _,n,c,L,hb,h
 | .nil,n,c,L,hb,h | .nilI,n,c,L,hb,h | .ifc,n,c,L,hb,h | .ns _ _ _,n,c,L,hb,h | .sl .bw _ _,n,c,L,hb,h | .sl .fz _ _,n,c,L,hb,h=>by
  have hL:=qZf (by simp) (by simp) (by simp) h
  subst hL
  rw [qPq _ _ (by simp) (by simp) (by simp)]
  exact ⟨[],rfl,rfl,fun e' _ hk=>⟨iS _ hk hb h,by simp⟩⟩
theorem qBs {e:Env} {A:Nat→Prop} :∀(l:List AV) (n:Nat) {cs:List Value} {L:List Nat},jK A l→RVs e l cs L→qXt e A L (jS n l).2.1 (fun e'=>RVs e' (jS n l).1 cs [])
 | [],n,cs,L,hb,h=>by
  simp only [RVs] at h
  obtain ⟨rfl,rfl⟩:=h
  exact ⟨[],rfl,rfl,fun e' _ _=>⟨by simp [jS,RVs],by simp⟩⟩
 | v::l,n,cs,L,hb,h=>by
  simp only [RVs] at h
  obtain ⟨c,cs',L1,L2,rfl,h1,h2,rfl⟩:=h
  obtain ⟨S1,a1,a2,a3⟩:=qN4 v n hb.1 h1
  obtain ⟨S2,b1,b2,b3⟩:=qBs l (yA n v).2.2 hb.2 h2
  refine ⟨S1++S2,by simp [jS,a1,b1],by simp [a2,b2],fun e' he hk=>?_⟩
  obtain ⟨g1,g2⟩:=a3 e' (fun x hx=>he x (by simp [hx])) (hk.sub (by simp +contextual))
  obtain ⟨g3,g4⟩:=b3 e' (fun x hx=>he x (by simp [hx])) (hk.sub (by simp +contextual))
  refine ⟨?_,fun x hx row hr=>?_⟩
  ·simp only [jS,RVs]
   exact ⟨c,cs',[],[],rfl,g1,g3,rfl⟩
  ·simp only [jS] at hr
   have key :∀{M:List (Nat×Row)} {T:List (Nat×vG×List Nat)},T.map (·.1)=M.map (·.1)→∀y∈T,∃z∈M,z.1=y.1:=by
    intro M T hT y hy
    have hm:y.1∈T.map (·.1):=List.mem_map.2 ⟨y,hy,rfl⟩
    rw [hT] at hm
    obtain ⟨z,hz,hzy⟩:=List.mem_map.1 hm
    exact ⟨z,hz,hzy⟩
   rcases List.mem_append.1 hx with hx | hx
   ·rcases List.mem_append.1 hr with hr | hr
    ·exact g2 x hx row hr
    ·obtain ⟨z,hz,hzx⟩:=key a1 x hx
     have h3:=(fM v n).2 z hz
     have h4:=(eC l (yA n v).2.2).2 _ hr
     simp only at h4
     omega
   ·rcases List.mem_append.1 hr with hr | hr
    ·obtain ⟨z,hz,hzx⟩:=key b1 x hx
     have h3:=(eC l (yA n v).2.2).2 z hz
     have h4:=(fM v n).2 _ hr
     simp only at h4
     omega
    ·exact g4 x hx row hr
end
end Go.Sep
namespace Go.Sep
set_option linter.unusedVariables false
set_option linter.unusedSimpArgs false
def rnm:List (Nat×Nat)→Nat→Nat
 | [],_=>0
 | (a,b)::σ,k=>if k=a then b else rnm σ k
mutual
def jW (f:Nat→Nat):AV→AV
 | .ptr nm i o=>.ptr (f nm) i o
 | .ns nm o l=>.ns (f nm) o l
 | .agg cs=>.agg (aX f cs)
 | .tup cs=>.tup (aX f cs)
 | v=>v
def aX (f:Nat→Nat):List AV→List AV
 | []=>[]
 | c::cs=>jW f c::aX f cs
end
mutual
def okV (A:Nat→Prop):AV→Prop
 | .ptr nm _ _=>A nm
 | .ns nm _ _=>A nm
 | .agg cs=>okL A cs
 | .tup cs=>okL A cs
 | .any=>True
 | v=>nb v
def okL (A:Nat→Prop):List AV→Prop
 | []=>True
 | c::cs=>okV A c∧okL A cs
end
mutual
def bwT (h:wT):AV→AV
 | .ns nm off len=>(match qQ h nm with | some row=>.sl .bw row.1 (bwR ((row.2.drop off).take len)) | none=>.any)
 | .ptr nm i f=>(match qQ h nm with | some row=>.fptr .bw (bwL (row.2.getD i [])) f | none=>.any)
 | .agg cs=>.agg (qGl h cs)
 | .tup cs=>.tup (qGl h cs)
 | v=>bwC v
def qGl (h:wT):List AV→List AV
 | []=>[]
 | c::cs=>bwT h c::qGl h cs
end
mutual
def tF (h:wT) (F:Nat→Prop):AV→Prop
 | .ns nm off len =>∃row,qQ h nm=some row∧off+len≤row.2.length∧¬F nm∧yW (fun _=>False) row.2
 | .ptr nm i f =>∃row,qQ h nm=some row∧i<row.2.length∧¬F nm∧yW (fun _=>False) row.2
 | .agg cs=>sD h F cs
 | .tup cs=>sD h F cs
 | v=>bnd (fun _=>False) v
def sD (h:wT) (F:Nat→Prop):List AV→Prop
 | []=>True
 | c::cs=>tF h F c∧sD h F cs
end
theorem qUy {e:Env} {W:World} {b o' sz:Nat} {rows:List (List AV)} {L:List Nat} (l n:Nat) (hl:l+n≤rows.length) (h:yM e W b o' sz rows L) :
  ∃M,(∀x∈M,x∈L)∧yM e W b (o'+l*sz) sz ((rows.drop l).take n) M:=by
 have h0:rows=rows.take l++((rows.drop l).take n++rows.drop (l+n)):=by
  rw [←List.drop_drop,wBv,wBv]
 rw [h0] at h
 obtain ⟨M1,M2,_,h2,rfl⟩:=(jM _ _).1 h
 obtain ⟨M3,M4,h3,_,rfl⟩:=(jM _ _).1 h2
 rw [List.length_take,Nat.min_eq_left (by omega)] at h3
 exact ⟨M3,fun x hx=>by simp [hx],h3⟩
section
variable {e e':Env} {V:Nat→Prop} {h:wT} {Lf:Nat→List Nat} {F:Nat→Prop}
mutual
theorem qQz (hs:qH9 e e' V) (hr:RH e (qQ h) Lf) (hV :∀nm,qQ h nm≠none→¬F nm→∀b∈Lf nm,V b) :∀(v:AV) {c:Value},tF h F v→RV e v c []→RV e' (bwT h v) c []
 | .ns nm off len,c,hk,hv=>by
  simp only [tF] at hk
  obtain ⟨row,h1,h2,h3,h4⟩:=hk
  simp only [bwT,h1]
  have hV':=hV nm (by simp [h1]) h3
  rcases qIr (hr.row nm row h1) hv with ⟨_,q1,rfl,rfl,aa,rfl⟩ | ⟨q,A,Lr,hq,q1,q2,q3,q4,q5,rfl,q7⟩
  ·simp only [RV,q1,List.drop_nil,List.take_nil,bwR,true_and]
   exact .inl ⟨aa,0,rfl,fun _=>rfl⟩
  ·simp only [RV,true_and]
   by_cases hz:len=0
   ·subst hz
    exact .inl ⟨by simp [bwR],some A,_,rfl,by simp⟩
   ·refine .inr ⟨q.block,q.off+off*q.sz,q.cap-off,?_,?_,?_,?_⟩
    ·rw [q7 (by omega),zA]
     congr 1
     simp
     omega
    ·rw [zA]
     simp
     omega
    ·exact hs.bo _ (.inr (.inr (hV' _ (by rw [q4]; simp))))
    ·obtain ⟨M,m1,m2⟩:=qUy off len h2 q3
     rw [←q1]
     exact pK hs _ (fun b hb=>hV' b (by rw [q4]; simp [m1 b hb])) (rM (lN h4 _) _) (fun o'=>by rw [hs.w0]) m2
 | .ptr nm i f,c,hk,hv=>by
  simp only [tF] at hk
  obtain ⟨row,h1,h2,h3,h4⟩:=hk
  simp only [bwT,h1]
  have hV':=hV nm (by simp [h1]) h3
  have hrow:=hr.row nm row h1
  obtain ⟨p,hp,rfl⟩:=sM hrow hv
  unfold uX gI at hrow
  rw [hp] at hrow
  obtain ⟨e1,e2,Lr,e3,e4⟩:=hrow
  obtain ⟨vs,L1,L2,L3,g1,g2,g3,g4,_,_,g7⟩:=cH i h2 e3
  simp only [RV,true_and]
  have hgd:row.2.getD i []=row.2[i]:=fU h2
  refine ⟨p.block,p.off+i*p.sz,vs,rfl,hs.bo _ (.inr (.inr (hV' _ (by rw [e4]; simp)))),?_,?_,?_⟩
  ·rw [eJ,hgd,g1.1,g2]
  ·intro j hj
   rw [eJ,hgd,g1.1] at hj
   rw [hs.w0]
   exact g3 j hj
  ·rw [hgd]
   exact tJ hs _ (fun b hb=>hV' b (by rw [e4,g7]; simp [hb])) (yE.1 h4 _ (wCj h2)) g4
 | .agg cs,c,hk,hv=>by
  simp only [tF,bwT,RV] at hk hv⊢
  obtain ⟨vs,h1,h2⟩:=hv
  exact ⟨vs,h1,qLu hs hr hV cs hk h2⟩
 | .tup cs,c,hk,hv=>by
  simp only [tF,bwT,RV] at hk hv⊢
  obtain ⟨vs,h1,h2⟩:=hv
  exact ⟨vs,h1,qLu hs hr hV cs hk h2⟩
 | .any,c,hk,hv | .int _ _,c,hk,hv | .bool _,c,hk,hv | .str _,c,hk,hv | .fn _ _,c,hk,hv | .nilp,c,hk,hv | .fptr _ _ _,c,hk,hv | .nil,c,hk,hv | .nilI,c,hk,hv | .ifc,c,hk,hv | .sl _ _ _,c,hk,hv=>by
  simp only [tF] at hk
  simp only [bwT]
  exact qZx hs _ (by simp) hk hv
theorem qLu (hs:qH9 e e' V) (hr:RH e (qQ h) Lf) (hV :∀nm,qQ h nm≠none→¬F nm→∀b∈Lf nm,V b) :∀(l:List AV) {cs:List Value},sD h F l→RVs e l cs []→RVs e' (qGl h l) cs []
 | [],cs,_,hv=>by simpa only [RVs,qGl] using hv
 | v::l,cs,hk,hv=>by
  simp only [sD,qGl,RVs] at hk hv⊢
  obtain ⟨c,cs',L1,L2,h1,h2,h3,h4⟩:=hv
  have hL1:L1=[]:=(wY h4).1
  have hL2:L2=[]:=(wY h4).2
  subst hL1 hL2
  exact ⟨c,cs',[],[],h1,qQz hs hr hV v hk.1 h2,qLu hs hr hV l hk.2 h3,rfl⟩
end
mutual
theorem qKy {A:Nat→Prop} {f:Nat→Nat} (hs:qDy e e') (hφ :∀n,A n→e'.φ (f n)=e.φ n) :∀(v:AV) {c:Value} {L:List Nat},(∀b∈L,e'.w.heap[b]?=e.w.heap[b]?)→okV A v→RV e v c L→RV e' (jW f v) c L
 | .ptr nm i o,c,L,hk,ha,h=>by
  simp only [okV,jW,RV] at ha h⊢
  rw [hφ nm ha]
  exact h
 | .ns nm o l,c,L,hk,ha,h=>by
  simp only [okV,jW,RV] at ha h⊢
  rw [hφ nm ha]
  exact h
 | .agg cs,c,L,hk,ha,h=>by
  simp only [okV,jW,RV] at ha h⊢
  obtain ⟨vs,h1,h2⟩:=h
  exact ⟨vs,h1,qE5 hs hφ cs hk ha h2⟩
 | .tup cs,c,L,hk,ha,h=>by
  simp only [okV,jW,RV] at ha h⊢
  obtain ⟨vs,h1,h2⟩:=h
  exact ⟨vs,h1,qE5 hs hφ cs hk ha h2⟩
 | .any,c,L,hk,ha,h=>by simpa only [jW,RV] using h
 | .int _ _,c,L,hk,ha,h | .bool _,c,L,hk,ha,h | .str _,c,L,hk,ha,h | .fn _ _,c,L,hk,ha,h | .nilp,c,L,hk,ha,h | .fptr _ _ _,c,L,hk,ha,h | .nil,c,L,hk,ha,h | .nilI,c,L,hk,ha,h
 | .ifc,c,L,hk,ha,h | .sl _ _ _,c,L,hk,ha,h=>by
  simp only [okV] at ha
  simp only [jW]
  exact qXs hs _ hk ha h
theorem qE5 {A:Nat→Prop} {f:Nat→Nat} (hs:qDy e e') (hφ :∀n,A n→e'.φ (f n)=e.φ n) :∀(l:List AV) {cs:List Value} {L:List Nat},(∀b∈L,e'.w.heap[b]?=e.w.heap[b]?)→okL A l→RVs e l cs L→RVs e' (aX f l) cs L
 | [],cs,L,_,_,h=>by simpa only [RVs,aX] using h
 | v::l,cs,L,hk,ha,h=>by
  simp only [okL,aX,RVs] at ha h⊢
  obtain ⟨c,cs',L1,L2,h1,h2,h3,h4⟩:=h
  subst h4
  exact ⟨c,cs',L1,L2,h1,qKy hs hφ v (fun b hb=>hk b (by simp [hb])) ha.1 h2,qE5 hs hφ l (fun b hb=>hk b (by simp [hb])) ha.2 h3,rfl⟩
end
end
mutual
theorem qF7 {A B:Nat→Prop} {f:Nat→Nat} (hf :∀n,A n→B (f n)) :∀(v:AV),okV A v→bnd B (jW f v)
 | .ptr nm i o,h=>hf nm h
 | .ns nm o l,h=>hf nm h
 | .agg cs,h=>by simp only [okV,jW] at h⊢; exact qA5 hf cs h
 | .tup cs,h=>by simp only [okV,jW] at h⊢; exact qA5 hf cs h
 | .any,_=>trivial
 | .int _ _,h | .bool _,h | .str _,h | .fn _ _,h | .nilp,h | .fptr _ _ _,h | .nil,h | .nilI,h | .ifc,h | .sl _ _ _,h=>by
  simp only [okV] at h
  simp only [jW]
  exact qW2 _ h
theorem qA5 {A B:Nat→Prop} {f:Nat→Nat} (hf :∀n,A n→B (f n)) :∀(l:List AV),okL A l→jK B (aX f l)
 | [],_=>trivial
 | v::l,h=>⟨qF7 hf v h.1,qA5 hf l h.2⟩
end
def okR (A:Nat→Prop):List (List AV)→Prop
 | []=>True
 | r::rs=>okL A r∧okR A rs
def aN (f:Nat→Nat):List (List AV)→List (List AV)
 | []=>[]
 | r::rs=>aX f r::aN f rs
def aO (f:Nat→Nat):Option Row→Option Row
 | none=>none
 | some r=>some (r.1,aN f r.2)
theorem qBk {f:Nat→Nat} {o:Option Row}:aO f o=none↔o=none:=by cases o<;>simp [aO]
theorem nX (f:Nat→Nat) :∀(l:List AV),(aX f l).length=l.length
 | []=>rfl
 | c::cs=>by simp [aX,nX f cs]
theorem iG (f:Nat→Nat) :∀(l:List (List AV)),(aN f l).length=l.length
 | []=>rfl
 | c::cs=>by simp [aN,iG f cs]
theorem qBl (f:Nat→Nat) :∀(l:List AV),(aX f l).all yS=l.all yS
 | []=>rfl
 | c::cs=>by
  simp only [aX,wC1,qBl f cs]
  congr 1
  cases c<;>rfl
mutual
theorem qYd (f:Nat→Nat) :∀(v:AV),nb v→jW f v=v
 | .ptr ..,h=>by simp [nb] at h
 | .ns ..,h=>by simp [nb] at h
 | .agg cs,h=>by simp only [jW,qE6 f cs (by simpa [nb] using h)]
 | .tup cs,h=>by simp only [jW,qE6 f cs (by simpa [nb] using h)]
 | .any,_ | .int _ _,_ | .bool _,_ | .str _,_ | .fn _ _,_ | .nilp,_ | .fptr _ _ _,_ | .nil,_ | .nilI,_ | .ifc,_ | .sl _ _ _,_=>by simp only [jW]
theorem qE6 (f:Nat→Nat) :∀(l:List AV),nbs l→aX f l=l
 | [],_=>rfl
 | c::cs,h=>by simp only [aX,qYd f c h.1,qE6 f cs h.2]
end
theorem eM (f:Nat→Nat) :∀(l:List (List AV)),nbr l→aN f l=l
 | [],_=>rfl
 | c::cs,h=>by simp only [aN,qE6 f c h.1,eM f cs h.2]
mutual
theorem wA5 {A:Nat→Prop} :∀(v:AV),nb v→okV A v
 | .ptr ..,h=>by simp [nb] at h
 | .ns ..,h=>by simp [nb] at h
 | .agg cs,h=>qL1 cs (by simpa [nb] using h)
 | .tup cs,h=>qL1 cs (by simpa [nb] using h)
 | .any,_=>trivial
 | .int _ _,h | .bool _,h | .str _,h | .fn _ _,h | .nilp,h | .fptr _ _ _,h | .nil,h | .nilI,h | .ifc,h | .sl _ _ _,h=>by simpa only [okV] using h
theorem qL1 {A:Nat→Prop} :∀(l:List AV),nbs l→okL A l
 | [],_=>trivial
 | c::cs,h=>⟨wA5 c h.1,qL1 cs h.2⟩
end
theorem aQ {A:Nat→Prop} :∀(l:List (List AV)),nbr l→okR A l
 | [],_=>trivial
 | c::cs,h=>⟨qL1 c h.1,aQ cs h.2⟩
theorem qA8 {A:Nat→Prop} :∀(l:List (List AV)) (i:Nat) (r:List AV),okR A l→okL A r→okR A (l.set i r)
 | [],i,r,h,hr=>h
 | c::cs,0,r,h,hr=>⟨hr,h.2⟩
 | c::cs,i+1,r,h,hr=>⟨h.1,qA8 cs i r h.2 hr⟩
theorem qF8 (f:Nat→Nat) :∀(l:List (List AV)) (i:Nat) (r:List AV),aN f (l.set i r)=(aN f l).set i (aX f r)
 | [],i,r=>rfl
 | c::cs,0,r=>rfl
 | c::cs,i+1,r=>by simp only [List.set_cons_succ,aN,qF8 f cs i r]
theorem qMy {A B:Nat→Prop} {f:Nat→Nat} (hf :∀n,A n→B (f n)) :∀(l:List (List AV)),okR A l→yW B (aN f l)
 | [],_=>trivial
 | v::l,h=>⟨qA5 hf v h.1,qMy hf l h.2⟩
theorem qK5 {e e':Env} {A:Nat→Prop} {f:Nat→Nat} (hs:qDy e e') (hφ :∀n,A n→e'.φ (f n)=e.φ n) :∀(rs:List (List AV)) {W W':World} {b o sz:Nat} {L:List Nat},(∀b∈L,e'.w.heap[b]?=e.w.heap[b]?)→okR A rs→
  (∀o',W'.cell? ⟨b,o',none⟩=W.cell? ⟨b,o',none⟩)→yM e W b o sz rs L→yM e' W' b o sz (aN f rs) L
 | [],_,_,_,_,_,_,_,_,_,h=>by simpa only [yM,aN] using h
 | r::rs,W,W',b,o,sz,L,k,hb,hW,h=>by
  simp only [yM,aN] at h⊢
  obtain ⟨vs,L1,L2,h1,h2,h3,h4,h5,h6⟩:=h
  subst h6
  exact ⟨vs,L1,L2,by rw [nX,qBl]; exact h1,h2,fun j hj=>by rw [hW]; exact h3 j hj,qE5 hs hφ r (fun b hb=>k b (by simp [hb])) hb.1 h4,qK5 hs hφ rs (fun b hb=>k b (by simp [hb])) hb.2 hW h5,rfl⟩
mutual
theorem qVp {e e':Env} {A:Nat→Prop} {f:Nat→Nat} (hs:qDy e e') (hφ :∀n,A n→e'.φ n=e.φ (f n)) :∀(v:AV) {c:Value} {L:List Nat},(∀b∈L,e'.w.heap[b]?=e.w.heap[b]?)→okV A v→RV e (jW f v) c L→RV e' v c L
 | .ptr nm i o,c,L,hk,ha,h=>by
  simp only [okV,jW,RV] at ha h⊢
  rw [hφ nm ha]
  exact h
 | .ns nm o l,c,L,hk,ha,h=>by
  simp only [okV,jW,RV] at ha h⊢
  rw [hφ nm ha]
  exact h
 | .agg cs,c,L,hk,ha,h=>by
  simp only [okV,jW,RV] at ha h⊢
  obtain ⟨vs,h1,h2⟩:=h
  exact ⟨vs,h1,qA4 hs hφ cs hk ha h2⟩
 | .tup cs,c,L,hk,ha,h=>by
  simp only [okV,jW,RV] at ha h⊢
  obtain ⟨vs,h1,h2⟩:=h
  exact ⟨vs,h1,qA4 hs hφ cs hk ha h2⟩
 | .any,c,L,hk,ha,h=>by simpa only [jW,RV] using h
 | .int _ _,c,L,hk,ha,h | .bool _,c,L,hk,ha,h | .str _,c,L,hk,ha,h | .fn _ _,c,L,hk,ha,h | .nilp,c,L,hk,ha,h | .fptr _ _ _,c,L,hk,ha,h | .nil,c,L,hk,ha,h | .nilI,c,L,hk,ha,h
 | .ifc,c,L,hk,ha,h | .sl _ _ _,c,L,hk,ha,h=>by
  simp only [okV] at ha
  simp only [jW] at h
  exact qXs hs _ hk ha h
theorem qA4 {e e':Env} {A:Nat→Prop} {f:Nat→Nat} (hs:qDy e e') (hφ :∀n,A n→e'.φ n=e.φ (f n)) :∀(l:List AV) {cs:List Value} {L:List Nat},(∀b∈L,e'.w.heap[b]?=e.w.heap[b]?)→okL A l→RVs e (aX f l) cs L→RVs e' l cs L
 | [],cs,L,_,_,h=>by simpa only [RVs,aX] using h
 | v::l,cs,L,hk,ha,h=>by
  simp only [okL,aX,RVs] at ha h⊢
  obtain ⟨c,cs',L1,L2,h1,h2,h3,h4⟩:=h
  subst h4
  exact ⟨c,cs',L1,L2,h1,qVp hs hφ v (fun b hb=>hk b (by simp [hb])) ha.1 h2,qA4 hs hφ l (fun b hb=>hk b (by simp [hb])) ha.2 h3,rfl⟩
end
theorem qK6 {e e':Env} {A:Nat→Prop} {f:Nat→Nat} (hs:qDy e e') (hφ :∀n,A n→e'.φ n=e.φ (f n)) :∀(rs:List (List AV)) {W W':World} {b o sz:Nat} {L:List Nat},(∀b∈L,e'.w.heap[b]?=e.w.heap[b]?)→okR A rs→
  (∀o',W'.cell? ⟨b,o',none⟩=W.cell? ⟨b,o',none⟩)→yM e W b o sz (aN f rs) L→yM e' W' b o sz rs L
 | [],_,_,_,_,_,_,_,_,_,h=>by simpa only [yM,aN] using h
 | r::rs,W,W',b,o,sz,L,k,hb,hW,h=>by
  simp only [yM,aN] at h⊢
  obtain ⟨vs,L1,L2,h1,h2,h3,h4,h5,h6⟩:=h
  subst h6
  rw [nX,qBl] at h1
  exact ⟨vs,L1,L2,h1,h2,fun j hj=>by rw [hW]; exact h3 j hj,qA4 hs hφ r (fun b hb=>k b (by simp [hb])) hb.1 h4,qK6 hs hφ rs (fun b hb=>k b (by simp [hb])) hb.2 hW h5,rfl⟩
end Go.Sep
namespace Go.Sep
set_option linter.unusedVariables false
set_option linter.unusedSimpArgs false
def ixm:List (Nat×Nat)→Nat→Nat
 | [],_=>0
 | (a,b)::σ,n=>if n=b then a else ixm σ n
def fR (ix:Nat→Nat) (h:wT):List Bool→List AV→List AV
 | _,[]=>[]
 | true::ps,v::vs=>jW ix v::fR ix h ps vs
 | false::ps,v::vs=>bwT h v::fR ix h ps vs
 | [],v::vs=>bwT h v::fR ix h [] vs
def gT (h:wT) (A F:Nat→Prop):List Bool→List AV→Prop
 | _,[]=>True
 | true::ps,v::vs=>okV A v∧gT h A F ps vs
 | false::ps,v::vs=>tF h F v∧gT h A F ps vs
 | [],v::vs=>tF h F v∧gT h A F [] vs
theorem qEb {e e':Env} {V:Nat→Prop} {h:wT} {Lf:Nat→List Nat} {A F:Nat→Prop} {ix:Nat→Nat} (hs:qH9 e e' V) (hse:qDy e e') (hw:e'.w=e.w) (hr:RH e (qQ h) Lf) (hV :∀nm,qQ h nm≠none→¬F nm→∀b∈Lf nm,V b) (hφ :∀n,A n→e'.φ (ix n)=e.φ n) :
  ∀(ps:List Bool) (vs:List AV) {cs:List Value},gT h A F ps vs→RVs e vs cs []→RVs e' (fR ix h ps vs) cs []
 | ps,[],cs,_,hv=>by
  have:fR ix h ps []=[]:=by cases ps with
   | nil=>rfl
   | cons p ps=>cases p<;>rfl
  rw [this]
  simpa only [RVs] using hv
 | true::ps,v::vs,cs,hk,hv=>by
  simp only [gT,fR,RVs] at hk hv⊢
  obtain ⟨c,cs',L1,L2,h1,h2,h3,h4⟩:=hv
  have hL1:L1=[]:=(wY h4).1
  have hL2:L2=[]:=(wY h4).2
  subst hL1 hL2
  exact ⟨c,cs',[],[],h1,qKy hse hφ v (by simp) hk.1 h2,qEb hs hse hw hr hV hφ ps vs hk.2 h3,rfl⟩
 | false::ps,v::vs,cs,hk,hv=>by
  simp only [gT,fR,RVs] at hk hv⊢
  obtain ⟨c,cs',L1,L2,h1,h2,h3,h4⟩:=hv
  have hL1:L1=[]:=(wY h4).1
  have hL2:L2=[]:=(wY h4).2
  subst hL1 hL2
  exact ⟨c,cs',[],[],h1,qQz hs hr hV v hk.1 h2,qEb hs hse hw hr hV hφ ps vs hk.2 h3,rfl⟩
 | [],v::vs,cs,hk,hv=>by
  simp only [gT,fR,RVs] at hk hv⊢
  obtain ⟨c,cs',L1,L2,h1,h2,h3,h4⟩:=hv
  have hL1:L1=[]:=(wY h4).1
  have hL2:L2=[]:=(wY h4).2
  subst hL1 hL2
  exact ⟨c,cs',[],[],h1,qQz hs hr hV v hk.1 h2,qEb hs hse hw hr hV hφ [] vs hk.2 h3,rfl⟩
theorem qP3 {e:Env} {ρ:Nat→AV} {a:Act} (ht :∀t,RV e (ρ t) (a.tmps.getD t undef) []) :∀(xs:List Operand) (ys:List Arg),qDb e.num xs ys=true→RVs e (ys.map (Arg.ev ρ)) (xs.map a.eval) []
 | [],[],_=>by simp [RVs]
 | x::xs,y::ys,h=>by
  simp only [qDb,wBp] at h
  simp only [wBm,RVs]
  exact ⟨_,_,[],[],rfl,yF ht h.1,qP3 ht xs ys h.2,rfl⟩
 | [],_::_,h=>by simp [qDb] at h
 | _::_,[],h=>by simp [qDb] at h
theorem rA {fp:FP} (hnd:(fp.map (·.1)).Nodup) {x:Nat×Option Row×Option Row} (hx:x∈fp):qQ (vY fp) x.1=x.2.1:=by
 induction fp with
 | nil=>simp at hx
 | cons y fp ih =>
  obtain ⟨n,a,b⟩:=y
  simp only [wBm,wCb] at hnd
  have hnone:qQ (vY fp) n=none:=by
   cases hh:qQ (vY fp) n with
   | none=>rfl
   | some r=>exact absurd (fA (by simp [hh])) hnd.1
  rcases List.mem_cons.1 hx with rfl | hx'
  ·cases a with
   | none=>simp only [vY]; exact hnone
   | some r=>simp [vY,qQ]
  ·have hne:x.1≠n:=fun he=>hnd.1 (List.mem_map.2 ⟨x,hx',he⟩)
   cases a with
   | none=>simp only [vY]; exact ih hnd.2 hx'
   | some r=>simp only [vY,qQ]; rw [if_neg hne]; exact ih hnd.2 hx'
theorem zO {fp:FP} (hnd:(fp.map (·.1)).Nodup) {x:Nat×Option Row×Option Row} (hx:x∈fp):qQ (uW fp) x.1=x.2.2:=by
 induction fp with
 | nil=>simp at hx
 | cons y fp ih =>
  obtain ⟨n,a,b⟩:=y
  simp only [wBm,wCb] at hnd
  have hnone:qQ (uW fp) n=none:=by
   cases hh:qQ (uW fp) n with
   | none=>rfl
   | some r=>exact absurd (qIo (by simp [hh])) hnd.1
  rcases List.mem_cons.1 hx with rfl | hx'
  ·cases b with
   | none=>simp only [uW]; exact hnone
   | some r=>simp [uW,qQ]
  ·have hne:x.1≠n:=fun he=>hnd.1 (List.mem_map.2 ⟨x,hx',he⟩)
   cases b with
   | none=>simp only [uW]; exact ih hnd.2 hx'
   | some r=>simp only [uW,qQ]; rw [if_neg hne]; exact ih hnd.2 hx'
theorem qBb :∀{fp:FP} {H:Nat→Option Row} {x:Nat×Option Row×Option Row},(fp.map (·.1)).Nodup→x∈fp→upH H fp x.1=x.2.2
 | [],H,x,_,hx=>by simp at hx
 | (n,a,b)::fp,H,x,hnd,hx=>by
  simp only [wBm,wCb] at hnd
  simp only [upH]
  rcases List.mem_cons.1 hx with rfl | hx
  ·rw [kO hnd.1,if_pos rfl]
  ·exact qBb hnd.2 hx
def inv (f:Nat→Nat) (fp:FP) (n:Nat):Option Nat:=(fp.find? (fun x=>f x.1==n)).map (·.1)
theorem qAj {f:Nat→Nat} {fp:FP} (hnd:(fp.map (fun x=>f x.1)).Nodup) {x:Nat×Option Row×Option Row} (hx:x∈fp):inv f fp (f x.1)=some x.1:=by
 induction fp with
 | nil=>simp at hx
 | cons y fp ih =>
  simp only [wBm,wCb] at hnd
  unfold inv
  rcases List.mem_cons.1 hx with rfl | hx
  ·simp
  ·have hne:f y.1≠f x.1:=fun he=>hnd.1 (List.mem_map.2 ⟨x,hx,he.symm⟩)
   rw [List.find?_cons_of_neg (by simpa using hne)]
   exact ih hnd.2 hx
theorem qWi {f:Nat→Nat} {fp:FP} {n:Nat} (h:n∉fp.map (fun x=>f x.1)):inv f fp n=none:=by
 unfold inv
 cases hh:fp.find? (fun x=>f x.1==n) with
 | none=>rfl
 | some x =>
  have h1:=List.find?_some hh
  have h2:=List.mem_of_find?_eq_some hh
  simp only [beq_iff_eq] at h1
  exact absurd (List.mem_map.2 ⟨x,h2,h1⟩) h
section
variable {P:Program} {num:Nat→Nat}
theorem qT8 {o:Oper} {a:Act} {w:World} {g:Nat} {args:Array Operand} {ats:Array TypeId} (hop:o.op=.call {callee:=.value (.func g),args,argTypes:=ats}) (hb:qZh P g) :
  (execOp a.eval o).run P w=.ok (.enter g (args.map a.eval)) w:=by
 obtain ⟨fn,hf,hname,hbd⟩:=hb
 have h1 :¬fn.name = "runtime.NumGoroutine":=by simpa using hname
 have h2 :¬fn.body=none:=by cases hx:fn.body<;>simp_all
 unfold execOp
 simp [hop,resolve,Deferred.ofValue,invoke,callFunc,hf,h1,h2,Act.eval]
theorem nG.to {m:MOp} {t:List (Nat×AV)} {h:wT} {nx nx':Nat} {v:AV} {fp:FP} {dst:Option Nat} (hc:nG P num m t h nx v fp nx'):tM P num m dst (.mk t h nx) (.mk (bS t dst v) (dR h fp) nx'):=by
 intro B o a w K Q hnum hchk hdst hdok hs k
 obtain ⟨hsz,hdef,hb,hbt,φ,Lf,hl⟩:=hs
 obtain ⟨pb,hr⟩:=hc hb hbt
 subst hdst
 refine hr B o a w φ Lf K Q hnum hchk hl ?_
 intro e3 Lf3 v' TT g1
 obtain ⟨k1,k2,k3,Lf4,k4⟩:=hl.turn (d:=o.dst) hsz hdok hb hbt pb TT g1
 exact k _ _ ⟨by rw [oA]; exact hsz,by rw [fK]; exact hdef,k2,k3,e3.φ,Lf4,k4⟩
def qEi (P:Program) (num:Nat→Nat) (m:MOp) (f:Nat) (xs:List Arg) (t:List (Nat×AV)):Prop :=
 ∀(e:Env) (o:Oper) (a:Act) (w:World),e.num=num→wW P num m o.op=true→(∀n,RV e (wD t n) (a.tmps.getD n undef) [])→
  ∃args:Array Operand,qDb num args.toList xs=true∧(execOp a.eval o).run P w=.ok (.enter (num f) (args.map a.eval)) w
theorem qQx {f:Nat} {ps:List Bool} {xs:List Arg} {t:List (Nat×AV)} (hb:qZh P (num f)):qEi P num (.call f ps xs) f xs t:=by
 intro e o a w hn hchk htm
 simp only [wW] at hchk
 split at hchk
 ·rename_i g args ats hop
  simp only [wBp,beq_iff_eq] at hchk
  obtain ⟨rfl,hchk⟩:=hchk
  exact ⟨args,hchk,qT8 hop hb⟩
 ·simp at hchk
theorem qQw {f:Nat} {y:Arg} {xs:List Arg} {t:List (Nat×AV)} (hb:qZh P (num f)) (hy:y.ev (wD t)=.fn f []):qEi P num (.calv y xs) f xs t:=by
 intro e o a w hn hchk htm
 subst hn
 simp only [wW] at hchk
 split at hchk
 ·rename_i x args ats hop
  simp only [wBp] at hchk
  obtain ⟨h1,hchk⟩:=hchk
  have g:=yF (e:=e) (ρ:=wD t) (a:=a) htm h1
  rw [hy] at g
  simp only [RV,RVs] at g
  obtain ⟨vs,h2,⟨rfl,_⟩,_⟩:=g
  refine ⟨args,hchk,?_⟩
  obtain ⟨fn,hf,hname,hbd⟩:=hb
  have k1 :¬fn.name = "runtime.NumGoroutine":=by simpa using hname
  have k2 :¬fn.body=none:=by cases hx:fn.body<;>simp_all
  unfold execOp
  simp [hop,resolve,Deferred.ofValue,invoke,callFunc,hf,k1,k2,h2]
 ·simp at hchk
theorem qXj {m:MOp} {f nx n1:Nat} {ps:List Bool} {xs:List Arg} {t:List (Nat×AV)} {h:wT} {fp:FP} {res:AV} {vargs:List AV} (σ:List (Nat×Nat)) (hc:qY P num f vargs fp res)
  (hv:wJ (fR (ixm σ) h ps (xs.map (Arg.ev (wD t)))) vargs)
  (hvo:gT h (fun n =>∃x∈fp,x.2.1≠none∧n=rnm σ x.1∧ixm σ n=x.1) (fun n =>∃x∈fp,n=rnm σ x.1) ps (xs.map (Arg.ev (wD t))))
  (hnd:(fp.map (fun x=>rnm σ x.1)).Nodup) (hpre :∀x∈fp,qQ h (rnm σ x.1)=aO (rnm σ) x.2.1∧(x.2.1=none→nx≤rnm σ x.1)∧rnm σ x.1<n1)
  (hnb :∀x∈fp,(∀r,x.2.1=some r→okR (fun k =>∃y∈fp,y.1=k∧y.2.1≠none) r.2)∧(∀r,x.2.2=some r→okR (fun k =>∃y∈fp,y.1=k∧y.2.2≠none) r.2)) (hres:okV (fun k =>∃x∈fp,x.1=k∧x.2.2≠none) res) (hn1:nx≤n1) (hm:qEi P num m f xs t) :
  nG P num m t h nx (yA n1 (jW (rnm σ) res)).1 (fp.map (fun x=>(rnm σ x.1,aO (rnm σ) x.2.1,aO (rnm σ) x.2.2))++fresh (yA n1 (jW (rnm σ) res)).2.1) (yA n1 (jW (rnm σ) res)).2.2:=by
 intro hb hbt
 let rn:=rnm σ
 have hnd0:(fp.map (·.1)).Nodup:=by
  have:fp.map (fun x=>rnm σ x.1)=(fp.map (·.1)).map (rnm σ):=by simp
  rw [this] at hnd
  exact List.Pairwise.of_map (rnm σ) (fun a b h he=>h (by rw [he])) hnd
 have rinj :∀x∈fp,∀y∈fp,rnm σ x.1=rnm σ y.1→x.1=y.1:=by
  intro x hx y hy he
  have h1:=qAj hnd hx
  have h2:=qAj hnd hy
  rw [he,h2] at h1
  exact (Option.some.inj h1).symm
 have preS :∀k,qQ (vY fp) k≠none→∃x∈fp,x.1=k∧x.2.1=qQ (vY fp) k:=by
  intro k hk
  obtain ⟨x,hx,rfl⟩:=List.mem_map.1 (fA hk)
  exact ⟨x,hx,rfl,(rA hnd0 hx).symm⟩
 have preR :∀k,qQ (vY fp) k≠none→qQ h (rnm σ k)=aO (rnm σ) (qQ (vY fp) k):=by
  intro k hk
  obtain ⟨x,hx,rfl,h1⟩:=preS k hk
  rw [(hpre x hx).1,h1]
 have preN :∀k,qQ (vY fp) k≠none→qQ h (rnm σ k)≠none:=by
  intro k hk
  rw [preR k hk]
  exact fun h=>hk (qBk.1 h)
 have hbres:bnd (· < n1) (jW (rnm σ) res):=qF7 (A:=fun k =>∃x∈fp,x.1=k∧x.2.2≠none) (fun n ⟨x,hx,he,_⟩=>by rw [←he]; exact (hpre x hx).2.2) res hres
 have hle:=fM (jW (rnm σ) res) n1
 have opnone :∀y∈(yA n1 (jW (rnm σ) res)).2.1,qQ h y.1=none:=fun y hy=>hb.new (wD3 hn1 (hle.2 y hy).1)
 have hob:=qIp (jW (rnm σ) res) n1 hbres
 have pb:PB h nx (yA n1 (jW (rnm σ) res)).1 (fp.map (fun x=>(rnm σ x.1,aO (rnm σ) x.2.1,aO (rnm σ) x.2.2))++fresh (yA n1 (jW (rnm σ) res)).2.1) (yA n1 (jW (rnm σ) res)).2.2:={
  le:=wD3 hn1 hle.1
  v:=hob.1
  pre:=fun x hx=>by
   rcases List.mem_append.1 hx with hx | hx
   ·obtain ⟨y,hy,rfl⟩:=List.mem_map.1 hx
    exact (hpre y hy).1
   ·obtain ⟨y,hy,rfl⟩:=List.mem_map.1 hx
    exact opnone y hy
  new:=fun x hx hn=>by
   rcases List.mem_append.1 hx with hx | hx
   ·obtain ⟨y,hy,rfl⟩:=List.mem_map.1 hx
    exact (hpre y hy).2.1 (qBk.1 hn)
   ·obtain ⟨y,hy,rfl⟩:=List.mem_map.1 hx
    exact wD3 hn1 (hle.2 y hy).1
  lt:=fun x hx=>by
   rcases List.mem_append.1 hx with hx | hx
   ·obtain ⟨y,hy,rfl⟩:=List.mem_map.1 hx
    exact wCq (hpre y hy).2.2 hle.1
   ·obtain ⟨y,hy,rfl⟩:=List.mem_map.1 hx
    exact (hle.2 y hy).2
  row:=fun x hx row hr=>by
   rcases List.mem_append.1 hx with hx | hx
   ·obtain ⟨y,hy,rfl⟩:=List.mem_map.1 hx
    cases hr2:y.2.2 with
    | none=>simp [hr2,aO] at hr
    | some r0 =>
     simp only [hr2,aO,Option.some.injEq] at hr
     subst hr
     exact qMy (fun n ⟨z,hz,he,_⟩=>by rw [←he]; exact wCq (hpre z hz).2.2 hle.1) _ ((hnb y hy).2 r0 hr2)
   ·obtain ⟨y,hy,rfl⟩:=List.mem_map.1 hx
    simp only [Option.some.injEq] at hr
    subst hr
    exact hob.2 y hy}
 refine ⟨pb,?_⟩
 intro B o a w φ Lf K Q hnum hchk hl k
 subst hnum
 let V:Nat→Prop:=fun b =>∃nm,qQ h nm≠none∧(¬∃x∈fp,nm=rnm σ x.1)∧b∈Lf nm
 classical
 let ec:Env:={num:=B.num,w:=w,w0:=w,φ:=fun n=>if qQ (vY fp) n≠none then φ (rnm σ n) else .dead,Fr:=B.Fr,Bo:=fun b=>B.Bo b∨V b}
 let Lc:Nat→List Nat:=fun n=>Lf (rnm σ n)
 let e:Env:=B.env w φ
 have hfz :∀b,B.Fr b∨B.Bo b→∀o,w.cell? ⟨b,o,none⟩=B.w0.cell? ⟨b,o,none⟩:=fun b hb' o=>hl.ok.frozen_cell hb' o
 have hlend:qH9 e ec V:={num:=rfl,w0:=rfl,fr:=fun b hb'=>hb',bo:=fun b hb'=>hb'.elim .inl (fun h=>h.elim (fun h1=>.inr (.inl h1)) (fun h1=>.inr (.inr h1))),cells:=hfz}
 have hsee:qDy e ec:={num:=rfl,fr:=fun b hb'=>hb',cells:=fun b hb' o=>hfz b (.inl hb') o}
 have φc :∀n,qQ (vY fp) n≠none→ec.φ n=φ (rnm σ n):=fun n hn=>by
  show (if qQ (vY fp) n≠none then φ (rnm σ n) else vG.dead)=φ (rnm σ n)
  rw [if_pos hn]
 have hVl :∀b,V b→b<w.heap.size∧∀n,qQ (vY fp) n≠none→b∉Lc n:=by
  rintro b ⟨nm,h1,h2,h3⟩
  refine ⟨(hl.ok.rh.blk nm h1 b h3).1,fun n hn hbn=>?_⟩
  obtain ⟨x,hx,rfl,h4⟩:=preS n hn
  exact hl.ok.rh.dis nm (rnm σ x.1) h1 (preN _ hn) (fun he=>h2 ⟨x,hx,he⟩) b h3 hbn
 have hokc:Ok ec (qCe Lc (vY fp)) (qQ (vY fp)) Lc:={
  size0:=wBo _
  io0:=gH.refl _
  fr:=fun b hb'=>by
   rcases hb' with h1 | h1 | h1
   ·have h2:=hl.ok.fr b (.inl h1)
    refine ⟨wCq h2.1 hl.ok.size0,fun hm=>?_⟩
    obtain ⟨n,h3,h4⟩:=oL hm
    exact (hl.ok.rh.blk (rnm σ n) (preN n h3) b h4).2.1 h1
   ·have h2:=hl.ok.fr b (.inr h1)
    refine ⟨wCq h2.1 hl.ok.size0,fun hm=>?_⟩
    obtain ⟨n,h3,h4⟩:=oL hm
    exact (hl.ok.rh.blk (rnm σ n) (preN n h3) b h4).2.2 h1
   ·refine ⟨(hVl b h1).1,fun hm=>?_⟩
    obtain ⟨n,h3,h4⟩:=oL hm
    exact (hVl b h1).2 n h3 h4
  keep0:=fun b _ _=>rfl
  own0:=fun n hn b hb'=>.inl (qXo hn hb')
  rh:={
   row:=fun n row hr=>by
    have hn:qQ (vY fp) n≠none:=by simp [hr]
    obtain ⟨x,hx,rfl,h4⟩:=preS n hn
    have h5:=hl.ok.rh.row (rnm σ x.1) (row.1,aN (rnm σ) row.2) (by rw [preR _ hn,hr]; rfl)
    have h6:=(hnb x hx).1 row (by rw [h4,hr])
    unfold uX gI at h5⊢
    rw [φc _ hn]
    have h5':(match φ (rnm σ x.1) with | .dead=>False | .nilp=>aN (rnm σ) row.2=[]∧Lf (rnm σ x.1)=[] | .at p=>p.sz=row.1∧hY w p (aN (rnm σ) row.2).length∧∃Lr,yM e w p.block p.off p.sz (aN (rnm σ) row.2) Lr∧Lf (rnm σ x.1)=p.block::Lr):=h5
    cases hq:φ (rnm σ x.1) with
    | dead=>rw [hq] at h5'; exact h5'
    | nilp =>
     rw [hq] at h5'
     refine ⟨?_,h5'.2⟩
     have:=iG (rnm σ) row.2
     rw [h5'.1] at this
     exact List.eq_nil_of_length_eq_zero this.symm
    | «at» p =>
     rw [hq] at h5'
     obtain ⟨g1,g2,Lr,g3,g4⟩:=h5'
     rw [iG] at g2
     exact ⟨g1,g2,Lr,qK6 (f:=rnm σ) hsee (fun n ⟨y,hy,he,hyn⟩=>by rw [←he]; exact φc _ (by rw [rA hnd0 hy]; exact hyn)) row.2 (fun b _=>rfl) h6 (fun _=>rfl) g3,g4⟩
   nodup:=fun n hn=>hl.ok.rh.nodup _ (preN n hn)
   blk:=fun n hn b hb'=>by
    have h1:=hl.ok.rh.blk (rnm σ n) (preN n hn) b hb'
    refine ⟨h1.1,h1.2.1,fun hbo=>?_⟩
    rcases hbo with h2 | h2
    ·exact h1.2.2 h2
    ·exact (hVl b h2).2 n hn hb'
   dis:=fun n m hn hm hne b hb'=>by
    refine hl.ok.rh.dis _ _ (preN n hn) (preN m hm) (fun he=>hne ?_) b hb'
    obtain ⟨x,hx,rfl,_⟩:=preS n hn
    obtain ⟨y,hy,rfl,_⟩:=preS m hm
    exact rinj x hx y hy he
   dead:=fun n hn=>by
    show (if qQ (vY fp) n≠none then φ (rnm σ n) else vG.dead)=vG.dead
    rw [if_neg (by simp [hn])]}}
 obtain ⟨args,hchk,hrun⟩:=hm e o a w rfl hchk hl.tm
 ·have hargs:=qP3 (e:=e) (ρ:=wD t) (a:=a) hl.tm args.toList xs hchk
  have hargs':RVs ec vargs (args.toList.map a.eval) []:=by
   refine pW hv (qEb hlend hsee rfl hl.ok.rh (fun nm h1 h2 b h3=>⟨nm,h1,h2,h3⟩) ?_ ps _ hvo hargs)
   rintro n ⟨x,hx,h1,rfl,h3⟩
   rw [h3]
   exact φc _ (by rw [rA hnd0 hx]; exact h1)
  unfold Oper.wp
  rw [hrun,Oper.upon_enter]
  have hcs:args.map a.eval=(args.toList.map a.eval).toArray:=by rw [←Array.toList_map,Array.toArray_toList]
  rw [hcs]
  refine Calls.mono (hc.2 ec Lc _ rfl rfl hokc hargs') ?_
  intro en w' hen
  cases en with
  | panicked ch=>exact hen.elim
  | outgrown=>exact hen.elim
  | returned v =>
   obtain ⟨e2,Lf2,L,rfl,T,hrv,hLn,hLb,hLd⟩:=hen
   let res':=jW (rnm σ) res
   let opn:=(yA n1 res').2.1
   let cfp:FP:=fp.map (fun x=>(rnm σ x.1,aO (rnm σ) x.2.1,aO (rnm σ) x.2.2))++fresh opn
   let φ2:Nat→vG:=fun n=>match inv (rnm σ) fp n with | some k=>e2.φ k | none=>φ n
   have φ2in :∀x∈fp,φ2 (rnm σ x.1)=e2.φ x.1:=fun x hx=>by
    show (match inv (rnm σ) fp (rnm σ x.1) with | some k=>e2.φ k | none=>φ (rnm σ x.1))=e2.φ x.1
    rw [qAj hnd hx]
   have φ2out :∀n,n∉fp.map (fun x=>rnm σ x.1)→φ2 n=φ n:=fun n hn=>by
    show (match inv (rnm σ) fp n with | some k=>e2.φ k | none=>φ n)=φ n
    rw [qWi hn]
   let e2':Env:=B.env e2.w φ2
   have hsee2 :∀ψ:Nat→vG,qDy e2 (B.env e2.w ψ):=fun ψ=>{num:=T.num.symm,fr:=fun b hb'=>(by rw [T.Fr] at hb'; exact hb'),cells:=fun b hb' o=>(by
    rw [T.Fr] at hb'
    rw [T.w0]
    exact (hfz b (.inl hb') o).symm)}
   have hrv2:RV e2' res' v L:=by
    refine qKy (hsee2 φ2) (A:=fun k =>∃x∈fp,x.1=k∧x.2.2≠none) ?_ res (fun b _=>rfl) hres hrv
    rintro n ⟨x,hx,rfl,_⟩
    exact φ2in x hx
   have hbres:bnd (· < n1) res':=qF7 (A:=fun k =>∃x∈fp,x.1=k∧x.2.2≠none) (fun n ⟨x,hx,he,_⟩=>by rw [←he]; exact (hpre x hx).2.2) res hres
   obtain ⟨S,s1,s2,s3⟩:=qN4 (A:=(· < n1)) res' n1 hbres hrv2
   have hle:=fM res' n1
   have hSnd:(S.map (·.1)).Nodup:=by rw [s1]; exact oE res' n1
   have Sname :∀x∈S,n1≤x.1:=fun x hx=>by
    have hm:x.1∈S.map (·.1):=List.mem_map.2 ⟨x,hx,rfl⟩
    rw [s1] at hm
    obtain ⟨z,hz,hzx⟩:=List.mem_map.1 hm
    rw [←hzx]
    exact (hle.2 z hz).1
   have Sout :∀n,n<n1→n∉S.map (·.1):=fun n hn hm=>by
    obtain ⟨x,hx,rfl⟩:=List.mem_map.1 hm
    have:=Sname x hx
    omega
   let e3:Env:=B.env e2.w (iY S φ2)
   have φ3in :∀x∈S,e3.φ x.1=x.2.1:=fun x hx=>by
    show iY S φ2 x.1=x.2.1
    unfold iY
    rw [qAp hSnd hx]
   have φ3out :∀n,n∉S.map (·.1)→e3.φ n=φ2 n:=fun n hn=>by
    show iY S φ2 n=φ2 n
    unfold iY
    rw [qC4 hn]
   have hkeep:dI e2' e3 (· < n1) L:={num:=rfl,fr:=fun m b hb'=>by cases m<;>exact hb',cells:=fun b _ o=>rfl,φ:=fun n hn=>.inl (φ3out n (Sout n hn)),own:=fun b _=>rfl}
   obtain ⟨g1,g2⟩:=s3 e3 φ3in hkeep
   let Lf3:Nat→List Nat:=pI S (fun n=>match inv (rnm σ) fp n with | some k=>Lf2 k | none=>Lf n)
   have L3in :∀x∈S,Lf3 x.1=x.2.2:=fun x hx=>by
    show pI S _ x.1=x.2.2
    unfold pI
    rw [qAp hSnd hx]
   have L3fp :∀x∈fp,Lf3 (rnm σ x.1)=Lf2 x.1:=fun x hx=>by
    show pI S _ (rnm σ x.1)=Lf2 x.1
    unfold pI
    rw [qC4 (Sout _ (hpre x hx).2.2)]
    simp only [qAj hnd hx]
   have φ3fp :∀x∈fp,e3.φ (rnm σ x.1)=e2.φ x.1:=fun x hx=>by rw [φ3out _ (Sout _ (hpre x hx).2.2),φ2in x hx]
   have cnd:(cfp.map (·.1)).Nodup:=by
    show ((fp.map (fun x=>(rnm σ x.1,aO (rnm σ) x.2.1,aO (rnm σ) x.2.2))++fresh opn).map (·.1)).Nodup
    rw [wD2]
    refine List.nodup_append.2 ⟨by simpa [Function.comp_def] using hnd,by simpa [fresh,Function.comp_def] using oE res' n1,?_⟩
    intro x hx y hy hxy
    subst hxy
    simp only [wD4,wD5,Function.comp] at hx
    obtain ⟨z,hz,rfl⟩:=hx
    simp only [fresh,wD4,wD5,Function.comp] at hy
    obtain ⟨u,hu,hu2⟩:=hy
    have h1:=(hle.2 u hu).1
    have h2:=(hpre z hz).2.2
    omega
   have memc :∀n,n∈cfp.map (·.1)↔(∃x∈fp,n=rnm σ x.1)∨∃y∈opn,n=y.1:=by
    intro n
    show n∈(fp.map (fun x=>(rnm σ x.1,aO (rnm σ) x.2.1,aO (rnm σ) x.2.2))++fresh opn).map (·.1)↔_
    simp only [wD2,wCp,wD4,fresh,wD5,Function.comp]
    constructor
    ·rintro (⟨x,hx,rfl⟩ | ⟨x,hx,rfl⟩)
     ·exact .inl ⟨x,hx,rfl⟩
     ·exact .inr ⟨x,hx,rfl⟩
    ·rintro (⟨x,hx,rfl⟩ | ⟨x,hx,rfl⟩)
     ·exact .inl ⟨x,hx,rfl⟩
     ·exact .inr ⟨x,hx,rfl⟩
   have upfp :∀x∈fp,upH (qQ h) cfp (rnm σ x.1)=aO (rnm σ) x.2.2:=fun x hx =>
    qBb (x:=(rnm σ x.1,aO (rnm σ) x.2.1,aO (rnm σ) x.2.2)) cnd (List.mem_append_left _ (List.mem_map.2 ⟨x,hx,rfl⟩))
   have upop :∀y∈opn,upH (qQ h) cfp y.1=some y.2:=fun y hy =>
    qBb (x:=(y.1,none,some y.2)) cnd (List.mem_append_right _ (List.mem_map.2 ⟨y,hy,rfl⟩))
   have opnone :∀y∈opn,qQ h y.1=none:=fun y hy=>hb.new (wD3 hn1 (hle.2 y hy).1)
   have opS :∀y∈opn,∃x∈S,x.1=y.1:=fun y hy=>by
    have hm:y.1∈opn.map (·.1):=List.mem_map.2 ⟨y,hy,rfl⟩
    rw [←s1] at hm
    obtain ⟨x,hx,hxy⟩:=List.mem_map.1 hm
    exact ⟨x,hx,hxy⟩
   have own2 :∀b,(e2.w.heap.size>b∧(w.heap.size≤b∨∃m,m∈fp.map (·.1)∧qQ (vY fp) m≠none∧b∈Lc m))→b<e2.w.heap.size∧(w.heap.size≤b∨∃m,m∈cfp.map (·.1)∧qQ h m≠none∧b∈Lf m):=by
    rintro b ⟨h1,h2⟩
    refine ⟨h1,h2.imp id ?_⟩
    rintro ⟨m,h3,h4,h5⟩
    obtain ⟨x,hx,rfl⟩:=List.mem_map.1 h3
    exact ⟨rnm σ x.1,(memc _).2 (.inl ⟨x,hx,rfl⟩),preN _ h4,h5⟩
   have TT:dP e (qQ h) Lf (fun n=>n∈cfp.map (·.1)) e3 (upH (qQ h) cfp) Lf3:={
    num:=rfl
    w0:=rfl
    Fr:=rfl
    Bo:=rfl
    io:=T.io
    size:=T.size
    keep:=fun b h1 h2=>T.keep b h1 (fun m hm hp hbm=>by
     obtain ⟨x,hx,rfl⟩:=List.mem_map.1 hm
     exact h2 (rnm σ x.1) ((memc _).2 (.inl ⟨x,hx,rfl⟩)) (preN _ hp) hbm)
    φ:=fun n hn=>by
     have h1:n∉S.map (·.1):=fun hm=>by
      rw [s1] at hm
      obtain ⟨y,hy,rfl⟩:=List.mem_map.1 hm
      exact hn ((memc _).2 (.inr ⟨y,hy,rfl⟩))
     rw [φ3out n h1,φ2out n (fun hm=>by
      obtain ⟨x,hx,rfl⟩:=List.mem_map.1 hm
      exact hn ((memc _).2 (.inl ⟨x,hx,rfl⟩)))]
     rfl
    φF:=fun n hn hp=>by
     rcases (memc n).1 hn with ⟨x,hx,rfl⟩ | ⟨y,hy,rfl⟩
     ·rw [φ3fp x hx]
      have hpx:qQ (vY fp) x.1≠none:=by
       rw [rA hnd0 hx]
       intro h0
       exact hp (by show qQ h _=none; rw [(hpre x hx).1,h0]; rfl)
      rcases T.φF x.1 (List.mem_map.2 ⟨x,hx,rfl⟩) hpx with h1 | h1
      ·rw [h1,φc _ hpx]; exact .inl rfl
      ·exact .inr h1
     ·exact absurd (opnone y hy) hp
    rest:=fun n hn=>kO hn
    row:=fun n row hn hr=>by
     rcases (memc n).1 hn with ⟨x,hx,rfl⟩ | ⟨y,hy,rfl⟩
     ·rw [upfp x hx] at hr
      cases hr2:x.2.2 with
      | none=>simp [hr2,aO] at hr
      | some r0 =>
      simp only [hr2,aO,Option.some.injEq] at hr
      subst hr
      have h1:=T.row x.1 r0 (List.mem_map.2 ⟨x,hx,rfl⟩) (by rw [zO hnd0 hx,hr2])
      have h2:=(hnb x hx).2 r0 hr2
      rw [L3fp x hx]
      unfold uX gI at h1⊢
      rw [φ3fp x hx]
      cases hq:e2.φ x.1 with
      | dead=>rw [hq] at h1; exact h1
      | nilp =>
       rw [hq] at h1
       exact ⟨by rw [h1.1]; rfl,h1.2⟩
      | «at» p =>
       rw [hq] at h1
       obtain ⟨k1,k2,Lr,k3,k4⟩:=h1
       exact ⟨k1,by rw [iG]; exact k2,Lr,qK5 (f:=rnm σ) (hsee2 _) (fun n ⟨y,hy,he,_⟩=>by rw [←he]; exact φ3fp y hy) r0.2 (fun b _=>rfl) h2 (fun _=>rfl) k3,k4⟩
     ·rw [upop y hy] at hr
      simp only [Option.some.injEq] at hr
      subst hr
      obtain ⟨x,hx,hxy⟩:=opS y hy
      have h1:=g2 x hx y.2 (by rw [hxy]; exact hy)
      rw [←hxy]
      unfold uX
      rw [φ3in x hx,L3in x hx]
      exact h1
    nodup:=fun n hn hp=>by
     rcases (memc n).1 hn with ⟨x,hx,rfl⟩ | ⟨y,hy,rfl⟩
     ·rw [upfp x hx] at hp
      rw [L3fp x hx]
      exact T.nodup x.1 (List.mem_map.2 ⟨x,hx,rfl⟩) (by rw [zO hnd0 hx]; exact fun h0=>hp (by rw [h0]; rfl))
     ·obtain ⟨x,hx,hxy⟩:=opS y hy
      rw [←hxy,L3in x hx]
      rw [s2] at hLn
      exact iJ (f:=fun (x:Nat×vG×List Nat)=>x.2.2) hLn hx
    blk:=fun n hn hp b hb'=>by
     rcases (memc n).1 hn with ⟨x,hx,rfl⟩ | ⟨y,hy,rfl⟩
     ·rw [upfp x hx] at hp
      rw [L3fp x hx] at hb'
      exact own2 b (T.blk x.1 (List.mem_map.2 ⟨x,hx,rfl⟩) (by rw [zO hnd0 hx]; exact fun h0=>hp (by rw [h0]; rfl)) b hb')
     ·obtain ⟨x,hx,hxy⟩:=opS y hy
      rw [←hxy,L3in x hx] at hb'
      exact own2 b (hLb b (by rw [s2]; exact List.mem_flatMap.2 ⟨x,hx,hb'⟩))
    dis:=fun n m hn hm hp hq hne b hb1 hb2=>by
     rcases (memc n).1 hn with ⟨x,hx,rfl⟩ | ⟨y,hy,rfl⟩<;>rcases (memc m).1 hm with ⟨x',hx',rfl⟩ | ⟨y',hy',rfl⟩
     ·rw [upfp x hx] at hp
      rw [upfp x' hx'] at hq
      rw [L3fp x hx] at hb1
      rw [L3fp x' hx'] at hb2
      exact T.dis x.1 x'.1 (List.mem_map.2 ⟨x,hx,rfl⟩) (List.mem_map.2 ⟨x',hx',rfl⟩) (by rw [zO hnd0 hx]; exact fun h0=>hp (by rw [h0]; rfl)) (by rw [zO hnd0 hx']; exact fun h0=>hq (by rw [h0]; rfl)) (fun he=>hne (by rw [he])) b hb1 hb2
     ·rw [upfp x hx] at hp
      rw [L3fp x hx] at hb1
      obtain ⟨z,hz,hzy⟩:=opS y' hy'
      rw [←hzy,L3in z hz] at hb2
      exact hLd b (by rw [s2]; exact List.mem_flatMap.2 ⟨z,hz,hb2⟩) x.1 (List.mem_map.2 ⟨x,hx,rfl⟩) (by rw [zO hnd0 hx]; exact fun h0=>hp (by rw [h0]; rfl)) hb1
     ·rw [upfp x' hx'] at hq
      rw [L3fp x' hx'] at hb2
      obtain ⟨z,hz,hzy⟩:=opS y hy
      rw [←hzy,L3in z hz] at hb1
      exact hLd b (by rw [s2]; exact List.mem_flatMap.2 ⟨z,hz,hb1⟩) x'.1 (List.mem_map.2 ⟨x',hx',rfl⟩) (by rw [zO hnd0 hx']; exact fun h0=>hq (by rw [h0]; rfl)) hb2
     ·obtain ⟨z,hz,hzy⟩:=opS y hy
      obtain ⟨z',hz',hzy'⟩:=opS y' hy'
      rw [←hzy,L3in z hz] at hb1
      rw [←hzy',L3in z' hz'] at hb2
      rw [s2] at hLn
      exact sA hLn hz hz' (fun he=>hne (by rw [←hzy,←hzy',he])) hb1 hb2
    dead:=fun n hn hp=>by
     rcases (memc n).1 hn with ⟨x,hx,rfl⟩ | ⟨y,hy,rfl⟩
     ·rw [upfp x hx] at hp
      rw [φ3fp x hx]
      exact T.dead x.1 (List.mem_map.2 ⟨x,hx,rfl⟩) (by rw [zO hnd0 hx]; exact qBk.1 hp)
     ·rw [upop y hy] at hp
      simp at hp}
   exact k e3 Lf3 _ TT g1
theorem qOo {m:MOp} {f nx n1:Nat} {ps:List Bool} {xs:List Arg} {t:List (Nat×AV)} {h:wT} {fp:FP} {res:AV} {vargs:List AV} (σ:List (Nat×Nat)) (hc:qY P num f vargs fp res)
  (hv:wJ (fR (ixm σ) h ps (xs.map (Arg.ev (wD t)))) vargs)
  (hvo:gT h (fun n =>∃x∈fp,x.2.1≠none∧n=rnm σ x.1∧ixm σ n=x.1) (fun n =>∃x∈fp,n=rnm σ x.1) ps (xs.map (Arg.ev (wD t))))
  (hnd:(fp.map (fun x=>rnm σ x.1)).Nodup) (hpre :∀x∈fp,qQ h (rnm σ x.1)=x.2.1∧(x.2.1=none→nx≤rnm σ x.1)∧rnm σ x.1<n1)
  (hnb :∀x∈fp,(∀r,x.2.1=some r→nbr r.2)∧(∀r,x.2.2=some r→nbr r.2)) (hres:okV (fun k =>∃x∈fp,x.1=k∧x.2.2≠none) res) (hn1:nx≤n1) (hm:qEi P num m f xs t) :
  nG P num m t h nx (yA n1 (jW (rnm σ) res)).1 (fp.map (fun x=>(rnm σ x.1,x.2))++fresh (yA n1 (jW (rnm σ) res)).2.1) (yA n1 (jW (rnm σ) res)).2.2:=by
 have hp :∀x∈fp,aO (rnm σ) x.2.1=x.2.1∧aO (rnm σ) x.2.2=x.2.2:=fun x hx=>by
  have:=hnb x hx
  constructor
  ·cases h1:x.2.1 with
   | none=>rfl
   | some r=>simp only [aO,eM _ _ (this.1 r h1)]
  ·cases h1:x.2.2 with
   | none=>rfl
   | some r=>simp only [aO,eM _ _ (this.2 r h1)]
 have he:fp.map (fun x=>(rnm σ x.1,x.2))=fp.map (fun x=>(rnm σ x.1,aO (rnm σ) x.2.1,aO (rnm σ) x.2.2)) :=
  List.map_congr_left fun x hx=>by rw [(hp x hx).1,(hp x hx).2]
 rw [he]
 exact qXj σ hc hv hvo hnd (fun x hx=>by rw [(hp x hx).1]; exact hpre x hx) (fun x hx=>⟨fun r hr=>aQ _ ((hnb x hx).1 r hr),fun r hr=>aQ _ ((hnb x hx).2 r hr)⟩) hres hn1 hm
theorem rI {f nx n1:Nat} {ps:List Bool} {xs:List Arg} {t:List (Nat×AV)} {h:wT} {fp:FP} {res:AV} {vargs:List AV} (σ:List (Nat×Nat)) (hc:qY P num f vargs fp res)
  (hv:wJ (fR (ixm σ) h ps (xs.map (Arg.ev (wD t)))) vargs)
  (hvo:gT h (fun n =>∃x∈fp,x.2.1≠none∧n=rnm σ x.1∧ixm σ n=x.1) (fun n =>∃x∈fp,n=rnm σ x.1) ps (xs.map (Arg.ev (wD t))))
  (hnd:(fp.map (fun x=>rnm σ x.1)).Nodup) (hpre :∀x∈fp,qQ h (rnm σ x.1)=x.2.1∧(x.2.1=none→nx≤rnm σ x.1)∧rnm σ x.1<n1)
  (hnb :∀x∈fp,(∀r,x.2.1=some r→nbr r.2)∧(∀r,x.2.2=some r→nbr r.2)) (hres:okV (fun k =>∃x∈fp,x.1=k∧x.2.2≠none) res) (hn1:nx≤n1) :
  nG P num (.call f ps xs) t h nx (yA n1 (jW (rnm σ) res)).1 (fp.map (fun x=>(rnm σ x.1,x.2))++fresh (yA n1 (jW (rnm σ) res)).2.1) (yA n1 (jW (rnm σ) res)).2.2 :=
 qOo σ hc hv hvo hnd hpre hnb hres hn1 (qQx hc.1)
theorem qZ8 {f nx n1:Nat} {y:Arg} {ps:List Bool} {xs:List Arg} {t:List (Nat×AV)} {h:wT} {fp:FP} {res:AV} {vargs:List AV} (σ:List (Nat×Nat)) (hc:qY P num f vargs fp res)
  (hv:wJ (fR (ixm σ) h ps (xs.map (Arg.ev (wD t)))) vargs)
  (hvo:gT h (fun n =>∃x∈fp,x.2.1≠none∧n=rnm σ x.1∧ixm σ n=x.1) (fun n =>∃x∈fp,n=rnm σ x.1) ps (xs.map (Arg.ev (wD t))))
  (hnd:(fp.map (fun x=>rnm σ x.1)).Nodup) (hpre :∀x∈fp,qQ h (rnm σ x.1)=x.2.1∧(x.2.1=none→nx≤rnm σ x.1)∧rnm σ x.1<n1)
  (hnb :∀x∈fp,(∀r,x.2.1=some r→nbr r.2)∧(∀r,x.2.2=some r→nbr r.2)) (hres:okV (fun k =>∃x∈fp,x.1=k∧x.2.2≠none) res) (hn1:nx≤n1) (hy:y.ev (wD t)=.fn f []) :
  nG P num (.calv y xs) t h nx (yA n1 (jW (rnm σ) res)).1 (fp.map (fun x=>(rnm σ x.1,x.2))++fresh (yA n1 (jW (rnm σ) res)).2.1) (yA n1 (jW (rnm σ) res)).2.2 :=
 qOo σ hc hv hvo hnd hpre hnb hres hn1 (qQw hc.1 hy)
theorem qGj {f nx:Nat} {ps:List Bool} {xs:List Arg} {t:List (Nat×AV)} {h:wT} {fp:FP} {res:AV} {vargs:List AV} (σ:List (Nat×Nat)) (hc:qY P num f vargs fp res)
  (hv:wJ (fR (ixm σ) h ps (xs.map (Arg.ev (wD t)))) vargs)
  (hvo:gT h (fun n =>∃x∈fp,x.2.1≠none∧n=rnm σ x.1∧ixm σ n=x.1) (fun n =>∃x∈fp,n=rnm σ x.1) ps (xs.map (Arg.ev (wD t))))
  (hnd:(fp.map (fun x=>rnm σ x.1)).Nodup) (hpre :∀x∈fp,qQ h (rnm σ x.1)=x.2.1∧(x.2.1=none→nx≤rnm σ x.1)∧rnm σ x.1<nx)
  (hnb :∀x∈fp,(∀r,x.2.1=some r→nbr r.2)∧(∀r,x.2.2=some r→nbr r.2)) (hres:okV (fun k =>∃x∈fp,x.1=k∧x.2.2≠none) res) :
  nG P num (.call f ps xs) t h nx (yA nx (jW (rnm σ) res)).1 (fp.map (fun x=>(rnm σ x.1,x.2))++fresh (yA nx (jW (rnm σ) res)).2.1) (yA nx (jW (rnm σ) res)).2.2 :=
 rI σ hc hv hvo hnd hpre hnb hres (wBo _)
end
end Go.Sep
namespace Go.Sep
set_option linter.unusedVariables false
set_option linter.unusedSimpArgs false
@[congr] theorem wAd (c:bK):It.code c=It.code c:=rfl
@[congr] theorem wAi (os:List yC):It.ops os=It.ops os:=rfl
@[congr] theorem wA1 (J:AS→Prop):It.stop J=It.stop J:=rfl
@[congr] theorem wAa (tr:vZ) {p p':List (Nat×List Nat)} (h:p=p'):It.draw tr p=It.draw tr p':=by rw [h]
section
variable (P:Program) (num:Nat→Nat) (fin:AS→Prop)
def qLx (v:AV) (ka kb:List It) (s:AS):Prop :=∃q,v=.bool q∧(q=true→vc P num fin ka s)∧(q=false→vc P num fin kb s)
def next (r:Out) (dst:Option Nat) (k:List It) (t:List (Nat×AV)) (h:wT):Prop :=
 match r with
 | some (p,v,fp,nx')=>p∧vc P num fin k (.mk (bS t dst v) (dR h fp) nx')
 | none=>False
def nD (v:AV) (want:Bool) (o:yC) (os:List yC) (k:List It) (t:List (Nat×AV)) (h:wT) (nx:Nat):Prop :=
 ∃q,gv v q∧(q=some want→vc P num fin (.ops (({dst:=o.dst,op:=o.op,guard:=none}:yC)::os)::k) (.mk t h nx))∧(q≠some want→vc P num fin (.ops os::k) (.mk (bS t o.dst (.tup [])) h nx))
def qJt (op:MOp) (dst:Option Nat) (k:List It) (s:AS):Prop :=∃s',tM P num op dst s s'∧vc P num fin k s'
def qNj (a:bK) (k:List It) (s:AS):Prop:=vc P num fin (.code (.loop a)::k) s
variable {P num fin}
@[congr] theorem wAn {k k':List It} {s s':AS} (h:k=k') (h':s=s'):vc P num fin k s=vc P num fin k' s':=by rw [h,h']
@[congr] theorem wA7 {r r':Out} {dst:Option Nat} {k k':List It} {t t':List (Nat×AV)} {h h':wT} (h1:r=r') (h2:k=k') (h3:t=t') (h4:h=h'):next P num fin r dst k t h=next P num fin r' dst k' t' h':=by rw [h1,h2,h3,h4]
@[congr] theorem qZm {v v':AV} {want:Bool} {o:yC} {os:List yC} {k k':List It} {t t':List (Nat×AV)} {h h':wT} {nx nx':Nat} (h1:v=v') (h2:k=k') (h3:t=t') (h4:h=h') (h5:nx=nx') :
  nD P num fin v want o os k t h nx=nD P num fin v' want o os k' t' h' nx':=by rw [h1,h2,h3,h4,h5]
@[congr] theorem qZw {op:MOp} {dst:Option Nat} {k k':List It} {s s':AS} (h1:k=k') (h2:s=s'):qJt P num fin op dst k s=qJt P num fin op dst k' s':=by rw [h1,h2]
@[congr] theorem qZo {a:bK} {k k':List It} {s s':AS} (h1:k=k') (h2:s=s'):qNj P num fin a k s=qNj P num fin a k' s':=by rw [h1,h2]
theorem qWz (s:AS):vc P num fin [] s=fin s:=by rw [vc]
theorem qWw (J:AS→Prop) (k:List It) (s:AS):vc P num fin (.stop J::k) s=J s:=by rw [vc]
theorem qZu (id:Nat) (k:List It) (s:AS):vc P num fin (.blk id::k) s=vc P num fin k s:=by rw [vc]
theorem qZt (k:List It) (s:AS):vc P num fin (.ops []::k) s=vc P num fin k s:=by rw [vc]
theorem qWx (k:List It) (s:AS):vc P num fin (.code .skip::k) s=vc P num fin k s:=by rw [vc]
theorem qZr (k:List It) (s:AS):vc P num fin (.code .ret::k) s=fin s:=by rw [vc]
theorem qX1 (id:Nat) (k:List It) (s:AS):vc P num fin (.code (.exit id)::k) s=vc P num fin (gU id k) s:=by rw [vc]
theorem qZq (a b:bK) (k:List It) (s:AS):vc P num fin (.code (.seq a b)::k) s=vc P num fin (.code a::.code b::k) s:=by rw [vc]
theorem qSh (id:Nat) (a:bK) (k:List It) (s:AS):vc P num fin (.code (.blk id a)::k) s=vc P num fin (.code a::.blk id::k) s:=by rw [vc]
theorem qZs (d:Bool) (ops:List yC) (k:List It) (s:AS):vc P num fin (.code (.reg d ops)::k) s=vc P num fin (.ops ops::k) s:=by rw [vc]
theorem qX4 (x:Nat) (a b:bK) (k:List It) (t:List (Nat×AV)) (h:wT) (nx:Nat):vc P num fin (.code (.cond x a b)::k) (.mk t h nx)=qLx P num fin (wD t x) (.code a::k) (.code b::k) (.mk t h nx):=by
 rw [vc]; rfl
theorem qX0 (a:bK) (k:List It) (s:AS):vc P num fin (.code (.loop a)::k) s=qNj P num fin a k s:=rfl
theorem qSg (dst:Option Nat) (op:MOp) (g:Nat) (want:Bool) (os:List yC) (k:List It) (t:List (Nat×AV)) (h:wT) (nx:Nat) :
  vc P num fin (.ops (⟨dst,op,some (g,want)⟩::os)::k) (.mk t h nx)=nD P num fin (wD t g) want ⟨dst,op,none⟩ os k t h nx:=by
 rw [vc]; rfl
theorem qX5 (dst:Option Nat) (f:Nat) (ps:List Bool) (xs:List Arg) (os:List yC) (k:List It) (t:List (Nat×AV)) (h:wT) (nx:Nat) :
  vc P num fin (.ops (⟨dst,.call f ps xs,none⟩::os)::k) (.mk t h nx)=qJt P num fin (.call f ps xs) dst (.ops os::k) (.mk t h nx):=by
 rw [qV5]; rfl
theorem aR (dst:Option Nat) (op:MOp) (hc:qFy op=false) (os:List yC) (k:List It) (t:List (Nat×AV)) (h:wT) (nx:Nat) :
  vc P num fin (.ops (⟨dst,op,none⟩::os)::k) (.mk t h nx)=next P num fin (wO (wD t) h nx op) dst (.ops os::k) t h:=by
 rw [qV5,hc]
 rfl
theorem qWy (dst:Option Nat) (os:List yC) (k:List It) (t:List (Nat×AV)) (h:wT) (nx:Nat) :
 (∀x',vc P num fin (.ops (⟨dst,.mv x',none⟩::os)::k) (.mk t h nx)=next P num fin (wO (wD t) h nx (.mv x')) dst (.ops os::k) t h)∧
 (∀c' a' b',vc P num fin (.ops (⟨dst,.pick c' a' b',none⟩::os)::k) (.mk t h nx)=next P num fin (wO (wD t) h nx (.pick c' a' b')) dst (.ops os::k) t h)∧
 (∀z',vc P num fin (.ops (⟨dst,.alloc z',none⟩::os)::k) (.mk t h nx)=next P num fin (wO (wD t) h nx (.alloc z')) dst (.ops os::k) t h)∧
 (∀x',vc P num fin (.ops (⟨dst,.box x',none⟩::os)::k) (.mk t h nx)=next P num fin (wO (wD t) h nx (.box x')) dst (.ops os::k) t h)∧
 (∀z' ps',vc P num fin (.ops (⟨dst,.build z' ps',none⟩::os)::k) (.mk t h nx)=next P num fin (wO (wD t) h nx (.build z' ps')) dst (.ops os::k) t h)∧
 (∀z' l' ps',vc P num fin (.ops (⟨dst,.mkSl z' l' ps',none⟩::os)::k) (.mk t h nx)=next P num fin (wO (wD t) h nx (.mkSl z' l' ps')) dst (.ops os::k) t h)∧
 (∀n' ag' a',vc P num fin (.ops (⟨dst,.load n' ag' a',none⟩::os)::k) (.mk t h nx)=next P num fin (wO (wD t) h nx (.load n' ag' a')) dst (.ops os::k) t h)∧
 (∀n' a' v',vc P num fin (.ops (⟨dst,.store n' a' v',none⟩::os)::k) (.mk t h nx)=next P num fin (wO (wD t) h nx (.store n' a' v')) dst (.ops os::k) t h)∧
 (∀x',vc P num fin (.ops (⟨dst,.nilck x',none⟩::os)::k) (.mk t h nx)=next P num fin (wO (wD t) h nx (.nilck x')) dst (.ops os::k) t h)∧
 (∀b' x' y',vc P num fin (.ops (⟨dst,.bin b' x' y',none⟩::os)::k) (.mk t h nx)=next P num fin (wO (wD t) h nx (.bin b' x' y')) dst (.ops os::k) t h)∧
 (∀g' ks' x' y',vc P num fin (.ops (⟨dst,.eqS g' ks' x' y',none⟩::os)::k) (.mk t h nx)=next P num fin (wO (wD t) h nx (.eqS g' ks' x' y')) dst (.ops os::k) t h)∧
 (∀g' x' y',vc P num fin (.ops (⟨dst,.eqB g' x' y',none⟩::os)::k) (.mk t h nx)=next P num fin (wO (wD t) h nx (.eqB g' x' y')) dst (.ops os::k) t h)∧
 (∀x',vc P num fin (.ops (⟨dst,.neNil x',none⟩::os)::k) (.mk t h nx)=next P num fin (wO (wD t) h nx (.neNil x')) dst (.ops os::k) t h)∧
 (∀u' x',vc P num fin (.ops (⟨dst,.un u' x',none⟩::os)::k) (.mk t h nx)=next P num fin (wO (wD t) h nx (.un u' x')) dst (.ops os::k) t h)∧
 (∀k' x',vc P num fin (.ops (⟨dst,.cvi k' x',none⟩::os)::k) (.mk t h nx)=next P num fin (wO (wD t) h nx (.cvi k' x')) dst (.ops os::k) t h)∧
 (∀x',vc P num fin (.ops (⟨dst,.cvs x',none⟩::os)::k) (.mk t h nx)=next P num fin (wO (wD t) h nx (.cvs x')) dst (.ops os::k) t h)∧
 (∀z' b' l' c',vc P num fin (.ops (⟨dst,.mkS z' b' l' c',none⟩::os)::k) (.mk t h nx)=next P num fin (wO (wD t) h nx (.mkS z' b' l' c')) dst (.ops os::k) t h)∧
 (∀s' x' l' h',vc P num fin (.ops (⟨dst,.cut s' x' l' h',none⟩::os)::k) (.mk t h nx)=next P num fin (wO (wD t) h nx (.cut s' x' l' h')) dst (.ops os::k) t h)∧
 (∀x' l' h',vc P num fin (.ops (⟨dst,.cutS x' l' h',none⟩::os)::k) (.mk t h nx)=next P num fin (wO (wD t) h nx (.cutS x' l' h')) dst (.ops os::k) t h)∧
 (∀o' x',vc P num fin (.ops (⟨dst,.fad o' x',none⟩::os)::k) (.mk t h nx)=next P num fin (wO (wD t) h nx (.fad o' x')) dst (.ops os::k) t h)∧
 (∀o' n' ag' x',vc P num fin (.ops (⟨dst,.fld o' n' ag' x',none⟩::os)::k) (.mk t h nx)=next P num fin (wO (wD t) h nx (.fld o' n' ag' x')) dst (.ops os::k) t h)∧
 (∀s' x' i',vc P num fin (.ops (⟨dst,.iad s' x' i',none⟩::os)::k) (.mk t h nx)=next P num fin (wO (wD t) h nx (.iad s' x' i')) dst (.ops os::k) t h)∧
 (∀x' i',vc P num fin (.ops (⟨dst,.idx x' i',none⟩::os)::k) (.mk t h nx)=next P num fin (wO (wD t) h nx (.idx x' i')) dst (.ops os::k) t h)∧
 (∀x' i',vc P num fin (.ops (⟨dst,.ext x' i',none⟩::os)::k) (.mk t h nx)=next P num fin (wO (wD t) h nx (.ext x' i')) dst (.ops os::k) t h)∧
 (∀x',vc P num fin (.ops (⟨dst,.len x',none⟩::os)::k) (.mk t h nx)=next P num fin (wO (wD t) h nx (.len x')) dst (.ops os::k) t h)∧
 (∀x',vc P num fin (.ops (⟨dst,.lenS x',none⟩::os)::k) (.mk t h nx)=next P num fin (wO (wD t) h nx (.lenS x')) dst (.ops os::k) t h)∧
 (∀x' y',vc P num fin (.ops (⟨dst,.mx x' y',none⟩::os)::k) (.mk t h nx)=next P num fin (wO (wD t) h nx (.mx x' y')) dst (.ops os::k) t h)∧
 (∀s' b' x' y',vc P num fin (.ops (⟨dst,.app s' b' x' y',none⟩::os)::k) (.mk t h nx)=next P num fin (wO (wD t) h nx (.app s' b' x' y')) dst (.ops os::k) t h)∧
 (∀z' x',vc P num fin (.ops (⟨dst,.clr z' x',none⟩::os)::k) (.mk t h nx)=next P num fin (wO (wD t) h nx (.clr z' x')) dst (.ops os::k) t h) :=
 ⟨fun _=>aR dst _ rfl os k t h nx,fun _ _ _=>aR dst _ rfl os k t h nx,fun _=>aR dst _ rfl os k t h nx,fun _=>aR dst _ rfl os k t h nx,fun _ _=>aR dst _ rfl os k t h nx,fun _ _ _=>aR dst _ rfl os k t h nx,fun _ _ _=>aR dst _ rfl os k t h nx,fun _ _ _=>aR dst _ rfl os k t h nx,fun _=>aR dst _ rfl os k t h nx,fun _ _ _=>aR dst _ rfl os k t h nx,fun _ _ _ _=>aR dst _ rfl os k t h nx,fun _ _ _=>aR dst _ rfl os k t h nx,fun _=>aR dst _ rfl os k t h nx,fun _ _=>aR dst _ rfl os k t h nx,fun _ _=>aR dst _ rfl os k t h nx,fun _=>aR dst _ rfl os k t h nx,fun _ _ _ _=>aR dst _ rfl os k t h nx,fun _ _ _ _=>aR dst _ rfl os k t h nx,fun _ _ _=>aR dst _ rfl os k t h nx,fun _ _=>aR dst _ rfl os k t h nx,fun _ _ _ _=>aR dst _ rfl os k t h nx,fun _ _ _=>aR dst _ rfl os k t h nx,fun _ _=>aR dst _ rfl os k t h nx,fun _ _=>aR dst _ rfl os k t h nx,fun _=>aR dst _ rfl os k t h nx,fun _=>aR dst _ rfl os k t h nx,fun _ _=>aR dst _ rfl os k t h nx,fun _ _ _ _=>aR dst _ rfl os k t h nx,fun _ _=>aR dst _ rfl os k t h nx⟩
theorem qIx (p:Prop) (v:AV) (fp:FP) (nx:Nat) (dst:Option Nat) (k:List It) (t:List (Nat×AV)) (h:wT) :
  next P num fin (some (p,v,fp,nx)) dst k t h=(p∧vc P num fin k (.mk (bS t dst v) (dR h fp) nx)):=rfl
theorem qS0 (v:AV) (nx:Nat) (dst:Option Nat) (k:List It) (t:List (Nat×AV)) (h:wT):next P num fin (ok v nx) dst k t h=vc P num fin k (.mk (bS t dst v) h nx):=by
 show (True∧vc P num fin k (.mk (bS t dst v) (dR h []) nx))=_
 rw [true_and]
 rfl
theorem qP {c:Bool} {ka kb:List It} {s:AS} (h1:c=true→vc P num fin ka s) (h2:c=false→vc P num fin kb s):qLx P num fin (.bool c) ka kb s:=⟨c,rfl,h1,h2⟩
theorem qDf (ka kb:List It) (s:AS):qLx P num fin (.bool true) ka kb s=vc P num fin ka s:=by
 refine propext ⟨fun ⟨q,h1,h2,h3⟩=>?_,fun h=>⟨true,rfl,fun _=>h,fun h=>by simp at h⟩⟩
 simp only [AV.bool.injEq] at h1
 exact h2 h1.symm
theorem qB2 (ka kb:List It) (s:AS):qLx P num fin (.bool false) ka kb s=vc P num fin kb s:=by
 refine propext ⟨fun ⟨q,h1,h2,h3⟩=>?_,fun h=>⟨false,rfl,fun h=>by simp at h,fun _=>h⟩⟩
 simp only [AV.bool.injEq] at h1
 exact h3 h1.symm
theorem rF (b:Bool) (q:Option Bool):gv (.bool b) q=(q=some b):=by
 refine propext ⟨fun h=>?_,fun h=>.inl ⟨b,rfl,h⟩⟩
 rcases h with ⟨c,h1,rfl⟩ | ⟨h1,_⟩
 ·simp only [AV.bool.injEq] at h1
  rw [h1]
 ·simp at h1
theorem qS9 (q:Option Bool):gv (.tup []) q=(q=none):=by
 refine propext ⟨fun h=>?_,fun h=>.inr ⟨rfl,h⟩⟩
 rcases h with ⟨c,h1,rfl⟩ | ⟨_,h1⟩
 ·simp at h1
 ·exact h1
theorem qNf (b:Bool) (o:yC) (os:List yC) (k:List It) (t:List (Nat×AV)) (h:wT) (nx:Nat):nD P num fin (.bool b) b o os k t h nx=vc P num fin (.ops (⟨o.dst,o.op,none⟩::os)::k) (.mk t h nx):=by
 simp only [nD,rF,exists_eq_left,ne_eq,not_true_eq_false,false_implies,and_true,true_implies]
theorem qNd (o:yC) (os:List yC) (k:List It) (t:List (Nat×AV)) (h:wT) (nx:Nat):nD P num fin (.bool true) false o os k t h nx=vc P num fin (.ops os::k) (.mk (bS t o.dst (.tup [])) h nx):=by
 simp [nD,rF]
theorem qNe (o:yC) (os:List yC) (k:List It) (t:List (Nat×AV)) (h:wT) (nx:Nat):nD P num fin (.bool false) true o os k t h nx=vc P num fin (.ops os::k) (.mk (bS t o.dst (.tup [])) h nx):=by
 simp [nD,rF]
theorem qFp (want:Bool) (o:yC) (os:List yC) (k:List It) (t:List (Nat×AV)) (h:wT) (nx:Nat):nD P num fin (.tup []) want o os k t h nx=vc P num fin (.ops os::k) (.mk (bS t o.dst (.tup [])) h nx):=by
 simp [nD,qS9]
theorem aE {c want:Bool} {o:yC} {os:List yC} {k:List It} {t:List (Nat×AV)} {h:wT} {nx:Nat} (h1:c=want→vc P num fin (.ops (⟨o.dst,o.op,none⟩::os)::k) (.mk t h nx))
  (h2:c≠want→vc P num fin (.ops os::k) (.mk (bS t o.dst (.tup [])) h nx)):nD P num fin (.bool c) want o os k t h nx:=⟨some c,.inl ⟨c,rfl,rfl⟩,fun h=>h1 (Option.some.inj h),fun h=>h2 (fun h'=>h (by rw [h']))⟩
def wAu {ι:Type} (I:ι→AS) (good:ι→Prop) (μ:ι→Nat) (n:Nat) (s:AS):Prop :=∃s1,Sub s s1∧∃m,m<n∧∃i,s1=I i∧good i∧μ i=m
theorem qM {ι:Type} {I:ι→AS} {good:ι→Prop} {μ:ι→Nat} {n:Nat} {s:AS} (i:ι) (h:Sub s (I i)) (hg:good i) (hm:μ i<n):wAu I good μ n s:=⟨I i,h,μ i,hm,i,rfl,hg,rfl⟩
theorem zQ {op:MOp} {dst:Option Nat} {k:List It} {t:List (Nat×AV)} {h:wT} {nx nx':Nat} {v:AV} {fp:FP} (hc:nG P num op t h nx v fp nx') (hk:vc P num fin k (.mk (bS t dst v) (dR h fp) nx')):qJt P num fin op dst k (.mk t h nx) :=
 ⟨_,hc.to,hk⟩
theorem qX2 (tr:vZ) (k:List It) (s:AS):vc P num fin (.code (.dreg tr)::k) s=vc P num fin (.draw tr []::k) s:=by rw [vc]
theorem qX3 (pend:List (Nat×List Nat)) (k:List It) (s:AS):vc P num fin (.draw .done pend::k) s=vc P num fin k s:=by rw [vc]
theorem qX6 (i:Nat) (di:List Nat) (o:yC) (tr:vZ) (j:Nat) (dj:List Nat) (p:yC) (tr':vZ) (pend:List (Nat×List Nat)) (k:List It) (s:AS) :
  vc P num fin (.draw (.both i di o tr j dj p tr') pend::k) s=(vc P num fin (.draw (.only i di o tr) pend::k) s∧vc P num fin (.draw (.only j dj p tr') pend::k) s):=by rw [vc]
theorem qZp (i:Nat) (di:List Nat) (o:yC) (tr:vZ) (j:Nat) (dj:List Nat) (p:yC) (tr':vZ) (m:Nat) (dm:List Nat) (q:yC) (tr2:vZ) (pend:List (Nat×List Nat)) (k:List It) (s:AS) :
  vc P num fin (.draw (.tri i di o tr j dj p tr' m dm q tr2) pend::k) s=(vc P num fin (.draw (.only i di o tr) pend::k) s∧vc P num fin (.draw (.only j dj p tr') pend::k) s∧vc P num fin (.draw (.only m dm q tr2) pend::k) s):=by rw [vc]
variable (P num fin) in
def gB (r:Out) (rd:FP→wT→Prop) (pend:FP→List (Nat×List Nat)) (dst:Option Nat) (tr:vZ) (k:List It) (t:List (Nat×AV)) (h:wT):Prop :=
 match r with
 | some (p,v,fp,nx')=>p∧rd fp (dR h fp)∧vc P num fin (.draw tr (pend fp)::k) (.mk (bS t dst v) (dR h fp) nx')
 | none=>False
theorem qG6 (p:Prop) (v:AV) (fp:FP) (nx:Nat) (rd:FP→wT→Prop) (pend:FP→List (Nat×List Nat)) (dst:Option Nat) (tr:vZ) (k:List It) (t:List (Nat×AV)) (h:wT) :
  gB P num fin (some (p,v,fp,nx)) rd pend dst tr k t h=(p∧rd fp (dR h fp)∧vc P num fin (.draw tr (pend fp)::k) (.mk (bS t dst v) (dR h fp) nx)):=rfl
theorem qOb (v:AV) (nx:Nat) (rd:FP→wT→Prop) (pend:FP→List (Nat×List Nat)) (dst:Option Nat) (tr:vZ) (k:List It) (t:List (Nat×AV)) (h:wT) :
  gB P num fin (ok v nx) rd pend dst tr k t h=(rd [] h∧vc P num fin (.draw tr (pend [])::k) (.mk (bS t dst v) h nx)):=by
 show (True∧rd [] (dR h [])∧vc P num fin (.draw tr (pend [])::k) (.mk (bS t dst v) (dR h []) nx))=_
 rw [true_and]
 rfl
def qPm (i:Nat) (pend:List (Nat×List Nat)) (fp:FP) (h:wT):Prop:=qK0 (qGy i (cN fp) pend) h
def qPo (i:Nat) (pend:List (Nat×List Nat)) (fp:FP):List (Nat×List Nat):=qGy i (cN fp) pend
def vH (r:Bool) (pend:List (Nat×List Nat)) (fp:FP) (h:wT):Prop:=if r then qK0 pend h else apart pend fp
def vJ (pend:List (Nat×List Nat)) (_:FP):List (Nat×List Nat):=pend
theorem qWv (i:Nat) (dst:Option Nat) (op:MOp) (tr:vZ) (pend:List (Nat×List Nat)) (k:List It) (t:List (Nat×AV)) (h:wT) (nx:Nat) :
  vc P num fin (.draw (.take i ⟨dst,op,none⟩ tr) pend::k) (.mk t h nx)=gB P num fin (wO (wD t) h nx op) (qPm i pend) (qPo i pend) dst tr k t h:=by
 rw [vc]; rfl
variable (P num fin) in
def qJm (op:MOp) (pend:List (Nat×List Nat)) (dst:Option Nat) (tr:vZ) (k:List It) (t:List (Nat×AV)) (h:wT) (nx:Nat):Prop :=
 ∃v fp nx',nG P num op t h nx v fp nx'∧apart pend fp∧vc P num fin (.draw tr pend::k) (.mk (bS t dst v) (dR h fp) nx')
theorem pC {op:MOp} {pend:List (Nat×List Nat)} {dst:Option Nat} {tr:vZ} {k:List It} {t:List (Nat×AV)} {h:wT} {nx nx':Nat} {v:AV} {fp:FP} (hc:nG P num op t h nx v fp nx') (ha:apart pend fp)
  (hk:vc P num fin (.draw tr pend::k) (.mk (bS t dst v) (dR h fp) nx')):qJm P num fin op pend dst tr k t h nx:=⟨_,_,_,hc,ha,hk⟩
theorem qSe (i:Nat) (deps:List Nat) (dst:Option Nat) (f:Nat) (ps:List Bool) (xs:List Arg) (tr:vZ) (pend:List (Nat×List Nat)) (k:List It) (t:List (Nat×AV)) (h:wT) (nx:Nat) :
  vc P num fin (.draw (.only i deps ⟨dst,.call f ps xs,none⟩ tr) pend::k) (.mk t h nx)=qJm P num fin (.call f ps xs) (yK deps pend) dst tr k t h nx:=by
 rw [vc]; rfl
theorem uO (i:Nat) (deps:List Nat) (dst:Option Nat) (op:MOp) (hc:qFy op=false) (tr:vZ) (pend:List (Nat×List Nat)) (k:List It) (t:List (Nat×AV)) (h:wT) (nx:Nat) :
  vc P num fin (.draw (.only i deps ⟨dst,op,none⟩ tr) pend::k) (.mk t h nx)=gB P num fin (wO (wD t) h nx op) (vH (xL op) (yK deps pend)) (vJ (yK deps pend)) dst tr k t h:=by
 rw [vc]
 simp only [hc]
 rfl
theorem qSf (i:Nat) (deps:List Nat) (dst:Option Nat) (tr:vZ) (pend:List (Nat×List Nat)) (k:List It) (t:List (Nat×AV)) (h:wT) (nx:Nat) :
 (∀x',vc P num fin (.draw (.only i deps ⟨dst,.mv x',none⟩ tr) pend::k) (.mk t h nx)=gB P num fin (wO (wD t) h nx (.mv x')) (vH true (yK deps pend)) (vJ (yK deps pend)) dst tr k t h)∧
 (∀c' a' b',vc P num fin (.draw (.only i deps ⟨dst,.pick c' a' b',none⟩ tr) pend::k) (.mk t h nx)=gB P num fin (wO (wD t) h nx (.pick c' a' b')) (vH true (yK deps pend)) (vJ (yK deps pend)) dst tr k t h)∧
 (∀z',vc P num fin (.draw (.only i deps ⟨dst,.alloc z',none⟩ tr) pend::k) (.mk t h nx)=gB P num fin (wO (wD t) h nx (.alloc z')) (vH false (yK deps pend)) (vJ (yK deps pend)) dst tr k t h)∧
 (∀x',vc P num fin (.draw (.only i deps ⟨dst,.box x',none⟩ tr) pend::k) (.mk t h nx)=gB P num fin (wO (wD t) h nx (.box x')) (vH false (yK deps pend)) (vJ (yK deps pend)) dst tr k t h)∧
 (∀z' ps',vc P num fin (.draw (.only i deps ⟨dst,.build z' ps',none⟩ tr) pend::k) (.mk t h nx)=gB P num fin (wO (wD t) h nx (.build z' ps')) (vH true (yK deps pend)) (vJ (yK deps pend)) dst tr k t h)∧
 (∀z' l' ps',vc P num fin (.draw (.only i deps ⟨dst,.mkSl z' l' ps',none⟩ tr) pend::k) (.mk t h nx)=gB P num fin (wO (wD t) h nx (.mkSl z' l' ps')) (vH false (yK deps pend)) (vJ (yK deps pend)) dst tr k t h)∧
 (∀n' ag' a',vc P num fin (.draw (.only i deps ⟨dst,.load n' ag' a',none⟩ tr) pend::k) (.mk t h nx)=gB P num fin (wO (wD t) h nx (.load n' ag' a')) (vH true (yK deps pend)) (vJ (yK deps pend)) dst tr k t h)∧
 (∀n' a' v',vc P num fin (.draw (.only i deps ⟨dst,.store n' a' v',none⟩ tr) pend::k) (.mk t h nx)=gB P num fin (wO (wD t) h nx (.store n' a' v')) (vH false (yK deps pend)) (vJ (yK deps pend)) dst tr k t h)∧
 (∀x',vc P num fin (.draw (.only i deps ⟨dst,.nilck x',none⟩ tr) pend::k) (.mk t h nx)=gB P num fin (wO (wD t) h nx (.nilck x')) (vH true (yK deps pend)) (vJ (yK deps pend)) dst tr k t h)∧
 (∀b' x' y',vc P num fin (.draw (.only i deps ⟨dst,.bin b' x' y',none⟩ tr) pend::k) (.mk t h nx)=gB P num fin (wO (wD t) h nx (.bin b' x' y')) (vH true (yK deps pend)) (vJ (yK deps pend)) dst tr k t h)∧
 (∀g' ks' x' y',vc P num fin (.draw (.only i deps ⟨dst,.eqS g' ks' x' y',none⟩ tr) pend::k) (.mk t h nx)=gB P num fin (wO (wD t) h nx (.eqS g' ks' x' y')) (vH true (yK deps pend)) (vJ (yK deps pend)) dst tr k t h)∧
 (∀g' x' y',vc P num fin (.draw (.only i deps ⟨dst,.eqB g' x' y',none⟩ tr) pend::k) (.mk t h nx)=gB P num fin (wO (wD t) h nx (.eqB g' x' y')) (vH true (yK deps pend)) (vJ (yK deps pend)) dst tr k t h)∧
 (∀x',vc P num fin (.draw (.only i deps ⟨dst,.neNil x',none⟩ tr) pend::k) (.mk t h nx)=gB P num fin (wO (wD t) h nx (.neNil x')) (vH true (yK deps pend)) (vJ (yK deps pend)) dst tr k t h)∧
 (∀u' x',vc P num fin (.draw (.only i deps ⟨dst,.un u' x',none⟩ tr) pend::k) (.mk t h nx)=gB P num fin (wO (wD t) h nx (.un u' x')) (vH true (yK deps pend)) (vJ (yK deps pend)) dst tr k t h)∧
 (∀k' x',vc P num fin (.draw (.only i deps ⟨dst,.cvi k' x',none⟩ tr) pend::k) (.mk t h nx)=gB P num fin (wO (wD t) h nx (.cvi k' x')) (vH true (yK deps pend)) (vJ (yK deps pend)) dst tr k t h)∧
 (∀x',vc P num fin (.draw (.only i deps ⟨dst,.cvs x',none⟩ tr) pend::k) (.mk t h nx)=gB P num fin (wO (wD t) h nx (.cvs x')) (vH true (yK deps pend)) (vJ (yK deps pend)) dst tr k t h)∧
 (∀z' b' l' c',vc P num fin (.draw (.only i deps ⟨dst,.mkS z' b' l' c',none⟩ tr) pend::k) (.mk t h nx)=gB P num fin (wO (wD t) h nx (.mkS z' b' l' c')) (vH false (yK deps pend)) (vJ (yK deps pend)) dst tr k t h)∧
 (∀s' x' l' h',vc P num fin (.draw (.only i deps ⟨dst,.cut s' x' l' h',none⟩ tr) pend::k) (.mk t h nx)=gB P num fin (wO (wD t) h nx (.cut s' x' l' h')) (vH true (yK deps pend)) (vJ (yK deps pend)) dst tr k t h)∧
 (∀x' l' h',vc P num fin (.draw (.only i deps ⟨dst,.cutS x' l' h',none⟩ tr) pend::k) (.mk t h nx)=gB P num fin (wO (wD t) h nx (.cutS x' l' h')) (vH true (yK deps pend)) (vJ (yK deps pend)) dst tr k t h)∧
 (∀o' x',vc P num fin (.draw (.only i deps ⟨dst,.fad o' x',none⟩ tr) pend::k) (.mk t h nx)=gB P num fin (wO (wD t) h nx (.fad o' x')) (vH true (yK deps pend)) (vJ (yK deps pend)) dst tr k t h)∧
 (∀o' n' ag' x',vc P num fin (.draw (.only i deps ⟨dst,.fld o' n' ag' x',none⟩ tr) pend::k) (.mk t h nx)=gB P num fin (wO (wD t) h nx (.fld o' n' ag' x')) (vH true (yK deps pend)) (vJ (yK deps pend)) dst tr k t h)∧
 (∀s' x' i',vc P num fin (.draw (.only i deps ⟨dst,.iad s' x' i',none⟩ tr) pend::k) (.mk t h nx)=gB P num fin (wO (wD t) h nx (.iad s' x' i')) (vH true (yK deps pend)) (vJ (yK deps pend)) dst tr k t h)∧
 (∀x' i',vc P num fin (.draw (.only i deps ⟨dst,.idx x' i',none⟩ tr) pend::k) (.mk t h nx)=gB P num fin (wO (wD t) h nx (.idx x' i')) (vH true (yK deps pend)) (vJ (yK deps pend)) dst tr k t h)∧
 (∀x' i',vc P num fin (.draw (.only i deps ⟨dst,.ext x' i',none⟩ tr) pend::k) (.mk t h nx)=gB P num fin (wO (wD t) h nx (.ext x' i')) (vH true (yK deps pend)) (vJ (yK deps pend)) dst tr k t h)∧
 (∀x',vc P num fin (.draw (.only i deps ⟨dst,.len x',none⟩ tr) pend::k) (.mk t h nx)=gB P num fin (wO (wD t) h nx (.len x')) (vH true (yK deps pend)) (vJ (yK deps pend)) dst tr k t h)∧
 (∀x',vc P num fin (.draw (.only i deps ⟨dst,.lenS x',none⟩ tr) pend::k) (.mk t h nx)=gB P num fin (wO (wD t) h nx (.lenS x')) (vH true (yK deps pend)) (vJ (yK deps pend)) dst tr k t h)∧
 (∀x' y',vc P num fin (.draw (.only i deps ⟨dst,.mx x' y',none⟩ tr) pend::k) (.mk t h nx)=gB P num fin (wO (wD t) h nx (.mx x' y')) (vH true (yK deps pend)) (vJ (yK deps pend)) dst tr k t h)∧
 (∀s' b' x' y',vc P num fin (.draw (.only i deps ⟨dst,.app s' b' x' y',none⟩ tr) pend::k) (.mk t h nx)=gB P num fin (wO (wD t) h nx (.app s' b' x' y')) (vH false (yK deps pend)) (vJ (yK deps pend)) dst tr k t h) :=
 ⟨fun _=>uO i deps dst _ rfl tr pend k t h nx,fun _ _ _=>uO i deps dst _ rfl tr pend k t h nx,fun _=>uO i deps dst _ rfl tr pend k t h nx,fun _=>uO i deps dst _ rfl tr pend k t h nx,fun _ _=>uO i deps dst _ rfl tr pend k t h nx,fun _ _ _=>uO i deps dst _ rfl tr pend k t h nx,fun _ _ _=>uO i deps dst _ rfl tr pend k t h nx,fun _ _ _=>uO i deps dst _ rfl tr pend k t h nx,fun _=>uO i deps dst _ rfl tr pend k t h nx,fun _ _ _=>uO i deps dst _ rfl tr pend k t h nx,fun _ _ _ _=>uO i deps dst _ rfl tr pend k t h nx,fun _ _ _=>uO i deps dst _ rfl tr pend k t h nx,fun _=>uO i deps dst _ rfl tr pend k t h nx,fun _ _=>uO i deps dst _ rfl tr pend k t h nx,fun _ _=>uO i deps dst _ rfl tr pend k t h nx,fun _=>uO i deps dst _ rfl tr pend k t h nx,fun _ _ _ _=>uO i deps dst _ rfl tr pend k t h nx,fun _ _ _ _=>uO i deps dst _ rfl tr pend k t h nx,fun _ _ _=>uO i deps dst _ rfl tr pend k t h nx,fun _ _=>uO i deps dst _ rfl tr pend k t h nx,fun _ _ _ _=>uO i deps dst _ rfl tr pend k t h nx,fun _ _ _=>uO i deps dst _ rfl tr pend k t h nx,fun _ _=>uO i deps dst _ rfl tr pend k t h nx,fun _ _=>uO i deps dst _ rfl tr pend k t h nx,fun _=>uO i deps dst _ rfl tr pend k t h nx,fun _=>uO i deps dst _ rfl tr pend k t h nx,fun _ _=>uO i deps dst _ rfl tr pend k t h nx,fun _ _ _ _=>uO i deps dst _ rfl tr pend k t h nx⟩
variable (P num fin) in
def fW (v:AV) (want:Bool) (ka kb:List It) (dst:Option Nat) (t:List (Nat×AV)) (h:wT) (nx:Nat):Prop :=
 ∃q,gv v q∧(q=some want→vc P num fin ka (.mk t h nx))∧(q≠some want→vc P num fin kb (.mk (bS t dst (.tup [])) h nx))
theorem qSc (i:Nat) (dst:Option Nat) (op:MOp) (g:Nat) (want:Bool) (tr:vZ) (pend:List (Nat×List Nat)) (k:List It) (t:List (Nat×AV)) (h:wT) (nx:Nat) :
  vc P num fin (.draw (.take i ⟨dst,op,some (g,want)⟩ tr) pend::k) (.mk t h nx)=fW P num fin (wD t g) want (.draw (.take i ⟨dst,op,none⟩ tr) pend::k) (.draw tr pend::k) dst t h nx:=by
 rw [vc]; rfl
theorem qSd (i:Nat) (deps:List Nat) (dst:Option Nat) (op:MOp) (g:Nat) (want:Bool) (tr:vZ) (pend:List (Nat×List Nat)) (k:List It) (t:List (Nat×AV)) (h:wT) (nx:Nat) :
  vc P num fin (.draw (.only i deps ⟨dst,op,some (g,want)⟩ tr) pend::k) (.mk t h nx)=fW P num fin (wD t g) want (.draw (.only i deps ⟨dst,op,none⟩ tr) pend::k) (.draw tr (yK deps pend)::k) dst t h nx:=by
 rw [vc]; rfl
theorem qJk (b:Bool) (ka kb:List It) (dst:Option Nat) (t:List (Nat×AV)) (h:wT) (nx:Nat):fW P num fin (.bool b) b ka kb dst t h nx=vc P num fin ka (.mk t h nx):=by
 simp only [fW,rF,exists_eq_left,ne_eq,not_true_eq_false,false_implies,and_true,true_implies]
theorem qJi (ka kb:List It) (dst:Option Nat) (t:List (Nat×AV)) (h:wT) (nx:Nat):fW P num fin (.bool true) false ka kb dst t h nx=vc P num fin kb (.mk (bS t dst (.tup [])) h nx):=by
 simp [fW,rF]
theorem qJj (ka kb:List It) (dst:Option Nat) (t:List (Nat×AV)) (h:wT) (nx:Nat):fW P num fin (.bool false) true ka kb dst t h nx=vc P num fin kb (.mk (bS t dst (.tup [])) h nx):=by
 simp [fW,rF]
theorem qD5 (want:Bool) (ka kb:List It) (dst:Option Nat) (t:List (Nat×AV)) (h:wT) (nx:Nat):fW P num fin (.tup []) want ka kb dst t h nx=vc P num fin kb (.mk (bS t dst (.tup [])) h nx):=by
 simp [fW,qS9]
theorem zZ {c want:Bool} {ka kb:List It} {dst:Option Nat} {t:List (Nat×AV)} {h:wT} {nx:Nat} (h1:c=want→vc P num fin ka (.mk t h nx)) (h2:c≠want→vc P num fin kb (.mk (bS t dst (.tup [])) h nx)) :
  fW P num fin (.bool c) want ka kb dst t h nx:=⟨some c,.inl ⟨c,rfl,rfl⟩,fun h=>h1 (Option.some.inj h),fun h=>h2 (fun h'=>h (by rw [h']))⟩
theorem qZ {ι:Type} (I:ι→AS) (good:ι→Prop) (μ:ι→Nat) (i0:ι) {a:bK} {k:List It} {s:AS} (h0:good i0) (hs:Sub s (I i0))
  (step :∀i,good i→vc P num fin (.code a::.stop (wAu I good μ (μ i))::k) (I i)):qNj P num fin a k s:=by
 unfold qNj
 rw [vc]
 refine ⟨fun n s =>∃i,s=I i∧good i∧μ i=n,μ i0,⟨I i0,hs,i0,rfl,h0,rfl⟩,?_⟩
 rintro n s ⟨i,rfl,hi,rfl⟩
 exact step i hi
end
end Go.Sep
namespace Go.Sep
set_option linter.unusedVariables false
set_option linter.unusedSimpArgs false
mutual
def okB (A:Nat→Prop):AV→Prop
 | .ptr nm _ _=>A nm
 | .ns nm _ _=>A nm
 | .agg cs=>qN5 A cs
 | .tup cs=>qN5 A cs
 | v=>bnd (fun _=>False) v
def qN5 (A:Nat→Prop):List AV→Prop
 | []=>True
 | c::cs=>okB A c∧qN5 A cs
end
def dE:List (List AV)→List (List AV)→Prop
 | [],ds=>ds=[]
 | r::rs,ds =>∃d ds',ds=d::ds'∧wJ r d∧dE rs ds'
theorem qTq :∀{c d:AV},wK c d→yS c=true→yS d=true
 | .nil,d,hn,h=>by
  simp only [wK] at hn
  rcases hn with rfl | ⟨m,sz,rfl⟩<;>rfl
 | .agg _,d,hn,h=>by simp [yS] at h
 | .tup _,d,hn,h=>by simp [yS] at h
 | .any,d,hn,h=>by simp [yS] at h
 | .int _ _,d,hn,h | .bool _,d,hn,h | .str _,d,hn,h | .fn _ _,d,hn,h | .nilp,d,hn,h | .ptr _ _ _,d,hn,h
 | .fptr _ _ _,d,hn,h | .nilI,d,hn,h | .ifc,d,hn,h | .ns _ _ _,d,hn,h | .sl _ _ _,d,hn,h=>by
  simp only [wK] at hn
  subst hn
  exact h
theorem qFo :∀{cs ds:List AV},wJ cs ds→cs.all yS=true→ds.all yS=true
 | [],ds,hn,h=>by
  simp only [wJ] at hn
  subst hn
  rfl
 | c::cs,ds,hn,h=>by
  simp only [wJ] at hn
  obtain ⟨d,ds',rfl,h1,h2⟩:=hn
  simp only [wC1,wBp] at h⊢
  exact ⟨qTq h1 h.1,qFo h2 h.2⟩
theorem qAa {e:Env} {W:World} {b sz:Nat} :∀{rs ds:List (List AV)} {o:Nat} {L:List Nat},dE rs ds→yM e W b o sz rs L→yM e W b o sz ds L
 | [],ds,o,L,hn,h=>by
  simp only [dE] at hn
  subst hn
  exact h
 | r::rs,ds,o,L,hn,h=>by
  simp only [dE] at hn
  obtain ⟨d,ds',rfl,h1,h2⟩:=hn
  simp only [yM] at h⊢
  obtain ⟨vs,L1,L2,g1,g2,g3,g4,g5,g6⟩:=h
  exact ⟨vs,L1,L2,⟨by rw [qCv h1]; exact g1.1,qFo h1 g1.2⟩,g2,g3,pW h1 g4,qAa h2 g5,g6⟩
theorem cR :∀{rs ds:List (List AV)},dE rs ds→ds.length=rs.length
 | [],ds,h=>by simp only [dE] at h; simp [h]
 | r::rs,ds,h=>by
  simp only [dE] at h
  obtain ⟨d,ds',rfl,_,h2⟩:=h
  simp [cR h2]
mutual
theorem qL2 {e e':Env} {A:Nat→Prop} {f:Nat→Nat} (k:dI e e' (fun _=>False) []) (hφ :∀n,A n→e'.φ n=e.φ (f n)) :∀(v:AV) {c:Value},okB A v→RV e (jW f v) c []→RV e' v c []
 | .ptr nm i o,c,ha,h=>by
  simp only [okB,jW,RV] at ha h⊢
  rw [hφ nm ha]
  exact h
 | .ns nm o l,c,ha,h=>by
  simp only [okB,jW,RV] at ha h⊢
  rw [hφ nm ha]
  exact h
 | .agg cs,c,ha,h=>by
  simp only [okB,jW,RV] at ha h⊢
  obtain ⟨vs,h1,h2⟩:=h
  exact ⟨vs,h1,qFi k hφ cs ha h2⟩
 | .tup cs,c,ha,h=>by
  simp only [okB,jW,RV] at ha h⊢
  obtain ⟨vs,h1,h2⟩:=h
  exact ⟨vs,h1,qFi k hφ cs ha h2⟩
 | .any,c,ha,h | .int _ _,c,ha,h | .bool _,c,ha,h | .str _,c,ha,h | .fn _ _,c,ha,h | .nilp,c,ha,h | .fptr _ _ _,c,ha,h | .nil,c,ha,h | .nilI,c,ha,h | .ifc,c,ha,h | .sl _ _ _,c,ha,h=>by
  simp only [okB] at ha
  simp only [jW] at h
  exact iS _ k ha h
theorem qFi {e e':Env} {A:Nat→Prop} {f:Nat→Nat} (k:dI e e' (fun _=>False) []) (hφ :∀n,A n→e'.φ n=e.φ (f n)) :∀(l:List AV) {cs:List Value},qN5 A l→RVs e (aX f l) cs []→RVs e' l cs []
 | [],cs,_,h=>by simpa only [RVs,aX] using h
 | v::l,cs,ha,h=>by
  simp only [qN5,aX,RVs] at ha h⊢
  obtain ⟨c,cs',L1,L2,h1,h2,h3,h4⟩:=h
  have hL1:L1=[]:=(wY h4).1
  have hL2:L2=[]:=(wY h4).2
  subst hL1 hL2
  exact ⟨c,cs',[],[],h1,qL2 k hφ v ha.1 h2,qFi k hφ l ha.2 h3,rfl⟩
end
mutual
theorem qL3 {A B:Nat→Prop} (h :∀n,A n→B n) :∀(v:AV),okB A v→bnd B v
 | .ptr nm i o,ha=>h nm ha
 | .ns nm o l,ha=>h nm ha
 | .agg cs,ha=>qFj h cs ha
 | .tup cs,ha=>qFj h cs ha
 | .any,_=>trivial
 | .int _ _,ha | .bool _,ha | .str _,ha | .fn _ _,ha | .nilp,ha | .fptr _ _ _,ha | .nil,ha | .nilI,ha | .ifc,ha | .sl _ _ _,ha=>lO (A:=fun _=>False) (fun n hn=>hn.elim) _ (by simpa only [okB] using ha)
theorem qFj {A B:Nat→Prop} (h :∀n,A n→B n) :∀(l:List AV),qN5 A l→jK B l
 | [],_=>trivial
 | v::l,ha=>⟨qL3 h v ha.1,qFj h l ha.2⟩
end
def shp (E:List Nat) (A:Nat→Prop) (f:Nat→Nat) (v v':AV):Prop:=v'=.any∨(∃k,v'=.ns k 0 0∧k∈E∧v=.nil)∨(v=jW f v'∧okB A v')
theorem qNk {h:wT} {n:Nat} {r:Row} (hl:qQ h n=some r):(n,r)∈h:=by
 induction h with
 | nil=>simp [qQ] at hl
 | cons x h ih =>
  obtain ⟨m,s⟩:=x
  simp only [qQ] at hl
  split at hl
  ·rename_i he
   simp only [Option.some.injEq] at hl
   subst hl he
   simp
  ·exact wCk _ (ih hl)
theorem Sub.shape (E:List Nat) (f:Nat→Nat) {t t':List (Nat×AV)} {h h':wT} {nx nx':Nat} (hn:10≤nx')
  (hh :∀x∈h',yW (fun _=>False) x.2.2∧x.1<nx'∧((x.1∈E∧x.2.2=[]∧10≤x.1)∨(x.1∉E∧(∃r0,qQ h (f x.1)=some (x.2.1,r0)∧(r0=x.2.2∨dE r0 x.2.2))∧(x.1<10→f x.1=x.1))))
  (hi:(h'.map (fun x=>f x.1)).Nodup) (hE :∀k∈E,k<nx'∧qQ h' k≠none)
  (ht :∀x∈t',shp E (fun n=>n∉E∧qQ h' n≠none) f (wD t x.1) x.2):Sub (.mk t h nx) (.mk t' h' nx'):=by
 rintro B a w ⟨h1,h2,hb,hbt,φ,Lf,hl⟩
 have mem :∀n r,qQ h' n=some r→(n,r)∈h':=fun n r hr=>qNk hr
 have inj :∀n m,qQ h' n≠none→qQ h' m≠none→f n=f m→n=m:=by
  intro n m hn' hm' he
  cases hln:qQ h' n with
  | none=>exact absurd hln hn'
  | some r =>
   cases hlm:qQ h' m with
   | none=>exact absurd hlm hm'
   | some q =>
    have a1:=mem n r hln
    have a2:=mem m q hlm
    have key :∀(l:wT),(l.map (fun x=>f x.1)).Nodup→(n,r)∈l→(m,q)∈l→n=m:=by
     intro l
     induction l with
     | nil=>intro _ h; simp at h
     | cons y l ih =>
      intro hnd p1 p2
      simp only [wBm,wCb] at hnd
      rcases List.mem_cons.1 p1 with h3 | p3<;>rcases List.mem_cons.1 p2 with h4 | p4
      ·exact (congrArg Prod.fst h3).trans (congrArg Prod.fst h4).symm
      ·refine absurd (List.mem_map.2 ⟨(m,q),p4,?_⟩) hnd.1
       rw [←h3]; exact he.symm
      ·refine absurd (List.mem_map.2 ⟨(n,r),p3,?_⟩) hnd.1
       rw [←h4]; exact he
      ·exact ih hnd.2 p3 p4
    exact key h' hi a1 a2
 classical
 let φ':Nat→vG:=fun n=>if qQ h' n=none then .dead else if n∈E then .nilp else φ (f n)
 let Lf':Nat→List Nat:=fun n=>if n∈E then [] else Lf (f n)
 have φd :∀n,qQ h' n=none→φ' n=.dead:=fun n hn'=>by show (if qQ h' n=none then vG.dead else _)=_; rw [if_pos hn']
 have φE :∀n,qQ h' n≠none→n∈E→φ' n=.nilp:=fun n hn' he=>by show (if qQ h' n=none then vG.dead else if n∈E then vG.nilp else φ (f n))=_; rw [if_neg hn',if_pos he]
 have φo :∀n,qQ h' n≠none→n∉E→φ' n=φ (f n):=fun n hn' he=>by show (if qQ h' n=none then vG.dead else if n∈E then vG.nilp else φ (f n))=_; rw [if_neg hn',if_neg he]
 have LE :∀n,n∈E→Lf' n=[]:=fun n he=>by show (if n∈E then [] else Lf (f n))=_; rw [if_pos he]
 have Lo :∀n,n∉E→Lf' n=Lf (f n):=fun n he=>by show (if n∈E then [] else Lf (f n))=_; rw [if_neg he]
 have old :∀n row,qQ h' n=some row→n∉E→∃r0,qQ h (f n)=some (row.1,r0)∧(r0=row.2∨dE r0 row.2):=by
  intro n row hr he
  rcases (hh _ (mem n row hr)).2.2 with ⟨h3,_⟩ | ⟨_,h3,_⟩
  ·exact absurd h3 he
  ·exact h3
 have oldn :∀n,qQ h' n≠none→n∉E→qQ h (f n)≠none:=by
  intro n hn' he
  cases hr:qQ h' n with
  | none=>exact absurd hr hn'
  | some row =>
   obtain ⟨r0,h3,_⟩:=old n row hr he
   simp [h3]
 have hk :∀L:List Nat,dI (B.env w φ) (B.env w φ') (fun _=>False) L:=fun L=>{num:=rfl,fr:=fun m b hb'=>by cases m<;>exact hb',cells:=fun b _ o=>rfl,φ:=fun n hn'=>hn'.elim,own:=fun b _=>rfl}
 refine ⟨h1,h2,?_,?_,φ',Lf',?_,?_,?_,hn⟩
 ·intro n row hr
  have:=hh _ (mem n row hr)
  exact ⟨this.2.1,uV (fun k hk=>hk.elim) _ this.1⟩
 ·intro n
  have key :∀(l:List (Nat×AV)),(∀x∈l,shp E (fun n=>n∉E∧qQ h' n≠none) f (wD t x.1) x.2)→bnd (· < nx') (wD l n):=by
   intro l
   induction l with
   | nil=>intro _; trivial
   | cons y l ih =>
    intro hy
    obtain ⟨m,v⟩:=y
    simp only [wD]
    split
    ·rcases hy (m,v) (by simp) with h3 | ⟨k,h3,h4,_⟩ | ⟨_,h4⟩
     ·simp only at h3; subst h3; trivial
     ·simp only at h3; subst h3; exact (hE k h4).1
     ·refine qL3 (fun n hn'=>?_) v h4
      cases hr:qQ h' n with
      | none=>exact absurd hr hn'.2
      | some row=>exact (hh _ (mem n row hr)).2.1
    ·exact ih (fun x hx=>hy x (by simp [hx]))
  exact key t' ht
 ·exact {
   size0:=hl.ok.size0
   io0:=hl.ok.io0
   fr:=hl.ok.fr
   keep0:=hl.ok.keep0
   own0:=fun n hn' b hb'=>by
    by_cases he:n∈E
    ·rw [LE n he] at hb'; simp at hb'
    ·rw [Lo n he] at hb'
     exact hl.ok.own0 (f n) (oldn n hn' he) b hb'
   rh:={
    row:=fun n row hr=>by
     have hne:qQ h' n≠none:=by simp [hr]
     unfold uX gI
     by_cases he:n∈E
     ·have h3:(B.env w φ').φ n=.nilp:=φE n hne he
      rw [h3,LE n he]
      rcases (hh _ (mem n row hr)).2.2 with ⟨_,h4,_⟩ | ⟨h4,_⟩
      ·exact ⟨h4,rfl⟩
      ·exact absurd he h4
     ·have h3:(B.env w φ').φ n=φ (f n):=φo n hne he
      rw [h3,Lo n he]
      obtain ⟨r0,h4,h5⟩:=old n row hr he
      have h6:=hl.ok.rh.row (f n) _ h4
      have hbr:=(hh _ (mem n row hr)).1
      have h6':(match φ (f n) with | .dead=>False | .nilp=>r0=[]∧Lf (f n)=[] | .at p=>p.sz=row.1∧hY w p r0.length∧∃Lr,yM (B.env w φ) w p.block p.off p.sz r0 Lr∧Lf (f n)=p.block::Lr):=h6
      cases hq:φ (f n) with
      | dead=>rw [hq] at h6'; exact h6'.elim
      | nilp =>
       rw [hq] at h6'
       refine ⟨?_,h6'.2⟩
       rcases h5 with h5 | h5
       ·rw [←h5]; exact h6'.1
       ·rw [h6'.1] at h5; simpa [dE] using h5
      | «at» p =>
       rw [hq] at h6'
       obtain ⟨g1,g2,Lr,g3,g4⟩:=h6'
       have hlen:row.2.length=r0.length:=by
        rcases h5 with h5 | h5
        ·rw [h5]
        ·exact cR h5
       refine ⟨g1,by rw [hlen]; exact g2,Lr,?_,g4⟩
       refine uJ row.2 (hk Lr) hbr (fun _ _=>rfl) ?_
       rcases h5 with h5 | h5
       ·rw [←h5]; exact g3
       ·exact qAa h5 g3
    nodup:=fun n hn'=>by
     by_cases he:n∈E
     ·rw [LE n he]; exact wD1
     ·rw [Lo n he]; exact hl.ok.rh.nodup _ (oldn n hn' he)
    blk:=fun n hn' b hb'=>by
     by_cases he:n∈E
     ·rw [LE n he] at hb'; simp at hb'
     ·rw [Lo n he] at hb'; exact hl.ok.rh.blk _ (oldn n hn' he) b hb'
    dis:=fun n m hn' hm' hne b hb1 hb2=>by
     by_cases he:n∈E
     ·rw [LE n he] at hb1; simp at hb1
     ·by_cases hg:m∈E
      ·rw [LE m hg] at hb2; simp at hb2
      ·rw [Lo n he] at hb1
       rw [Lo m hg] at hb2
       exact hl.ok.rh.dis _ _ (oldn n hn' he) (oldn m hm' hg) (fun hf=>hne (inj n m hn' hm' hf)) b hb1 hb2
    dead:=fun n hn'=>φd n hn'}}
 ·intro n
  have key :∀(l:List (Nat×AV)),(∀x∈l,shp E (fun n=>n∉E∧qQ h' n≠none) f (wD t x.1) x.2)→RV (B.env w φ') (wD l n) (a.tmps.getD n undef) []:=by
   intro l
   induction l with
   | nil=>intro _; simp [wD,RV]
   | cons y l ih =>
    intro hy
    obtain ⟨m,v⟩:=y
    simp only [wD]
    split
    ·rename_i hnm
     subst hnm
     have h0:=hl.tm n
     rcases hy (n,v) (by simp) with h3 | ⟨k,h3,h4,h5⟩ | ⟨h3,h4⟩
     ·simp only at h3; subst h3; simp [RV]
     ·simp only at h3 h5; subst h3
      rw [h5] at h0
      simp only [RV] at h0
      have hφk:(B.env w φ').φ k=.nilp:=φE k (hE k h4).2 h4
      simp only [RV,hφk,true_and]
      exact ⟨none,h0.1⟩
     ·simp only at h3 h4
      rw [h3] at h0
      exact qL2 (hk []) (fun m hm=>φo m hm.2 hm.1) v h4 h0
    ·exact ih (fun x hx=>hy x (by simp [hx]))
  exact key t' ht
 ·intro n hn'
  obtain ⟨h3,h4⟩:=hl.φ0 n hn'
  refine ⟨h3,?_⟩
  cases hr:qQ h' n with
  | none=>exact .inr (φd n hr)
  | some row =>
   rcases (hh _ (mem n row hr)).2.2 with ⟨_,_,h5⟩ | ⟨h5,_,h6⟩
   ·simp only at h5; omega
   ·rw [φo n (by simp [hr]) h5,h6 h3]
    exact h4
end Go.Sep
namespace Go.Sep
set_option linter.unusedVariables false
set_option linter.unusedSimpArgs false
theorem oZ {α:Type} {l:List α} {i:Nat} {x:α} (h:l[i]?=some x):x∈l:=by
 obtain ⟨hi,rfl⟩:=List.getElem?_eq_some_iff.1 h
 exact wCj hi
theorem qJy {A:Nat→Prop} {off len:Nat} {rows:List (List AV)} (h:yW A rows):yW A (xU off len rows):=by
 rw [qN2]
 exact yE.2 fun x hx=>yE.1 h x (List.mem_of_mem_drop (List.mem_of_mem_take hx))
theorem Sub.fold (nm i f k:Nat) {off:Nat} {t:List (Nat×AV)} {h:wT} {nx sz sz' len:Nat} {rows rows':List (List AV)} {r:List AV} (hk:qQ h k=some (sz',rows')) (hlen:off+len≤rows'.length) (hnm:qQ h nm=some (sz,rows)) (hne:k≠nm) (hk10:10≤k)
  (hr:rows[i]?=some r) (hf:r[f]?=some (.ns k off len)):Sub (.mk t h nx) (.mk t (del (put h nm (sz,rows.set i (r.set f (.sl .own sz' (xU off len rows'))))) k) nx):=by
 rintro B a w ⟨h1,h2,hb,hbt,φ,Lf,hl⟩
 let φ':Nat→vG:=fun n=>if n=k then .dead else φ n
 have hor :∀n,φ' n=φ n∨φ' n=.dead:=fun n=>by
  show (if n=k then vG.dead else φ n)=φ n∨(if n=k then vG.dead else φ n)=.dead
  by_cases hn:n=k
  ·rw [if_pos hn]; exact .inr rfl
  ·rw [if_neg hn]; exact .inl rfl
 have hkeep :∀(A:Nat→Prop) (L:List Nat),dI (B.env w φ) (B.env w φ') A L:=fun A L=>{num:=rfl,fr:=fun m b hb'=>by cases m<;>exact hb',cells:=fun b _ o=>rfl,φ:=fun n _=>hor n,own:=fun b _=>rfl}
 have hφ :∀n,n≠k→(B.env w φ').φ n=(B.env w φ).φ n:=fun n hn=>if_neg hn
 have rk:=hl.ok.rh.row k _ hk
 have rn:=hl.ok.rh.row nm _ hnm
 obtain ⟨hi,hri⟩:=List.getElem?_eq_some_iff.1 hr
 obtain ⟨hfl,hrf⟩:=List.getElem?_eq_some_iff.1 hf
 have key :∃p Lr,φ nm=.at p∧p.sz=sz∧hY w p rows.length∧yM (B.env w φ) w p.block p.off p.sz rows Lr∧Lf nm=p.block::Lr:=by
  unfold uX gI at rn
  have he:(B.env w φ).φ nm=φ nm:=rfl
  rw [he] at rn
  cases hq:φ nm with
  | dead=>rw [hq] at rn; exact rn.elim
  | nilp=>rw [hq] at rn; simp only at rn; rw [rn.1] at hi; simp at hi
  | «at» p =>
   rw [hq] at rn
   obtain ⟨a1,a2,Lr,a3,a4⟩:=rn
   exact ⟨p,Lr,rfl,a1,a2,a3,a4⟩
 obtain ⟨p,Lr,hp,psz,pown,prow,pL⟩:=key
 obtain ⟨vs,L1,L2,L3,s1,s2,s3,s4,s5,s6,rfl⟩:=cH i hi prow
 rw [hri] at s1 s4
 have hrs:r=r.take f++(.ns k off len::r.drop (f+1)):=by rw [←hrf]; simp
 rw [hrs] at s4
 obtain ⟨A1,A2,cs1,cs2,hcs,q1,q2,rfl⟩ :∃A1 A2 cs1 cs2,vs=cs1++cs2∧RVs (B.env w φ) (r.take f) cs1 A1∧RVs (B.env w φ) (.ns k off len::r.drop (f+1)) cs2 A2∧L2=A1++A2:=by
  obtain ⟨c1,c2,M1,M2,g1,g4,g2,g3⟩:=(uI _ _).1 s4
  exact ⟨M1,M2,c1,c2,g1,g2,g3,g4⟩
 simp only [RVs] at q2
 obtain ⟨v,vs',B1,B2,rfl,v1,v2,rfl⟩:=q2
 have hB1:B1=[]:=by simp only [RV] at v1; exact v1.1
 subst hB1
 obtain ⟨L',o1,hsub,o3⟩:=qK3 rk v1 hlen
 have hnew:RVs (B.env w φ) (r.set f (.sl .own sz' (xU off len rows'))) vs (A1++(L'++B2)):=by
  have:r.set f (.sl .own sz' (xU off len rows'))=r.take f++(.sl .own sz' (xU off len rows')::r.drop (f+1)):=by rw [List.set_eq_take_append_cons_drop,if_pos hfl]
  rw [this,hcs]
  refine (uI _ _).2 ⟨_,_,_,_,rfl,rfl,q1,?_⟩
  simp only [RVs]
  exact ⟨v,vs',L',B2,rfl,o1,v2,rfl⟩
 have hsz:(r.set f (.sl .own sz' (xU off len rows'))).length=p.sz∧(r.set f (.sl .own sz' (xU off len rows'))).all yS=true:=by
  refine ⟨by rw [wD6]; exact s1.1,?_⟩
  refine List.all_eq_true.2 fun x hx=>?_
  rcases wD7 hx with hx | rfl
  ·exact List.all_eq_true.1 s1.2 x hx
  ·rfl
 have hrows:=tK i hi hsz s2 s3 hnew s5 s6
 let Ln:List Nat:=p.block::(L1++((A1++(L'++B2))++L3))
 have hperm:Ln.Perm (Lf nm++L'):=by
  refine List.perm_iff_count.2 fun x=>?_
  show List.count x (p.block::(L1++((A1++(L'++B2))++L3)))=List.count x (Lf nm++L')
  rw [pL]
  simp only [List.nil_append,List.count_cons,List.count_append]
  omega
 have hkn:qQ h k≠none:=by rw [hk]; simp
 have hnn:qQ h nm≠none:=by rw [hnm]; simp
 have hmem :∀x,x∈Ln↔x∈Lf nm∨x∈L':=fun x=>by rw [hperm.mem_iff,wCp]
 have hnd:Ln.Nodup:=by
  refine hperm.nodup_iff.2 (List.nodup_append.2 ⟨hl.ok.rh.nodup nm hnn,?_,fun x hx y hy hxy=>?_⟩)
  ·exact o3 (hl.ok.rh.nodup k hkn)
  ·subst hxy
   exact hl.ok.rh.dis k nm hkn hnn hne x (hsub x hy) hx
 let h':wT:=del (put h nm (sz,rows.set i (r.set f (.sl .own sz' (xU off len rows'))))) k
 have hlook :∀n,qQ h' n=if n=k then none else if n=nm then some (sz,rows.set i (r.set f (.sl .own sz' (xU off len rows')))) else qQ h n:=fun n=>by
  show qQ (del _ k) n=_
  rw [qAd]
  by_cases hn:n=k
  ·rw [if_pos hn,if_pos hn]
  ·rw [if_neg hn,if_neg hn,qFr]
 let Lf':Nat→List Nat:=fun n=>if n=k then [] else if n=nm then Ln else Lf n
 have Lk:Lf' k=[]:=if_pos rfl
 have Lnm:Lf' nm=Ln:=by show (if nm=k then [] else if nm=nm then Ln else Lf nm)=Ln; rw [if_neg (Ne.symm hne),if_pos rfl]
 have Lo :∀n,n≠k→n≠nm→Lf' n=Lf n:=fun n a b=>by show (if n=k then [] else if n=nm then Ln else Lf n)=Lf n; rw [if_neg a,if_neg b]
 have lookk:qQ h' k=none:=by rw [hlook,if_pos rfl]
 have lookn:qQ h' nm=some (sz,rows.set i (r.set f (.sl .own sz' (xU off len rows')))):=by rw [hlook,if_neg (Ne.symm hne),if_pos rfl]
 have looko :∀n,n≠k→n≠nm→qQ h' n=qQ h n:=fun n a b=>by rw [hlook,if_neg a,if_neg b]
 have from_ :∀n,qQ h' n≠none→∀b∈Lf' n,(b∈Lf n∧qQ h n≠none)∨(n=nm∧b∈Lf k):=by
  intro n hn b hb'
  by_cases hnk:n=k
  ·subst hnk; exact absurd lookk hn
  ·by_cases hnn':n=nm
   ·subst hnn'
    rw [Lnm] at hb'
    rcases (hmem b).1 hb' with hx | hx
    ·exact .inl ⟨hx,hnn⟩
    ·exact .inr ⟨rfl,hsub b hx⟩
   ·rw [Lo n hnk hnn'] at hb'
    rw [looko n hnk hnn'] at hn
    exact .inl ⟨hb',hn⟩
 refine ⟨h1,h2,?_,hbt,φ',Lf',?_,?_,?_,hl.ten⟩
 ·intro n row hr'
  rw [hlook] at hr'
  split at hr'
  ·simp at hr'
  ·split at hr'
   ·rename_i _ hn
    simp only [Option.some.injEq] at hr'
    subst hr'
    obtain ⟨b1,b2⟩:=hb nm _ hnm
    obtain ⟨b3,b4⟩:=hb k _ hk
    refine ⟨by omega,yE.2 fun x hx=>?_⟩
    rcases wD7 hx with hx | rfl
    ·exact yE.1 b2 x hx
    ·refine jV.2 fun y hy=>?_
     rcases wD7 hy with hy | rfl
     ·exact jV.1 (yE.1 b2 r (oZ hr)) y hy
     ·exact qJy b4
   ·exact hb n row hr'
 ·refine {size0:=hl.ok.size0,io0:=hl.ok.io0,fr:=hl.ok.fr,keep0:=hl.ok.keep0,own0:=?_,rh:={row:=?_,nodup:=?_,blk:=?_,dis:=?_,dead:=?_}}
  ·intro n hn b hb'
   rcases from_ n hn b hb' with ⟨x1,x2⟩ | ⟨_,x1⟩
   ·exact hl.ok.own0 n x2 b x1
   ·exact hl.ok.own0 k hkn b x1
  ·intro n row hr'
   by_cases hnk:n=k
   ·subst hnk; rw [lookk] at hr'; simp at hr'
   ·by_cases hnn':n=nm
    ·subst hnn'
     rw [lookn] at hr'
     simp only [Option.some.injEq] at hr'
     subst hr'
     rw [Lnm]
     unfold uX gI
     rw [hφ n hnk]
     have he:(B.env w φ).φ n=.at p:=hp
     rw [he]
     refine ⟨psz,by rw [wD6]; exact pown,_,?_,rfl⟩
     exact uJ (A:=fun _=>True) _ (hkeep _ _) (yE.2 fun x _=>jV.2 fun y _=>lO (A:=(· < nx)) (fun _ _=>trivial) y (by
      obtain ⟨b1,b2⟩:=hb n _ hnm
      obtain ⟨b3,b4⟩:=hb k _ hk
      rename_i hx hy
      rcases wD7 hx with hx | rfl
      ·exact jV.1 (yE.1 b2 x hx) y hy
      ·rcases wD7 hy with hy | rfl
       ·exact jV.1 (yE.1 b2 r (oZ hr)) y hy
       ·exact qJy b4)) (fun _ _=>rfl) hrows
    ·rw [looko n hnk hnn'] at hr'
     rw [Lo n hnk hnn']
     exact (hl.ok.rh.row n row hr').keep (hkeep _ _) (hφ n hnk) (hb n row hr').2
  ·intro n hn
   by_cases hnk:n=k
   ·subst hnk; exact absurd lookk hn
   ·by_cases hnn':n=nm
    ·subst hnn'; rw [Lnm]; exact hnd
    ·rw [Lo n hnk hnn']
     rw [looko n hnk hnn'] at hn
     exact hl.ok.rh.nodup n hn
  ·intro n hn b hb'
   rcases from_ n hn b hb' with ⟨x1,x2⟩ | ⟨_,x1⟩
   ·exact hl.ok.rh.blk n x2 b x1
   ·exact hl.ok.rh.blk k hkn b x1
  ·intro n m hn hm hnm' b hb1 hb2
   have nk:n≠k:=fun he=>by subst he; exact hn lookk
   have mk:m≠k:=fun he=>by subst he; exact hm lookk
   rcases from_ n hn b hb1 with ⟨x1,x2⟩ | ⟨rfl,x1⟩<;>rcases from_ m hm b hb2 with ⟨y1,y2⟩ | ⟨rfl,y1⟩
   ·exact hl.ok.rh.dis n m x2 y2 hnm' b x1 y1
   ·exact hl.ok.rh.dis n k x2 hkn nk b x1 y1
   ·exact hl.ok.rh.dis m k y2 hkn mk b y1 x1
   ·exact hnm' rfl
  ·intro n hn
   show (if n=k then vG.dead else φ n)=.dead
   by_cases hnk:n=k
   ·rw [if_pos hnk]
   ·rw [if_neg hnk]
    by_cases hnn':n=nm
    ·subst hnn'; rw [lookn] at hn; simp at hn
    ·rw [looko n hnk hnn'] at hn
     exact hl.ok.rh.dead n hn
 ·intro n
  exact iS (A:=(· < nx)) _ (hkeep _ _) (hbt n) (hl.tm n)
 ·intro n hn
  obtain ⟨x1,x2⟩:=hl.φ0 n hn
  refine ⟨x1,?_⟩
  show (if n=k then vG.dead else φ n)=B.φ0 n∨(if n=k then vG.dead else φ n)=.dead
  by_cases hnk:n=k
  ·rw [if_pos hnk]; exact .inr rfl
  ·rw [if_neg hnk]; exact x2
theorem Sub.foldLast (nm f k:Nat) {off:Nat} {t:List (Nat×AV)} {h:wT} {nx sz sz' len:Nat} {front rows':List (List AV)} {r:List AV} (hk:qQ h k=some (sz',rows')) (hlen:off+len≤rows'.length) (hnm:qQ h nm=some (sz,front++[r])) (hne:k≠nm) (hk10:10≤k)
  (hf:r[f]?=some (.ns k off len)):Sub (.mk t h nx) (.mk t (del (put h nm (sz,front++[r.set f (.sl .own sz' (xU off len rows'))])) k) nx):=by
 have:=Sub.fold nm front.length f k (t:=t) (nx:=nx) hk hlen hnm hne hk10 (r:=r) (by simp) hf
 rw [List.set_append_right _ _ (wBo _),Nat.sub_self,List.set_cons_zero] at this
 exact this
theorem Sub.fold1 (nm f k:Nat) {off:Nat} {t:List (Nat×AV)} {h:wT} {nx sz sz' len:Nat} {rows':List (List AV)} {r:List AV} (hk:qQ h k=some (sz',rows')) (hlen:off+len≤rows'.length) (hnm:qQ h nm=some (sz,[r])) (hne:k≠nm) (hk10:10≤k)
  (hf:r[f]?=some (.ns k off len)):Sub (.mk t h nx) (.mk t (del (put h nm (sz,[r.set f (.sl .own sz' (xU off len rows'))])) k) nx) :=
 Sub.fold nm 0 f k (t:=t) (nx:=nx) hk hlen hnm hne hk10 (r:=r) (by simp) hf
theorem Sub.foldAt (nm f k:Nat) {off i:Nat} {t:List (Nat×AV)} {h:wT} {nx sz sz' len:Nat} {l rows':List (List AV)} {r:List AV} (hk:qQ h k=some (sz',rows')) (hlen:off+len≤rows'.length) (hnm:qQ h nm=some (sz,l.set i r)) (hne:k≠nm) (hk10:10≤k)
  (hf:r[f]?=some (.ns k off len)) (hi:i<l.length):Sub (.mk t h nx) (.mk t (del (put h nm (sz,l.set i (r.set f (.sl .own sz' (xU off len rows'))))) k) nx):=by
 have:=Sub.fold nm i f k (t:=t) (nx:=nx) hk hlen hnm hne hk10 (r:=r) (by simp [hi]) hf
 rw [List.set_set] at this
 exact this
end Go.Sep
namespace Go.Sep
set_option linter.unusedVariables false
set_option linter.unusedSimpArgs false
mutual
def bU:AV→Bool
 | .int _ _ | .bool _ | .str _=>true
 | .agg cs | .tup cs=>dK cs
 | _=>false
def dK:List AV→Bool
 | []=>true
 | c::cs=>bU c&&dK cs
end
mutual
theorem qBp (h:wT) :∀(v:AV),bU v=true→bwT h v=v
 | .int _ _,_ | .bool _,_ | .str _,_=>by simp [bwT,bwC]
 | .agg cs,hp=>by simp only [bU] at hp; simp only [bwT,qBr h cs hp]
 | .tup cs,hp=>by simp only [bU] at hp; simp only [bwT,qBr h cs hp]
 | .any,hp | .fn _ _,hp | .nilp,hp | .ptr _ _ _,hp | .fptr _ _ _,hp | .nil,hp | .nilI,hp | .ifc,hp | .ns _ _ _,hp | .sl _ _ _,hp=>by simp [bU] at hp
theorem qBr (h:wT) :∀(l:List AV),dK l=true→qGl h l=l
 | [],_=>by simp [qGl]
 | c::cs,hp=>by
  simp only [dK,wBp] at hp
  simp only [qGl,qBp h c hp.1,qBr h cs hp.2]
end
mutual
theorem qBo (h:wT) (F:Nat→Prop) :∀(v:AV),bU v=true→tF h F v
 | .int _ _,_ | .bool _,_ | .str _,_=>by simp [tF,bnd]
 | .agg cs,hp=>by simp only [bU] at hp; simp only [tF]; exact qBq h F cs hp
 | .tup cs,hp=>by simp only [bU] at hp; simp only [tF]; exact qBq h F cs hp
 | .any,hp | .fn _ _,hp | .nilp,hp | .ptr _ _ _,hp | .fptr _ _ _,hp | .nil,hp | .nilI,hp | .ifc,hp | .ns _ _ _,hp | .sl _ _ _,hp=>by simp [bU] at hp
theorem qBq (h:wT) (F:Nat→Prop) :∀(l:List AV),dK l=true→sD h F l
 | [],_=>by simp [sD]
 | c::cs,hp=>by
  simp only [dK,wBp] at hp
  simp only [sD]
  exact ⟨qBo h F c hp.1,qBq h F cs hp.2⟩
end
mutual
theorem qFe (A:Nat→Prop) :∀(v:AV),bU v=true→okV A v
 | .int _ _,_ | .bool _,_ | .str _,_=>by simp [okV,nb]
 | .agg cs,hp=>by simp only [bU] at hp; simp only [okV]; exact sO A cs hp
 | .tup cs,hp=>by simp only [bU] at hp; simp only [okV]; exact sO A cs hp
 | .any,hp | .fn _ _,hp | .nilp,hp | .ptr _ _ _,hp | .fptr _ _ _,hp | .nil,hp | .nilI,hp | .ifc,hp | .ns _ _ _,hp | .sl _ _ _,hp=>by simp [bU] at hp
theorem sO (A:Nat→Prop) :∀(l:List AV),dK l=true→okL A l
 | [],_=>by simp [okL]
 | c::cs,hp=>by
  simp only [dK,wBp] at hp
  simp only [okL]
  exact ⟨qFe A c hp.1,sO A cs hp.2⟩
end
mutual
theorem qFd (f:Nat→Nat) :∀(v:AV),bU v=true→jW f v=v
 | .int _ _,_ | .bool _,_ | .str _,_=>by simp [jW]
 | .agg cs,hp=>by simp only [bU] at hp; simp only [jW,sN f cs hp]
 | .tup cs,hp=>by simp only [bU] at hp; simp only [jW,sN f cs hp]
 | .any,hp | .fn _ _,hp | .nilp,hp | .ptr _ _ _,hp | .fptr _ _ _,hp | .nil,hp | .nilI,hp | .ifc,hp | .ns _ _ _,hp | .sl _ _ _,hp=>by simp [bU] at hp
theorem sN (f:Nat→Nat) :∀(l:List AV),dK l=true→aX f l=l
 | [],_=>by simp [aX]
 | c::cs,hp=>by
  simp only [dK,wBp] at hp
  simp only [aX,qFd f c hp.1,sN f cs hp.2]
end
mutual
theorem qCs (n:Nat) :∀(v:AV),bU v=true→yA n v=(v,[],n)
 | .int _ _,_ | .bool _,_ | .str _,_=>by simp [yA]
 | .agg cs,hp=>by simp only [bU] at hp; simp only [yA,oC n cs hp]
 | .tup cs,hp=>by simp only [bU] at hp; simp only [yA,oC n cs hp]
 | .any,hp | .fn _ _,hp | .nilp,hp | .ptr _ _ _,hp | .fptr _ _ _,hp | .nil,hp | .nilI,hp | .ifc,hp | .ns _ _ _,hp | .sl _ _ _,hp=>by simp [bU] at hp
theorem oC (n:Nat) :∀(l:List AV),dK l=true→jS n l=(l,[],n)
 | [],_=>by simp [jS]
 | c::cs,hp=>by
  simp only [dK,wBp] at hp
  simp only [jS,qCs n c hp.1,oC n cs hp.2,List.append_nil]
end
mutual
theorem qTp :∀(v:AV),wK v v
 | .nil=>by simp [wK]
 | .agg cs=>by simp only [wK]; exact ⟨cs,rfl,lB cs⟩
 | .tup cs=>by simp only [wK]; exact ⟨cs,rfl,lB cs⟩
 | .any | .int _ _ | .bool _ | .str _ | .fn _ _ | .nilp | .ptr _ _ _ | .fptr _ _ _ | .nilI | .ifc | .ns _ _ _ | .sl _ _ _=>by simp [wK]
theorem lB :∀(l:List AV),wJ l l
 | []=>by simp [wJ]
 | c::cs=>by simp only [wJ]; exact ⟨c,cs,rfl,qTp c,lB cs⟩
end
def kH:List Bool→Bool
 | []=>true
 | b::bs=>!b&&kH bs
theorem sV (ix:Nat→Nat) (h:wT) :∀(ps:List Bool) (vs:List AV),kH ps=true→dK vs=true→fR ix h ps vs=vs
 | [],[],_,_=>by simp [fR]
 | [],v::vs,hn,hp=>by
  simp only [dK,wBp] at hp
  simp only [fR,qBp h v hp.1,sV ix h [] vs hn hp.2]
 | false::ps,[],_,_=>by simp [fR]
 | false::ps,v::vs,hn,hp=>by
  simp only [dK,wBp] at hp
  simp only [kH,Bool.not_false,Bool.true_and] at hn
  simp only [fR,qBp h v hp.1,sV ix h ps vs hn hp.2]
 | true::ps,vs,hn,_=>by simp [kH] at hn
theorem mN (h:wT) (A F:Nat→Prop) :∀(ps:List Bool) (vs:List AV),kH ps=true→dK vs=true→gT h A F ps vs
 | [],[],_,_=>by simp [gT]
 | [],v::vs,hn,hp=>by
  simp only [dK,wBp] at hp
  simp only [gT]
  exact ⟨qBo h F v hp.1,mN h A F [] vs hn hp.2⟩
 | false::ps,[],_,_=>by simp [gT]
 | false::ps,v::vs,hn,hp=>by
  simp only [dK,wBp] at hp
  simp only [kH,Bool.not_false,Bool.true_and] at hn
  simp only [gT]
  exact ⟨qBo h F v hp.1,mN h A F ps vs hn hp.2⟩
 | true::ps,vs,hn,_=>by simp [kH] at hn
section
variable {P:Program} {num:Nat→Nat} {fin:AS→Prop}
theorem qDe {f nx:Nat} {ps:List Bool} {xs:List Arg} {t:List (Nat×AV)} {h:wT} {res:AV} {vs:List AV} (hc:qY P num f vs [] res) (hx:xs.map (Arg.ev (wD t))=vs) (hn:kH ps=true) (hp:dK vs=true) (hr:bU res=true) :
  nG P num (.call f ps xs) t h nx res [] nx:=by
 have:=qGj (P:=P) (num:=num) (nx:=nx) (h:=h) (ps:=ps) (xs:=xs) (t:=t) [] hc (by rw [hx,sV _ _ _ _ hn hp]; exact lB _) (by rw [hx]; exact mN _ _ _ _ _ hn hp) (by simp) (by simp) (by simp) (qFe _ _ hr)
 rw [qFd _ _ hr,qCs _ _ hr] at this
 simpa [fresh] using this
theorem fZ {f nx:Nat} {ps:List Bool} {xs:List Arg} {t:List (Nat×AV)} {h:wT} {res:AV} {vs:List AV} {dst:Option Nat} {k:List It} (hc:qY P num f vs [] res) (hx:xs.map (Arg.ev (wD t))=vs) (hn:kH ps=true) (hp:dK vs=true) (hr:bU res=true)
  (hk:vc P num fin k (.mk (bS t dst res) h nx)):qJt P num fin (.call f ps xs) dst k (.mk t h nx) :=
 zQ (qDe hc hx hn hp hr) hk
theorem qUu (pend:List (Nat×List Nat)):apart pend []:=fun _ _ _ _ x hx=>by simp at hx
theorem cC {f nx:Nat} {ps:List Bool} {xs:List Arg} {t:List (Nat×AV)} {h:wT} {res:AV} {vs:List AV} {pend:List (Nat×List Nat)} {dst:Option Nat} {tr:vZ} {k:List It} (hc:qY P num f vs [] res) (hx:xs.map (Arg.ev (wD t))=vs) (hn:kH ps=true) (hp:dK vs=true) (hr:bU res=true)
  (hk:vc P num fin (.draw tr pend::k) (.mk (bS t dst res) h nx)):qJm P num fin (.call f ps xs) pend dst tr k t h nx :=
 pC (qDe hc hx hn hp hr) (qUu pend) hk
end
end Go.Sep
namespace Go.Sep
set_option linter.unusedVariables false
set_option linter.unusedSimpArgs false
end Go.Sep
namespace Go.Sep
set_option linter.unusedVariables false
set_option linter.unusedSimpArgs false
theorem yL {n:Int} (h0:-(2^63)≤n) (h1:n<2^63):IntKind.i64.wrap n=n:=by
 unfold IntKind.wrap
 simp only [IntKind.bits,IntKind.signed]
 by_cases h:0≤n
 ·have:n%(2^64:Int)=n:=Int.emod_eq_of_lt h (by omega)
  simp only [this]
  rw [if_neg]
  simp
  omega
 ·have:n%(2^64:Int)=n+2^64:=by
   rw [←Int.add_emod_right n (2^64)]
   exact Int.emod_eq_of_lt (by omega) (by omega)
  simp only [this]
  rw [if_pos]
  ·omega
  ·simp
   omega
theorem qN {i:Nat} (h:i<2^62):IntKind.i64.wrap ((i:Int)+1)=((i+1:Nat):Int):=by rw [yL (by omega) (by omega)]; omega
theorem wA6 (A:Nat→Prop) (l m:List (List AV)):yW A (l++m)↔yW A l∧yW A m:=by simp [yE,or_imp,forall_and]
theorem zM (A:Nat→Prop) (m:Mode) (sz:Nat) (r:List (List AV)):bnd A (.sl m sz r)↔yW A r:=by cases m<;>rfl
theorem qL4 (A:Nat→Prop) (k:IntKind) (n:Int):bnd A (.int k n)↔True:=Iff.rfl
theorem qE8 (A:Nat→Prop) (b:Bool):bnd A (.bool b)↔True:=Iff.rfl
theorem qW1 (A:Nat→Prop) (s:ByteArray):bnd A (.str s)↔True:=Iff.rfl
def wE (l:List Int):List (List AV):=l.map fun n=>[.int .i64 n]
theorem qAl:wE []=[]:=rfl
theorem aG (l:List Int):(wE l).length=l.length:=by simp [wE]
theorem qD0 (l m:List Int):wE l++wE m=wE (l++m):=by simp [wE]
theorem rD (l:List Int) (n:Nat):(wE l).drop n=wE (l.drop n):=by simp [wE]
theorem rC (l:List Int) (n:Nat):(wE l).take n=wE (l.take n):=by simp [wE]
theorem qK (n:Nat) (m:Int):List.replicate n [AV.int .i64 m]=wE (List.replicate n m):=by simp [wE]
theorem qNy (l:List Int) (i:Nat) (m:Int):(wE l).set i [.int .i64 m]=wE (l.set i m):=by simp [wE]
theorem qI (l:List Int) (i:Nat) (h:i<l.length):(wE l).getD i []=[.int .i64 (l.getD i 0)]:=by simp [wE,List.getD_eq_getElem?_getD,h]
theorem yZ (A:Nat→Prop) (l:List Int):yW A (wE l)↔True:=by
 simp only [iff_true]
 induction l with
 | nil=>trivial
 | cons n l ih=>exact ⟨⟨trivial,trivial⟩,ih⟩
theorem uF (l:List Int):nbr (wE l)↔True:=by
 simp only [iff_true]
 induction l with
 | nil=>trivial
 | cons n l ih=>exact ⟨⟨trivial,trivial⟩,ih⟩
theorem uQ :∀(l:List Int),bwR (wE l)=wE l
 | []=>rfl
 | n::l=>by
  have:=uQ l
  simp only [wE,wBm,bwR,bwL,bwC] at this⊢
  rw [this]
theorem qJ4 (l:List Int):free (wE l)↔True:=by
 simp only [iff_true]
 intro r hr c hc
 simp only [wE,wD5] at hr
 obtain ⟨n,_,rfl⟩:=hr
 simp only [wC6] at hc
 subst hc
 rfl
theorem sU (nx:Nat):HB [] nx↔True:=by
 simp only [iff_true]
 intro n r h
 simp [qQ] at h
theorem mL (n:Nat) (r:Row) (h:wT) (nx:Nat) (hh:HB h nx) (hn:n<nx) (hr:yW (· < nx) r.2):HB ((n,r)::h) nx:=by
 intro m s hs
 simp only [qQ] at hs
 split at hs
 ·rename_i he
  simp only [Option.some.injEq] at hs
  subst hs he
  exact ⟨hn,hr⟩
 ·exact hh m s hs
theorem qN8 {α β:Type} (f:α→Option β):(none:Option α).bind f=none:=rfl
theorem qAt {α:Type} (l:List α) (m:Nat):(l.drop m).take (l.length-m)=l.drop m:=List.take_of_length_le (by simp)
def xv (n k:Nat):yC:=⟨some n,.mv (.t k),none⟩
def xo (n:Nat) (p:MOp):yC:=⟨some n,p,none⟩
def xg (n:Nat) (p:MOp) (k:Nat) (b:Bool):yC:=⟨some n,p,some (k,b)⟩
def xr (l:List yC):bK:=.reg false l
def xi (n:Int):Arg:=.c (.int .i64 n)
def xz:AV:=.int .i64 0
end Go.Sep
namespace Go.Sep
open Go.RowKit
set_option linter.unusedVariables false
set_option linter.unusedSimpArgs false
theorem qXx {e:Env} {Lf:Nat→List Nat} {b:Bool} {v:Value} {w':World} (h:qZg e Lf [] (.bool b) v w'):v=.bool b∧Below e.w.heap.size e.w w':=by
 obtain ⟨e',Lf',L,rfl,T,hv,_⟩:=h
 simp only [RV] at hv
 exact ⟨hv.1,T.io.1,T.io.2.1,T.io.2.2,T.size,fun k hk=>T.keep k hk (fun nm hF=>by simp at hF)⟩
def qO7 (num:Nat→Nat) (W:World):Env:={num:=num,w:=W,w0:=W,φ:=fun _=>.dead,Fr:=fun _=>False,Bo:=fun b=>b<W.heap.size}
end Go.Sep
namespace Go.Sep
set_option linter.unusedVariables false
set_option linter.unusedSimpArgs false
end Go.Sep
namespace Go.Sep
open Go.WideShapes
set_option linter.unusedVariables false
set_option linter.unusedSimpArgs false
def eU (P:Program) (num:Nat→Nat) (t:TypeId) (n:Nat) {α:Type} (c:α→List AV) (Q:α→Prop):Prop :=
 P.cellsOf t=n∧(∀x,(c x).length=n∧(c x).all yS=true)∧
 ∀{H:Type} (enc:TypeId×Value→H) (W:World) (held:Bool) (fuel:Nat) (cs:List Value) (y:DataW H×List MemPlace),
  DataW.trod enc P W 0 (fun _=>true) held fuel t cs=some y→∃x,Q x∧RVs (qO7 num W) (c x) cs []
theorem qDa {α:Type} {R:Nat→α→Prop} :∀n,(∀i,i<n→∃x,R i x)→∃l:List α,l.length=n∧∀i x,l[i]?=some x→R i x
 | 0,_=>⟨[],rfl,by simp⟩
 | n+1,h=>by
  obtain ⟨l,hl,hr⟩:=qDa n (fun i hi=>h i (by omega))
  obtain ⟨x,hx⟩:=h n (by omega)
  refine ⟨l++[x],by simp [hl],fun i y hy=>?_⟩
  rcases Nat.lt_trichotomy i n with hi | hi | hi
  ·rw [List.getElem?_append_left (by omega)] at hy
   exact hr i y hy
  ·subst hi
   rw [List.getElem?_append_right (by omega)] at hy
   simp [hl] at hy
   subst hy
   exact hx
  ·rw [wCa (by simp; omega)] at hy
   simp at hy
section
variable {P:Program} {num:Nat→Nat} {t:TypeId}
theorem wAz (ht:P.underlying t=some (.int .u8)) (hc:P.cellsOf t=1):eU P num t 1 (fun n:UInt8=>[.int .u8 n.toNat]) (fun _=>True):=by
 refine ⟨hc,fun _=>⟨rfl,rfl⟩,fun {H} enc W held fuel cs y h=>?_⟩
 obtain ⟨n,rfl,_,hw⟩:=DataW.trod_int ht h
 simp only [Lit.wf,IntKind.min,IntKind.max,IntKind.signed,IntKind.bits,wBp,decide_eq_true_eq,if_false,Bool.false_eq_true] at hw
 refine ⟨UInt8.ofNat n.toNat,trivial,?_⟩
 have:((UInt8.ofNat n.toNat).toNat:Int)=n:=by
  rw [UInt8.toNat_ofNat']
  omega
 simp only [RVs,RV,this]
 exact ⟨_,_,[],[],rfl,⟨rfl,rfl⟩,⟨rfl,rfl⟩,rfl⟩
theorem qMu {e:Env} {W:World} {α:Type} {c:α→List AV} {b m:Nat} (hc :∀x,(c x).length=m∧(c x).all yS=true) :∀(l:List α) (o:Nat),
  (∀i x,l[i]?=some x→∃cs,cs.length=m∧(∀j,j<m→W.cell? ⟨b,o+i*m+j,none⟩=cs[j]?)∧RVs e (c x) cs [])→yM e W b o m (l.map c) []
 | [],o,_=>by simp [yM]
 | x::l,o,h=>by
  obtain ⟨cs,h1,h2,h3⟩:=h 0 x (by simp)
  have ih:=qMu (e:=e) hc l (o+m) (fun i y hy=>by
   obtain ⟨ds,k1,k2,k3⟩:=h (i+1) y (by simpa using hy)
   refine ⟨ds,k1,fun j hj=>?_,k3⟩
   have:=k2 j hj
   rw [Nat.succ_mul] at this
   rw [←this]
   congr 2
   omega)
  simp only [wBm,yM]
  exact ⟨cs,[],[],hc x,h1,fun j hj=>by have:=h2 j hj; simpa using this,h3,ih,rfl⟩
theorem wB0 {e:TypeId} {m:Nat} {α:Type} {c:α→List AV} {Q:α→Prop} (ht:P.underlying t=some (.slice e)) (hc:P.cellsOf t=1) (hm:0<m) (he:eU P num e m c Q) :
  eU P num t 1 (fun l:List α=>[.sl .bw m (l.map c)]) (fun l=>l.length<2^63∧∀x∈l,Q x):=by
 refine ⟨hc,fun _=>⟨rfl,rfl⟩,fun {H} enc W held fuel cs y h=>?_⟩
 obtain ⟨he1,he2,he3⟩:=he
 rcases DataW.trod_slice ht h with ⟨rfl,_⟩ | ⟨a,len,cap,elems,rest,n,_,rfl,_,_,hl,hx,hlen,hel,_⟩
 ·refine ⟨[],by simp,?_⟩
  simp only [RVs,RV]
  exact ⟨_,_,[],[],rfl,⟨rfl,.inl ⟨rfl,none,0,rfl,fun _=>rfl⟩⟩,⟨rfl,rfl⟩,rfl⟩
 ·have key :∀i,i<len→∃x,Q x∧∃ds,ds.length=m∧(∀j,j<m→W.cell? ((a.add (i*m)).add j)=ds[j]?)∧RVs (qO7 num W) (c x) ds []:=by
   intro i hi
   have h1:=hel i hi
   rw [wD8 (by omega),he1] at h1
   obtain ⟨ds,h2,h3⟩:=Option.bind_eq_some_iff.1 h1
   obtain ⟨x,h4,h5⟩:=he3 enc W held _ _ _ h3
   obtain ⟨h6,h7,h8⟩:=World.cells?_some h2
   exact ⟨x,h4,ds,h7,h8,h5⟩
  obtain ⟨l,hl1,hl2⟩:=qDa len key
  refine ⟨l,⟨by unfold maxLen at hx; omega,fun x hx'=>?_⟩,?_⟩
  ·obtain ⟨i,hi,rfl⟩:=List.getElem_of_mem hx'
   exact (hl2 i _ (wD8 hi)).1
  ·simp only [RVs,RV]
   refine ⟨_,_,[],[],rfl,⟨rfl,?_⟩,⟨rfl,rfl⟩,rfl⟩
   by_cases hz:len=0
   ·subst hz
    have:l=[]:=List.length_eq_zero_iff.1 hl1
    subst this
    exact .inl ⟨rfl,some a,cap,rfl,by simp⟩
   ·obtain ⟨b,o,sp⟩:=a
    have h0:0<l.length:=by omega
    obtain ⟨_,ds0,k1,k2,_⟩:=hl2 0 _ (wD8 h0)
    have k3:=k2 0 hm
    rw [wD8 (by omega)] at k3
    simp only [Nat.zero_mul,Addr.add,if_true] at k3
    unfold World.cell? at k3
    have hb:b<W.heap.size:=by
     rcases Nat.lt_or_ge b W.heap.size with h | h
     ·exact h
     ·simp [Array.getElem?_eq_none h] at k3
    have hsp:sp=none:=by
     cases sp with
     | none=>rfl
     | some s=>simp at k3; split at k3<;>simp at k3
    subst hsp
    refine .inr ⟨b,o,cap,by simp [hl1],by simp [hl1]; omega,.inr hb,qMu he2 l o (fun i x hx'=>?_)⟩
    obtain ⟨_,ds,p1,p2,p3⟩:=hl2 i x hx'
    exact ⟨ds,p1,fun j hj=>by have:=p2 j hj; rw [cL,cL] at this; exact this,p3⟩
theorem eU.map {n:Nat} {α β:Type} {c:α→List AV} {d:β→List AV} {Q:α→Prop} {R:β→Prop} (h:eU P num t n c Q) (f:α→β) (hd :∀x,(d x).length=n∧(d x).all yS=true) (he :∀x,c x=d (f x)) (hq :∀x,Q x→R (f x)):eU P num t n d R:=by
 obtain ⟨h1,h2,h3⟩:=h
 refine ⟨h1,hd,fun {H} enc W held fuel cs y h=>?_⟩
 obtain ⟨x,q,r⟩:=h3 enc W held fuel cs y h
 exact ⟨f x,hq x q,he x▸r⟩
theorem eU.one {α:Type} {c:α→List AV} {Q:α→Prop} {H:Type} {enc:TypeId×Value→H} {W:World} {held:Bool} {v:Value} {d:DataW H} {p:List MemPlace} (h:eU P num t 1 c Q) (hv:v.cells = #[v]) (ht:DataW.Trod enc P W 0 (fun _=>true) held t v d p) :
  ∃x,Q x∧RV (qO7 num W) ((c x).getD 0 .any) v []:=by
 obtain ⟨fuel,hf⟩:=ht
 obtain ⟨x,q,r⟩:=h.2.2 enc W held fuel _ _ hf
 rw [hv] at r
 have hl:=(h.2.1 x).1
 match hcx:c x,hl with
 | [a],_ =>
  rw [hcx] at r
  simp only [RVs] at r
  obtain ⟨v',vs',L1,L2,h1,h2,h3,h4⟩:=r
  have hL1:L1=[]:=(wY h4).1
  subst hL1
  simp only [List.cons.injEq] at h1
  rw [h1.1]
  exact ⟨x,q,by simpa [hcx] using h2⟩
theorem eU.agg {n:Nat} {α:Type} {c:α→List AV} {Q:α→Prop} {H:Type} {enc:TypeId×Value→H} {W:World} {held:Bool} {vs:Array Value} {d:DataW H} {p:List MemPlace} (h:eU P num t n c Q) (ht:DataW.Trod enc P W 0 (fun _=>true) held t (.agg vs) d p) :
  ∃x,Q x∧RV (qO7 num W) (.agg (c x)) (.agg vs) []:=by
 obtain ⟨fuel,hf⟩:=ht
 obtain ⟨x,q,r⟩:=h.2.2 enc W held fuel _ _ hf
 refine ⟨x,q,?_⟩
 simp only [RV]
 exact ⟨vs.toList,by simp,by simpa [Value.cells] using r⟩
theorem wB1 {e:Env} {a:AV} {as:List AV} {v:Value} {vs:List Value} (h1:RV e a v []) (h2:RVs e as vs []):RVs e (a::as) (v::vs) []:=by
 simp only [RVs]
 exact ⟨_,_,[],[],rfl,h1,h2,rfl⟩
theorem wAw {e:Env}:RVs e [] [] []:=by simp [RVs]
end
def qWt (num:Nat→Nat) (W:World):Env:={num:=num,w:=W,w0:=W,φ:=fun _=>.dead,Fr:=fun b=>b<W.heap.size,Bo:=fun _=>False}
theorem wAj (num:Nat→Nat) (W:World):Ok (qWt num W) (qCe (fun _=>[]) (vY [])) (qQ (vY [])) (fun _=>[]) where
 size0:=wBo _
 io0:=gH.refl _
 fr b hb:=by rcases hb with hb | hb; exact ⟨hb,by simp [qCe,vY]⟩; exact hb.elim
 keep0 _ _ _:=rfl
 own0 nm hn:=by simp [vY,qQ] at hn
 rh:={row:=fun nm row hr=>by simp [vY,qQ] at hr,nodup:=fun nm hn=>by simp [vY,qQ] at hn,blk:=fun nm hn=>by simp [vY,qQ] at hn,dis:=fun n m hn=>by simp [vY,qQ] at hn,dead:=fun _ _=>rfl}
theorem qK2 {e e':Env} :∀(cs:List AV),(∀c∈cs,∃k n,c=.int k n)→∀{vs:List Value} {L:List Nat},RVs e cs vs L→RVs e' cs vs L
 | [],_,vs,L,h=>by simpa only [RVs] using h
 | c::cs,hc,vs,L,h=>by
  obtain ⟨k,n,rfl⟩:=hc c (by simp)
  simp only [RVs,RV] at h⊢
  obtain ⟨v,vs',L1,L2,h1,h2,h3,h4⟩:=h
  exact ⟨v,vs',L1,L2,h1,h2,qK2 cs (fun c hc'=>hc c (by simp [hc'])) h3,h4⟩
theorem qDp {e e':Env} {W:World} {b sz:Nat} :∀(rs:List (List AV)) (o:Nat),(∀r∈rs,∀c∈r,∃k n,c=.int k n)→∀{L:List Nat},yM e W b o sz rs L→yM e' W b o sz rs L
 | [],_,_,L,h=>by simpa only [yM] using h
 | r::rs,o,hc,L,h=>by
  simp only [yM] at h⊢
  obtain ⟨vs,L1,L2,h1,h2,h3,h4,h5,h6⟩:=h
  exact ⟨vs,L1,L2,h1,h2,h3,qK2 r (hc r (by simp)) h4,qDp rs _ (fun r hr=>hc r (by simp [hr])) h5,h6⟩
theorem wAk {num:Nat→Nat} {W:World} {sz:Nat} {rows:List (List AV)} {v:Value} (hc :∀r∈rows,∀c∈r,∃k n,c=.int k n) (h:RV (qO7 num W) (.sl .bw sz rows) v []):RV (qWt num W) (.sl .fz sz rows) v []:=by
 simp only [RV,true_and] at h⊢
 rcases h with h | ⟨b,o,c,h1,h2,h3,h4⟩
 ·exact .inl h
 ·refine .inr ⟨b,o,c,h1,h2,?_,qDp rows o hc h4⟩
  rcases h3 with h3 | h3
  ·exact h3.elim
  ·exact h3
end Go.Sep

