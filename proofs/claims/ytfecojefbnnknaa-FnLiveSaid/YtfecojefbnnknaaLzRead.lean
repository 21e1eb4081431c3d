/- The executor of symbolic states: the texts Enter Enter2 View Open, one after the other. No condition. -/
import Derived.Test.YtfecojefbnnknaaLzSound
import Derived.Below
import Derived.ChangeArms
import Derived.WideShapes
import Derived.DataReads
open Bool renaming and_eq_true → qZu
open List renaming all_cons → wA6, flatMap_cons → wAj, getD_eq_getElem?_getD → qZw, getElem?_eq_getElem → wBd, getElem?_eq_none → wAf, getElem_mem → wAo, length_set → wBb, map_append → wB7, map_cons → qZr, map_map → wB9, mem_append → wAu, mem_cons_of_mem → wAp, mem_map → wBa, mem_or_eq_of_mem_set → wBc, mem_singleton → wAb, nodup_cons → wAg, nodup_nil → wB6, replicate → qZo, take_append_drop → wA0
open Nat renaming le_refl → qZt, le_trans → wB8, lt_of_lt_of_le → wAv
namespace Go.Sep
set_option maxHeartbeats 16000000
set_option linter.unusedVariables false
set_option linter.unusedSimpArgs false
def vV:FP→wT
 | []=>[]
 | (n,some r,_)::fp=>(n,r)::vV fp
 | (_,none,_)::fp=>vV fp
def uS:FP→wT
 | []=>[]
 | (n,_,some r)::fp=>(n,r)::uS fp
 | (_,_,none)::fp=>uS fp
def qB9 (Lf:Nat→List Nat) (h:wT):List Nat:=h.flatMap fun x=>Lf x.1
def qXl (e:Env) (Lf:Nat→List Nat) (fp:FP) (res:AV) (v:Value) (w':World):Prop :=
 ∃e' Lf' L,e'.w=w'∧dI e (qN (vV fp)) Lf (fun n=>n∈fp.map (·.1)) e' (qN (uS fp)) Lf'∧RV e' res v L∧L.Nodup∧
  (∀b∈L,b<e'.w.heap.size∧(e.w.heap.size≤b∨∃m,m∈fp.map (·.1)∧qN (vV fp) m≠none∧b∈Lf m))∧
  ∀b∈L,∀m,m∈fp.map (·.1)→qN (uS fp) m≠none→b∉Lf' m
def qYl (P:Program) (g:Nat):Prop :=∃fn,P.funcs[g]?=some fn∧(fn.name == "runtime.NumGoroutine")=false∧fn.body.isNone=false
def wD (P:Program) (num:Nat→Nat) (f:Nat) (args:List AV) (fp:FP) (res:AV):Prop :=
 qYl P (num f)∧∀(e:Env) (Lf:Nat→List Nat) (cs:List Value),e.num=num→e.w0=e.w→Ok e (qB9 Lf (vV fp)) (qN (vV fp)) Lf→RVs e args cs []→
  Calls P (num f) cs.toArray e.w fun | .returned v,w'=>qXl e Lf fp res v w' | _,_=>False
def xC (off len:Nat) (rows:List (List AV)):List (List AV):=if off=0∧rows.length=len then rows else (rows.drop off).take len
theorem qLb {off len:Nat} {rows:List (List AV)}:xC off len rows=(rows.drop off).take len:=by
 unfold xC
 split
 ·rename_i h
  rw [h.1,←h.2]
  simp
 ·rfl
mutual
def cY:wT→AV→AV×wT×Prop
 | h,.ns k off len=>(match qN h k with | some (sz,rows)=>(.sl .own sz (xC off len rows),del h k,off+len≤rows.length) | none=>(.ns k off len,h,True))
 | h,.agg cs=>(.agg (bS h cs).1,(bS h cs).2.1,(bS h cs).2.2)
 | h,.tup cs=>(.tup (bS h cs).1,(bS h cs).2.1,(bS h cs).2.2)
 | h,v=>(v,h,True)
def bS:wT→List AV→List AV×wT×Prop
 | h,[]=>([],h,True)
 | h,c::cs=>((cY h c).1::(bS (cY h c).2.1 cs).1,(bS (cY h c).2.1 cs).2.1,(cY h c).2.2∧(bS (cY h c).2.1 cs).2.2)
end
mutual
def wL:AV→AV→Prop
 | .nil,d=>d=.nil∨∃m sz,d=.sl m sz []
 | .agg cs,d =>∃ds,d=.agg ds∧wM cs ds
 | .tup cs,d =>∃ds,d=.tup ds∧wM cs ds
 | c,d=>c=d
def wM:List AV→List AV→Prop
 | [],ds=>ds=[]
 | c::cs,ds =>∃d ds',ds=d::ds'∧wL c d∧wM cs ds'
end
def dH (t:List (Nat×AV)) (h:wT):qCx→AV×Prop
 | .t n=>(wB t n,True)
 | .cell a n ag=>match wB t a with
  | .ptr nm 0 0=>(match qN h nm with
   | some (sz,[cells])=>(if ag then .agg cells else cells.getD 0 .any,cells.length=n∧∀c∈cells,sW c=false)
   | _=>(.any,False))
  | _=>(.any,False)
def wR:List AV→AV
 | [v]=>v
 | vs=>.tup vs
def qKf:List Prop→Prop
 | []=>True
 | p::ps=>p∧qKf ps
def yL (rs:List qCx) (fp:FP) (res:AV):AS→Prop
 | .bad=>True
 | .mk t h nx=>qKf (rs.map fun r=>(dH t h r).2)∧(bS h (rs.map fun r=>(dH t h r).1)).2.2∧
   (∃vs,wM (bS h (rs.map fun r=>(dH t h r).1)).1 vs∧res=wR vs)∧
   ∀x∈fp,qN (bS h (rs.map fun r=>(dH t h r).1)).2.1 x.1=qN (uS fp) x.1
def Fin (rs:List qCx) (fp:FP) (res:AV) (s:AS):Prop :=∃s1,Sub s s1∧yL rs fp res s1
mutual
theorem qWp {e:Env} :∀{c d:AV} {v:Value} {L:List Nat},wL c d→RV e c v L→RV e d v L
 | .nil,d,v,L,hn,h=>by
  simp only [wL] at hn
  simp only [RV] at h
  obtain ⟨rfl,rfl⟩:=h
  rcases hn with rfl | ⟨m,sz,rfl⟩
  ·simp [RV]
  ·cases m
   ·simp [RV]
   ·simp only [RV,true_and]
    exact .inl ⟨none,0,rfl,fun _=>rfl⟩
   ·simp only [RV,true_and]
    exact .inl ⟨none,0,rfl,fun _=>rfl⟩
 | .agg cs,d,v,L,hn,h=>by
  simp only [wL] at hn
  obtain ⟨ds,rfl,hn⟩:=hn
  simp only [RV] at h⊢
  obtain ⟨vs,h1,h2⟩:=h
  exact ⟨vs,h1,oG hn h2⟩
 | .tup cs,d,v,L,hn,h=>by
  simp only [wL] at hn
  obtain ⟨ds,rfl,hn⟩:=hn
  simp only [RV] at h⊢
  obtain ⟨vs,h1,h2⟩:=h
  exact ⟨vs,h1,oG hn h2⟩
 | .any,d,v,L,hn,h | .int _ _,d,v,L,hn,h | .bool _,d,v,L,hn,h | .str _,d,v,L,hn,h | .fn _ _,d,v,L,hn,h | .nilp,d,v,L,hn,h | .ptr _ _ _,d,v,L,hn,h
 | .fptr _ _ _,d,v,L,hn,h | .nilI,d,v,L,hn,h | .ifc,d,v,L,hn,h | .ns _ _ _,d,v,L,hn,h | .sl _ _ _,d,v,L,hn,h=>by
  simp only [wL] at hn
  subst hn
  exact h
theorem oG {e:Env} :∀{cs ds:List AV} {vs:List Value} {L:List Nat},wM cs ds→RVs e cs vs L→RVs e ds vs L
 | [],ds,vs,L,hn,h=>by
  simp only [wM] at hn
  subst hn
  exact h
 | c::cs,ds,vs,L,hn,h=>by
  simp only [wM] at hn
  obtain ⟨d,ds',rfl,h1,h2⟩:=hn
  simp only [RVs] at h⊢
  obtain ⟨v,vs',L1,L2,rfl,h3,h4,rfl⟩:=h
  exact ⟨v,vs',L1,L2,rfl,qWp h1 h3,oG h2 h4,rfl⟩
end
structure eU (Lf:Nat→List Nat) (h h':wT) (L:List Nat):Prop where
 nodup:L.Nodup
 of :∀b∈L,∃k,qN h k≠none∧qN h' k=none∧b∈Lf k
 left :∀n r,qN h' n=some r→qN h n=some r
theorem qIg {e:Env} {k off len:Nat} {sz:Nat} {rows:List (List AV)} {L:List Nat} {c:Value} (hr:uT e k (sz,rows) L) (h:RV e (.ns k off len) c []) (hl:off+len≤rows.length) :
  ∃L',RV e (.sl .own sz (xC off len rows)) c L'∧(∀b∈L',b∈L)∧(L.Nodup→L'.Nodup):=by
 rw [qLb]
 simp only [RV] at h⊢
 obtain ⟨_,h⟩:=h
 have hlen:((rows.drop off).take len).length=len:=by simp; omega
 unfold uT gF at hr
 cases hq:e.φ k with
 | dead=>rw [hq] at hr; exact hr.elim
 | nilp =>
  rw [hq] at hr h
  obtain ⟨h1,h2⟩:=hr
  simp only at h1
  refine ⟨[],.inl ⟨by rw [h1]; simp,rfl,h.2.2⟩,by simp,fun _=>wB6⟩
 | «at» q =>
  rw [hq] at hr h
  obtain ⟨h1,⟨h2,h2',arr,ty,h2'',h2'''⟩,Lr,h3,h4⟩:=hr
  simp only at h1
  obtain ⟨h5,a,h6,h7⟩:=h
  by_cases hc:off<q.cap
  ·have hs:rows=rows.take off++((rows.drop off).take len++rows.drop (off+len)):=by
    rw [←List.drop_drop,wA0,wA0]
   simp only at h3
   rw [hs] at h3
   obtain ⟨M1,M2,_,g2,g3⟩:=(jG _ _).1 h3
   obtain ⟨M3,M4,g4,_,g5⟩:=(jG _ _).1 g2
   rw [List.length_take,Nat.min_eq_left (by omega)] at g4
   subst g3 g5
   refine ⟨q.block::M3,.inr ⟨⟨q.block,q.off+off*q.sz,q.cap-off,q.sz⟩,M3,⟨h1,?_⟩,?_,?_,g4,rfl⟩,?_,?_⟩
   ·show 0<q.cap-off
    omega
   ·rw [h6,h7 hc,hlen]
   ·refine ⟨h2,?_,arr,ty,h2'',?_⟩
    ·rw [hlen]
     show len≤q.cap-off
     omega
    ·show q.off+off*q.sz+(q.cap-off)*q.sz≤arr.size
     have:off*q.sz+(q.cap-off)*q.sz=q.cap*q.sz:=by rw [←Nat.add_mul]; congr 1; omega
     omega
   ·intro b hb
    rw [h4]
    rcases List.mem_cons.1 hb with rfl | hb
    ·simp
    ·simp [hb]
   ·intro hnd
    rw [h4] at hnd
    obtain ⟨n1,n2⟩:=List.nodup_cons.1 hnd
    refine List.nodup_cons.2 ⟨fun hb=>n1 (by simp [hb]),?_⟩
    exact (List.nodup_append.1 (List.nodup_append.1 n2).2.1).1
  ·have hl0:len=0:=by omega
   subst hl0
   have h0:q.cap-off=0:=by omega
   refine ⟨[],.inl ⟨by simp,rfl,some a,by rw [h6,h0]⟩,by simp,fun _=>wB6⟩
theorem qGf {h:wT} {k n:Nat} {r:Row} (hl:qN (del h k) n=some r):qN h n=some r:=by
 rw [sQ] at hl
 split at hl
 ·simp at hl
 ·exact hl
theorem eU.refl (Lf:Nat→List Nat) (h:wT):eU Lf h h []:=⟨wB6,by simp,fun _ _ h=>h⟩
theorem eU.trans {Lf:Nat→List Nat} {h h1 h2:wT} {L1 L2:List Nat} {e:Env} {H:Nat→Option Row} (hr:RH e H Lf) (hH :∀n r,qN h n=some r→H n=some r) (a:eU Lf h h1 L1) (b:eU Lf h1 h2 L2):eU Lf h h2 (L1++L2):=by
 have toH :∀n,qN h n≠none→H n≠none:=fun n hn=>by
  cases hl:qN h n with
  | none=>exact absurd hl hn
  | some r=>simp [hH n r hl]
 have to1 :∀n,qN h1 n≠none→qN h n≠none:=fun n hn=>by
  cases hl:qN h1 n with
  | none=>exact absurd hl hn
  | some r=>simp [a.left n r hl]
 refine ⟨?_,?_,fun n r hn=>a.left n r (b.left n r hn)⟩
 ·refine List.nodup_append.2 ⟨a.nodup,b.nodup,?_⟩
  intro x hx y hy hxy
  subst hxy
  obtain ⟨k1,p1,p2,p3⟩:=a.of x hx
  obtain ⟨k2,q1,q2,q3⟩:=b.of x hy
  refine hr.dis k1 k2 (toH _ p1) (toH _ (to1 _ q1)) (fun he=>?_) x p3 q3
  rw [he] at p2
  exact q1 p2
 ·intro x hx
  rcases List.mem_append.1 hx with hx | hx
  ·obtain ⟨k,p1,p2,p3⟩:=a.of x hx
   refine ⟨k,p1,?_,p3⟩
   cases hl:qN h2 k with
   | none=>rfl
   | some r=>have:=b.left k r hl; rw [p2] at this; simp at this
  ·obtain ⟨k,p1,p2,p3⟩:=b.of x hx
   exact ⟨k,to1 k p1,p2,p3⟩
mutual
theorem qUs {e:Env} {H:Nat→Option Row} {Lf:Nat→List Nat} (hr:RH e H Lf) :∀(v:AV) (h:wT) {c:Value},(∀n r,qN h n=some r→H n=some r)→(cY h v).2.2→RV e v c []→∃L,RV e (cY h v).1 c L∧eU Lf h (cY h v).2.1 L
 | .ns k off len,h,c,hH,hc,hv=>by
  unfold cY at hc⊢
  cases hl:qN h k with
  | none =>
   simp only [hl] at hc⊢
   exact ⟨[],hv,eU.refl Lf h⟩
  | some row =>
   obtain ⟨sz,rows⟩:=row
   simp only [hl] at hc⊢
   have hk:=hH k _ hl
   obtain ⟨L',h1,h2,h3⟩:=qIg (hr.row k _ hk) hv hc
   refine ⟨L',h1,h3 (hr.nodup k (by simp [hk])),?_,fun n r hn=>qGf hn⟩
   intro b hb
   exact ⟨k,by simp [hl],by simp [sQ],h2 b hb⟩
 | .agg cs,h,c,hH,hc,hv=>by
  simp only [cY] at hc⊢
  simp only [RV] at hv⊢
  obtain ⟨vs,h1,h2⟩:=hv
  obtain ⟨L,h3,h4⟩:=tE hr cs h hH hc h2
  exact ⟨L,⟨vs,h1,h3⟩,h4⟩
 | .tup cs,h,c,hH,hc,hv=>by
  simp only [cY] at hc⊢
  simp only [RV] at hv⊢
  obtain ⟨vs,h1,h2⟩:=hv
  obtain ⟨L,h3,h4⟩:=tE hr cs h hH hc h2
  exact ⟨L,⟨vs,h1,h3⟩,h4⟩
 | .any,h,c,hH,hc,hv | .int _ _,h,c,hH,hc,hv | .bool _,h,c,hH,hc,hv | .str _,h,c,hH,hc,hv | .fn _ _,h,c,hH,hc,hv | .nilp,h,c,hH,hc,hv | .ptr _ _ _,h,c,hH,hc,hv
 | .fptr _ _ _,h,c,hH,hc,hv | .nil,h,c,hH,hc,hv | .nilI,h,c,hH,hc,hv | .ifc,h,c,hH,hc,hv | .sl _ _ _,h,c,hH,hc,hv=>by
  simp only [cY]
  exact ⟨[],hv,eU.refl Lf h⟩
theorem tE {e:Env} {H:Nat→Option Row} {Lf:Nat→List Nat} (hr:RH e H Lf) :∀(vs:List AV) (h:wT) {cs:List Value},(∀n r,qN h n=some r→H n=some r)→(bS h vs).2.2→RVs e vs cs []→∃L,RVs e (bS h vs).1 cs L∧eU Lf h (bS h vs).2.1 L
 | [],h,cs,hH,hc,hv=>by
  simp only [bS]
  exact ⟨[],hv,eU.refl Lf h⟩
 | v::vs,h,cs,hH,hc,hv=>by
  simp only [bS] at hc⊢
  simp only [RVs] at hv⊢
  obtain ⟨c,cs',L1,L2,rfl,h2,h3,h4⟩:=hv
  have hL1:L1=[]:=(wY h4).1
  have hL2:L2=[]:=(wY h4).2
  subst hL1 hL2
  obtain ⟨M1,g1,g2⟩:=qUs hr v h hH hc.1 h2
  obtain ⟨M2,g3,g4⟩:=tE hr vs (cY h v).2.1 (fun n r hn=>hH n r (g2.left n r hn)) hc.2 h3
  exact ⟨M1++M2,⟨c,cs',M1,M2,rfl,g1,g3,rfl⟩,eU.trans hr hH g2 g4⟩
end
end Go.Sep
namespace Go.Sep
set_option linter.unusedVariables false
set_option linter.unusedSimpArgs false
def aJ (P:Program):List ResultVar→List qCx→Bool
 | [],[]=>true
 | .tmp t::rs,.t n::ms=>t==n&&aJ P rs ms
 | .cell a t::rs,.cell b n ag::ms=>a==b&&cQ P t n&&qCt P t==some ag&&(ag||n==1)&&aJ P rs ms
 | _,_=>false
def hZ:Nat→List AV→List (Nat×AV)
 | _,[]=>[]
 | n,v::vs=>(n,v)::hZ (n+1) vs
theorem kY :∀(vs:List AV) (k n:Nat),wB (hZ k vs) n=if k≤n then vs.getD (n-k) .any else .any
 | [],k,n=>by simp [hZ,wB]
 | v::vs,k,n=>by
  simp only [hZ,wB,kY vs]
  by_cases h:n=k
  ·subst h; simp
  ·rw [if_neg h]
   by_cases h2:k+1≤n
   ·rw [if_pos h2,if_pos (by omega),show n-k=(n-(k+1))+1 by omega]
    rfl
   ·rw [if_neg h2,if_neg (by omega)]
def qAc (tmps:Array Value):ResultVar→Sem Value
 | .tmp t=>pure (tmps.getD t undef)
 | .cell a t=>do loadVar t (←asAddr (tmps.getD a undef))
theorem qNh (fn:Func) (tmps:Array Value):results fn tmps=(do
  let vs←fn.results.mapM (qAc tmps)
  pure (if h:vs.size=1 then vs[0] else .tuple vs)):=by
 unfold results
 congr 1
section
variable {P:Program}
theorem mH {e:Env} {L0:List Nat} {t:List (Nat×AV)} {h:wT} {Lf:Nat→List Nat} {tmps:Array Value} (hk:Ok e L0 (qN h) Lf) (ht :∀n,RV e (wB t n) (tmps.getD n undef) []) :
  ∀(rs:List ResultVar) (ms:List qCx),aJ P rs ms=true→qKf (ms.map fun r=>(dH t h r).2)→
   ∃vs:List Value,(rs.mapM (qAc tmps)).run P e.w=.ok vs e.w∧RVs e (ms.map fun r=>(dH t h r).1) vs []
 | [],[],_,_=>⟨[],by simp,by simp [RVs]⟩
 | [],m::ms,hc,_=>by simp [aJ] at hc
 | .tmp x::rs,.t n::ms,hc,ha=>by
  simp only [aJ,qZu,beq_iff_eq] at hc
  obtain ⟨rfl,hc⟩:=hc
  obtain ⟨vs,h1,h2⟩:=mH hk ht rs ms hc ha.2
  refine ⟨tmps.getD x undef::vs,?_,?_⟩
  ·rw [List.mapM_cons]
   simp only [qAc,Sem.run_bind,Sem.run_pure,Result.andThen_ok,h1]
  ·simp only [qZr,RVs]
   exact ⟨_,vs,[],[],rfl,ht x,h2,rfl⟩
 | .cell x ty::rs,.cell a n ag::ms,hc,ha=>by
  simp only [aJ,qZu,beq_iff_eq,Bool.or_eq_true] at hc
  obtain ⟨⟨⟨⟨rfl,hsz⟩,hag⟩,h1n⟩,hc⟩:=hc
  obtain ⟨vs,h1,h2⟩:=mH hk ht rs ms hc ha.2
  have ha1:(dH t h (.cell x n ag)).2:=ha.1
  have hx:=ht x
  have key :∃v,(qAc tmps (.cell x ty)).run P e.w=.ok v e.w∧RV e (dH t h (.cell x n ag)).1 v []:=by
   unfold dH at ha1⊢
   simp only at ha1⊢
   split at ha1
   ·rename_i nm hnm
    rw [hnm] at hx
    split at ha1
    ·rename_i sz cells hrow
     obtain ⟨i,hi,his⟩:=gY hsz
     obtain ⟨p,hp,hv⟩:=pS (hk.rh.row nm _ hrow) hx
     have hr:=hk.rh.row nm _ hrow
     unfold uT gF at hr
     rw [hp] at hr
     obtain ⟨hq,ho,Lr,hrr,hLr⟩:=hr
     simp only [yK] at hrr
     obtain ⟨us,L1,L2,⟨e1,e2⟩,e3,e4,e5,_,_⟩:=hrr
     have hL1:L1=[]:=by
      have key :∀(l:List AV) (us:List Value) (M:List Nat),(∀c∈l,sW c=false)→l.all yM=true→RVs e l us M→M=[]:=by
       intro l
       induction l with
       | nil=>intro us M _ _ h; simp only [RVs] at h; exact h.2
       | cons c l ih =>
        intro us M hfc hok h
        simp only [RVs] at h
        obtain ⟨v,vs',M1,M2,rfl,k1,k2,rfl⟩:=h
        simp only [wA6,qZu] at hok
        have:=qB6 hok.1 (fun sz rows he=>by have:=hfc c (by simp); rw [he] at this; simp [sW] at this) k1
        rw [this,ih vs' M2 (fun x hx=>hfc x (by simp [hx])) hok.2 k2]
        rfl
      exact key cells us L1 ha1.2 e2 e5
     subst hL1
     refine ⟨_,?_,qBd h1n ha1.1 e5⟩
     simp only [qAc,hv,Sem.run_bind,asAddr,Sem.run_pure,Result.andThen_ok]
     refine mF hag hi (fun hf=>by rcases h1n with h | h<;>simp_all) (by rw [e3,his,←ha1.1,e1]) (fun j hj=>?_)
     have:=e4 j (by rw [←e1,ha1.1,←his]; exact hj)
     simpa using this
    ·exact ha1.elim
   ·exact ha1.elim
  obtain ⟨v,k1,k2⟩:=key
  refine ⟨v::vs,?_,?_⟩
  ·rw [List.mapM_cons]
   simp only [Sem.run_bind]
   rw [k1]
   simp only [Result.andThen_ok,h1,Sem.run_pure]
  ·simp only [qZr,RVs]
   exact ⟨_,vs,[],[],rfl,k2,h2,rfl⟩
 | .tmp _::_,[],hc,_=>by simp [aJ] at hc
 | .tmp _::_,.cell ..::_,hc,_=>by simp [aJ] at hc
 | .cell ..::_,[],hc,_=>by simp [aJ] at hc
 | .cell ..::_,.t _::_,hc,_=>by simp [aJ] at hc
theorem cJ {fp:FP} {n:Nat}:qN (vV fp) n≠none→n∈fp.map (·.1):=by
 induction fp with
 | nil=>simp [vV,qN]
 | cons x fp ih =>
  obtain ⟨m,a,b⟩:=x
  intro h
  cases a with
  | none=>simp only [vV] at h; exact wAp _ (ih h)
  | some r =>
   simp only [vV,qN] at h
   by_cases hn:n=m
   ·simp [hn]
   ·rw [if_neg hn] at h; exact wAp _ (ih h)
theorem qHb {fp:FP} {n:Nat}:qN (uS fp) n≠none→n∈fp.map (·.1):=by
 induction fp with
 | nil=>simp [uS,qN]
 | cons x fp ih =>
  obtain ⟨m,a,b⟩:=x
  intro h
  cases b with
  | none=>simp only [uS] at h; exact wAp _ (ih h)
  | some r =>
   simp only [uS,qN] at h
   by_cases hn:n=m
   ·simp [hn]
   ·rw [if_neg hn] at h; exact wAp _ (ih h)
theorem mZ {Lf:Nat→List Nat} {h:wT} {b:Nat}:b∈qB9 Lf h→∃n,qN h n≠none∧b∈Lf n:=by
 induction h with
 | nil=>simp [qB9]
 | cons x h ih =>
  intro hb
  simp only [qB9,wAj,wAu] at hb
  rcases hb with hb | hb
  ·exact ⟨x.1,by simp [qN],hb⟩
  ·obtain ⟨n,h1,h2⟩:=ih hb
   refine ⟨n,?_,h2⟩
   obtain ⟨m,r⟩:=x
   simp only [qN]
   split
   ·simp
   ·exact h1
theorem qVt {Lf:Nat→List Nat} {h:wT} {n b:Nat} (hn:qN h n≠none) (hb:b∈Lf n):b∈qB9 Lf h:=by
 induction h with
 | nil=>simp [qN] at hn
 | cons x h ih =>
  obtain ⟨m,r⟩:=x
  simp only [qB9,wAj,wAu]
  by_cases he:n=m
  ·subst he; exact .inl hb
  ·simp only [qN] at hn
   rw [if_neg he] at hn
   exact .inr (ih hn)
theorem qBs :∀{cs ds:List AV},wM cs ds→ds.length=cs.length
 | [],ds,h=>by simp only [wM] at h; simp [h]
 | c::cs,ds,h=>by
  simp only [wM] at h
  obtain ⟨d,ds',rfl,_,h2⟩:=h
  simp [qBs h2]
theorem qL9 {num:Nat→Nat} {fn:Func} {rs:List qCx} {e:Env} {Lf0:Nat→List Nat} {fp:FP} {res:AV} {nt:Nat} {a:Act} {w:World} {s:AS} (hr:aJ P fn.results.toList rs=true) (hw0:e.w0=e.w)
  (hk0:Ok e (qB9 Lf0 (vV fp)) (qN (vV fp)) Lf0)
  (hfin:yL rs fp res s) (hs:St {num:=e.num,w0:=e.w,Fr:=e.Fr,Bo:=e.Bo,L0:=qB9 Lf0 (vV fp),φ0:=e.φ,nt:=nt} s a w) :
  a.defers=[]∧∃v,(results fn a.tmps).run P w=.ok v w∧qXl e Lf0 fp res v w:=by
 cases s with
 | bad=>exact hs.elim
 | mk t h nx =>
  obtain ⟨_,hdef,hb,hbt,φ,Lf,hl⟩:=hs
  obtain ⟨f1,f2,⟨vs,f3,f4⟩,f5⟩:=hfin
  refine ⟨hdef,?_⟩
  let B:kG:={num:=e.num,w0:=e.w,Fr:=e.Fr,Bo:=e.Bo,L0:=qB9 Lf0 (vV fp),φ0:=e.φ,nt:=nt}
  have hl':nY B t h nx a w φ Lf:=hl
  obtain ⟨us,r1,r2⟩:=mH hl'.ok hl'.tm fn.results.toList rs hr f1
  obtain ⟨L,g1,g2⟩:=tE hl'.ok.rh _ h (fun n r hn=>hn) f2 r2
  have g3:=oG f3 g1
  let h':=(bS h (rs.map fun r=>(dH t h r).1)).2.1
  have hlen:us.length=vs.length:=yP g3
  have hrun:(results fn a.tmps).run P w=.ok (if us.length=1 then us.getD 0 undef else .tuple us.toArray) w:=by
   rw [qNh]
   simp only [Sem.run_bind]
   rw [Array.mapM_eq_mapM_toList,Sem.run_map]
   have r1':(fn.results.toList.mapM (qAc a.tmps)).run P w=.ok us w:=r1
   rw [r1']
   simp only [Result.andThen_ok,Sem.run_pure]
   by_cases h1:us.length=1
   ·rw [if_pos h1,dif_pos (by simpa using h1)]
    congr 1
    cases us with
    | nil=>simp at h1
    | cons u us=>rfl
   ·rw [if_neg h1,dif_neg (by simpa using h1)]
  refine ⟨_,hrun,?_⟩
  let F:Nat→Prop:=fun n=>n∈fp.map (·.1)
  classical
  let e'':Env:=B.env w (fun n=>if F n∧qN (uS fp) n≠none then φ n else .dead)
  have hke:dD (B.env w φ) e'' (fun _=>True) (L++[]) :=
   {num:=rfl,fr:=fun m b hb=>by cases m<;>exact hb,cells:=fun b _ o=>rfl,φ:=fun n _=>by
     by_cases hn:F n∧qN (uS fp) n≠none
     ·left; show (if F n∧qN (uS fp) n≠none then φ n else vA.dead)=φ n; rw [if_pos hn]
     ·right; show (if F n∧qN (uS fp) n≠none then φ n else vA.dead)=vA.dead; rw [if_neg hn],own:=fun b _=>rfl}
  have hke' :∀M:List Nat,dD (B.env w φ) e'' (fun _=>True) M:=fun M=>{hke with own:=fun b _=>rfl}
  have hres:RV e'' res (if us.length=1 then us.getD 0 undef else .tuple us.toArray) L:=by
   refine fV res (hke' L) (tV _) ?_
   rw [f4]
   by_cases h1:us.length=1
   ·rw [if_pos h1]
    cases vs with
    | nil=>rw [hlen] at h1; simp at h1
    | cons v vs =>
     cases vs with
     | nil =>
      simp only [RVs] at g3
      obtain ⟨u,us',L1,L2,rfl,k1,⟨rfl,rfl⟩,rfl⟩:=g3
      simpa [wR] using k1
     | cons v' vs=>rw [hlen] at h1; simp at h1
   ·rw [if_neg h1]
    have:wR vs=.tup vs:=by
     cases vs with
     | nil=>rfl
     | cons v vs =>
      cases vs with
      | nil=>exact absurd (hlen.trans rfl) h1
      | cons v' vs=>rfl
    rw [this]
    simp only [RV]
    exact ⟨us,rfl,g3⟩
  have hrow :∀nm,F nm→qN (uS fp) nm=qN h' nm:=by
   intro nm hn
   obtain ⟨x,hx,rfl⟩:=List.mem_map.1 hn
   exact (f5 x hx).symm
  have hleft :∀nm,F nm→qN (uS fp) nm≠none→qN h nm=qN (uS fp) nm:=by
   intro nm hn hp
   rw [hrow nm hn] at hp⊢
   cases hh:qN h' nm with
   | none=>exact absurd hh hp
   | some r=>exact g2.left nm r hh
  have hblk :∀nm,qN h nm≠none→∀b∈Lf nm,b<w.heap.size∧(e.w.heap.size≤b∨∃m,F m∧qN (vV fp) m≠none∧b∈Lf0 m):=by
   intro nm hn b hb
   refine ⟨(hl'.ok.rh.blk nm hn b hb).1,?_⟩
   rcases hl'.ok.own0 nm hn b hb with h1 | h1
   ·obtain ⟨m,h2,h3⟩:=mZ h1
    exact .inr ⟨m,cJ h2,h2,h3⟩
   ·exact .inl h1
  have hdead0 :∀nm,¬F nm→e.φ nm=.dead:=by
   intro nm hn
   refine hk0.rh.dead nm ?_
   cases hh:qN (vV fp) nm with
   | none=>rfl
   | some r=>exact absurd (cJ (by simp [hh])) hn
  refine ⟨e'',Lf,L,rfl,?_,hres,g2.nodup,?_,?_⟩
  ·exact {
    num:=rfl
    w0:=hw0.symm
    Fr:=rfl
    Bo:=rfl
    io:=hl'.ok.io0
    size:=hl'.ok.size0
    keep:=fun b h1 h2=>by
     refine hl'.ok.keep0 b h1 (fun hm=>?_)
     obtain ⟨m,h3,h4⟩:=mZ hm
     exact h2 m (cJ h3) h3 h4
    φ:=fun nm hn=>by
     rw [hdead0 nm hn]
     show (if F nm∧qN (uS fp) nm≠none then φ nm else vA.dead)=vA.dead
     rw [if_neg (fun hh=>hn hh.1)]
    φF:=fun nm hn hp=>by
     show (if F nm∧qN (uS fp) nm≠none then φ nm else vA.dead)=e.φ nm∨(if F nm∧qN (uS fp) nm≠none then φ nm else vA.dead)=vA.dead
     split
     ·refine (hl'.φ0 nm ?_).2
      intro hd
      have hd':e.φ nm=.dead:=hd
      cases hh:qN (vV fp) nm with
      | none=>exact hp hh
      | some r =>
       have:=hk0.rh.row nm r hh
       unfold uT gF at this
       rw [hd'] at this
       exact this
     ·exact .inr rfl
    rest:=fun nm hn=>by
     have h1:qN (vV fp) nm=none:=by
      cases hh:qN (vV fp) nm with
      | none=>rfl
      | some r=>exact absurd (cJ (by simp [hh])) hn
     have h2:qN (uS fp) nm=none:=by
      cases hh:qN (uS fp) nm with
      | none=>rfl
      | some r=>exact absurd (qHb (by simp [hh])) hn
     rw [h1,h2]
    row:=fun nm row hn hp=>by
     have h1:=hleft nm hn (by simp [hp])
     have h2:=hl'.ok.rh.row nm row (by rw [h1,hp])
     refine h2.keep (hke' _) ?_ (oU _)
     show (if F nm∧qN (uS fp) nm≠none then φ nm else vA.dead)=φ nm
     rw [if_pos ⟨hn,by simp [hp]⟩]
    nodup:=fun nm hn hp=>hl'.ok.rh.nodup nm (by rw [hleft nm hn hp]; exact hp)
    blk:=fun nm hn hp b hb=>hblk nm (by rw [hleft nm hn hp]; exact hp) b hb
    dis:=fun n m hn hm hp hq hne b hb=>hl'.ok.rh.dis n m (by rw [hleft n hn hp]; exact hp) (by rw [hleft m hm hq]; exact hq) hne b hb
    dead:=fun nm hn hp=>by
     show (if F nm∧qN (uS fp) nm≠none then φ nm else vA.dead)=vA.dead
     rw [if_neg (fun hh=>hh.2 hp)]}
  ·intro b hb
   obtain ⟨k,h1,_,h3⟩:=g2.of b hb
   exact hblk k h1 b h3
  ·intro b hb m hm hp hbm
   obtain ⟨k,h1,h2,h3⟩:=g2.of b hb
   have hm':=hleft m hm hp
   refine hl'.ok.rh.dis k m h1 (by rw [hm']; exact hp) (fun he=>?_) b h3 hbm
   subst he
   have h2':qN h' k=none:=h2
   rw [hrow k hm] at hp
   exact hp h2'
theorem enter {num:Nat→Nat} {f:Nat} {fn:Func} {c:Code} {m:MFn} {args:List AV} {fp:FP} {res:AV} (hf:P.funcs[num f]?=some fn) (hnm:(fn.name == "runtime.NumGoroutine")=false) (hbd:fn.body=some c) (hc:lK P num fn.ntmps m.body c=true)
  (hr:aJ P fn.results.toList m.results=true) (hn:args.length≤fn.ntmps) (hb:jF (· < 10) args) (hh:HB (vV fp) 10)
  (hv:vc P num (Fin m.results fp res) [.code m.body] (.mk (hZ 0 args) (vV fp) 10)):wD P num f args fp res:=by
 refine ⟨⟨fn,hf,hnm,by rw [hbd]; rfl⟩,?_⟩
 intro e Lf cs hnum hw0 hk hargs
 subst hnum
 have hlen:=yP hargs
 let B:kG:={num:=e.num,w0:=e.w,Fr:=e.Fr,Bo:=e.Bo,L0:=qB9 Lf (vV fp),φ0:=e.φ,nt:=fn.ntmps}
 let a0:Act:={tmps:=cs.toArray++Array.replicate (fn.ntmps-cs.toArray.size) undef,defers:=[]}
 have he:B.env e.w e.φ=e:=by
  cases e
  simp only at hw0
  subst hw0
  rfl
 have hst:St B (.mk (hZ 0 args) (vV fp) 10) a0 e.w:=by
  refine ⟨?_,rfl,hh,?_,e.φ,Lf,?_,?_,?_,qZt _⟩
  ·show (cs.toArray++Array.replicate (fn.ntmps-cs.toArray.size) undef).size=fn.ntmps
   simp
   omega
  ·intro n
   rw [kY,if_pos (Nat.zero_le _)]
   exact kB hb _
  ·rw [he]; exact hk
  ·intro n
   rw [he,kY,if_pos (Nat.zero_le _),Nat.sub_zero]
   show RV e (args.getD n .any) ((cs.toArray++Array.replicate (fn.ntmps-cs.toArray.size) undef).getD n undef) []
   by_cases hn':n<args.length
   ·obtain ⟨v,h1,h2⟩:=eP hargs n hn'
    rw [cZ hn',Array.getD_eq_getD_getElem?,Array.getElem?_append_left (by simpa [hlen] using hn')]
    simp only [List.getElem?_toArray,h1,Option.getD_some]
    exact h2
   ·have:args.getD n .any=.any:=by
     rw [qZw,wAf (by omega)]; rfl
    rw [this]
    simp [RV]
  ·intro n hne
   have hne':e.φ n≠.dead:=hne
   refine ⟨?_,.inl rfl⟩
   cases hl:qN (vV fp) n with
   | none=>exact absurd (hk.rh.dead n hl) hne'
   | some r=>exact (hh n r hl).1
 have:=qT6 (R:=fun a w=>a.defers=[]∧∃v,(results fn a.tmps).run P w=.ok v w∧qXl e Lf fp res v w) (B:=B) rfl (fun s a w ⟨s1,h1,h2⟩ hs=>qL9 (num:=e.num) hr hw0 hk h2 (h1 _ _ _ hs)) _ _ (qZt _) _ hv a0 e.w hst
 simp only [sem] at this
 refine calls_of_wp hf hbd (wp_mono (this c hc) ?_)
 rintro ex a w ⟨hex,h1,v,h2,h3⟩
 rcases hex with rfl | rfl<;>exact ⟨h1,v,h2,h3⟩
end
end Go.Sep
namespace Go.Sep
set_option linter.unusedVariables false
set_option linter.unusedSimpArgs false
mutual
def nb:AV→Prop
 | .ptr _ _ _ | .ns _ _ _=>False
 | .sl .bw _ _=>False
 | .sl _ _ rows=>nbr rows
 | .fptr .fz cells _=>nbs cells
 | .fptr _ _ _=>False
 | .agg cs=>nbs cs
 | .tup cs=>nbs cs
 | .fn _ cap=>nbs cap
 | _=>True
def nbs:List AV→Prop
 | []=>True
 | c::cs=>nb c∧nbs cs
def nbr:List (List AV)→Prop
 | []=>True
 | r::rs=>nbs r∧nbr rs
end
mutual
def bwC:AV→AV
 | .sl _ sz rows=>.sl .bw sz (bwR rows)
 | .fptr _ cells f=>.fptr .bw (bwL cells) f
 | .agg cs=>.agg (bwL cs)
 | .tup cs=>.tup (bwL cs)
 | .fn f cap=>.fn f (bwL cap)
 | v=>v
def bwL:List AV→List AV
 | []=>[]
 | c::cs=>bwC c::bwL cs
def bwR:List (List AV)→List (List AV)
 | []=>[]
 | r::rs=>bwL r::bwR rs
end
theorem aX :∀l:List AV,(bwL l).length=l.length
 | []=>rfl
 | c::cs=>by simp [bwL,aX cs]
theorem dS :∀l:List (List AV),(bwR l).length=l.length
 | []=>rfl
 | c::cs=>by simp [bwR,dS cs]
theorem qVq :∀l:List AV,l.all yM=true→(bwL l).all yM=true
 | [],_=>rfl
 | c::cs,h=>by
  simp only [wA6,qZu,bwL] at h⊢
  refine ⟨?_,qVq cs h.2⟩
  have:=h.1
  cases c<;>simp_all [bwC,yM]
structure qCu (e e':Env):Prop where
 num:e'.num=e.num
 fr :∀b,e.Fr b→e'.Fr b
 cells :∀b,e.Fr b→∀o,e'.w0.cell? ⟨b,o,none⟩=e.w0.cell? ⟨b,o,none⟩
mutual
theorem qVx {e e':Env} (hs:qCu e e') :∀(v:AV) {c:Value} {L:List Nat},(∀b∈L,e'.w.heap[b]?=e.w.heap[b]?)→nb v→RV e v c L→RV e' v c L
 | .any,_,_,_,_,h | .int ..,_,_,_,_,h | .bool ..,_,_,_,_,h | .str ..,_,_,_,_,h | .nilp,_,_,_,_,h | .nil,_,_,_,_,h | .nilI,_,_,_,_,h | .ifc,_,_,_,_,h=>h
 | .fn f cap,_,_,k,hb,h=>by
  simp only [RV] at h⊢
  obtain ⟨vs,h1,h2,h3⟩:=h
  exact ⟨vs,by rw [hs.num]; exact h1,qBc hs cap k hb h2,h3⟩
 | .ptr ..,_,_,_,hb,_=>by simp [nb] at hb
 | .ns ..,_,_,_,hb,_=>by simp [nb] at hb
 | .fptr .own _ _,_,_,_,hb,_=>by simp [nb] at hb
 | .fptr .bw _ _,_,_,_,hb,_=>by simp [nb] at hb
 | .fptr .fz cells f,_,_,k,hb,h=>by
  simp only [RV] at h⊢
  obtain ⟨h0,b,o,vs,h1,h2,h3,h4,h5⟩:=h
  subst h0
  have h2':e.Fr b:=h2
  exact ⟨rfl,b,o,vs,h1,hs.fr b h2',h3,fun j hj=>by rw [hs.cells b h2']; exact h4 j hj,qBc hs cells k (by simpa [nb] using hb) h5⟩
 | .sl .bw _ _,_,_,_,hb,_=>by simp [nb] at hb
 | .sl .own sz rows,_,_,k,hb,h=>by
  simp only [RV] at h⊢
  rcases h with h | ⟨p,Lr,h0,h1,h2,h3,h4⟩
  ·exact .inl h
  ·subst h4
   exact .inr ⟨p,Lr,h0,h1,h2.keep (k _ (by simp)),qFz hs rows (fun b hb=>k b (by simp [hb])) (by simpa [nb] using hb) (fun o'=>uV (k _ (by simp)) o') h3,rfl⟩
 | .sl .fz sz rows,_,_,k,hb,h=>by
  simp only [RV] at h⊢
  obtain ⟨h0,h⟩:=h
  subst h0
  refine ⟨rfl,?_⟩
  rcases h with h | ⟨b,o,c,h1,h2,h3,h4⟩
  ·exact .inl h
  ·have h3':e.Fr b:=h3
   exact .inr ⟨b,o,c,h1,h2,hs.fr b h3',qFz hs rows k (by simpa [nb] using hb) (fun o'=>hs.cells b h3' o') h4⟩
 | .agg cs,_,_,k,hb,h=>by
  simp only [RV] at h⊢
  obtain ⟨vs,h1,h2⟩:=h
  exact ⟨vs,h1,qBc hs cs k hb h2⟩
 | .tup cs,_,_,k,hb,h=>by
  simp only [RV] at h⊢
  obtain ⟨vs,h1,h2⟩:=h
  exact ⟨vs,h1,qBc hs cs k hb h2⟩
theorem qBc {e e':Env} (hs:qCu e e') :∀(l:List AV) {cs:List Value} {L:List Nat},(∀b∈L,e'.w.heap[b]?=e.w.heap[b]?)→nbs l→RVs e l cs L→RVs e' l cs L
 | [],_,_,_,_,h=>by simpa only [RVs] using h
 | c::cs,_,_,k,hb,h=>by
  simp only [RVs] at h⊢
  obtain ⟨v,vs',L1,L2,h1,h2,h3,h4⟩:=h
  subst h4
  exact ⟨v,vs',L1,L2,h1,qVx hs c (fun b hb=>k b (by simp [hb])) hb.1 h2,qBc hs cs (fun b hb=>k b (by simp [hb])) hb.2 h3,rfl⟩
theorem qFz {e e':Env} (hs:qCu e e') :∀(rs:List (List AV)) {W W':World} {b o sz:Nat} {L:List Nat},(∀b∈L,e'.w.heap[b]?=e.w.heap[b]?)→nbr rs→
  (∀o',W'.cell? ⟨b,o',none⟩=W.cell? ⟨b,o',none⟩)→yK e W b o sz rs L→yK e' W' b o sz rs L
 | [],_,_,_,_,_,_,_,_,_,h=>by simpa only [yK] using h
 | r::rs,W,W',b,o,sz,L,k,hb,hW,h=>by
  simp only [yK] at h⊢
  obtain ⟨vs,L1,L2,h1,h2,h3,h4,h5,h6⟩:=h
  subst h6
  exact ⟨vs,L1,L2,h1,h2,fun j hj=>by rw [hW]; exact h3 j hj,qBc hs r (fun b hb=>k b (by simp [hb])) hb.1 h4,qFz hs rs (fun b hb=>k b (by simp [hb])) hb.2 hW h5,rfl⟩
end
structure qG2 (e e':Env) (V:Nat→Prop):Prop where
 num:e'.num=e.num
 w0:e'.w0=e.w
 fr :∀b,e.Fr b→e'.Fr b
 bo :∀b,e.Fr b∨e.Bo b∨V b→e'.Fr b∨e'.Bo b
 cells :∀b,e.Fr b∨e.Bo b→∀o,e.w.cell? ⟨b,o,none⟩=e.w0.cell? ⟨b,o,none⟩
mutual
theorem qY1 {e e':Env} {V:Nat→Prop} (hs:qG2 e e' V) :∀(v:AV) {c:Value} {L:List Nat},(∀b∈L,V b)→bnd (fun _=>False) v→RV e v c L→RV e' (bwC v) c []
 | .any,_,_,_,_,h=>by simp [bwC,RV]
 | .int ..,_,_,_,_,h | .bool ..,_,_,_,_,h | .str ..,_,_,_,_,h | .nilp,_,_,_,_,h | .nil,_,_,_,_,h | .nilI,_,_,_,_,h | .ifc,_,_,_,_,h=>by
  simp only [bwC,RV] at h⊢
  exact ⟨h.1,trivial⟩
 | .fn f cap,_,_,k,hb,h=>by
  simp only [RV,bwC] at h⊢
  obtain ⟨vs,h1,h2,h3⟩:=h
  subst h3
  exact ⟨vs,by rw [hs.num]; exact h1,rL hs cap k hb h2,trivial⟩
 | .ptr ..,_,_,_,hb,_=>by simp [bnd] at hb
 | .ns ..,_,_,_,hb,_=>by simp [bnd] at hb
 | .fptr m cells f,_,_,k,hb,h=>by
  simp only [RV,bwC] at h⊢
  obtain ⟨h0,b,o,vs,h1,h2,h3,h4,h5⟩:=h
  subst h0
  have h2':=Env.frozen_or h2
  refine ⟨trivial,b,o,vs,h1,hs.bo b (h2'.imp id .inl),by rw [aX]; exact h3,fun j hj=>?_,rL hs cells (by simp) hb h5⟩
  rw [hs.w0,hs.cells b h2']
  exact h4 j (by rw [aX] at hj; exact hj)
 | .sl .own sz rows,_,_,k,hb,h=>by
  simp only [RV,bwC] at h⊢
  refine ⟨trivial,?_⟩
  rcases h with ⟨rfl,_,a,rfl⟩ | ⟨p,Lr,⟨rfl,h0⟩,rfl,h2,h3,rfl⟩
  ·exact .inl ⟨rfl,a,0,rfl,fun _=>rfl⟩
  ·refine .inr ⟨p.block,p.off,p.cap,by rw [dS],by rw [dS]; exact h2.2.1,hs.bo _ (.inr (.inr (k _ (by simp)))),?_⟩
   exact nX hs rows (fun b hb=>k b (by simp [hb])) hb (fun o'=>by rw [hs.w0]) h3
 | .sl .bw sz rows,_,_,k,hb,h=>by
  simp only [RV,bwC] at h⊢
  refine ⟨trivial,?_⟩
  rcases h with ⟨rfl,⟨rfl,h⟩ | ⟨b,o,c,rfl,h2,h3,h4⟩⟩
  ·exact .inl ⟨rfl,h⟩
  ·have h3':=Env.frozen_or h3
   exact .inr ⟨b,o,c,by rw [dS],by rw [dS]; exact h2,hs.bo b (h3'.imp id .inl),nX hs rows (by simp) hb (fun o'=>by rw [hs.w0,hs.cells b h3']) h4⟩
 | .sl .fz sz rows,_,_,k,hb,h=>by
  simp only [RV,bwC] at h⊢
  refine ⟨trivial,?_⟩
  rcases h with ⟨rfl,⟨rfl,h⟩ | ⟨b,o,c,rfl,h2,h3,h4⟩⟩
  ·exact .inl ⟨rfl,h⟩
  ·have h3':=Env.frozen_or h3
   exact .inr ⟨b,o,c,by rw [dS],by rw [dS]; exact h2,hs.bo b (h3'.imp id .inl),nX hs rows (by simp) hb (fun o'=>by rw [hs.w0,hs.cells b h3']) h4⟩
 | .agg cs,_,_,k,hb,h=>by
  simp only [RV,bwC] at h⊢
  obtain ⟨vs,h1,h2⟩:=h
  exact ⟨vs,h1,rL hs cs k hb h2⟩
 | .tup cs,_,_,k,hb,h=>by
  simp only [RV,bwC] at h⊢
  obtain ⟨vs,h1,h2⟩:=h
  exact ⟨vs,h1,rL hs cs k hb h2⟩
theorem rL {e e':Env} {V:Nat→Prop} (hs:qG2 e e' V) :∀(l:List AV) {cs:List Value} {L:List Nat},(∀b∈L,V b)→jF (fun _=>False) l→RVs e l cs L→RVs e' (bwL l) cs []
 | [],_,_,_,_,h=>by
  simp only [RVs,bwL] at h⊢
  exact ⟨h.1,trivial⟩
 | c::cs,_,_,k,hb,h=>by
  simp only [RVs,bwL] at h⊢
  obtain ⟨v,vs',L1,L2,h1,h2,h3,h4⟩:=h
  subst h4
  exact ⟨v,vs',[],[],h1,qY1 hs c (fun b hb=>k b (by simp [hb])) hb.1 h2,rL hs cs (fun b hb=>k b (by simp [hb])) hb.2 h3,rfl⟩
theorem nX {e e':Env} {V:Nat→Prop} (hs:qG2 e e' V) :∀(rs:List (List AV)) {W W':World} {b o sz:Nat} {L:List Nat},(∀b∈L,V b)→yQ (fun _=>False) rs→
  (∀o',W'.cell? ⟨b,o',none⟩=W.cell? ⟨b,o',none⟩)→yK e W b o sz rs L→yK e' W' b o sz (bwR rs) []
 | [],_,_,_,_,_,_,_,_,_,h=>by simp [bwR,yK]
 | r::rs,W,W',b,o,sz,L,k,hb,hW,h=>by
  simp only [yK,bwR] at h⊢
  obtain ⟨vs,L1,L2,h1,h2,h3,h4,h5,h6⟩:=h
  subst h6
  exact ⟨vs,[],[],⟨by rw [aX]; exact h1.1,qVq r h1.2⟩,h2,fun j hj=>by rw [hW]; exact h3 j hj,rL hs r (fun b hb=>k b (by simp [hb])) hb.1 h4,nX hs rs (fun b hb=>k b (by simp [hb])) hb.2 hW h5,rfl⟩
end
mutual
theorem qU4 {A:Nat→Prop} :∀(v:AV),nb v→bnd A v
 | .any,_ | .int ..,_ | .bool ..,_ | .str ..,_ | .nilp,_ | .nil,_ | .nilI,_ | .ifc,_=>trivial
 | .fn f cap,h=>oH cap h
 | .ptr ..,h=>by simp [nb] at h
 | .ns ..,h=>by simp [nb] at h
 | .fptr .own _ _,h=>by simp [nb] at h
 | .fptr .bw _ _,h=>by simp [nb] at h
 | .fptr .fz cells _,h=>oH cells (by simpa [nb] using h)
 | .sl .bw _ _,h=>by simp [nb] at h
 | .sl .own _ rows,h=>qJh rows (by simpa [nb] using h)
 | .sl .fz _ rows,h=>qJh rows (by simpa [nb] using h)
 | .agg cs,h=>oH cs h
 | .tup cs,h=>oH cs h
theorem oH {A:Nat→Prop} :∀(l:List AV),nbs l→jF A l
 | [],_=>trivial
 | c::cs,h=>⟨qU4 c h.1,oH cs h.2⟩
theorem qJh {A:Nat→Prop} :∀(l:List (List AV)),nbr l→yQ A l
 | [],_=>trivial
 | c::cs,h=>⟨oH c h.1,qJh cs h.2⟩
end
mutual
def yF:Nat→AV→AV×List (Nat×Row)×Nat
 | n,.sl .own sz rows=>(.ns n 0 rows.length,[(n,(sz,rows))],n+1)
 | n,.agg cs=>(.agg (jL n cs).1,(jL n cs).2.1,(jL n cs).2.2)
 | n,.tup cs=>(.tup (jL n cs).1,(jL n cs).2.1,(jL n cs).2.2)
 | n,v=>(v,[],n)
def jL:Nat→List AV→List AV×List (Nat×Row)×Nat
 | n,[]=>([],[],n)
 | n,v::l=>((yF n v).1::(jL (yF n v).2.2 l).1,(yF n v).2.1++(jL (yF n v).2.2 l).2.1,(jL (yF n v).2.2 l).2.2)
end
end Go.Sep
namespace Go.Sep
set_option linter.unusedVariables false
set_option linter.unusedSimpArgs false
theorem qNm (n:Nat) (v:AV) (h1 :∀sz rows,v≠.sl .own sz rows) (h2 :∀cs,v≠.agg cs) (h3 :∀cs,v≠.tup cs):yF n v=(v,[],n):=by
 cases v
 case sl m sz rows =>
  cases m
  ·exact absurd rfl (h1 _ _)
  all_goals simp [yF]
 case agg cs=>exact absurd rfl (h2 _)
 case tup cs=>exact absurd rfl (h3 _)
 all_goals simp [yF]
theorem qXk {e:Env} {v:AV} {c:Value} {L:List Nat} (h1 :∀sz rows,v≠.sl .own sz rows) (h2 :∀cs,v≠.agg cs) (h3 :∀cs,v≠.tup cs) (h:RV e v c L):L=[]:=by
 cases v
 case any=>simpa [RV] using h
 case agg cs=>exact absurd rfl (h2 _)
 case tup cs=>exact absurd rfl (h3 _)
 case sl m sz rows =>
  cases m
  ·exact absurd rfl (h1 _ _)
  all_goals simp only [RV] at h; exact h.1
 case fn=>simp only [RV] at h; obtain ⟨_,_,_,h⟩:=h; exact h
 all_goals simp only [RV] at h
 case ptr=>exact h.1
 case fptr=>exact h.1
 case ns=>exact h.1
 all_goals exact h.2
mutual
theorem cT :∀(v:AV) (n:Nat),n≤(yF n v).2.2∧∀x∈(yF n v).2.1,n≤x.1∧x.1<(yF n v).2.2
 | .sl .own sz rows,n=>by simp [yF]
 | .agg cs,n=>by simp only [yF]; exact aS cs n
 | .tup cs,n=>by simp only [yF]; exact aS cs n
 | .any,n | .int _ _,n | .bool _,n | .str _,n | .fn _ _,n | .nilp,n | .ptr _ _ _,n | .fptr _ _ _,n | .nil,n | .nilI,n | .ifc,n | .ns _ _ _,n | .sl .bw _ _,n | .sl .fz _ _,n=>by simp [yF]
theorem aS :∀(l:List AV) (n:Nat),n≤(jL n l).2.2∧∀x∈(jL n l).2.1,n≤x.1∧x.1<(jL n l).2.2
 | [],n=>by simp [jL]
 | v::l,n=>by
  obtain ⟨a1,a2⟩:=cT v n
  obtain ⟨b1,b2⟩:=aS l (yF n v).2.2
  simp only [jL]
  refine ⟨by omega,fun x hx=>?_⟩
  rcases List.mem_append.1 hx with hx | hx
  ·have:=a2 x hx; omega
  ·have:=b2 x hx; omega
end
mutual
theorem mQ :∀(v:AV) (n:Nat),((yF n v).2.1.map (·.1)).Nodup
 | .sl .own sz rows,n=>by simp [yF]
 | .agg cs,n=>by simp only [yF]; exact kT cs n
 | .tup cs,n=>by simp only [yF]; exact kT cs n
 | .any,n | .int _ _,n | .bool _,n | .str _,n | .fn _ _,n | .nilp,n | .ptr _ _ _,n | .fptr _ _ _,n | .nil,n | .nilI,n | .ifc,n | .ns _ _ _,n | .sl .bw _ _,n | .sl .fz _ _,n=>by simp [yF]
theorem kT :∀(l:List AV) (n:Nat),((jL n l).2.1.map (·.1)).Nodup
 | [],n=>by simp [jL]
 | v::l,n=>by
  simp only [jL,wB7]
  refine List.nodup_append.2 ⟨mQ v n,kT l _,?_⟩
  intro x hx y hy hxy
  obtain ⟨x',hx',rfl⟩:=List.mem_map.1 hx
  obtain ⟨y',hy',rfl⟩:=List.mem_map.1 hy
  have:=(cT v n).2 x' hx'
  have:=(aS l (yF n v).2.2).2 y' hy'
  omega
end
mutual
theorem qHc :∀(v:AV) (n:Nat),bnd (· < n) v→bnd (· < (yF n v).2.2) (yF n v).1∧∀x∈(yF n v).2.1,yQ (· < (yF n v).2.2) x.2.2
 | .sl .own sz rows,n,h=>by
  simp only [yF,wAb]
  refine ⟨Nat.lt_succ_self n,?_⟩
  rintro x rfl
  exact uR (fun k hk=>Nat.lt_succ_of_lt hk) rows h
 | .agg cs,n,h=>by simp only [yF]; exact pW cs n h
 | .tup cs,n,h=>by simp only [yF]; exact pW cs n h
 | .any,n,h | .int _ _,n,h | .bool _,n,h | .str _,n,h | .fn _ _,n,h | .nilp,n,h | .ptr _ _ _,n,h | .fptr _ _ _,n,h | .nil,n,h | .nilI,n,h | .ifc,n,h | .ns _ _ _,n,h | .sl .bw _ _,n,h | .sl .fz _ _,n,h=>by
  simp only [yF]
  exact ⟨h,by simp⟩
theorem pW :∀(l:List AV) (n:Nat),jF (· < n) l→jF (· < (jL n l).2.2) (jL n l).1∧∀x∈(jL n l).2.1,yQ (· < (jL n l).2.2) x.2.2
 | [],n,h=>by simp [jL,jF]
 | v::l,n,h=>by
  obtain ⟨a1,a2⟩:=qHc v n h.1
  have hle:=(cT v n).1
  have hle2:=(aS l (yF n v).2.2).1
  obtain ⟨b1,b2⟩:=pW l (yF n v).2.2 (zS (fun k hk=>wAv hk hle) l h.2)
  have mono :∀k,k<(yF n v).2.2→k<(jL (yF n v).2.2 l).2.2:=fun k hk=>wAv hk hle2
  simp only [jL,jF]
  refine ⟨⟨kE mono _ a1,b1⟩,fun x hx=>?_⟩
  rcases List.mem_append.1 hx with hx | hx
  ·exact uR mono _ (a2 x hx)
  ·exact b2 x hx
end
def qVy (e:Env) (A:Nat→Prop) (L:List Nat) (fr:List (Nat×Row)) (ok:Env→Prop):Prop :=
 ∃S:List (Nat×vA×List Nat),S.map (·.1)=fr.map (·.1)∧L=S.flatMap (·.2.2)∧
  ∀e',(∀x∈S,e'.φ x.1=x.2.1)→dD e e' A L→ok e'∧∀x∈S,∀row,(x.1,row)∈fr→gF e' x.2.1 row x.2.2
mutual
theorem qLd {e:Env} {A:Nat→Prop} :∀(v:AV) (n:Nat) {c:Value} {L:List Nat},bnd A v→RV e v c L→qVy e A L (yF n v).2.1 (fun e'=>RV e' (yF n v).1 c [])
 | .sl .own sz rows,n,c,L,hb,h=>by
  obtain ⟨o1,o2⟩:=qLc h
  refine ⟨[(n,hB sz c,L)],by simp [yF],by simp,fun e' he hk=>⟨?_,?_⟩⟩
  ·simp only [yF]
   exact o2 e' n (he (n,hB sz c,L) (by simp))
  ·intro x hx row hr
   simp only [wAb] at hx
   subst hx
   simp only [yF,wAb,Prod.mk.injEq,true_and] at hr
   subst hr
   exact o1.keep hk hb
 | .agg cs,n,c,L,hb,h=>by
  simp only [RV] at h
  obtain ⟨vs,h1,h2⟩:=h
  obtain ⟨S,s1,s2,s3⟩:=qAl cs n hb h2
  refine ⟨S,by simpa [yF] using s1,s2,fun e' he hk=>?_⟩
  obtain ⟨g1,g2⟩:=s3 e' he hk
  simp only [yF,RV]
  exact ⟨⟨vs,h1,g1⟩,g2⟩
 | .tup cs,n,c,L,hb,h=>by
  simp only [RV] at h
  obtain ⟨vs,h1,h2⟩:=h
  obtain ⟨S,s1,s2,s3⟩:=qAl cs n hb h2
  refine ⟨S,by simpa [yF] using s1,s2,fun e' he hk=>?_⟩
  obtain ⟨g1,g2⟩:=s3 e' he hk
  simp only [yF,RV]
  exact ⟨⟨vs,h1,g1⟩,g2⟩
 | .any,n,c,L,hb,h | .int _ _,n,c,L,hb,h | .bool _,n,c,L,hb,h | .str _,n,c,L,hb,h | .fn _ _,n,c,L,hb,h | .nilp,n,c,L,hb,h | .ptr _ _ _,n,c,L,hb,h | .fptr _ _ _,n,c,L,hb,h
 | .nil,n,c,L,hb,h | .nilI,n,c,L,hb,h | .ifc,n,c,L,hb,h | .ns _ _ _,n,c,L,hb,h | .sl .bw _ _,n,c,L,hb,h | .sl .fz _ _,n,c,L,hb,h=>by
  have hL:=qXk (by simp) (by simp) (by simp) h
  subst hL
  rw [qNm _ _ (by simp) (by simp) (by simp)]
  exact ⟨[],rfl,rfl,fun e' _ hk=>⟨fV _ hk hb h,by simp⟩⟩
theorem qAl {e:Env} {A:Nat→Prop} :∀(l:List AV) (n:Nat) {cs:List Value} {L:List Nat},jF A l→RVs e l cs L→qVy e A L (jL n l).2.1 (fun e'=>RVs e' (jL n l).1 cs [])
 | [],n,cs,L,hb,h=>by
  simp only [RVs] at h
  obtain ⟨rfl,rfl⟩:=h
  exact ⟨[],rfl,rfl,fun e' _ _=>⟨by simp [jL,RVs],by simp⟩⟩
 | v::l,n,cs,L,hb,h=>by
  simp only [RVs] at h
  obtain ⟨c,cs',L1,L2,rfl,h1,h2,rfl⟩:=h
  obtain ⟨S1,a1,a2,a3⟩:=qLd v n hb.1 h1
  obtain ⟨S2,b1,b2,b3⟩:=qAl l (yF n v).2.2 hb.2 h2
  refine ⟨S1++S2,by simp [jL,a1,b1],by simp [a2,b2],fun e' he hk=>?_⟩
  obtain ⟨g1,g2⟩:=a3 e' (fun x hx=>he x (by simp [hx])) (hk.sub (by simp +contextual))
  obtain ⟨g3,g4⟩:=b3 e' (fun x hx=>he x (by simp [hx])) (hk.sub (by simp +contextual))
  refine ⟨?_,fun x hx row hr=>?_⟩
  ·simp only [jL,RVs]
   exact ⟨c,cs',[],[],rfl,g1,g3,rfl⟩
  ·simp only [jL] at hr
   have key :∀{M:List (Nat×Row)} {T:List (Nat×vA×List Nat)},T.map (·.1)=M.map (·.1)→∀y∈T,∃z∈M,z.1=y.1:=by
    intro M T hT y hy
    have hm:y.1∈T.map (·.1):=List.mem_map.2 ⟨y,hy,rfl⟩
    rw [hT] at hm
    obtain ⟨z,hz,hzy⟩:=List.mem_map.1 hm
    exact ⟨z,hz,hzy⟩
   rcases List.mem_append.1 hx with hx | hx
   ·rcases List.mem_append.1 hr with hr | hr
    ·exact g2 x hx row hr
    ·obtain ⟨z,hz,hzx⟩:=key a1 x hx
     have h3:=(cT v n).2 z hz
     have h4:=(aS l (yF n v).2.2).2 _ hr
     simp only at h4
     omega
   ·rcases List.mem_append.1 hr with hr | hr
    ·obtain ⟨z,hz,hzx⟩:=key b1 x hx
     have h3:=(aS l (yF n v).2.2).2 z hz
     have h4:=(cT v n).2 _ hr
     simp only at h4
     omega
    ·exact g4 x hx row hr
end
end Go.Sep
namespace Go.Sep
set_option linter.unusedVariables false
set_option linter.unusedSimpArgs false
def rnm:List (Nat×Nat)→Nat→Nat
 | [],_=>0
 | (a,b)::σ,k=>if k=a then b else rnm σ k
mutual
def vG (f:Nat→Nat):AV→AV
 | .ptr nm i o=>.ptr (f nm) i o
 | .ns nm o l=>.ns (f nm) o l
 | .agg cs=>.agg (aN f cs)
 | .tup cs=>.tup (aN f cs)
 | v=>v
def aN (f:Nat→Nat):List AV→List AV
 | []=>[]
 | c::cs=>vG f c::aN f cs
end
mutual
def okV (A:Nat→Prop):AV→Prop
 | .ptr nm _ _=>A nm
 | .ns nm _ _=>A nm
 | .agg cs=>okL A cs
 | .tup cs=>okL A cs
 | .any=>True
 | v=>nb v
def okL (A:Nat→Prop):List AV→Prop
 | []=>True
 | c::cs=>okV A c∧okL A cs
end
mutual
def bwT (h:wT):AV→AV
 | .ns nm off len=>(match qN h nm with | some row=>.sl .bw row.1 (bwR ((row.2.drop off).take len)) | none=>.any)
 | .ptr nm i f=>(match qN h nm with | some row=>.fptr .bw (bwL (row.2.getD i [])) f | none=>.any)
 | .agg cs=>.agg (qFg h cs)
 | .tup cs=>.tup (qFg h cs)
 | v=>bwC v
def qFg (h:wT):List AV→List AV
 | []=>[]
 | c::cs=>bwT h c::qFg h cs
end
mutual
def rI (h:wT) (F:Nat→Prop):AV→Prop
 | .ns nm off len =>∃row,qN h nm=some row∧off+len≤row.2.length∧¬F nm∧yQ (fun _=>False) row.2
 | .ptr nm i f =>∃row,qN h nm=some row∧i<row.2.length∧¬F nm∧yQ (fun _=>False) row.2
 | .agg cs=>pK h F cs
 | .tup cs=>pK h F cs
 | v=>bnd (fun _=>False) v
def pK (h:wT) (F:Nat→Prop):List AV→Prop
 | []=>True
 | c::cs=>rI h F c∧pK h F cs
end
theorem qT1 {e:Env} {W:World} {b o' sz:Nat} {rows:List (List AV)} {L:List Nat} (l n:Nat) (hl:l+n≤rows.length) (h:yK e W b o' sz rows L) :
  ∃M,(∀x∈M,x∈L)∧yK e W b (o'+l*sz) sz ((rows.drop l).take n) M:=by
 have h0:rows=rows.take l++((rows.drop l).take n++rows.drop (l+n)):=by
  rw [←List.drop_drop,wA0,wA0]
 rw [h0] at h
 obtain ⟨M1,M2,_,h2,rfl⟩:=(jG _ _).1 h
 obtain ⟨M3,M4,h3,_,rfl⟩:=(jG _ _).1 h2
 rw [List.length_take,Nat.min_eq_left (by omega)] at h3
 exact ⟨M3,fun x hx=>by simp [hx],h3⟩
section
variable {e e':Env} {V:Nat→Prop} {h:wT} {Lf:Nat→List Nat} {F:Nat→Prop}
mutual
theorem qOr (hs:qG2 e e' V) (hr:RH e (qN h) Lf) (hV :∀nm,qN h nm≠none→¬F nm→∀b∈Lf nm,V b) :∀(v:AV) {c:Value},rI h F v→RV e v c []→RV e' (bwT h v) c []
 | .ns nm off len,c,hk,hv=>by
  simp only [rI] at hk
  obtain ⟨row,h1,h2,h3,h4⟩:=hk
  simp only [bwT,h1]
  have hV':=hV nm (by simp [h1]) h3
  rcases qHe (hr.row nm row h1) hv with ⟨_,q1,rfl,rfl,aa,rfl⟩ | ⟨q,A,Lr,hq,q1,q2,q3,q4,q5,rfl,q7⟩
  ·simp only [RV,q1,List.drop_nil,List.take_nil,bwR,true_and]
   exact .inl ⟨aa,0,rfl,fun _=>rfl⟩
  ·simp only [RV,true_and]
   by_cases hz:len=0
   ·subst hz
    exact .inl ⟨by simp [bwR],some A,_,rfl,by simp⟩
   ·refine .inr ⟨q.block,q.off+off*q.sz,q.cap-off,?_,?_,?_,?_⟩
    ·rw [q7 (by omega),dS]
     congr 1
     simp
     omega
    ·rw [dS]
     simp
     omega
    ·exact hs.bo _ (.inr (.inr (hV' _ (by rw [q4]; simp))))
    ·obtain ⟨M,m1,m2⟩:=qT1 off len h2 q3
     rw [←q1]
     exact nX hs _ (fun b hb=>hV' b (by rw [q4]; simp [m1 b hb])) (oV (kD h4 _) _) (fun o'=>by rw [hs.w0]) m2
 | .ptr nm i f,c,hk,hv=>by
  simp only [rI] at hk
  obtain ⟨row,h1,h2,h3,h4⟩:=hk
  simp only [bwT,h1]
  have hV':=hV nm (by simp [h1]) h3
  have hrow:=hr.row nm row h1
  obtain ⟨p,hp,rfl⟩:=pS hrow hv
  unfold uT gF at hrow
  rw [hp] at hrow
  obtain ⟨e1,e2,Lr,e3,e4⟩:=hrow
  obtain ⟨vs,L1,L2,L3,g1,g2,g3,g4,_,_,g7⟩:=eQ i h2 e3
  simp only [RV,true_and]
  have hgd:row.2.getD i []=row.2[i]:=cZ h2
  refine ⟨p.block,p.off+i*p.sz,vs,rfl,hs.bo _ (.inr (.inr (hV' _ (by rw [e4]; simp)))),?_,?_,?_⟩
  ·rw [aX,hgd,g1.1,g2]
  ·intro j hj
   rw [aX,hgd,g1.1] at hj
   rw [hs.w0]
   exact g3 j hj
  ·rw [hgd]
   exact rL hs _ (fun b hb=>hV' b (by rw [e4,g7]; simp [hb])) (yC.1 h4 _ (wAo h2)) g4
 | .agg cs,c,hk,hv=>by
  simp only [rI,bwT,RV] at hk hv⊢
  obtain ⟨vs,h1,h2⟩:=hv
  exact ⟨vs,h1,qK7 hs hr hV cs hk h2⟩
 | .tup cs,c,hk,hv=>by
  simp only [rI,bwT,RV] at hk hv⊢
  obtain ⟨vs,h1,h2⟩:=hv
  exact ⟨vs,h1,qK7 hs hr hV cs hk h2⟩
 | .any,c,hk,hv | .int _ _,c,hk,hv | .bool _,c,hk,hv | .str _,c,hk,hv | .fn _ _,c,hk,hv | .nilp,c,hk,hv | .fptr _ _ _,c,hk,hv | .nil,c,hk,hv | .nilI,c,hk,hv | .ifc,c,hk,hv | .sl _ _ _,c,hk,hv=>by
  simp only [rI] at hk
  simp only [bwT]
  exact qY1 hs _ (by simp) hk hv
theorem qK7 (hs:qG2 e e' V) (hr:RH e (qN h) Lf) (hV :∀nm,qN h nm≠none→¬F nm→∀b∈Lf nm,V b) :∀(l:List AV) {cs:List Value},pK h F l→RVs e l cs []→RVs e' (qFg h l) cs []
 | [],cs,_,hv=>by simpa only [RVs,qFg] using hv
 | v::l,cs,hk,hv=>by
  simp only [pK,qFg,RVs] at hk hv⊢
  obtain ⟨c,cs',L1,L2,h1,h2,h3,h4⟩:=hv
  have hL1:L1=[]:=(wY h4).1
  have hL2:L2=[]:=(wY h4).2
  subst hL1 hL2
  exact ⟨c,cs',[],[],h1,qOr hs hr hV v hk.1 h2,qK7 hs hr hV l hk.2 h3,rfl⟩
end
mutual
theorem qJa {A:Nat→Prop} {f:Nat→Nat} (hs:qCu e e') (hφ :∀n,A n→e'.φ (f n)=e.φ n) :∀(v:AV) {c:Value} {L:List Nat},(∀b∈L,e'.w.heap[b]?=e.w.heap[b]?)→okV A v→RV e v c L→RV e' (vG f v) c L
 | .ptr nm i o,c,L,hk,ha,h=>by
  simp only [okV,vG,RV] at ha h⊢
  rw [hφ nm ha]
  exact h
 | .ns nm o l,c,L,hk,ha,h=>by
  simp only [okV,vG,RV] at ha h⊢
  rw [hφ nm ha]
  exact h
 | .agg cs,c,L,hk,ha,h=>by
  simp only [okV,vG,RV] at ha h⊢
  obtain ⟨vs,h1,h2⟩:=h
  exact ⟨vs,h1,qD1 hs hφ cs hk ha h2⟩
 | .tup cs,c,L,hk,ha,h=>by
  simp only [okV,vG,RV] at ha h⊢
  obtain ⟨vs,h1,h2⟩:=h
  exact ⟨vs,h1,qD1 hs hφ cs hk ha h2⟩
 | .any,c,L,hk,ha,h=>by simpa only [vG,RV] using h
 | .int _ _,c,L,hk,ha,h | .bool _,c,L,hk,ha,h | .str _,c,L,hk,ha,h | .fn _ _,c,L,hk,ha,h | .nilp,c,L,hk,ha,h | .fptr _ _ _,c,L,hk,ha,h | .nil,c,L,hk,ha,h | .nilI,c,L,hk,ha,h
 | .ifc,c,L,hk,ha,h | .sl _ _ _,c,L,hk,ha,h=>by
  simp only [okV] at ha
  simp only [vG]
  exact qVx hs _ hk ha h
theorem qD1 {A:Nat→Prop} {f:Nat→Nat} (hs:qCu e e') (hφ :∀n,A n→e'.φ (f n)=e.φ n) :∀(l:List AV) {cs:List Value} {L:List Nat},(∀b∈L,e'.w.heap[b]?=e.w.heap[b]?)→okL A l→RVs e l cs L→RVs e' (aN f l) cs L
 | [],cs,L,_,_,h=>by simpa only [RVs,aN] using h
 | v::l,cs,L,hk,ha,h=>by
  simp only [okL,aN,RVs] at ha h⊢
  obtain ⟨c,cs',L1,L2,h1,h2,h3,h4⟩:=h
  subst h4
  exact ⟨c,cs',L1,L2,h1,qJa hs hφ v (fun b hb=>hk b (by simp [hb])) ha.1 h2,qD1 hs hφ l (fun b hb=>hk b (by simp [hb])) ha.2 h3,rfl⟩
end
end
mutual
theorem qDz {A B:Nat→Prop} {f:Nat→Nat} (hf :∀n,A n→B (f n)) :∀(v:AV),okV A v→bnd B (vG f v)
 | .ptr nm i o,h=>hf nm h
 | .ns nm o l,h=>hf nm h
 | .agg cs,h=>by simp only [okV,vG] at h⊢; exact sH hf cs h
 | .tup cs,h=>by simp only [okV,vG] at h⊢; exact sH hf cs h
 | .any,_=>trivial
 | .int _ _,h | .bool _,h | .str _,h | .fn _ _,h | .nilp,h | .fptr _ _ _,h | .nil,h | .nilI,h | .ifc,h | .sl _ _ _,h=>by
  simp only [okV] at h
  simp only [vG]
  exact qU4 _ h
theorem sH {A B:Nat→Prop} {f:Nat→Nat} (hf :∀n,A n→B (f n)) :∀(l:List AV),okL A l→jF B (aN f l)
 | [],_=>trivial
 | v::l,h=>⟨qDz hf v h.1,sH hf l h.2⟩
end
def okR (A:Nat→Prop):List (List AV)→Prop
 | []=>True
 | r::rs=>okL A r∧okR A rs
def aE (f:Nat→Nat):List (List AV)→List (List AV)
 | []=>[]
 | r::rs=>aN f r::aE f rs
def aF (f:Nat→Nat):Option Row→Option Row
 | none=>none
 | some r=>some (r.1,aE f r.2)
theorem qAd {f:Nat→Nat} {o:Option Row}:aF f o=none↔o=none:=by cases o<;>simp [aF]
theorem mI (f:Nat→Nat) :∀(l:List AV),(aN f l).length=l.length
 | []=>rfl
 | c::cs=>by simp [aN,mI f cs]
theorem fL (f:Nat→Nat) :∀(l:List (List AV)),(aE f l).length=l.length
 | []=>rfl
 | c::cs=>by simp [aE,fL f cs]
theorem qAe (f:Nat→Nat) :∀(l:List AV),(aN f l).all yM=l.all yM
 | []=>rfl
 | c::cs=>by
  simp only [aN,wA6,qAe f cs]
  congr 1
  cases c<;>rfl
mutual
theorem qWj (f:Nat→Nat) :∀(v:AV),nb v→vG f v=v
 | .ptr ..,h=>by simp [nb] at h
 | .ns ..,h=>by simp [nb] at h
 | .agg cs,h=>by simp only [vG,qD2 f cs (by simpa [nb] using h)]
 | .tup cs,h=>by simp only [vG,qD2 f cs (by simpa [nb] using h)]
 | .any,_ | .int _ _,_ | .bool _,_ | .str _,_ | .fn _ _,_ | .nilp,_ | .fptr _ _ _,_ | .nil,_ | .nilI,_ | .ifc,_ | .sl _ _ _,_=>by simp only [vG]
theorem qD2 (f:Nat→Nat) :∀(l:List AV),nbs l→aN f l=l
 | [],_=>rfl
 | c::cs,h=>by simp only [aN,qWj f c h.1,qD2 f cs h.2]
end
theorem eA (f:Nat→Nat) :∀(l:List (List AV)),nbr l→aE f l=l
 | [],_=>rfl
 | c::cs,h=>by simp only [aE,qD2 f c h.1,eA f cs h.2]
mutual
theorem qY9 {A:Nat→Prop} :∀(v:AV),nb v→okV A v
 | .ptr ..,h=>by simp [nb] at h
 | .ns ..,h=>by simp [nb] at h
 | .agg cs,h=>qJd cs (by simpa [nb] using h)
 | .tup cs,h=>qJd cs (by simpa [nb] using h)
 | .any,_=>trivial
 | .int _ _,h | .bool _,h | .str _,h | .fn _ _,h | .nilp,h | .fptr _ _ _,h | .nil,h | .nilI,h | .ifc,h | .sl _ _ _,h=>by simpa only [okV] using h
theorem qJd {A:Nat→Prop} :∀(l:List AV),nbs l→okL A l
 | [],_=>trivial
 | c::cs,h=>⟨qY9 c h.1,qJd cs h.2⟩
end
theorem aG {A:Nat→Prop} :∀(l:List (List AV)),nbr l→okR A l
 | [],_=>trivial
 | c::cs,h=>⟨qJd c h.1,aG cs h.2⟩
theorem sL {A:Nat→Prop} :∀(l:List (List AV)) (i:Nat) (r:List AV),okR A l→okL A r→okR A (l.set i r)
 | [],i,r,h,hr=>h
 | c::cs,0,r,h,hr=>⟨hr,h.2⟩
 | c::cs,i+1,r,h,hr=>⟨h.1,sL cs i r h.2 hr⟩
theorem qE0 (f:Nat→Nat) :∀(l:List (List AV)) (i:Nat) (r:List AV),aE f (l.set i r)=(aE f l).set i (aN f r)
 | [],i,r=>rfl
 | c::cs,0,r=>rfl
 | c::cs,i+1,r=>by simp only [List.set_cons_succ,aE,qE0 f cs i r]
theorem qL7 {A B:Nat→Prop} {f:Nat→Nat} (hf :∀n,A n→B (f n)) :∀(l:List (List AV)),okR A l→yQ B (aE f l)
 | [],_=>trivial
 | v::l,h=>⟨sH hf v h.1,qL7 hf l h.2⟩
theorem qIi {e e':Env} {A:Nat→Prop} {f:Nat→Nat} (hs:qCu e e') (hφ :∀n,A n→e'.φ (f n)=e.φ n) :∀(rs:List (List AV)) {W W':World} {b o sz:Nat} {L:List Nat},(∀b∈L,e'.w.heap[b]?=e.w.heap[b]?)→okR A rs→
  (∀o',W'.cell? ⟨b,o',none⟩=W.cell? ⟨b,o',none⟩)→yK e W b o sz rs L→yK e' W' b o sz (aE f rs) L
 | [],_,_,_,_,_,_,_,_,_,h=>by simpa only [yK,aE] using h
 | r::rs,W,W',b,o,sz,L,k,hb,hW,h=>by
  simp only [yK,aE] at h⊢
  obtain ⟨vs,L1,L2,h1,h2,h3,h4,h5,h6⟩:=h
  subst h6
  exact ⟨vs,L1,L2,by rw [mI,qAe]; exact h1,h2,fun j hj=>by rw [hW]; exact h3 j hj,qD1 hs hφ r (fun b hb=>k b (by simp [hb])) hb.1 h4,qIi hs hφ rs (fun b hb=>k b (by simp [hb])) hb.2 hW h5,rfl⟩
mutual
theorem qTs {e e':Env} {A:Nat→Prop} {f:Nat→Nat} (hs:qCu e e') (hφ :∀n,A n→e'.φ n=e.φ (f n)) :∀(v:AV) {c:Value} {L:List Nat},(∀b∈L,e'.w.heap[b]?=e.w.heap[b]?)→okV A v→RV e (vG f v) c L→RV e' v c L
 | .ptr nm i o,c,L,hk,ha,h=>by
  simp only [okV,vG,RV] at ha h⊢
  rw [hφ nm ha]
  exact h
 | .ns nm o l,c,L,hk,ha,h=>by
  simp only [okV,vG,RV] at ha h⊢
  rw [hφ nm ha]
  exact h
 | .agg cs,c,L,hk,ha,h=>by
  simp only [okV,vG,RV] at ha h⊢
  obtain ⟨vs,h1,h2⟩:=h
  exact ⟨vs,h1,sG hs hφ cs hk ha h2⟩
 | .tup cs,c,L,hk,ha,h=>by
  simp only [okV,vG,RV] at ha h⊢
  obtain ⟨vs,h1,h2⟩:=h
  exact ⟨vs,h1,sG hs hφ cs hk ha h2⟩
 | .any,c,L,hk,ha,h=>by simpa only [vG,RV] using h
 | .int _ _,c,L,hk,ha,h | .bool _,c,L,hk,ha,h | .str _,c,L,hk,ha,h | .fn _ _,c,L,hk,ha,h | .nilp,c,L,hk,ha,h | .fptr _ _ _,c,L,hk,ha,h | .nil,c,L,hk,ha,h | .nilI,c,L,hk,ha,h
 | .ifc,c,L,hk,ha,h | .sl _ _ _,c,L,hk,ha,h=>by
  simp only [okV] at ha
  simp only [vG] at h
  exact qVx hs _ hk ha h
theorem sG {e e':Env} {A:Nat→Prop} {f:Nat→Nat} (hs:qCu e e') (hφ :∀n,A n→e'.φ n=e.φ (f n)) :∀(l:List AV) {cs:List Value} {L:List Nat},(∀b∈L,e'.w.heap[b]?=e.w.heap[b]?)→okL A l→RVs e (aN f l) cs L→RVs e' l cs L
 | [],cs,L,_,_,h=>by simpa only [RVs,aN] using h
 | v::l,cs,L,hk,ha,h=>by
  simp only [okL,aN,RVs] at ha h⊢
  obtain ⟨c,cs',L1,L2,h1,h2,h3,h4⟩:=h
  subst h4
  exact ⟨c,cs',L1,L2,h1,qTs hs hφ v (fun b hb=>hk b (by simp [hb])) ha.1 h2,sG hs hφ l (fun b hb=>hk b (by simp [hb])) ha.2 h3,rfl⟩
end
theorem qIj {e e':Env} {A:Nat→Prop} {f:Nat→Nat} (hs:qCu e e') (hφ :∀n,A n→e'.φ n=e.φ (f n)) :∀(rs:List (List AV)) {W W':World} {b o sz:Nat} {L:List Nat},(∀b∈L,e'.w.heap[b]?=e.w.heap[b]?)→okR A rs→
  (∀o',W'.cell? ⟨b,o',none⟩=W.cell? ⟨b,o',none⟩)→yK e W b o sz (aE f rs) L→yK e' W' b o sz rs L
 | [],_,_,_,_,_,_,_,_,_,h=>by simpa only [yK,aE] using h
 | r::rs,W,W',b,o,sz,L,k,hb,hW,h=>by
  simp only [yK,aE] at h⊢
  obtain ⟨vs,L1,L2,h1,h2,h3,h4,h5,h6⟩:=h
  subst h6
  rw [mI,qAe] at h1
  exact ⟨vs,L1,L2,h1,h2,fun j hj=>by rw [hW]; exact h3 j hj,sG hs hφ r (fun b hb=>k b (by simp [hb])) hb.1 h4,qIj hs hφ rs (fun b hb=>k b (by simp [hb])) hb.2 hW h5,rfl⟩
end Go.Sep
namespace Go.Sep
set_option linter.unusedVariables false
set_option linter.unusedSimpArgs false
def ixm:List (Nat×Nat)→Nat→Nat
 | [],_=>0
 | (a,b)::σ,n=>if n=b then a else ixm σ n
def iE (ix:Nat→Nat) (h:wT):List Bool→List AV→List AV
 | _,[]=>[]
 | true::ps,v::vs=>vG ix v::iE ix h ps vs
 | false::ps,v::vs=>bwT h v::iE ix h ps vs
 | [],v::vs=>bwT h v::iE ix h [] vs
def dP (h:wT) (A F:Nat→Prop):List Bool→List AV→Prop
 | _,[]=>True
 | true::ps,v::vs=>okV A v∧dP h A F ps vs
 | false::ps,v::vs=>rI h F v∧dP h A F ps vs
 | [],v::vs=>rI h F v∧dP h A F [] vs
theorem qD7 {e e':Env} {V:Nat→Prop} {h:wT} {Lf:Nat→List Nat} {A F:Nat→Prop} {ix:Nat→Nat} (hs:qG2 e e' V) (hse:qCu e e') (hw:e'.w=e.w) (hr:RH e (qN h) Lf) (hV :∀nm,qN h nm≠none→¬F nm→∀b∈Lf nm,V b) (hφ :∀n,A n→e'.φ (ix n)=e.φ n) :
  ∀(ps:List Bool) (vs:List AV) {cs:List Value},dP h A F ps vs→RVs e vs cs []→RVs e' (iE ix h ps vs) cs []
 | ps,[],cs,_,hv=>by
  have:iE ix h ps []=[]:=by cases ps with
   | nil=>rfl
   | cons p ps=>cases p<;>rfl
  rw [this]
  simpa only [RVs] using hv
 | true::ps,v::vs,cs,hk,hv=>by
  simp only [dP,iE,RVs] at hk hv⊢
  obtain ⟨c,cs',L1,L2,h1,h2,h3,h4⟩:=hv
  have hL1:L1=[]:=(wY h4).1
  have hL2:L2=[]:=(wY h4).2
  subst hL1 hL2
  exact ⟨c,cs',[],[],h1,qJa hse hφ v (by simp) hk.1 h2,qD7 hs hse hw hr hV hφ ps vs hk.2 h3,rfl⟩
 | false::ps,v::vs,cs,hk,hv=>by
  simp only [dP,iE,RVs] at hk hv⊢
  obtain ⟨c,cs',L1,L2,h1,h2,h3,h4⟩:=hv
  have hL1:L1=[]:=(wY h4).1
  have hL2:L2=[]:=(wY h4).2
  subst hL1 hL2
  exact ⟨c,cs',[],[],h1,qOr hs hr hV v hk.1 h2,qD7 hs hse hw hr hV hφ ps vs hk.2 h3,rfl⟩
 | [],v::vs,cs,hk,hv=>by
  simp only [dP,iE,RVs] at hk hv⊢
  obtain ⟨c,cs',L1,L2,h1,h2,h3,h4⟩:=hv
  have hL1:L1=[]:=(wY h4).1
  have hL2:L2=[]:=(wY h4).2
  subst hL1 hL2
  exact ⟨c,cs',[],[],h1,qOr hs hr hV v hk.1 h2,qD7 hs hse hw hr hV hφ [] vs hk.2 h3,rfl⟩
theorem qN2 {e:Env} {ρ:Nat→AV} {a:Act} (ht :∀t,RV e (ρ t) (a.tmps.getD t undef) []) :∀(xs:List Operand) (ys:List Arg),qC9 e.num xs ys=true→RVs e (ys.map (Arg.ev ρ)) (xs.map a.eval) []
 | [],[],_=>by simp [RVs]
 | x::xs,y::ys,h=>by
  simp only [qC9,qZu] at h
  simp only [qZr,RVs]
  exact ⟨_,_,[],[],rfl,yD ht h.1,qN2 ht xs ys h.2,rfl⟩
 | [],_::_,h=>by simp [qC9] at h
 | _::_,[],h=>by simp [qC9] at h
theorem oJ {fp:FP} (hnd:(fp.map (·.1)).Nodup) {x:Nat×Option Row×Option Row} (hx:x∈fp):qN (vV fp) x.1=x.2.1:=by
 induction fp with
 | nil=>simp at hx
 | cons y fp ih =>
  obtain ⟨n,a,b⟩:=y
  simp only [qZr,wAg] at hnd
  have hnone:qN (vV fp) n=none:=by
   cases hh:qN (vV fp) n with
   | none=>rfl
   | some r=>exact absurd (cJ (by simp [hh])) hnd.1
  rcases List.mem_cons.1 hx with rfl | hx'
  ·cases a with
   | none=>simp only [vV]; exact hnone
   | some r=>simp [vV,qN]
  ·have hne:x.1≠n:=fun he=>hnd.1 (List.mem_map.2 ⟨x,hx',he⟩)
   cases a with
   | none=>simp only [vV]; exact ih hnd.2 hx'
   | some r=>simp only [vV,qN]; rw [if_neg hne]; exact ih hnd.2 hx'
theorem zH {fp:FP} (hnd:(fp.map (·.1)).Nodup) {x:Nat×Option Row×Option Row} (hx:x∈fp):qN (uS fp) x.1=x.2.2:=by
 induction fp with
 | nil=>simp at hx
 | cons y fp ih =>
  obtain ⟨n,a,b⟩:=y
  simp only [qZr,wAg] at hnd
  have hnone:qN (uS fp) n=none:=by
   cases hh:qN (uS fp) n with
   | none=>rfl
   | some r=>exact absurd (qHb (by simp [hh])) hnd.1
  rcases List.mem_cons.1 hx with rfl | hx'
  ·cases b with
   | none=>simp only [uS]; exact hnone
   | some r=>simp [uS,qN]
  ·have hne:x.1≠n:=fun he=>hnd.1 (List.mem_map.2 ⟨x,hx',he⟩)
   cases b with
   | none=>simp only [uS]; exact ih hnd.2 hx'
   | some r=>simp only [uS,qN]; rw [if_neg hne]; exact ih hnd.2 hx'
theorem qA4 :∀{fp:FP} {H:Nat→Option Row} {x:Nat×Option Row×Option Row},(fp.map (·.1)).Nodup→x∈fp→upH H fp x.1=x.2.2
 | [],H,x,_,hx=>by simp at hx
 | (n,a,b)::fp,H,x,hnd,hx=>by
  simp only [qZr,wAg] at hnd
  simp only [upH]
  rcases List.mem_cons.1 hx with rfl | hx
  ·rw [iI hnd.1,if_pos rfl]
  ·exact qA4 hnd.2 hx
def inv (f:Nat→Nat) (fp:FP) (n:Nat):Option Nat:=(fp.find? (fun x=>f x.1==n)).map (·.1)
theorem sY {f:Nat→Nat} {fp:FP} (hnd:(fp.map (fun x=>f x.1)).Nodup) {x:Nat×Option Row×Option Row} (hx:x∈fp):inv f fp (f x.1)=some x.1:=by
 induction fp with
 | nil=>simp at hx
 | cons y fp ih =>
  simp only [qZr,wAg] at hnd
  unfold inv
  rcases List.mem_cons.1 hx with rfl | hx
  ·simp
  ·have hne:f y.1≠f x.1:=fun he=>hnd.1 (List.mem_map.2 ⟨x,hx,he.symm⟩)
   rw [List.find?_cons_of_neg (by simpa using hne)]
   exact ih hnd.2 hx
theorem qUk {f:Nat→Nat} {fp:FP} {n:Nat} (h:n∉fp.map (fun x=>f x.1)):inv f fp n=none:=by
 unfold inv
 cases hh:fp.find? (fun x=>f x.1==n) with
 | none=>rfl
 | some x =>
  have h1:=List.find?_some hh
  have h2:=List.mem_of_find?_eq_some hh
  simp only [beq_iff_eq] at h1
  exact absurd (List.mem_map.2 ⟨x,h2,h1⟩) h
section
variable {P:Program} {num:Nat→Nat}
theorem qR7 {o:Oper} {a:Act} {w:World} {g:Nat} {args:Array Operand} {ats:Array TypeId} (hop:o.op=.call {callee:=.value (.func g),args,argTypes:=ats}) (hb:qYl P g) :
  (execOp a.eval o).run P w=.ok (.enter g (args.map a.eval)) w:=by
 obtain ⟨fn,hf,hname,hbd⟩:=hb
 have h1 :¬fn.name = "runtime.NumGoroutine":=by simpa using hname
 have h2 :¬fn.body=none:=by cases hx:fn.body<;>simp_all
 unfold execOp
 simp [hop,resolve,Deferred.ofValue,invoke,callFunc,hf,h1,h2,Act.eval]
theorem nZ.to {m:MOp} {t:List (Nat×AV)} {h:wT} {nx nx':Nat} {v:AV} {fp:FP} {dst:Option Nat} (hc:nZ P num m t h nx v fp nx'):rP P num m dst (.mk t h nx) (.mk (bX t dst v) (dQ h fp) nx'):=by
 intro B o a w K Q hnum hchk hdst hdok hs k
 obtain ⟨hsz,hdef,hb,hbt,φ,Lf,hl⟩:=hs
 obtain ⟨pb,hr⟩:=hc hb hbt
 subst hdst
 refine hr B o a w φ Lf K Q hnum hchk hl ?_
 intro e3 Lf3 v' TT g1
 obtain ⟨k1,k2,k3,Lf4,k4⟩:=hl.turn (d:=o.dst) hsz hdok hb hbt pb TT g1
 exact k _ _ ⟨by rw [mL]; exact hsz,by rw [cS]; exact hdef,k2,k3,e3.φ,Lf4,k4⟩
def qKh (P:Program) (num:Nat→Nat) (m:MOp) (f:Nat) (xs:List Arg) (t:List (Nat×AV)):Prop :=
 ∀(e:Env) (o:Oper) (a:Act) (w:World),e.num=num→wX P num m o.op=true→(∀n,RV e (wB t n) (a.tmps.getD n undef) [])→
  ∃args:Array Operand,qC9 num args.toList xs=true∧(execOp a.eval o).run P w=.ok (.enter (num f) (args.map a.eval)) w
theorem qOp {f:Nat} {ps:List Bool} {xs:List Arg} {t:List (Nat×AV)} (hb:qYl P (num f)):qKh P num (.call f ps xs) f xs t:=by
 intro e o a w hn hchk htm
 simp only [wX] at hchk
 split at hchk
 ·rename_i g args ats hop
  simp only [qZu,beq_iff_eq] at hchk
  obtain ⟨rfl,hchk⟩:=hchk
  exact ⟨args,hchk,qR7 hop hb⟩
 ·simp at hchk
theorem qVn {m:MOp} {f nx n1:Nat} {ps:List Bool} {xs:List Arg} {t:List (Nat×AV)} {h:wT} {fp:FP} {res:AV} {vargs:List AV} (σ:List (Nat×Nat)) (hc:wD P num f vargs fp res)
  (hv:wM (iE (ixm σ) h ps (xs.map (Arg.ev (wB t)))) vargs)
  (hvo:dP h (fun n =>∃x∈fp,x.2.1≠none∧n=rnm σ x.1∧ixm σ n=x.1) (fun n =>∃x∈fp,n=rnm σ x.1) ps (xs.map (Arg.ev (wB t))))
  (hnd:(fp.map (fun x=>rnm σ x.1)).Nodup) (hpre :∀x∈fp,qN h (rnm σ x.1)=aF (rnm σ) x.2.1∧(x.2.1=none→nx≤rnm σ x.1)∧rnm σ x.1<n1)
  (hnb :∀x∈fp,(∀r,x.2.1=some r→okR (fun k =>∃y∈fp,y.1=k∧y.2.1≠none) r.2)∧(∀r,x.2.2=some r→okR (fun k =>∃y∈fp,y.1=k∧y.2.2≠none) r.2)) (hres:okV (fun k =>∃x∈fp,x.1=k∧x.2.2≠none) res) (hn1:nx≤n1) (hm:qKh P num m f xs t) :
  nZ P num m t h nx (yF n1 (vG (rnm σ) res)).1 (fp.map (fun x=>(rnm σ x.1,aF (rnm σ) x.2.1,aF (rnm σ) x.2.2))++fresh (yF n1 (vG (rnm σ) res)).2.1) (yF n1 (vG (rnm σ) res)).2.2:=by
 intro hb hbt
 let rn:=rnm σ
 have hnd0:(fp.map (·.1)).Nodup:=by
  have:fp.map (fun x=>rnm σ x.1)=(fp.map (·.1)).map (rnm σ):=by simp
  rw [this] at hnd
  exact List.Pairwise.of_map (rnm σ) (fun a b h he=>h (by rw [he])) hnd
 have rinj :∀x∈fp,∀y∈fp,rnm σ x.1=rnm σ y.1→x.1=y.1:=by
  intro x hx y hy he
  have h1:=sY hnd hx
  have h2:=sY hnd hy
  rw [he,h2] at h1
  exact (Option.some.inj h1).symm
 have preS :∀k,qN (vV fp) k≠none→∃x∈fp,x.1=k∧x.2.1=qN (vV fp) k:=by
  intro k hk
  obtain ⟨x,hx,rfl⟩:=List.mem_map.1 (cJ hk)
  exact ⟨x,hx,rfl,(oJ hnd0 hx).symm⟩
 have preR :∀k,qN (vV fp) k≠none→qN h (rnm σ k)=aF (rnm σ) (qN (vV fp) k):=by
  intro k hk
  obtain ⟨x,hx,rfl,h1⟩:=preS k hk
  rw [(hpre x hx).1,h1]
 have preN :∀k,qN (vV fp) k≠none→qN h (rnm σ k)≠none:=by
  intro k hk
  rw [preR k hk]
  exact fun h=>hk (qAd.1 h)
 have hbres:bnd (· < n1) (vG (rnm σ) res):=qDz (A:=fun k =>∃x∈fp,x.1=k∧x.2.2≠none) (fun n ⟨x,hx,he,_⟩=>by rw [←he]; exact (hpre x hx).2.2) res hres
 have hle:=cT (vG (rnm σ) res) n1
 have opnone :∀y∈(yF n1 (vG (rnm σ) res)).2.1,qN h y.1=none:=fun y hy=>hb.new (wB8 hn1 (hle.2 y hy).1)
 have hob:=qHc (vG (rnm σ) res) n1 hbres
 have pb:PB h nx (yF n1 (vG (rnm σ) res)).1 (fp.map (fun x=>(rnm σ x.1,aF (rnm σ) x.2.1,aF (rnm σ) x.2.2))++fresh (yF n1 (vG (rnm σ) res)).2.1) (yF n1 (vG (rnm σ) res)).2.2:={
  le:=wB8 hn1 hle.1
  v:=hob.1
  pre:=fun x hx=>by
   rcases List.mem_append.1 hx with hx | hx
   ·obtain ⟨y,hy,rfl⟩:=List.mem_map.1 hx
    exact (hpre y hy).1
   ·obtain ⟨y,hy,rfl⟩:=List.mem_map.1 hx
    exact opnone y hy
  new:=fun x hx hn=>by
   rcases List.mem_append.1 hx with hx | hx
   ·obtain ⟨y,hy,rfl⟩:=List.mem_map.1 hx
    exact (hpre y hy).2.1 (qAd.1 hn)
   ·obtain ⟨y,hy,rfl⟩:=List.mem_map.1 hx
    exact wB8 hn1 (hle.2 y hy).1
  lt:=fun x hx=>by
   rcases List.mem_append.1 hx with hx | hx
   ·obtain ⟨y,hy,rfl⟩:=List.mem_map.1 hx
    exact wAv (hpre y hy).2.2 hle.1
   ·obtain ⟨y,hy,rfl⟩:=List.mem_map.1 hx
    exact (hle.2 y hy).2
  row:=fun x hx row hr=>by
   rcases List.mem_append.1 hx with hx | hx
   ·obtain ⟨y,hy,rfl⟩:=List.mem_map.1 hx
    cases hr2:y.2.2 with
    | none=>simp [hr2,aF] at hr
    | some r0 =>
     simp only [hr2,aF,Option.some.injEq] at hr
     subst hr
     exact qL7 (fun n ⟨z,hz,he,_⟩=>by rw [←he]; exact wAv (hpre z hz).2.2 hle.1) _ ((hnb y hy).2 r0 hr2)
   ·obtain ⟨y,hy,rfl⟩:=List.mem_map.1 hx
    simp only [Option.some.injEq] at hr
    subst hr
    exact hob.2 y hy}
 refine ⟨pb,?_⟩
 intro B o a w φ Lf K Q hnum hchk hl k
 subst hnum
 let V:Nat→Prop:=fun b =>∃nm,qN h nm≠none∧(¬∃x∈fp,nm=rnm σ x.1)∧b∈Lf nm
 classical
 let ec:Env:={num:=B.num,w:=w,w0:=w,φ:=fun n=>if qN (vV fp) n≠none then φ (rnm σ n) else .dead,Fr:=B.Fr,Bo:=fun b=>B.Bo b∨V b}
 let Lc:Nat→List Nat:=fun n=>Lf (rnm σ n)
 let e:Env:=B.env w φ
 have hfz :∀b,B.Fr b∨B.Bo b→∀o,w.cell? ⟨b,o,none⟩=B.w0.cell? ⟨b,o,none⟩:=fun b hb' o=>hl.ok.frozen_cell hb' o
 have hlend:qG2 e ec V:={num:=rfl,w0:=rfl,fr:=fun b hb'=>hb',bo:=fun b hb'=>hb'.elim .inl (fun h=>h.elim (fun h1=>.inr (.inl h1)) (fun h1=>.inr (.inr h1))),cells:=hfz}
 have hsee:qCu e ec:={num:=rfl,fr:=fun b hb'=>hb',cells:=fun b hb' o=>hfz b (.inl hb') o}
 have φc :∀n,qN (vV fp) n≠none→ec.φ n=φ (rnm σ n):=fun n hn=>by
  show (if qN (vV fp) n≠none then φ (rnm σ n) else vA.dead)=φ (rnm σ n)
  rw [if_pos hn]
 have hVl :∀b,V b→b<w.heap.size∧∀n,qN (vV fp) n≠none→b∉Lc n:=by
  rintro b ⟨nm,h1,h2,h3⟩
  refine ⟨(hl.ok.rh.blk nm h1 b h3).1,fun n hn hbn=>?_⟩
  obtain ⟨x,hx,rfl,h4⟩:=preS n hn
  exact hl.ok.rh.dis nm (rnm σ x.1) h1 (preN _ hn) (fun he=>h2 ⟨x,hx,he⟩) b h3 hbn
 have hokc:Ok ec (qB9 Lc (vV fp)) (qN (vV fp)) Lc:={
  size0:=qZt _
  io0:=gE.refl _
  fr:=fun b hb'=>by
   rcases hb' with h1 | h1 | h1
   ·have h2:=hl.ok.fr b (.inl h1)
    refine ⟨wAv h2.1 hl.ok.size0,fun hm=>?_⟩
    obtain ⟨n,h3,h4⟩:=mZ hm
    exact (hl.ok.rh.blk (rnm σ n) (preN n h3) b h4).2.1 h1
   ·have h2:=hl.ok.fr b (.inr h1)
    refine ⟨wAv h2.1 hl.ok.size0,fun hm=>?_⟩
    obtain ⟨n,h3,h4⟩:=mZ hm
    exact (hl.ok.rh.blk (rnm σ n) (preN n h3) b h4).2.2 h1
   ·refine ⟨(hVl b h1).1,fun hm=>?_⟩
    obtain ⟨n,h3,h4⟩:=mZ hm
    exact (hVl b h1).2 n h3 h4
  keep0:=fun b _ _=>rfl
  own0:=fun n hn b hb'=>.inl (qVt hn hb')
  rh:={
   row:=fun n row hr=>by
    have hn:qN (vV fp) n≠none:=by simp [hr]
    obtain ⟨x,hx,rfl,h4⟩:=preS n hn
    have h5:=hl.ok.rh.row (rnm σ x.1) (row.1,aE (rnm σ) row.2) (by rw [preR _ hn,hr]; rfl)
    have h6:=(hnb x hx).1 row (by rw [h4,hr])
    unfold uT gF at h5⊢
    rw [φc _ hn]
    have h5':(match φ (rnm σ x.1) with | .dead=>False | .nilp=>aE (rnm σ) row.2=[]∧Lf (rnm σ x.1)=[] | .at p=>p.sz=row.1∧fF w p (aE (rnm σ) row.2).length∧∃Lr,yK e w p.block p.off p.sz (aE (rnm σ) row.2) Lr∧Lf (rnm σ x.1)=p.block::Lr):=h5
    cases hq:φ (rnm σ x.1) with
    | dead=>rw [hq] at h5'; exact h5'
    | nilp =>
     rw [hq] at h5'
     refine ⟨?_,h5'.2⟩
     have:=fL (rnm σ) row.2
     rw [h5'.1] at this
     exact List.eq_nil_of_length_eq_zero this.symm
    | «at» p =>
     rw [hq] at h5'
     obtain ⟨g1,g2,Lr,g3,g4⟩:=h5'
     rw [fL] at g2
     exact ⟨g1,g2,Lr,qIj (f:=rnm σ) hsee (fun n ⟨y,hy,he,hyn⟩=>by rw [←he]; exact φc _ (by rw [oJ hnd0 hy]; exact hyn)) row.2 (fun b _=>rfl) h6 (fun _=>rfl) g3,g4⟩
   nodup:=fun n hn=>hl.ok.rh.nodup _ (preN n hn)
   blk:=fun n hn b hb'=>by
    have h1:=hl.ok.rh.blk (rnm σ n) (preN n hn) b hb'
    refine ⟨h1.1,h1.2.1,fun hbo=>?_⟩
    rcases hbo with h2 | h2
    ·exact h1.2.2 h2
    ·exact (hVl b h2).2 n hn hb'
   dis:=fun n m hn hm hne b hb'=>by
    refine hl.ok.rh.dis _ _ (preN n hn) (preN m hm) (fun he=>hne ?_) b hb'
    obtain ⟨x,hx,rfl,_⟩:=preS n hn
    obtain ⟨y,hy,rfl,_⟩:=preS m hm
    exact rinj x hx y hy he
   dead:=fun n hn=>by
    show (if qN (vV fp) n≠none then φ (rnm σ n) else vA.dead)=vA.dead
    rw [if_neg (by simp [hn])]}}
 obtain ⟨args,hchk,hrun⟩:=hm e o a w rfl hchk hl.tm
 ·have hargs:=qN2 (e:=e) (ρ:=wB t) (a:=a) hl.tm args.toList xs hchk
  have hargs':RVs ec vargs (args.toList.map a.eval) []:=by
   refine oG hv (qD7 hlend hsee rfl hl.ok.rh (fun nm h1 h2 b h3=>⟨nm,h1,h2,h3⟩) ?_ ps _ hvo hargs)
   rintro n ⟨x,hx,h1,rfl,h3⟩
   rw [h3]
   exact φc _ (by rw [oJ hnd0 hx]; exact h1)
  unfold Oper.wp
  rw [hrun,Oper.upon_enter]
  have hcs:args.map a.eval=(args.toList.map a.eval).toArray:=by rw [←Array.toList_map,Array.toArray_toList]
  rw [hcs]
  refine Calls.mono (hc.2 ec Lc _ rfl rfl hokc hargs') ?_
  intro en w' hen
  cases en with
  | panicked ch=>exact hen.elim
  | outgrown=>exact hen.elim
  | returned v =>
   obtain ⟨e2,Lf2,L,rfl,T,hrv,hLn,hLb,hLd⟩:=hen
   let res':=vG (rnm σ) res
   let opn:=(yF n1 res').2.1
   let cfp:FP:=fp.map (fun x=>(rnm σ x.1,aF (rnm σ) x.2.1,aF (rnm σ) x.2.2))++fresh opn
   let φ2:Nat→vA:=fun n=>match inv (rnm σ) fp n with | some k=>e2.φ k | none=>φ n
   have φ2in :∀x∈fp,φ2 (rnm σ x.1)=e2.φ x.1:=fun x hx=>by
    show (match inv (rnm σ) fp (rnm σ x.1) with | some k=>e2.φ k | none=>φ (rnm σ x.1))=e2.φ x.1
    rw [sY hnd hx]
   have φ2out :∀n,n∉fp.map (fun x=>rnm σ x.1)→φ2 n=φ n:=fun n hn=>by
    show (match inv (rnm σ) fp n with | some k=>e2.φ k | none=>φ n)=φ n
    rw [qUk hn]
   let e2':Env:=B.env e2.w φ2
   have hsee2 :∀ψ:Nat→vA,qCu e2 (B.env e2.w ψ):=fun ψ=>{num:=T.num.symm,fr:=fun b hb'=>(by rw [T.Fr] at hb'; exact hb'),cells:=fun b hb' o=>(by
    rw [T.Fr] at hb'
    rw [T.w0]
    exact (hfz b (.inl hb') o).symm)}
   have hrv2:RV e2' res' v L:=by
    refine qJa (hsee2 φ2) (A:=fun k =>∃x∈fp,x.1=k∧x.2.2≠none) ?_ res (fun b _=>rfl) hres hrv
    rintro n ⟨x,hx,rfl,_⟩
    exact φ2in x hx
   have hbres:bnd (· < n1) res':=qDz (A:=fun k =>∃x∈fp,x.1=k∧x.2.2≠none) (fun n ⟨x,hx,he,_⟩=>by rw [←he]; exact (hpre x hx).2.2) res hres
   obtain ⟨S,s1,s2,s3⟩:=qLd (A:=(· < n1)) res' n1 hbres hrv2
   have hle:=cT res' n1
   have hSnd:(S.map (·.1)).Nodup:=by rw [s1]; exact mQ res' n1
   have Sname :∀x∈S,n1≤x.1:=fun x hx=>by
    have hm:x.1∈S.map (·.1):=List.mem_map.2 ⟨x,hx,rfl⟩
    rw [s1] at hm
    obtain ⟨z,hz,hzx⟩:=List.mem_map.1 hm
    rw [←hzx]
    exact (hle.2 z hz).1
   have Sout :∀n,n<n1→n∉S.map (·.1):=fun n hn hm=>by
    obtain ⟨x,hx,rfl⟩:=List.mem_map.1 hm
    have:=Sname x hx
    omega
   let e3:Env:=B.env e2.w (hO S φ2)
   have φ3in :∀x∈S,e3.φ x.1=x.2.1:=fun x hx=>by
    show hO S φ2 x.1=x.2.1
    unfold hO
    rw [tG hSnd hx]
   have φ3out :∀n,n∉S.map (·.1)→e3.φ n=φ2 n:=fun n hn=>by
    show hO S φ2 n=φ2 n
    unfold hO
    rw [qB0 hn]
   have hkeep:dD e2' e3 (· < n1) L:={num:=rfl,fr:=fun m b hb'=>by cases m<;>exact hb',cells:=fun b _ o=>rfl,φ:=fun n hn=>.inl (φ3out n (Sout n hn)),own:=fun b _=>rfl}
   obtain ⟨g1,g2⟩:=s3 e3 φ3in hkeep
   let Lf3:Nat→List Nat:=nT S (fun n=>match inv (rnm σ) fp n with | some k=>Lf2 k | none=>Lf n)
   have L3in :∀x∈S,Lf3 x.1=x.2.2:=fun x hx=>by
    show nT S _ x.1=x.2.2
    unfold nT
    rw [tG hSnd hx]
   have L3fp :∀x∈fp,Lf3 (rnm σ x.1)=Lf2 x.1:=fun x hx=>by
    show nT S _ (rnm σ x.1)=Lf2 x.1
    unfold nT
    rw [qB0 (Sout _ (hpre x hx).2.2)]
    simp only [sY hnd hx]
   have φ3fp :∀x∈fp,e3.φ (rnm σ x.1)=e2.φ x.1:=fun x hx=>by rw [φ3out _ (Sout _ (hpre x hx).2.2),φ2in x hx]
   have cnd:(cfp.map (·.1)).Nodup:=by
    show ((fp.map (fun x=>(rnm σ x.1,aF (rnm σ) x.2.1,aF (rnm σ) x.2.2))++fresh opn).map (·.1)).Nodup
    rw [wB7]
    refine List.nodup_append.2 ⟨by simpa [Function.comp_def] using hnd,by simpa [fresh,Function.comp_def] using mQ res' n1,?_⟩
    intro x hx y hy hxy
    subst hxy
    simp only [wB9,wBa,Function.comp] at hx
    obtain ⟨z,hz,rfl⟩:=hx
    simp only [fresh,wB9,wBa,Function.comp] at hy
    obtain ⟨u,hu,hu2⟩:=hy
    have h1:=(hle.2 u hu).1
    have h2:=(hpre z hz).2.2
    omega
   have memc :∀n,n∈cfp.map (·.1)↔(∃x∈fp,n=rnm σ x.1)∨∃y∈opn,n=y.1:=by
    intro n
    show n∈(fp.map (fun x=>(rnm σ x.1,aF (rnm σ) x.2.1,aF (rnm σ) x.2.2))++fresh opn).map (·.1)↔_
    simp only [wB7,wAu,wB9,fresh,wBa,Function.comp]
    constructor
    ·rintro (⟨x,hx,rfl⟩ | ⟨x,hx,rfl⟩)
     ·exact .inl ⟨x,hx,rfl⟩
     ·exact .inr ⟨x,hx,rfl⟩
    ·rintro (⟨x,hx,rfl⟩ | ⟨x,hx,rfl⟩)
     ·exact .inl ⟨x,hx,rfl⟩
     ·exact .inr ⟨x,hx,rfl⟩
   have upfp :∀x∈fp,upH (qN h) cfp (rnm σ x.1)=aF (rnm σ) x.2.2:=fun x hx =>
    qA4 (x:=(rnm σ x.1,aF (rnm σ) x.2.1,aF (rnm σ) x.2.2)) cnd (List.mem_append_left _ (List.mem_map.2 ⟨x,hx,rfl⟩))
   have upop :∀y∈opn,upH (qN h) cfp y.1=some y.2:=fun y hy =>
    qA4 (x:=(y.1,none,some y.2)) cnd (List.mem_append_right _ (List.mem_map.2 ⟨y,hy,rfl⟩))
   have opnone :∀y∈opn,qN h y.1=none:=fun y hy=>hb.new (wB8 hn1 (hle.2 y hy).1)
   have opS :∀y∈opn,∃x∈S,x.1=y.1:=fun y hy=>by
    have hm:y.1∈opn.map (·.1):=List.mem_map.2 ⟨y,hy,rfl⟩
    rw [←s1] at hm
    obtain ⟨x,hx,hxy⟩:=List.mem_map.1 hm
    exact ⟨x,hx,hxy⟩
   have own2 :∀b,(e2.w.heap.size>b∧(w.heap.size≤b∨∃m,m∈fp.map (·.1)∧qN (vV fp) m≠none∧b∈Lc m))→b<e2.w.heap.size∧(w.heap.size≤b∨∃m,m∈cfp.map (·.1)∧qN h m≠none∧b∈Lf m):=by
    rintro b ⟨h1,h2⟩
    refine ⟨h1,h2.imp id ?_⟩
    rintro ⟨m,h3,h4,h5⟩
    obtain ⟨x,hx,rfl⟩:=List.mem_map.1 h3
    exact ⟨rnm σ x.1,(memc _).2 (.inl ⟨x,hx,rfl⟩),preN _ h4,h5⟩
   have TT:dI e (qN h) Lf (fun n=>n∈cfp.map (·.1)) e3 (upH (qN h) cfp) Lf3:={
    num:=rfl
    w0:=rfl
    Fr:=rfl
    Bo:=rfl
    io:=T.io
    size:=T.size
    keep:=fun b h1 h2=>T.keep b h1 (fun m hm hp hbm=>by
     obtain ⟨x,hx,rfl⟩:=List.mem_map.1 hm
     exact h2 (rnm σ x.1) ((memc _).2 (.inl ⟨x,hx,rfl⟩)) (preN _ hp) hbm)
    φ:=fun n hn=>by
     have h1:n∉S.map (·.1):=fun hm=>by
      rw [s1] at hm
      obtain ⟨y,hy,rfl⟩:=List.mem_map.1 hm
      exact hn ((memc _).2 (.inr ⟨y,hy,rfl⟩))
     rw [φ3out n h1,φ2out n (fun hm=>by
      obtain ⟨x,hx,rfl⟩:=List.mem_map.1 hm
      exact hn ((memc _).2 (.inl ⟨x,hx,rfl⟩)))]
     rfl
    φF:=fun n hn hp=>by
     rcases (memc n).1 hn with ⟨x,hx,rfl⟩ | ⟨y,hy,rfl⟩
     ·rw [φ3fp x hx]
      have hpx:qN (vV fp) x.1≠none:=by
       rw [oJ hnd0 hx]
       intro h0
       exact hp (by show qN h _=none; rw [(hpre x hx).1,h0]; rfl)
      rcases T.φF x.1 (List.mem_map.2 ⟨x,hx,rfl⟩) hpx with h1 | h1
      ·rw [h1,φc _ hpx]; exact .inl rfl
      ·exact .inr h1
     ·exact absurd (opnone y hy) hp
    rest:=fun n hn=>iI hn
    row:=fun n row hn hr=>by
     rcases (memc n).1 hn with ⟨x,hx,rfl⟩ | ⟨y,hy,rfl⟩
     ·rw [upfp x hx] at hr
      cases hr2:x.2.2 with
      | none=>simp [hr2,aF] at hr
      | some r0 =>
      simp only [hr2,aF,Option.some.injEq] at hr
      subst hr
      have h1:=T.row x.1 r0 (List.mem_map.2 ⟨x,hx,rfl⟩) (by rw [zH hnd0 hx,hr2])
      have h2:=(hnb x hx).2 r0 hr2
      rw [L3fp x hx]
      unfold uT gF at h1⊢
      rw [φ3fp x hx]
      cases hq:e2.φ x.1 with
      | dead=>rw [hq] at h1; exact h1
      | nilp =>
       rw [hq] at h1
       exact ⟨by rw [h1.1]; rfl,h1.2⟩
      | «at» p =>
       rw [hq] at h1
       obtain ⟨k1,k2,Lr,k3,k4⟩:=h1
       exact ⟨k1,by rw [fL]; exact k2,Lr,qIi (f:=rnm σ) (hsee2 _) (fun n ⟨y,hy,he,_⟩=>by rw [←he]; exact φ3fp y hy) r0.2 (fun b _=>rfl) h2 (fun _=>rfl) k3,k4⟩
     ·rw [upop y hy] at hr
      simp only [Option.some.injEq] at hr
      subst hr
      obtain ⟨x,hx,hxy⟩:=opS y hy
      have h1:=g2 x hx y.2 (by rw [hxy]; exact hy)
      rw [←hxy]
      unfold uT
      rw [φ3in x hx,L3in x hx]
      exact h1
    nodup:=fun n hn hp=>by
     rcases (memc n).1 hn with ⟨x,hx,rfl⟩ | ⟨y,hy,rfl⟩
     ·rw [upfp x hx] at hp
      rw [L3fp x hx]
      exact T.nodup x.1 (List.mem_map.2 ⟨x,hx,rfl⟩) (by rw [zH hnd0 hx]; exact fun h0=>hp (by rw [h0]; rfl))
     ·obtain ⟨x,hx,hxy⟩:=opS y hy
      rw [←hxy,L3in x hx]
      rw [s2] at hLn
      exact fN (f:=fun (x:Nat×vA×List Nat)=>x.2.2) hLn hx
    blk:=fun n hn hp b hb'=>by
     rcases (memc n).1 hn with ⟨x,hx,rfl⟩ | ⟨y,hy,rfl⟩
     ·rw [upfp x hx] at hp
      rw [L3fp x hx] at hb'
      exact own2 b (T.blk x.1 (List.mem_map.2 ⟨x,hx,rfl⟩) (by rw [zH hnd0 hx]; exact fun h0=>hp (by rw [h0]; rfl)) b hb')
     ·obtain ⟨x,hx,hxy⟩:=opS y hy
      rw [←hxy,L3in x hx] at hb'
      exact own2 b (hLb b (by rw [s2]; exact List.mem_flatMap.2 ⟨x,hx,hb'⟩))
    dis:=fun n m hn hm hp hq hne b hb1 hb2=>by
     rcases (memc n).1 hn with ⟨x,hx,rfl⟩ | ⟨y,hy,rfl⟩<;>rcases (memc m).1 hm with ⟨x',hx',rfl⟩ | ⟨y',hy',rfl⟩
     ·rw [upfp x hx] at hp
      rw [upfp x' hx'] at hq
      rw [L3fp x hx] at hb1
      rw [L3fp x' hx'] at hb2
      exact T.dis x.1 x'.1 (List.mem_map.2 ⟨x,hx,rfl⟩) (List.mem_map.2 ⟨x',hx',rfl⟩) (by rw [zH hnd0 hx]; exact fun h0=>hp (by rw [h0]; rfl)) (by rw [zH hnd0 hx']; exact fun h0=>hq (by rw [h0]; rfl)) (fun he=>hne (by rw [he])) b hb1 hb2
     ·rw [upfp x hx] at hp
      rw [L3fp x hx] at hb1
      obtain ⟨z,hz,hzy⟩:=opS y' hy'
      rw [←hzy,L3in z hz] at hb2
      exact hLd b (by rw [s2]; exact List.mem_flatMap.2 ⟨z,hz,hb2⟩) x.1 (List.mem_map.2 ⟨x,hx,rfl⟩) (by rw [zH hnd0 hx]; exact fun h0=>hp (by rw [h0]; rfl)) hb1
     ·rw [upfp x' hx'] at hq
      rw [L3fp x' hx'] at hb2
      obtain ⟨z,hz,hzy⟩:=opS y hy
      rw [←hzy,L3in z hz] at hb1
      exact hLd b (by rw [s2]; exact List.mem_flatMap.2 ⟨z,hz,hb1⟩) x'.1 (List.mem_map.2 ⟨x',hx',rfl⟩) (by rw [zH hnd0 hx']; exact fun h0=>hq (by rw [h0]; rfl)) hb2
     ·obtain ⟨z,hz,hzy⟩:=opS y hy
      obtain ⟨z',hz',hzy'⟩:=opS y' hy'
      rw [←hzy,L3in z hz] at hb1
      rw [←hzy',L3in z' hz'] at hb2
      rw [s2] at hLn
      exact pI hLn hz hz' (fun he=>hne (by rw [←hzy,←hzy',he])) hb1 hb2
    dead:=fun n hn hp=>by
     rcases (memc n).1 hn with ⟨x,hx,rfl⟩ | ⟨y,hy,rfl⟩
     ·rw [upfp x hx] at hp
      rw [φ3fp x hx]
      exact T.dead x.1 (List.mem_map.2 ⟨x,hx,rfl⟩) (by rw [zH hnd0 hx]; exact qAd.1 hp)
     ·rw [upop y hy] at hp
      simp at hp}
   exact k e3 Lf3 _ TT g1
theorem qVo {m:MOp} {f nx n1:Nat} {ps:List Bool} {xs:List Arg} {t:List (Nat×AV)} {h:wT} {fp:FP} {res:AV} {vargs:List AV} (σ:List (Nat×Nat)) (hc:wD P num f vargs fp res)
  (hv:wM (iE (ixm σ) h ps (xs.map (Arg.ev (wB t)))) vargs)
  (hvo:dP h (fun n =>∃x∈fp,x.2.1≠none∧n=rnm σ x.1∧ixm σ n=x.1) (fun n =>∃x∈fp,n=rnm σ x.1) ps (xs.map (Arg.ev (wB t))))
  (hnd:(fp.map (fun x=>rnm σ x.1)).Nodup) (hpre :∀x∈fp,qN h (rnm σ x.1)=x.2.1∧(x.2.1=none→nx≤rnm σ x.1)∧rnm σ x.1<n1)
  (hnb :∀x∈fp,(∀r,x.2.1=some r→nbr r.2)∧(∀r,x.2.2=some r→nbr r.2)) (hres:okV (fun k =>∃x∈fp,x.1=k∧x.2.2≠none) res) (hn1:nx≤n1) (hm:qKh P num m f xs t) :
  nZ P num m t h nx (yF n1 (vG (rnm σ) res)).1 (fp.map (fun x=>(rnm σ x.1,x.2))++fresh (yF n1 (vG (rnm σ) res)).2.1) (yF n1 (vG (rnm σ) res)).2.2:=by
 have hp :∀x∈fp,aF (rnm σ) x.2.1=x.2.1∧aF (rnm σ) x.2.2=x.2.2:=fun x hx=>by
  have:=hnb x hx
  constructor
  ·cases h1:x.2.1 with
   | none=>rfl
   | some r=>simp only [aF,eA _ _ (this.1 r h1)]
  ·cases h1:x.2.2 with
   | none=>rfl
   | some r=>simp only [aF,eA _ _ (this.2 r h1)]
 have he:fp.map (fun x=>(rnm σ x.1,x.2))=fp.map (fun x=>(rnm σ x.1,aF (rnm σ) x.2.1,aF (rnm σ) x.2.2)) :=
  List.map_congr_left fun x hx=>by rw [(hp x hx).1,(hp x hx).2]
 rw [he]
 exact qVn σ hc hv hvo hnd (fun x hx=>by rw [(hp x hx).1]; exact hpre x hx) (fun x hx=>⟨fun r hr=>aG _ ((hnb x hx).1 r hr),fun r hr=>aG _ ((hnb x hx).2 r hr)⟩) hres hn1 hm
theorem qK6 {f nx n1:Nat} {ps:List Bool} {xs:List Arg} {t:List (Nat×AV)} {h:wT} {fp:FP} {res:AV} {vargs:List AV} (σ:List (Nat×Nat)) (hc:wD P num f vargs fp res)
  (hv:wM (iE (ixm σ) h ps (xs.map (Arg.ev (wB t)))) vargs)
  (hvo:dP h (fun n =>∃x∈fp,x.2.1≠none∧n=rnm σ x.1∧ixm σ n=x.1) (fun n =>∃x∈fp,n=rnm σ x.1) ps (xs.map (Arg.ev (wB t))))
  (hnd:(fp.map (fun x=>rnm σ x.1)).Nodup) (hpre :∀x∈fp,qN h (rnm σ x.1)=x.2.1∧(x.2.1=none→nx≤rnm σ x.1)∧rnm σ x.1<n1)
  (hnb :∀x∈fp,(∀r,x.2.1=some r→nbr r.2)∧(∀r,x.2.2=some r→nbr r.2)) (hres:okV (fun k =>∃x∈fp,x.1=k∧x.2.2≠none) res) (hn1:nx≤n1) :
  nZ P num (.call f ps xs) t h nx (yF n1 (vG (rnm σ) res)).1 (fp.map (fun x=>(rnm σ x.1,x.2))++fresh (yF n1 (vG (rnm σ) res)).2.1) (yF n1 (vG (rnm σ) res)).2.2 :=
 qVo σ hc hv hvo hnd hpre hnb hres hn1 (qOp hc.1)
theorem qFd {f nx:Nat} {ps:List Bool} {xs:List Arg} {t:List (Nat×AV)} {h:wT} {fp:FP} {res:AV} {vargs:List AV} (σ:List (Nat×Nat)) (hc:wD P num f vargs fp res)
  (hv:wM (iE (ixm σ) h ps (xs.map (Arg.ev (wB t)))) vargs)
  (hvo:dP h (fun n =>∃x∈fp,x.2.1≠none∧n=rnm σ x.1∧ixm σ n=x.1) (fun n =>∃x∈fp,n=rnm σ x.1) ps (xs.map (Arg.ev (wB t))))
  (hnd:(fp.map (fun x=>rnm σ x.1)).Nodup) (hpre :∀x∈fp,qN h (rnm σ x.1)=x.2.1∧(x.2.1=none→nx≤rnm σ x.1)∧rnm σ x.1<nx)
  (hnb :∀x∈fp,(∀r,x.2.1=some r→nbr r.2)∧(∀r,x.2.2=some r→nbr r.2)) (hres:okV (fun k =>∃x∈fp,x.1=k∧x.2.2≠none) res) :
  nZ P num (.call f ps xs) t h nx (yF nx (vG (rnm σ) res)).1 (fp.map (fun x=>(rnm σ x.1,x.2))++fresh (yF nx (vG (rnm σ) res)).2.1) (yF nx (vG (rnm σ) res)).2.2 :=
 qK6 σ hc hv hvo hnd hpre hnb hres (qZt _)
end
end Go.Sep
namespace Go.Sep
set_option linter.unusedVariables false
set_option linter.unusedSimpArgs false
@[congr] theorem qYg (c:bF):It.code c=It.code c:=rfl
@[congr] theorem qYm (os:List yA):It.ops os=It.ops os:=rfl
@[congr] theorem qY4 (J:AS→Prop):It.stop J=It.stop J:=rfl
@[congr] theorem qYe (tr:uI) {p p':List (Nat×List Nat)} (h:p=p'):It.draw tr p=It.draw tr p':=by rw [h]
section
variable (P:Program) (num:Nat→Nat) (fin:AS→Prop)
def qKa (v:AV) (ka kb:List It) (s:AS):Prop :=∃q,v=.bool q∧(q=true→vc P num fin ka s)∧(q=false→vc P num fin kb s)
def next (r:Out) (dst:Option Nat) (k:List It) (t:List (Nat×AV)) (h:wT):Prop :=
 match r with
 | some (p,v,fp,nx')=>p∧vc P num fin k (.mk (bX t dst v) (dQ h fp) nx')
 | none=>False
def lT (v:AV) (want:Bool) (o:yA) (os:List yA) (k:List It) (t:List (Nat×AV)) (h:wT) (nx:Nat):Prop :=
 ∃q,gv v q∧(q=some want→vc P num fin (.ops (({dst:=o.dst,op:=o.op,guard:=none}:yA)::os)::k) (.mk t h nx))∧(q≠some want→vc P num fin (.ops os::k) (.mk (bX t o.dst (.tup [])) h nx))
def qI7 (op:MOp) (dst:Option Nat) (k:List It) (s:AS):Prop :=∃s',rP P num op dst s s'∧vc P num fin k s'
def qLr (a:bF) (k:List It) (s:AS):Prop:=vc P num fin (.code (.loop a)::k) s
variable {P num fin}
@[congr] theorem qYs {k k':List It} {s s':AS} (h:k=k') (h':s=s'):vc P num fin k s=vc P num fin k' s':=by rw [h,h']
@[congr] theorem qYb {r r':Out} {dst:Option Nat} {k k':List It} {t t':List (Nat×AV)} {h h':wT} (h1:r=r') (h2:k=k') (h3:t=t') (h4:h=h'):next P num fin r dst k t h=next P num fin r' dst k' t' h':=by rw [h1,h2,h3,h4]
@[congr] theorem qXq {v v':AV} {want:Bool} {o:yA} {os:List yA} {k k':List It} {t t':List (Nat×AV)} {h h':wT} {nx nx':Nat} (h1:v=v') (h2:k=k') (h3:t=t') (h4:h=h') (h5:nx=nx') :
  lT P num fin v want o os k t h nx=lT P num fin v' want o os k' t' h' nx':=by rw [h1,h2,h3,h4,h5]
@[congr] theorem qY0 {op:MOp} {dst:Option Nat} {k k':List It} {s s':AS} (h1:k=k') (h2:s=s'):qI7 P num fin op dst k s=qI7 P num fin op dst k' s':=by rw [h1,h2]
@[congr] theorem qXs {a:bF} {k k':List It} {s s':AS} (h1:k=k') (h2:s=s'):qLr P num fin a k s=qLr P num fin a k' s':=by rw [h1,h2]
theorem qV2 (s:AS):vc P num fin [] s=fin s:=by rw [vc]
theorem qUz (J:AS→Prop) (k:List It) (s:AS):vc P num fin (.stop J::k) s=J s:=by rw [vc]
theorem qXy (id:Nat) (k:List It) (s:AS):vc P num fin (.blk id::k) s=vc P num fin k s:=by rw [vc]
theorem qXx (k:List It) (s:AS):vc P num fin (.ops []::k) s=vc P num fin k s:=by rw [vc]
theorem qV0 (k:List It) (s:AS):vc P num fin (.code .skip::k) s=vc P num fin k s:=by rw [vc]
theorem qXv (k:List It) (s:AS):vc P num fin (.code .ret::k) s=fin s:=by rw [vc]
theorem qV4 (id:Nat) (k:List It) (s:AS):vc P num fin (.code (.exit id)::k) s=vc P num fin (gO id k) s:=by rw [vc]
theorem qXu (a b:bF) (k:List It) (s:AS):vc P num fin (.code (.seq a b)::k) s=vc P num fin (.code a::.code b::k) s:=by rw [vc]
theorem qQd (id:Nat) (a:bF) (k:List It) (s:AS):vc P num fin (.code (.blk id a)::k) s=vc P num fin (.code a::.blk id::k) s:=by rw [vc]
theorem qXw (d:Bool) (ops:List yA) (k:List It) (s:AS):vc P num fin (.code (.reg d ops)::k) s=vc P num fin (.ops ops::k) s:=by rw [vc]
theorem qV7 (x:Nat) (a b:bF) (k:List It) (t:List (Nat×AV)) (h:wT) (nx:Nat):vc P num fin (.code (.cond x a b)::k) (.mk t h nx)=qKa P num fin (wB t x) (.code a::k) (.code b::k) (.mk t h nx):=by
 rw [vc]; rfl
theorem qV3 (a:bF) (k:List It) (s:AS):vc P num fin (.code (.loop a)::k) s=qLr P num fin a k s:=rfl
theorem qQc (dst:Option Nat) (op:MOp) (g:Nat) (want:Bool) (os:List yA) (k:List It) (t:List (Nat×AV)) (h:wT) (nx:Nat) :
  vc P num fin (.ops (⟨dst,op,some (g,want)⟩::os)::k) (.mk t h nx)=lT P num fin (wB t g) want ⟨dst,op,none⟩ os k t h nx:=by
 rw [vc]; rfl
theorem qV8 (dst:Option Nat) (f:Nat) (ps:List Bool) (xs:List Arg) (os:List yA) (k:List It) (t:List (Nat×AV)) (h:wT) (nx:Nat) :
  vc P num fin (.ops (⟨dst,.call f ps xs,none⟩::os)::k) (.mk t h nx)=qI7 P num fin (.call f ps xs) dst (.ops os::k) (.mk t h nx):=by
 rw [qT7]; rfl
theorem aI (dst:Option Nat) (op:MOp) (hc:qEs op=false) (os:List yA) (k:List It) (t:List (Nat×AV)) (h:wT) (nx:Nat) :
  vc P num fin (.ops (⟨dst,op,none⟩::os)::k) (.mk t h nx)=next P num fin (wO (wB t) h nx op) dst (.ops os::k) t h:=by
 rw [qT7,hc]
 rfl
theorem qV1 (dst:Option Nat) (os:List yA) (k:List It) (t:List (Nat×AV)) (h:wT) (nx:Nat) :
 (∀x',vc P num fin (.ops (⟨dst,.mv x',none⟩::os)::k) (.mk t h nx)=next P num fin (wO (wB t) h nx (.mv x')) dst (.ops os::k) t h)∧
 (∀c' a' b',vc P num fin (.ops (⟨dst,.pick c' a' b',none⟩::os)::k) (.mk t h nx)=next P num fin (wO (wB t) h nx (.pick c' a' b')) dst (.ops os::k) t h)∧
 (∀z',vc P num fin (.ops (⟨dst,.alloc z',none⟩::os)::k) (.mk t h nx)=next P num fin (wO (wB t) h nx (.alloc z')) dst (.ops os::k) t h)∧
 (∀x',vc P num fin (.ops (⟨dst,.box x',none⟩::os)::k) (.mk t h nx)=next P num fin (wO (wB t) h nx (.box x')) dst (.ops os::k) t h)∧
 (∀z' ps',vc P num fin (.ops (⟨dst,.build z' ps',none⟩::os)::k) (.mk t h nx)=next P num fin (wO (wB t) h nx (.build z' ps')) dst (.ops os::k) t h)∧
 (∀z' l' ps',vc P num fin (.ops (⟨dst,.mkSl z' l' ps',none⟩::os)::k) (.mk t h nx)=next P num fin (wO (wB t) h nx (.mkSl z' l' ps')) dst (.ops os::k) t h)∧
 (∀n' ag' a',vc P num fin (.ops (⟨dst,.load n' ag' a',none⟩::os)::k) (.mk t h nx)=next P num fin (wO (wB t) h nx (.load n' ag' a')) dst (.ops os::k) t h)∧
 (∀n' a' v',vc P num fin (.ops (⟨dst,.store n' a' v',none⟩::os)::k) (.mk t h nx)=next P num fin (wO (wB t) h nx (.store n' a' v')) dst (.ops os::k) t h)∧
 (∀x',vc P num fin (.ops (⟨dst,.nilck x',none⟩::os)::k) (.mk t h nx)=next P num fin (wO (wB t) h nx (.nilck x')) dst (.ops os::k) t h)∧
 (∀b' x' y',vc P num fin (.ops (⟨dst,.bin b' x' y',none⟩::os)::k) (.mk t h nx)=next P num fin (wO (wB t) h nx (.bin b' x' y')) dst (.ops os::k) t h)∧
 (∀g' ks' x' y',vc P num fin (.ops (⟨dst,.eqS g' ks' x' y',none⟩::os)::k) (.mk t h nx)=next P num fin (wO (wB t) h nx (.eqS g' ks' x' y')) dst (.ops os::k) t h)∧
 (∀g' x' y',vc P num fin (.ops (⟨dst,.eqB g' x' y',none⟩::os)::k) (.mk t h nx)=next P num fin (wO (wB t) h nx (.eqB g' x' y')) dst (.ops os::k) t h)∧
 (∀x',vc P num fin (.ops (⟨dst,.neNil x',none⟩::os)::k) (.mk t h nx)=next P num fin (wO (wB t) h nx (.neNil x')) dst (.ops os::k) t h)∧
 (∀u' x',vc P num fin (.ops (⟨dst,.un u' x',none⟩::os)::k) (.mk t h nx)=next P num fin (wO (wB t) h nx (.un u' x')) dst (.ops os::k) t h)∧
 (∀k' x',vc P num fin (.ops (⟨dst,.cvi k' x',none⟩::os)::k) (.mk t h nx)=next P num fin (wO (wB t) h nx (.cvi k' x')) dst (.ops os::k) t h)∧
 (∀x',vc P num fin (.ops (⟨dst,.cvs x',none⟩::os)::k) (.mk t h nx)=next P num fin (wO (wB t) h nx (.cvs x')) dst (.ops os::k) t h)∧
 (∀z' b' l' c',vc P num fin (.ops (⟨dst,.mkS z' b' l' c',none⟩::os)::k) (.mk t h nx)=next P num fin (wO (wB t) h nx (.mkS z' b' l' c')) dst (.ops os::k) t h)∧
 (∀s' x' l' h',vc P num fin (.ops (⟨dst,.cut s' x' l' h',none⟩::os)::k) (.mk t h nx)=next P num fin (wO (wB t) h nx (.cut s' x' l' h')) dst (.ops os::k) t h)∧
 (∀x' l' h',vc P num fin (.ops (⟨dst,.cutS x' l' h',none⟩::os)::k) (.mk t h nx)=next P num fin (wO (wB t) h nx (.cutS x' l' h')) dst (.ops os::k) t h)∧
 (∀o' x',vc P num fin (.ops (⟨dst,.fad o' x',none⟩::os)::k) (.mk t h nx)=next P num fin (wO (wB t) h nx (.fad o' x')) dst (.ops os::k) t h)∧
 (∀o' n' ag' x',vc P num fin (.ops (⟨dst,.fld o' n' ag' x',none⟩::os)::k) (.mk t h nx)=next P num fin (wO (wB t) h nx (.fld o' n' ag' x')) dst (.ops os::k) t h)∧
 (∀s' x' i',vc P num fin (.ops (⟨dst,.iad s' x' i',none⟩::os)::k) (.mk t h nx)=next P num fin (wO (wB t) h nx (.iad s' x' i')) dst (.ops os::k) t h)∧
 (∀x' i',vc P num fin (.ops (⟨dst,.idx x' i',none⟩::os)::k) (.mk t h nx)=next P num fin (wO (wB t) h nx (.idx x' i')) dst (.ops os::k) t h)∧
 (∀x' i',vc P num fin (.ops (⟨dst,.ext x' i',none⟩::os)::k) (.mk t h nx)=next P num fin (wO (wB t) h nx (.ext x' i')) dst (.ops os::k) t h)∧
 (∀x',vc P num fin (.ops (⟨dst,.len x',none⟩::os)::k) (.mk t h nx)=next P num fin (wO (wB t) h nx (.len x')) dst (.ops os::k) t h)∧
 (∀x',vc P num fin (.ops (⟨dst,.lenS x',none⟩::os)::k) (.mk t h nx)=next P num fin (wO (wB t) h nx (.lenS x')) dst (.ops os::k) t h)∧
 (∀x' y',vc P num fin (.ops (⟨dst,.mx x' y',none⟩::os)::k) (.mk t h nx)=next P num fin (wO (wB t) h nx (.mx x' y')) dst (.ops os::k) t h)∧
 (∀s' b' x' y',vc P num fin (.ops (⟨dst,.app s' b' x' y',none⟩::os)::k) (.mk t h nx)=next P num fin (wO (wB t) h nx (.app s' b' x' y')) dst (.ops os::k) t h)∧
 (∀z' x',vc P num fin (.ops (⟨dst,.clr z' x',none⟩::os)::k) (.mk t h nx)=next P num fin (wO (wB t) h nx (.clr z' x')) dst (.ops os::k) t h) :=
 ⟨fun _=>aI dst _ rfl os k t h nx,fun _ _ _=>aI dst _ rfl os k t h nx,fun _=>aI dst _ rfl os k t h nx,fun _=>aI dst _ rfl os k t h nx,fun _ _=>aI dst _ rfl os k t h nx,fun _ _ _=>aI dst _ rfl os k t h nx,fun _ _ _=>aI dst _ rfl os k t h nx,fun _ _ _=>aI dst _ rfl os k t h nx,fun _=>aI dst _ rfl os k t h nx,fun _ _ _=>aI dst _ rfl os k t h nx,fun _ _ _ _=>aI dst _ rfl os k t h nx,fun _ _ _=>aI dst _ rfl os k t h nx,fun _=>aI dst _ rfl os k t h nx,fun _ _=>aI dst _ rfl os k t h nx,fun _ _=>aI dst _ rfl os k t h nx,fun _=>aI dst _ rfl os k t h nx,fun _ _ _ _=>aI dst _ rfl os k t h nx,fun _ _ _ _=>aI dst _ rfl os k t h nx,fun _ _ _=>aI dst _ rfl os k t h nx,fun _ _=>aI dst _ rfl os k t h nx,fun _ _ _ _=>aI dst _ rfl os k t h nx,fun _ _ _=>aI dst _ rfl os k t h nx,fun _ _=>aI dst _ rfl os k t h nx,fun _ _=>aI dst _ rfl os k t h nx,fun _=>aI dst _ rfl os k t h nx,fun _=>aI dst _ rfl os k t h nx,fun _ _=>aI dst _ rfl os k t h nx,fun _ _ _ _=>aI dst _ rfl os k t h nx,fun _ _=>aI dst _ rfl os k t h nx⟩
theorem qHk (p:Prop) (v:AV) (fp:FP) (nx:Nat) (dst:Option Nat) (k:List It) (t:List (Nat×AV)) (h:wT) :
  next P num fin (some (p,v,fp,nx)) dst k t h=(p∧vc P num fin k (.mk (bX t dst v) (dQ h fp) nx)):=rfl
theorem qPw (v:AV) (nx:Nat) (dst:Option Nat) (k:List It) (t:List (Nat×AV)) (h:wT):next P num fin (ok v nx) dst k t h=vc P num fin k (.mk (bX t dst v) h nx):=by
 show (True∧vc P num fin k (.mk (bX t dst v) (dQ h []) nx))=_
 rw [true_and]
 rfl
theorem qU {c:Bool} {ka kb:List It} {s:AS} (h1:c=true→vc P num fin ka s) (h2:c=false→vc P num fin kb s):qKa P num fin (.bool c) ka kb s:=⟨c,rfl,h1,h2⟩
theorem qCd (ka kb:List It) (s:AS):qKa P num fin (.bool true) ka kb s=vc P num fin ka s:=by
 refine propext ⟨fun ⟨q,h1,h2,h3⟩=>?_,fun h=>⟨true,rfl,fun _=>h,fun h=>by simp at h⟩⟩
 simp only [AV.bool.injEq] at h1
 exact h2 h1.symm
theorem tT (ka kb:List It) (s:AS):qKa P num fin (.bool false) ka kb s=vc P num fin kb s:=by
 refine propext ⟨fun ⟨q,h1,h2,h3⟩=>?_,fun h=>⟨false,rfl,fun h=>by simp at h,fun _=>h⟩⟩
 simp only [AV.bool.injEq] at h1
 exact h3 h1.symm
theorem oP (b:Bool) (q:Option Bool):gv (.bool b) q=(q=some b):=by
 refine propext ⟨fun h=>?_,fun h=>.inl ⟨b,rfl,h⟩⟩
 rcases h with ⟨c,h1,rfl⟩ | ⟨h1,_⟩
 ·simp only [AV.bool.injEq] at h1
  rw [h1]
 ·simp at h1
theorem qQ5 (q:Option Bool):gv (.tup []) q=(q=none):=by
 refine propext ⟨fun h=>?_,fun h=>.inr ⟨rfl,h⟩⟩
 rcases h with ⟨c,h1,rfl⟩ | ⟨_,h1⟩
 ·simp at h1
 ·exact h1
theorem qLo (b:Bool) (o:yA) (os:List yA) (k:List It) (t:List (Nat×AV)) (h:wT) (nx:Nat):lT P num fin (.bool b) b o os k t h nx=vc P num fin (.ops (⟨o.dst,o.op,none⟩::os)::k) (.mk t h nx):=by
 simp only [lT,oP,exists_eq_left,ne_eq,not_true_eq_false,false_implies,and_true,true_implies]
theorem qLm (o:yA) (os:List yA) (k:List It) (t:List (Nat×AV)) (h:wT) (nx:Nat):lT P num fin (.bool true) false o os k t h nx=vc P num fin (.ops os::k) (.mk (bX t o.dst (.tup [])) h nx):=by
 simp [lT,oP]
theorem qLn (o:yA) (os:List yA) (k:List It) (t:List (Nat×AV)) (h:wT) (nx:Nat):lT P num fin (.bool false) true o os k t h nx=vc P num fin (.ops os::k) (.mk (bX t o.dst (.tup [])) h nx):=by
 simp [lT,oP]
theorem qEi (want:Bool) (o:yA) (os:List yA) (k:List It) (t:List (Nat×AV)) (h:wT) (nx:Nat):lT P num fin (.tup []) want o os k t h nx=vc P num fin (.ops os::k) (.mk (bX t o.dst (.tup [])) h nx):=by
 simp [lT,qQ5]
theorem xR {c want:Bool} {o:yA} {os:List yA} {k:List It} {t:List (Nat×AV)} {h:wT} {nx:Nat} (h1:c=want→vc P num fin (.ops (⟨o.dst,o.op,none⟩::os)::k) (.mk t h nx))
  (h2:c≠want→vc P num fin (.ops os::k) (.mk (bX t o.dst (.tup [])) h nx)):lT P num fin (.bool c) want o os k t h nx:=⟨some c,.inl ⟨c,rfl,rfl⟩,fun h=>h1 (Option.some.inj h),fun h=>h2 (fun h'=>h (by rw [h']))⟩
def qYz {ι:Type} (I:ι→AS) (good:ι→Prop) (μ:ι→Nat) (n:Nat) (s:AS):Prop :=∃s1,Sub s s1∧∃m,m<n∧∃i,s1=I i∧good i∧μ i=m
theorem qW {ι:Type} {I:ι→AS} {good:ι→Prop} {μ:ι→Nat} {n:Nat} {s:AS} (i:ι) (h:Sub s (I i)) (hg:good i) (hm:μ i<n):qYz I good μ n s:=⟨I i,h,μ i,hm,i,rfl,hg,rfl⟩
theorem fT {op:MOp} {dst:Option Nat} {k:List It} {t:List (Nat×AV)} {h:wT} {nx nx':Nat} {v:AV} {fp:FP} (hc:nZ P num op t h nx v fp nx') (hk:vc P num fin k (.mk (bX t dst v) (dQ h fp) nx')):qI7 P num fin op dst k (.mk t h nx) :=
 ⟨_,hc.to,hk⟩
theorem qV5 (tr:uI) (k:List It) (s:AS):vc P num fin (.code (.dreg tr)::k) s=vc P num fin (.draw tr []::k) s:=by rw [vc]
theorem qV6 (pend:List (Nat×List Nat)) (k:List It) (s:AS):vc P num fin (.draw .done pend::k) s=vc P num fin k s:=by rw [vc]
theorem qV9 (i:Nat) (di:List Nat) (o:yA) (tr:uI) (j:Nat) (dj:List Nat) (p:yA) (tr':uI) (pend:List (Nat×List Nat)) (k:List It) (s:AS) :
  vc P num fin (.draw (.both i di o tr j dj p tr') pend::k) s=(vc P num fin (.draw (.only i di o tr) pend::k) s∧vc P num fin (.draw (.only j dj p tr') pend::k) s):=by rw [vc]
theorem qXt (i:Nat) (di:List Nat) (o:yA) (tr:uI) (j:Nat) (dj:List Nat) (p:yA) (tr':uI) (m:Nat) (dm:List Nat) (q:yA) (tr2:uI) (pend:List (Nat×List Nat)) (k:List It) (s:AS) :
  vc P num fin (.draw (.tri i di o tr j dj p tr' m dm q tr2) pend::k) s=(vc P num fin (.draw (.only i di o tr) pend::k) s∧vc P num fin (.draw (.only j dj p tr') pend::k) s∧vc P num fin (.draw (.only m dm q tr2) pend::k) s):=by rw [vc]
variable (P num fin) in
def bU (r:Out) (rd:FP→wT→Prop) (pend:FP→List (Nat×List Nat)) (dst:Option Nat) (tr:uI) (k:List It) (t:List (Nat×AV)) (h:wT):Prop :=
 match r with
 | some (p,v,fp,nx')=>p∧rd fp (dQ h fp)∧vc P num fin (.draw tr (pend fp)::k) (.mk (bX t dst v) (dQ h fp) nx')
 | none=>False
theorem qF0 (p:Prop) (v:AV) (fp:FP) (nx:Nat) (rd:FP→wT→Prop) (pend:FP→List (Nat×List Nat)) (dst:Option Nat) (tr:uI) (k:List It) (t:List (Nat×AV)) (h:wT) :
  bU P num fin (some (p,v,fp,nx)) rd pend dst tr k t h=(p∧rd fp (dQ h fp)∧vc P num fin (.draw tr (pend fp)::k) (.mk (bX t dst v) (dQ h fp) nx)):=rfl
theorem qMf (v:AV) (nx:Nat) (rd:FP→wT→Prop) (pend:FP→List (Nat×List Nat)) (dst:Option Nat) (tr:uI) (k:List It) (t:List (Nat×AV)) (h:wT) :
  bU P num fin (ok v nx) rd pend dst tr k t h=(rd [] h∧vc P num fin (.draw tr (pend [])::k) (.mk (bX t dst v) h nx)):=by
 show (True∧rd [] (dQ h [])∧vc P num fin (.draw tr (pend [])::k) (.mk (bX t dst v) (dQ h []) nx))=_
 rw [true_and]
 rfl
def qNi (i:Nat) (pend:List (Nat×List Nat)) (fp:FP) (h:wT):Prop:=qId (qFr i (eV fp) pend) h
def qNk (i:Nat) (pend:List (Nat×List Nat)) (fp:FP):List (Nat×List Nat):=qFr i (eV fp) pend
def vB (r:Bool) (pend:List (Nat×List Nat)) (fp:FP) (h:wT):Prop:=if r then qId pend h else apart pend fp
def vE (pend:List (Nat×List Nat)) (_:FP):List (Nat×List Nat):=pend
theorem qUy (i:Nat) (dst:Option Nat) (op:MOp) (tr:uI) (pend:List (Nat×List Nat)) (k:List It) (t:List (Nat×AV)) (h:wT) (nx:Nat) :
  vc P num fin (.draw (.take i ⟨dst,op,none⟩ tr) pend::k) (.mk t h nx)=bU P num fin (wO (wB t) h nx op) (qNi i pend) (qNk i pend) dst tr k t h:=by
 rw [vc]; rfl
variable (P num fin) in
def qQf (op:MOp) (pend:List (Nat×List Nat)) (dst:Option Nat) (tr:uI) (k:List It) (t:List (Nat×AV)) (h:wT) (nx:Nat):Prop :=
 ∃v fp nx',nZ P num op t h nx v fp nx'∧apart pend fp∧vc P num fin (.draw tr pend::k) (.mk (bX t dst v) (dQ h fp) nx')
theorem qC4 {op:MOp} {pend:List (Nat×List Nat)} {dst:Option Nat} {tr:uI} {k:List It} {t:List (Nat×AV)} {h:wT} {nx nx':Nat} {v:AV} {fp:FP} (hc:nZ P num op t h nx v fp nx') (ha:apart pend fp)
  (hk:vc P num fin (.draw tr pend::k) (.mk (bX t dst v) (dQ h fp) nx')):qQf P num fin op pend dst tr k t h nx:=⟨_,_,_,hc,ha,hk⟩
theorem qQa (i:Nat) (deps:List Nat) (dst:Option Nat) (f:Nat) (ps:List Bool) (xs:List Arg) (tr:uI) (pend:List (Nat×List Nat)) (k:List It) (t:List (Nat×AV)) (h:wT) (nx:Nat) :
  vc P num fin (.draw (.only i deps ⟨dst,.call f ps xs,none⟩ tr) pend::k) (.mk t h nx)=qQf P num fin (.call f ps xs) (yH deps pend) dst tr k t h nx:=by
 rw [vc]; rfl
theorem uJ (i:Nat) (deps:List Nat) (dst:Option Nat) (op:MOp) (hc:qEs op=false) (tr:uI) (pend:List (Nat×List Nat)) (k:List It) (t:List (Nat×AV)) (h:wT) (nx:Nat) :
  vc P num fin (.draw (.only i deps ⟨dst,op,none⟩ tr) pend::k) (.mk t h nx)=bU P num fin (wO (wB t) h nx op) (vB (zX op) (yH deps pend)) (vE (yH deps pend)) dst tr k t h:=by
 rw [vc]
 simp only [hc]
 rfl
theorem qQb (i:Nat) (deps:List Nat) (dst:Option Nat) (tr:uI) (pend:List (Nat×List Nat)) (k:List It) (t:List (Nat×AV)) (h:wT) (nx:Nat) :
 (∀x',vc P num fin (.draw (.only i deps ⟨dst,.mv x',none⟩ tr) pend::k) (.mk t h nx)=bU P num fin (wO (wB t) h nx (.mv x')) (vB true (yH deps pend)) (vE (yH deps pend)) dst tr k t h)∧
 (∀c' a' b',vc P num fin (.draw (.only i deps ⟨dst,.pick c' a' b',none⟩ tr) pend::k) (.mk t h nx)=bU P num fin (wO (wB t) h nx (.pick c' a' b')) (vB true (yH deps pend)) (vE (yH deps pend)) dst tr k t h)∧
 (∀z',vc P num fin (.draw (.only i deps ⟨dst,.alloc z',none⟩ tr) pend::k) (.mk t h nx)=bU P num fin (wO (wB t) h nx (.alloc z')) (vB false (yH deps pend)) (vE (yH deps pend)) dst tr k t h)∧
 (∀x',vc P num fin (.draw (.only i deps ⟨dst,.box x',none⟩ tr) pend::k) (.mk t h nx)=bU P num fin (wO (wB t) h nx (.box x')) (vB false (yH deps pend)) (vE (yH deps pend)) dst tr k t h)∧
 (∀z' ps',vc P num fin (.draw (.only i deps ⟨dst,.build z' ps',none⟩ tr) pend::k) (.mk t h nx)=bU P num fin (wO (wB t) h nx (.build z' ps')) (vB true (yH deps pend)) (vE (yH deps pend)) dst tr k t h)∧
 (∀z' l' ps',vc P num fin (.draw (.only i deps ⟨dst,.mkSl z' l' ps',none⟩ tr) pend::k) (.mk t h nx)=bU P num fin (wO (wB t) h nx (.mkSl z' l' ps')) (vB false (yH deps pend)) (vE (yH deps pend)) dst tr k t h)∧
 (∀n' ag' a',vc P num fin (.draw (.only i deps ⟨dst,.load n' ag' a',none⟩ tr) pend::k) (.mk t h nx)=bU P num fin (wO (wB t) h nx (.load n' ag' a')) (vB true (yH deps pend)) (vE (yH deps pend)) dst tr k t h)∧
 (∀n' a' v',vc P num fin (.draw (.only i deps ⟨dst,.store n' a' v',none⟩ tr) pend::k) (.mk t h nx)=bU P num fin (wO (wB t) h nx (.store n' a' v')) (vB false (yH deps pend)) (vE (yH deps pend)) dst tr k t h)∧
 (∀x',vc P num fin (.draw (.only i deps ⟨dst,.nilck x',none⟩ tr) pend::k) (.mk t h nx)=bU P num fin (wO (wB t) h nx (.nilck x')) (vB true (yH deps pend)) (vE (yH deps pend)) dst tr k t h)∧
 (∀b' x' y',vc P num fin (.draw (.only i deps ⟨dst,.bin b' x' y',none⟩ tr) pend::k) (.mk t h nx)=bU P num fin (wO (wB t) h nx (.bin b' x' y')) (vB true (yH deps pend)) (vE (yH deps pend)) dst tr k t h)∧
 (∀g' ks' x' y',vc P num fin (.draw (.only i deps ⟨dst,.eqS g' ks' x' y',none⟩ tr) pend::k) (.mk t h nx)=bU P num fin (wO (wB t) h nx (.eqS g' ks' x' y')) (vB true (yH deps pend)) (vE (yH deps pend)) dst tr k t h)∧
 (∀g' x' y',vc P num fin (.draw (.only i deps ⟨dst,.eqB g' x' y',none⟩ tr) pend::k) (.mk t h nx)=bU P num fin (wO (wB t) h nx (.eqB g' x' y')) (vB true (yH deps pend)) (vE (yH deps pend)) dst tr k t h)∧
 (∀x',vc P num fin (.draw (.only i deps ⟨dst,.neNil x',none⟩ tr) pend::k) (.mk t h nx)=bU P num fin (wO (wB t) h nx (.neNil x')) (vB true (yH deps pend)) (vE (yH deps pend)) dst tr k t h)∧
 (∀u' x',vc P num fin (.draw (.only i deps ⟨dst,.un u' x',none⟩ tr) pend::k) (.mk t h nx)=bU P num fin (wO (wB t) h nx (.un u' x')) (vB true (yH deps pend)) (vE (yH deps pend)) dst tr k t h)∧
 (∀k' x',vc P num fin (.draw (.only i deps ⟨dst,.cvi k' x',none⟩ tr) pend::k) (.mk t h nx)=bU P num fin (wO (wB t) h nx (.cvi k' x')) (vB true (yH deps pend)) (vE (yH deps pend)) dst tr k t h)∧
 (∀x',vc P num fin (.draw (.only i deps ⟨dst,.cvs x',none⟩ tr) pend::k) (.mk t h nx)=bU P num fin (wO (wB t) h nx (.cvs x')) (vB true (yH deps pend)) (vE (yH deps pend)) dst tr k t h)∧
 (∀z' b' l' c',vc P num fin (.draw (.only i deps ⟨dst,.mkS z' b' l' c',none⟩ tr) pend::k) (.mk t h nx)=bU P num fin (wO (wB t) h nx (.mkS z' b' l' c')) (vB false (yH deps pend)) (vE (yH deps pend)) dst tr k t h)∧
 (∀s' x' l' h',vc P num fin (.draw (.only i deps ⟨dst,.cut s' x' l' h',none⟩ tr) pend::k) (.mk t h nx)=bU P num fin (wO (wB t) h nx (.cut s' x' l' h')) (vB true (yH deps pend)) (vE (yH deps pend)) dst tr k t h)∧
 (∀x' l' h',vc P num fin (.draw (.only i deps ⟨dst,.cutS x' l' h',none⟩ tr) pend::k) (.mk t h nx)=bU P num fin (wO (wB t) h nx (.cutS x' l' h')) (vB true (yH deps pend)) (vE (yH deps pend)) dst tr k t h)∧
 (∀o' x',vc P num fin (.draw (.only i deps ⟨dst,.fad o' x',none⟩ tr) pend::k) (.mk t h nx)=bU P num fin (wO (wB t) h nx (.fad o' x')) (vB true (yH deps pend)) (vE (yH deps pend)) dst tr k t h)∧
 (∀o' n' ag' x',vc P num fin (.draw (.only i deps ⟨dst,.fld o' n' ag' x',none⟩ tr) pend::k) (.mk t h nx)=bU P num fin (wO (wB t) h nx (.fld o' n' ag' x')) (vB true (yH deps pend)) (vE (yH deps pend)) dst tr k t h)∧
 (∀s' x' i',vc P num fin (.draw (.only i deps ⟨dst,.iad s' x' i',none⟩ tr) pend::k) (.mk t h nx)=bU P num fin (wO (wB t) h nx (.iad s' x' i')) (vB true (yH deps pend)) (vE (yH deps pend)) dst tr k t h)∧
 (∀x' i',vc P num fin (.draw (.only i deps ⟨dst,.idx x' i',none⟩ tr) pend::k) (.mk t h nx)=bU P num fin (wO (wB t) h nx (.idx x' i')) (vB true (yH deps pend)) (vE (yH deps pend)) dst tr k t h)∧
 (∀x' i',vc P num fin (.draw (.only i deps ⟨dst,.ext x' i',none⟩ tr) pend::k) (.mk t h nx)=bU P num fin (wO (wB t) h nx (.ext x' i')) (vB true (yH deps pend)) (vE (yH deps pend)) dst tr k t h)∧
 (∀x',vc P num fin (.draw (.only i deps ⟨dst,.len x',none⟩ tr) pend::k) (.mk t h nx)=bU P num fin (wO (wB t) h nx (.len x')) (vB true (yH deps pend)) (vE (yH deps pend)) dst tr k t h)∧
 (∀x',vc P num fin (.draw (.only i deps ⟨dst,.lenS x',none⟩ tr) pend::k) (.mk t h nx)=bU P num fin (wO (wB t) h nx (.lenS x')) (vB true (yH deps pend)) (vE (yH deps pend)) dst tr k t h)∧
 (∀x' y',vc P num fin (.draw (.only i deps ⟨dst,.mx x' y',none⟩ tr) pend::k) (.mk t h nx)=bU P num fin (wO (wB t) h nx (.mx x' y')) (vB true (yH deps pend)) (vE (yH deps pend)) dst tr k t h)∧
 (∀s' b' x' y',vc P num fin (.draw (.only i deps ⟨dst,.app s' b' x' y',none⟩ tr) pend::k) (.mk t h nx)=bU P num fin (wO (wB t) h nx (.app s' b' x' y')) (vB false (yH deps pend)) (vE (yH deps pend)) dst tr k t h) :=
 ⟨fun _=>uJ i deps dst _ rfl tr pend k t h nx,fun _ _ _=>uJ i deps dst _ rfl tr pend k t h nx,fun _=>uJ i deps dst _ rfl tr pend k t h nx,fun _=>uJ i deps dst _ rfl tr pend k t h nx,fun _ _=>uJ i deps dst _ rfl tr pend k t h nx,fun _ _ _=>uJ i deps dst _ rfl tr pend k t h nx,fun _ _ _=>uJ i deps dst _ rfl tr pend k t h nx,fun _ _ _=>uJ i deps dst _ rfl tr pend k t h nx,fun _=>uJ i deps dst _ rfl tr pend k t h nx,fun _ _ _=>uJ i deps dst _ rfl tr pend k t h nx,fun _ _ _ _=>uJ i deps dst _ rfl tr pend k t h nx,fun _ _ _=>uJ i deps dst _ rfl tr pend k t h nx,fun _=>uJ i deps dst _ rfl tr pend k t h nx,fun _ _=>uJ i deps dst _ rfl tr pend k t h nx,fun _ _=>uJ i deps dst _ rfl tr pend k t h nx,fun _=>uJ i deps dst _ rfl tr pend k t h nx,fun _ _ _ _=>uJ i deps dst _ rfl tr pend k t h nx,fun _ _ _ _=>uJ i deps dst _ rfl tr pend k t h nx,fun _ _ _=>uJ i deps dst _ rfl tr pend k t h nx,fun _ _=>uJ i deps dst _ rfl tr pend k t h nx,fun _ _ _ _=>uJ i deps dst _ rfl tr pend k t h nx,fun _ _ _=>uJ i deps dst _ rfl tr pend k t h nx,fun _ _=>uJ i deps dst _ rfl tr pend k t h nx,fun _ _=>uJ i deps dst _ rfl tr pend k t h nx,fun _=>uJ i deps dst _ rfl tr pend k t h nx,fun _=>uJ i deps dst _ rfl tr pend k t h nx,fun _ _=>uJ i deps dst _ rfl tr pend k t h nx,fun _ _ _ _=>uJ i deps dst _ rfl tr pend k t h nx⟩
variable (P num fin) in
def fA (v:AV) (want:Bool) (ka kb:List It) (dst:Option Nat) (t:List (Nat×AV)) (h:wT) (nx:Nat):Prop :=
 ∃q,gv v q∧(q=some want→vc P num fin ka (.mk t h nx))∧(q≠some want→vc P num fin kb (.mk (bX t dst (.tup [])) h nx))
theorem qQ8 (i:Nat) (dst:Option Nat) (op:MOp) (g:Nat) (want:Bool) (tr:uI) (pend:List (Nat×List Nat)) (k:List It) (t:List (Nat×AV)) (h:wT) (nx:Nat) :
  vc P num fin (.draw (.take i ⟨dst,op,some (g,want)⟩ tr) pend::k) (.mk t h nx)=fA P num fin (wB t g) want (.draw (.take i ⟨dst,op,none⟩ tr) pend::k) (.draw tr pend::k) dst t h nx:=by
 rw [vc]; rfl
theorem qQ9 (i:Nat) (deps:List Nat) (dst:Option Nat) (op:MOp) (g:Nat) (want:Bool) (tr:uI) (pend:List (Nat×List Nat)) (k:List It) (t:List (Nat×AV)) (h:wT) (nx:Nat) :
  vc P num fin (.draw (.only i deps ⟨dst,op,some (g,want)⟩ tr) pend::k) (.mk t h nx)=fA P num fin (wB t g) want (.draw (.only i deps ⟨dst,op,none⟩ tr) pend::k) (.draw tr (yH deps pend)::k) dst t h nx:=by
 rw [vc]; rfl
theorem qHz (b:Bool) (ka kb:List It) (dst:Option Nat) (t:List (Nat×AV)) (h:wT) (nx:Nat):fA P num fin (.bool b) b ka kb dst t h nx=vc P num fin ka (.mk t h nx):=by
 simp only [fA,oP,exists_eq_left,ne_eq,not_true_eq_false,false_implies,and_true,true_implies]
theorem qHx (ka kb:List It) (dst:Option Nat) (t:List (Nat×AV)) (h:wT) (nx:Nat):fA P num fin (.bool true) false ka kb dst t h nx=vc P num fin kb (.mk (bX t dst (.tup [])) h nx):=by
 simp [fA,oP]
theorem qHy (ka kb:List It) (dst:Option Nat) (t:List (Nat×AV)) (h:wT) (nx:Nat):fA P num fin (.bool false) true ka kb dst t h nx=vc P num fin kb (.mk (bX t dst (.tup [])) h nx):=by
 simp [fA,oP]
theorem qC3 (want:Bool) (ka kb:List It) (dst:Option Nat) (t:List (Nat×AV)) (h:wT) (nx:Nat):fA P num fin (.tup []) want ka kb dst t h nx=vc P num fin kb (.mk (bX t dst (.tup [])) h nx):=by
 simp [fA,qQ5]
theorem zR {c want:Bool} {ka kb:List It} {dst:Option Nat} {t:List (Nat×AV)} {h:wT} {nx:Nat} (h1:c=want→vc P num fin ka (.mk t h nx)) (h2:c≠want→vc P num fin kb (.mk (bX t dst (.tup [])) h nx)) :
  fA P num fin (.bool c) want ka kb dst t h nx:=⟨some c,.inl ⟨c,rfl,rfl⟩,fun h=>h1 (Option.some.inj h),fun h=>h2 (fun h'=>h (by rw [h']))⟩
theorem wE {ι:Type} (I:ι→AS) (good:ι→Prop) (μ:ι→Nat) (i0:ι) {a:bF} {k:List It} {s:AS} (h0:good i0) (hs:Sub s (I i0))
  (step :∀i,good i→vc P num fin (.code a::.stop (qYz I good μ (μ i))::k) (I i)):qLr P num fin a k s:=by
 unfold qLr
 rw [vc]
 refine ⟨fun n s =>∃i,s=I i∧good i∧μ i=n,μ i0,⟨I i0,hs,i0,rfl,h0,rfl⟩,?_⟩
 rintro n s ⟨i,rfl,hi,rfl⟩
 exact step i hi
end
end Go.Sep
namespace Go.Sep
set_option linter.unusedVariables false
set_option linter.unusedSimpArgs false
mutual
def okB (A:Nat→Prop):AV→Prop
 | .ptr nm _ _=>A nm
 | .ns nm _ _=>A nm
 | .agg cs=>qLe A cs
 | .tup cs=>qLe A cs
 | v=>bnd (fun _=>False) v
def qLe (A:Nat→Prop):List AV→Prop
 | []=>True
 | c::cs=>okB A c∧qLe A cs
end
def gZ:List (List AV)→List (List AV)→Prop
 | [],ds=>ds=[]
 | r::rs,ds =>∃d ds',ds=d::ds'∧wM r d∧gZ rs ds'
theorem qRq :∀{c d:AV},wL c d→yM c=true→yM d=true
 | .nil,d,hn,h=>by
  simp only [wL] at hn
  rcases hn with rfl | ⟨m,sz,rfl⟩<;>rfl
 | .agg _,d,hn,h=>by simp [yM] at h
 | .tup _,d,hn,h=>by simp [yM] at h
 | .any,d,hn,h=>by simp [yM] at h
 | .int _ _,d,hn,h | .bool _,d,hn,h | .str _,d,hn,h | .fn _ _,d,hn,h | .nilp,d,hn,h | .ptr _ _ _,d,hn,h
 | .fptr _ _ _,d,hn,h | .nilI,d,hn,h | .ifc,d,hn,h | .ns _ _ _,d,hn,h | .sl _ _ _,d,hn,h=>by
  simp only [wL] at hn
  subst hn
  exact h
theorem qEg :∀{cs ds:List AV},wM cs ds→cs.all yM=true→ds.all yM=true
 | [],ds,hn,h=>by
  simp only [wM] at hn
  subst hn
  rfl
 | c::cs,ds,hn,h=>by
  simp only [wM] at hn
  obtain ⟨d,ds',rfl,h1,h2⟩:=hn
  simp only [wA6,qZu] at h⊢
  exact ⟨qRq h1 h.1,qEg h2 h.2⟩
theorem sN {e:Env} {W:World} {b sz:Nat} :∀{rs ds:List (List AV)} {o:Nat} {L:List Nat},gZ rs ds→yK e W b o sz rs L→yK e W b o sz ds L
 | [],ds,o,L,hn,h=>by
  simp only [gZ] at hn
  subst hn
  exact h
 | r::rs,ds,o,L,hn,h=>by
  simp only [gZ] at hn
  obtain ⟨d,ds',rfl,h1,h2⟩:=hn
  simp only [yK] at h⊢
  obtain ⟨vs,L1,L2,g1,g2,g3,g4,g5,g6⟩:=h
  exact ⟨vs,L1,L2,⟨by rw [qBs h1]; exact g1.1,qEg h1 g1.2⟩,g2,g3,oG h1 g4,sN h2 g5,g6⟩
theorem eZ :∀{rs ds:List (List AV)},gZ rs ds→ds.length=rs.length
 | [],ds,h=>by simp only [gZ] at h; simp [h]
 | r::rs,ds,h=>by
  simp only [gZ] at h
  obtain ⟨d,ds',rfl,_,h2⟩:=h
  simp [eZ h2]
mutual
theorem qJe {e e':Env} {A:Nat→Prop} {f:Nat→Nat} (k:dD e e' (fun _=>False) []) (hφ :∀n,A n→e'.φ n=e.φ (f n)) :∀(v:AV) {c:Value},okB A v→RV e (vG f v) c []→RV e' v c []
 | .ptr nm i o,c,ha,h=>by
  simp only [okB,vG,RV] at ha h⊢
  rw [hφ nm ha]
  exact h
 | .ns nm o l,c,ha,h=>by
  simp only [okB,vG,RV] at ha h⊢
  rw [hφ nm ha]
  exact h
 | .agg cs,c,ha,h=>by
  simp only [okB,vG,RV] at ha h⊢
  obtain ⟨vs,h1,h2⟩:=h
  exact ⟨vs,h1,qEa k hφ cs ha h2⟩
 | .tup cs,c,ha,h=>by
  simp only [okB,vG,RV] at ha h⊢
  obtain ⟨vs,h1,h2⟩:=h
  exact ⟨vs,h1,qEa k hφ cs ha h2⟩
 | .any,c,ha,h | .int _ _,c,ha,h | .bool _,c,ha,h | .str _,c,ha,h | .fn _ _,c,ha,h | .nilp,c,ha,h | .fptr _ _ _,c,ha,h | .nil,c,ha,h | .nilI,c,ha,h | .ifc,c,ha,h | .sl _ _ _,c,ha,h=>by
  simp only [okB] at ha
  simp only [vG] at h
  exact fV _ k ha h
theorem qEa {e e':Env} {A:Nat→Prop} {f:Nat→Nat} (k:dD e e' (fun _=>False) []) (hφ :∀n,A n→e'.φ n=e.φ (f n)) :∀(l:List AV) {cs:List Value},qLe A l→RVs e (aN f l) cs []→RVs e' l cs []
 | [],cs,_,h=>by simpa only [RVs,aN] using h
 | v::l,cs,ha,h=>by
  simp only [qLe,aN,RVs] at ha h⊢
  obtain ⟨c,cs',L1,L2,h1,h2,h3,h4⟩:=h
  have hL1:L1=[]:=(wY h4).1
  have hL2:L2=[]:=(wY h4).2
  subst hL1 hL2
  exact ⟨c,cs',[],[],h1,qJe k hφ v ha.1 h2,qEa k hφ l ha.2 h3,rfl⟩
end
mutual
theorem qJf {A B:Nat→Prop} (h :∀n,A n→B n) :∀(v:AV),okB A v→bnd B v
 | .ptr nm i o,ha=>h nm ha
 | .ns nm o l,ha=>h nm ha
 | .agg cs,ha=>qEb h cs ha
 | .tup cs,ha=>qEb h cs ha
 | .any,_=>trivial
 | .int _ _,ha | .bool _,ha | .str _,ha | .fn _ _,ha | .nilp,ha | .fptr _ _ _,ha | .nil,ha | .nilI,ha | .ifc,ha | .sl _ _ _,ha=>kE (A:=fun _=>False) (fun n hn=>hn.elim) _ (by simpa only [okB] using ha)
theorem qEb {A B:Nat→Prop} (h :∀n,A n→B n) :∀(l:List AV),qLe A l→jF B l
 | [],_=>trivial
 | v::l,ha=>⟨qJf h v ha.1,qEb h l ha.2⟩
end
def shp (E:List Nat) (A:Nat→Prop) (f:Nat→Nat) (v v':AV):Prop:=v'=.any∨(∃k,v'=.ns k 0 0∧k∈E∧v=.nil)∨(v=vG f v'∧okB A v')
theorem qLs {h:wT} {n:Nat} {r:Row} (hl:qN h n=some r):(n,r)∈h:=by
 induction h with
 | nil=>simp [qN] at hl
 | cons x h ih =>
  obtain ⟨m,s⟩:=x
  simp only [qN] at hl
  split at hl
  ·rename_i he
   simp only [Option.some.injEq] at hl
   subst hl he
   simp
  ·exact wAp _ (ih hl)
theorem Sub.shape (E:List Nat) (f:Nat→Nat) {t t':List (Nat×AV)} {h h':wT} {nx nx':Nat} (hn:10≤nx')
  (hh :∀x∈h',yQ (fun _=>False) x.2.2∧x.1<nx'∧((x.1∈E∧x.2.2=[]∧10≤x.1)∨(x.1∉E∧(∃r0,qN h (f x.1)=some (x.2.1,r0)∧(r0=x.2.2∨gZ r0 x.2.2))∧(x.1<10→f x.1=x.1))))
  (hi:(h'.map (fun x=>f x.1)).Nodup) (hE :∀k∈E,k<nx'∧qN h' k≠none)
  (ht :∀x∈t',shp E (fun n=>n∉E∧qN h' n≠none) f (wB t x.1) x.2):Sub (.mk t h nx) (.mk t' h' nx'):=by
 rintro B a w ⟨h1,h2,hb,hbt,φ,Lf,hl⟩
 have mem :∀n r,qN h' n=some r→(n,r)∈h':=fun n r hr=>qLs hr
 have inj :∀n m,qN h' n≠none→qN h' m≠none→f n=f m→n=m:=by
  intro n m hn' hm' he
  cases hln:qN h' n with
  | none=>exact absurd hln hn'
  | some r =>
   cases hlm:qN h' m with
   | none=>exact absurd hlm hm'
   | some q =>
    have a1:=mem n r hln
    have a2:=mem m q hlm
    have key :∀(l:wT),(l.map (fun x=>f x.1)).Nodup→(n,r)∈l→(m,q)∈l→n=m:=by
     intro l
     induction l with
     | nil=>intro _ h; simp at h
     | cons y l ih =>
      intro hnd p1 p2
      simp only [qZr,wAg] at hnd
      rcases List.mem_cons.1 p1 with h3 | p3<;>rcases List.mem_cons.1 p2 with h4 | p4
      ·exact (congrArg Prod.fst h3).trans (congrArg Prod.fst h4).symm
      ·refine absurd (List.mem_map.2 ⟨(m,q),p4,?_⟩) hnd.1
       rw [←h3]; exact he.symm
      ·refine absurd (List.mem_map.2 ⟨(n,r),p3,?_⟩) hnd.1
       rw [←h4]; exact he
      ·exact ih hnd.2 p3 p4
    exact key h' hi a1 a2
 classical
 let φ':Nat→vA:=fun n=>if qN h' n=none then .dead else if n∈E then .nilp else φ (f n)
 let Lf':Nat→List Nat:=fun n=>if n∈E then [] else Lf (f n)
 have φd :∀n,qN h' n=none→φ' n=.dead:=fun n hn'=>by show (if qN h' n=none then vA.dead else _)=_; rw [if_pos hn']
 have φE :∀n,qN h' n≠none→n∈E→φ' n=.nilp:=fun n hn' he=>by show (if qN h' n=none then vA.dead else if n∈E then vA.nilp else φ (f n))=_; rw [if_neg hn',if_pos he]
 have φo :∀n,qN h' n≠none→n∉E→φ' n=φ (f n):=fun n hn' he=>by show (if qN h' n=none then vA.dead else if n∈E then vA.nilp else φ (f n))=_; rw [if_neg hn',if_neg he]
 have LE :∀n,n∈E→Lf' n=[]:=fun n he=>by show (if n∈E then [] else Lf (f n))=_; rw [if_pos he]
 have Lo :∀n,n∉E→Lf' n=Lf (f n):=fun n he=>by show (if n∈E then [] else Lf (f n))=_; rw [if_neg he]
 have old :∀n row,qN h' n=some row→n∉E→∃r0,qN h (f n)=some (row.1,r0)∧(r0=row.2∨gZ r0 row.2):=by
  intro n row hr he
  rcases (hh _ (mem n row hr)).2.2 with ⟨h3,_⟩ | ⟨_,h3,_⟩
  ·exact absurd h3 he
  ·exact h3
 have oldn :∀n,qN h' n≠none→n∉E→qN h (f n)≠none:=by
  intro n hn' he
  cases hr:qN h' n with
  | none=>exact absurd hr hn'
  | some row =>
   obtain ⟨r0,h3,_⟩:=old n row hr he
   simp [h3]
 have hk :∀L:List Nat,dD (B.env w φ) (B.env w φ') (fun _=>False) L:=fun L=>{num:=rfl,fr:=fun m b hb'=>by cases m<;>exact hb',cells:=fun b _ o=>rfl,φ:=fun n hn'=>hn'.elim,own:=fun b _=>rfl}
 refine ⟨h1,h2,?_,?_,φ',Lf',?_,?_,?_,hn⟩
 ·intro n row hr
  have:=hh _ (mem n row hr)
  exact ⟨this.2.1,uR (fun k hk=>hk.elim) _ this.1⟩
 ·intro n
  have key :∀(l:List (Nat×AV)),(∀x∈l,shp E (fun n=>n∉E∧qN h' n≠none) f (wB t x.1) x.2)→bnd (· < nx') (wB l n):=by
   intro l
   induction l with
   | nil=>intro _; trivial
   | cons y l ih =>
    intro hy
    obtain ⟨m,v⟩:=y
    simp only [wB]
    split
    ·rcases hy (m,v) (by simp) with h3 | ⟨k,h3,h4,_⟩ | ⟨_,h4⟩
     ·simp only at h3; subst h3; trivial
     ·simp only at h3; subst h3; exact (hE k h4).1
     ·refine qJf (fun n hn'=>?_) v h4
      cases hr:qN h' n with
      | none=>exact absurd hr hn'.2
      | some row=>exact (hh _ (mem n row hr)).2.1
    ·exact ih (fun x hx=>hy x (by simp [hx]))
  exact key t' ht
 ·exact {
   size0:=hl.ok.size0
   io0:=hl.ok.io0
   fr:=hl.ok.fr
   keep0:=hl.ok.keep0
   own0:=fun n hn' b hb'=>by
    by_cases he:n∈E
    ·rw [LE n he] at hb'; simp at hb'
    ·rw [Lo n he] at hb'
     exact hl.ok.own0 (f n) (oldn n hn' he) b hb'
   rh:={
    row:=fun n row hr=>by
     have hne:qN h' n≠none:=by simp [hr]
     unfold uT gF
     by_cases he:n∈E
     ·have h3:(B.env w φ').φ n=.nilp:=φE n hne he
      rw [h3,LE n he]
      rcases (hh _ (mem n row hr)).2.2 with ⟨_,h4,_⟩ | ⟨h4,_⟩
      ·exact ⟨h4,rfl⟩
      ·exact absurd he h4
     ·have h3:(B.env w φ').φ n=φ (f n):=φo n hne he
      rw [h3,Lo n he]
      obtain ⟨r0,h4,h5⟩:=old n row hr he
      have h6:=hl.ok.rh.row (f n) _ h4
      have hbr:=(hh _ (mem n row hr)).1
      have h6':(match φ (f n) with | .dead=>False | .nilp=>r0=[]∧Lf (f n)=[] | .at p=>p.sz=row.1∧fF w p r0.length∧∃Lr,yK (B.env w φ) w p.block p.off p.sz r0 Lr∧Lf (f n)=p.block::Lr):=h6
      cases hq:φ (f n) with
      | dead=>rw [hq] at h6'; exact h6'.elim
      | nilp =>
       rw [hq] at h6'
       refine ⟨?_,h6'.2⟩
       rcases h5 with h5 | h5
       ·rw [←h5]; exact h6'.1
       ·rw [h6'.1] at h5; simpa [gZ] using h5
      | «at» p =>
       rw [hq] at h6'
       obtain ⟨g1,g2,Lr,g3,g4⟩:=h6'
       have hlen:row.2.length=r0.length:=by
        rcases h5 with h5 | h5
        ·rw [h5]
        ·exact eZ h5
       refine ⟨g1,by rw [hlen]; exact g2,Lr,?_,g4⟩
       refine uD row.2 (hk Lr) hbr (fun _ _=>rfl) ?_
       rcases h5 with h5 | h5
       ·rw [←h5]; exact g3
       ·exact sN h5 g3
    nodup:=fun n hn'=>by
     by_cases he:n∈E
     ·rw [LE n he]; exact wB6
     ·rw [Lo n he]; exact hl.ok.rh.nodup _ (oldn n hn' he)
    blk:=fun n hn' b hb'=>by
     by_cases he:n∈E
     ·rw [LE n he] at hb'; simp at hb'
     ·rw [Lo n he] at hb'; exact hl.ok.rh.blk _ (oldn n hn' he) b hb'
    dis:=fun n m hn' hm' hne b hb1 hb2=>by
     by_cases he:n∈E
     ·rw [LE n he] at hb1; simp at hb1
     ·by_cases hg:m∈E
      ·rw [LE m hg] at hb2; simp at hb2
      ·rw [Lo n he] at hb1
       rw [Lo m hg] at hb2
       exact hl.ok.rh.dis _ _ (oldn n hn' he) (oldn m hm' hg) (fun hf=>hne (inj n m hn' hm' hf)) b hb1 hb2
    dead:=fun n hn'=>φd n hn'}}
 ·intro n
  have key :∀(l:List (Nat×AV)),(∀x∈l,shp E (fun n=>n∉E∧qN h' n≠none) f (wB t x.1) x.2)→RV (B.env w φ') (wB l n) (a.tmps.getD n undef) []:=by
   intro l
   induction l with
   | nil=>intro _; simp [wB,RV]
   | cons y l ih =>
    intro hy
    obtain ⟨m,v⟩:=y
    simp only [wB]
    split
    ·rename_i hnm
     subst hnm
     have h0:=hl.tm n
     rcases hy (n,v) (by simp) with h3 | ⟨k,h3,h4,h5⟩ | ⟨h3,h4⟩
     ·simp only at h3; subst h3; simp [RV]
     ·simp only at h3 h5; subst h3
      rw [h5] at h0
      simp only [RV] at h0
      have hφk:(B.env w φ').φ k=.nilp:=φE k (hE k h4).2 h4
      simp only [RV,hφk,true_and]
      exact ⟨none,h0.1⟩
     ·simp only at h3 h4
      rw [h3] at h0
      exact qJe (hk []) (fun m hm=>φo m hm.2 hm.1) v h4 h0
    ·exact ih (fun x hx=>hy x (by simp [hx]))
  exact key t' ht
 ·intro n hn'
  obtain ⟨h3,h4⟩:=hl.φ0 n hn'
  refine ⟨h3,?_⟩
  cases hr:qN h' n with
  | none=>exact .inr (φd n hr)
  | some row =>
   rcases (hh _ (mem n row hr)).2.2 with ⟨_,_,h5⟩ | ⟨h5,_,h6⟩
   ·simp only at h5; omega
   ·rw [φo n (by simp [hr]) h5,h6 h3]
    exact h4
end Go.Sep
namespace Go.Sep
set_option linter.unusedVariables false
set_option linter.unusedSimpArgs false
theorem nK {α:Type} {l:List α} {i:Nat} {x:α} (h:l[i]?=some x):x∈l:=by
 obtain ⟨hi,rfl⟩:=List.getElem?_eq_some_iff.1 h
 exact wAo hi
theorem qIb {A:Nat→Prop} {off len:Nat} {rows:List (List AV)} (h:yQ A rows):yQ A (xC off len rows):=by
 rw [qLb]
 exact yC.2 fun x hx=>yC.1 h x (List.mem_of_mem_drop (List.mem_of_mem_take hx))
theorem Sub.fold (nm i f k:Nat) {off:Nat} {t:List (Nat×AV)} {h:wT} {nx sz sz' len:Nat} {rows rows':List (List AV)} {r:List AV} (hk:qN h k=some (sz',rows')) (hlen:off+len≤rows'.length) (hnm:qN h nm=some (sz,rows)) (hne:k≠nm) (hk10:10≤k)
  (hr:rows[i]?=some r) (hf:r[f]?=some (.ns k off len)):Sub (.mk t h nx) (.mk t (del (put h nm (sz,rows.set i (r.set f (.sl .own sz' (xC off len rows'))))) k) nx):=by
 rintro B a w ⟨h1,h2,hb,hbt,φ,Lf,hl⟩
 let φ':Nat→vA:=fun n=>if n=k then .dead else φ n
 have hor :∀n,φ' n=φ n∨φ' n=.dead:=fun n=>by
  show (if n=k then vA.dead else φ n)=φ n∨(if n=k then vA.dead else φ n)=.dead
  by_cases hn:n=k
  ·rw [if_pos hn]; exact .inr rfl
  ·rw [if_neg hn]; exact .inl rfl
 have hkeep :∀(A:Nat→Prop) (L:List Nat),dD (B.env w φ) (B.env w φ') A L:=fun A L=>{num:=rfl,fr:=fun m b hb'=>by cases m<;>exact hb',cells:=fun b _ o=>rfl,φ:=fun n _=>hor n,own:=fun b _=>rfl}
 have hφ :∀n,n≠k→(B.env w φ').φ n=(B.env w φ).φ n:=fun n hn=>if_neg hn
 have rk:=hl.ok.rh.row k _ hk
 have rn:=hl.ok.rh.row nm _ hnm
 obtain ⟨hi,hri⟩:=List.getElem?_eq_some_iff.1 hr
 obtain ⟨hfl,hrf⟩:=List.getElem?_eq_some_iff.1 hf
 have key :∃p Lr,φ nm=.at p∧p.sz=sz∧fF w p rows.length∧yK (B.env w φ) w p.block p.off p.sz rows Lr∧Lf nm=p.block::Lr:=by
  unfold uT gF at rn
  have he:(B.env w φ).φ nm=φ nm:=rfl
  rw [he] at rn
  cases hq:φ nm with
  | dead=>rw [hq] at rn; exact rn.elim
  | nilp=>rw [hq] at rn; simp only at rn; rw [rn.1] at hi; simp at hi
  | «at» p =>
   rw [hq] at rn
   obtain ⟨a1,a2,Lr,a3,a4⟩:=rn
   exact ⟨p,Lr,rfl,a1,a2,a3,a4⟩
 obtain ⟨p,Lr,hp,psz,pown,prow,pL⟩:=key
 obtain ⟨vs,L1,L2,L3,s1,s2,s3,s4,s5,s6,rfl⟩:=eQ i hi prow
 rw [hri] at s1 s4
 have hrs:r=r.take f++(.ns k off len::r.drop (f+1)):=by rw [←hrf]; simp
 rw [hrs] at s4
 obtain ⟨A1,A2,cs1,cs2,hcs,q1,q2,rfl⟩ :∃A1 A2 cs1 cs2,vs=cs1++cs2∧RVs (B.env w φ) (r.take f) cs1 A1∧RVs (B.env w φ) (.ns k off len::r.drop (f+1)) cs2 A2∧L2=A1++A2:=by
  obtain ⟨c1,c2,M1,M2,g1,g4,g2,g3⟩:=(uC _ _).1 s4
  exact ⟨M1,M2,c1,c2,g1,g2,g3,g4⟩
 simp only [RVs] at q2
 obtain ⟨v,vs',B1,B2,rfl,v1,v2,rfl⟩:=q2
 have hB1:B1=[]:=by simp only [RV] at v1; exact v1.1
 subst hB1
 obtain ⟨L',o1,hsub,o3⟩:=qIg rk v1 hlen
 have hnew:RVs (B.env w φ) (r.set f (.sl .own sz' (xC off len rows'))) vs (A1++(L'++B2)):=by
  have:r.set f (.sl .own sz' (xC off len rows'))=r.take f++(.sl .own sz' (xC off len rows')::r.drop (f+1)):=by rw [List.set_eq_take_append_cons_drop,if_pos hfl]
  rw [this,hcs]
  refine (uC _ _).2 ⟨_,_,_,_,rfl,rfl,q1,?_⟩
  simp only [RVs]
  exact ⟨v,vs',L',B2,rfl,o1,v2,rfl⟩
 have hsz:(r.set f (.sl .own sz' (xC off len rows'))).length=p.sz∧(r.set f (.sl .own sz' (xC off len rows'))).all yM=true:=by
  refine ⟨by rw [wBb]; exact s1.1,?_⟩
  refine List.all_eq_true.2 fun x hx=>?_
  rcases wBc hx with hx | rfl
  ·exact List.all_eq_true.1 s1.2 x hx
  ·rfl
 have hrows:=rM i hi hsz s2 s3 hnew s5 s6
 let Ln:List Nat:=p.block::(L1++((A1++(L'++B2))++L3))
 have hperm:Ln.Perm (Lf nm++L'):=by
  refine List.perm_iff_count.2 fun x=>?_
  show List.count x (p.block::(L1++((A1++(L'++B2))++L3)))=List.count x (Lf nm++L')
  rw [pL]
  simp only [List.nil_append,List.count_cons,List.count_append]
  omega
 have hkn:qN h k≠none:=by rw [hk]; simp
 have hnn:qN h nm≠none:=by rw [hnm]; simp
 have hmem :∀x,x∈Ln↔x∈Lf nm∨x∈L':=fun x=>by rw [hperm.mem_iff,wAu]
 have hnd:Ln.Nodup:=by
  refine hperm.nodup_iff.2 (List.nodup_append.2 ⟨hl.ok.rh.nodup nm hnn,?_,fun x hx y hy hxy=>?_⟩)
  ·exact o3 (hl.ok.rh.nodup k hkn)
  ·subst hxy
   exact hl.ok.rh.dis k nm hkn hnn hne x (hsub x hy) hx
 let h':wT:=del (put h nm (sz,rows.set i (r.set f (.sl .own sz' (xC off len rows'))))) k
 have hlook :∀n,qN h' n=if n=k then none else if n=nm then some (sz,rows.set i (r.set f (.sl .own sz' (xC off len rows')))) else qN h n:=fun n=>by
  show qN (del _ k) n=_
  rw [sQ]
  by_cases hn:n=k
  ·rw [if_pos hn,if_pos hn]
  ·rw [if_neg hn,if_neg hn,qEk]
 let Lf':Nat→List Nat:=fun n=>if n=k then [] else if n=nm then Ln else Lf n
 have Lk:Lf' k=[]:=if_pos rfl
 have Lnm:Lf' nm=Ln:=by show (if nm=k then [] else if nm=nm then Ln else Lf nm)=Ln; rw [if_neg (Ne.symm hne),if_pos rfl]
 have Lo :∀n,n≠k→n≠nm→Lf' n=Lf n:=fun n a b=>by show (if n=k then [] else if n=nm then Ln else Lf n)=Lf n; rw [if_neg a,if_neg b]
 have lookk:qN h' k=none:=by rw [hlook,if_pos rfl]
 have lookn:qN h' nm=some (sz,rows.set i (r.set f (.sl .own sz' (xC off len rows')))):=by rw [hlook,if_neg (Ne.symm hne),if_pos rfl]
 have looko :∀n,n≠k→n≠nm→qN h' n=qN h n:=fun n a b=>by rw [hlook,if_neg a,if_neg b]
 have from_ :∀n,qN h' n≠none→∀b∈Lf' n,(b∈Lf n∧qN h n≠none)∨(n=nm∧b∈Lf k):=by
  intro n hn b hb'
  by_cases hnk:n=k
  ·subst hnk; exact absurd lookk hn
  ·by_cases hnn':n=nm
   ·subst hnn'
    rw [Lnm] at hb'
    rcases (hmem b).1 hb' with hx | hx
    ·exact .inl ⟨hx,hnn⟩
    ·exact .inr ⟨rfl,hsub b hx⟩
   ·rw [Lo n hnk hnn'] at hb'
    rw [looko n hnk hnn'] at hn
    exact .inl ⟨hb',hn⟩
 refine ⟨h1,h2,?_,hbt,φ',Lf',?_,?_,?_,hl.ten⟩
 ·intro n row hr'
  rw [hlook] at hr'
  split at hr'
  ·simp at hr'
  ·split at hr'
   ·rename_i _ hn
    simp only [Option.some.injEq] at hr'
    subst hr'
    obtain ⟨b1,b2⟩:=hb nm _ hnm
    obtain ⟨b3,b4⟩:=hb k _ hk
    refine ⟨by omega,yC.2 fun x hx=>?_⟩
    rcases wBc hx with hx | rfl
    ·exact yC.1 b2 x hx
    ·refine jO.2 fun y hy=>?_
     rcases wBc hy with hy | rfl
     ·exact jO.1 (yC.1 b2 r (nK hr)) y hy
     ·exact qIb b4
   ·exact hb n row hr'
 ·refine {size0:=hl.ok.size0,io0:=hl.ok.io0,fr:=hl.ok.fr,keep0:=hl.ok.keep0,own0:=?_,rh:={row:=?_,nodup:=?_,blk:=?_,dis:=?_,dead:=?_}}
  ·intro n hn b hb'
   rcases from_ n hn b hb' with ⟨x1,x2⟩ | ⟨_,x1⟩
   ·exact hl.ok.own0 n x2 b x1
   ·exact hl.ok.own0 k hkn b x1
  ·intro n row hr'
   by_cases hnk:n=k
   ·subst hnk; rw [lookk] at hr'; simp at hr'
   ·by_cases hnn':n=nm
    ·subst hnn'
     rw [lookn] at hr'
     simp only [Option.some.injEq] at hr'
     subst hr'
     rw [Lnm]
     unfold uT gF
     rw [hφ n hnk]
     have he:(B.env w φ).φ n=.at p:=hp
     rw [he]
     refine ⟨psz,by rw [wBb]; exact pown,_,?_,rfl⟩
     exact uD (A:=fun _=>True) _ (hkeep _ _) (yC.2 fun x _=>jO.2 fun y _=>kE (A:=(· < nx)) (fun _ _=>trivial) y (by
      obtain ⟨b1,b2⟩:=hb n _ hnm
      obtain ⟨b3,b4⟩:=hb k _ hk
      rename_i hx hy
      rcases wBc hx with hx | rfl
      ·exact jO.1 (yC.1 b2 x hx) y hy
      ·rcases wBc hy with hy | rfl
       ·exact jO.1 (yC.1 b2 r (nK hr)) y hy
       ·exact qIb b4)) (fun _ _=>rfl) hrows
    ·rw [looko n hnk hnn'] at hr'
     rw [Lo n hnk hnn']
     exact (hl.ok.rh.row n row hr').keep (hkeep _ _) (hφ n hnk) (hb n row hr').2
  ·intro n hn
   by_cases hnk:n=k
   ·subst hnk; exact absurd lookk hn
   ·by_cases hnn':n=nm
    ·subst hnn'; rw [Lnm]; exact hnd
    ·rw [Lo n hnk hnn']
     rw [looko n hnk hnn'] at hn
     exact hl.ok.rh.nodup n hn
  ·intro n hn b hb'
   rcases from_ n hn b hb' with ⟨x1,x2⟩ | ⟨_,x1⟩
   ·exact hl.ok.rh.blk n x2 b x1
   ·exact hl.ok.rh.blk k hkn b x1
  ·intro n m hn hm hnm' b hb1 hb2
   have nk:n≠k:=fun he=>by subst he; exact hn lookk
   have mk:m≠k:=fun he=>by subst he; exact hm lookk
   rcases from_ n hn b hb1 with ⟨x1,x2⟩ | ⟨rfl,x1⟩<;>rcases from_ m hm b hb2 with ⟨y1,y2⟩ | ⟨rfl,y1⟩
   ·exact hl.ok.rh.dis n m x2 y2 hnm' b x1 y1
   ·exact hl.ok.rh.dis n k x2 hkn nk b x1 y1
   ·exact hl.ok.rh.dis m k y2 hkn mk b y1 x1
   ·exact hnm' rfl
  ·intro n hn
   show (if n=k then vA.dead else φ n)=.dead
   by_cases hnk:n=k
   ·rw [if_pos hnk]
   ·rw [if_neg hnk]
    by_cases hnn':n=nm
    ·subst hnn'; rw [lookn] at hn; simp at hn
    ·rw [looko n hnk hnn'] at hn
     exact hl.ok.rh.dead n hn
 ·intro n
  exact fV (A:=(· < nx)) _ (hkeep _ _) (hbt n) (hl.tm n)
 ·intro n hn
  obtain ⟨x1,x2⟩:=hl.φ0 n hn
  refine ⟨x1,?_⟩
  show (if n=k then vA.dead else φ n)=B.φ0 n∨(if n=k then vA.dead else φ n)=.dead
  by_cases hnk:n=k
  ·rw [if_pos hnk]; exact .inr rfl
  ·rw [if_neg hnk]; exact x2
theorem Sub.foldLast (nm f k:Nat) {off:Nat} {t:List (Nat×AV)} {h:wT} {nx sz sz' len:Nat} {front rows':List (List AV)} {r:List AV} (hk:qN h k=some (sz',rows')) (hlen:off+len≤rows'.length) (hnm:qN h nm=some (sz,front++[r])) (hne:k≠nm) (hk10:10≤k)
  (hf:r[f]?=some (.ns k off len)):Sub (.mk t h nx) (.mk t (del (put h nm (sz,front++[r.set f (.sl .own sz' (xC off len rows'))])) k) nx):=by
 have:=Sub.fold nm front.length f k (t:=t) (nx:=nx) hk hlen hnm hne hk10 (r:=r) (by simp) hf
 rw [List.set_append_right _ _ (qZt _),Nat.sub_self,List.set_cons_zero] at this
 exact this
theorem Sub.fold1 (nm f k:Nat) {off:Nat} {t:List (Nat×AV)} {h:wT} {nx sz sz' len:Nat} {rows':List (List AV)} {r:List AV} (hk:qN h k=some (sz',rows')) (hlen:off+len≤rows'.length) (hnm:qN h nm=some (sz,[r])) (hne:k≠nm) (hk10:10≤k)
  (hf:r[f]?=some (.ns k off len)):Sub (.mk t h nx) (.mk t (del (put h nm (sz,[r.set f (.sl .own sz' (xC off len rows'))])) k) nx) :=
 Sub.fold nm 0 f k (t:=t) (nx:=nx) hk hlen hnm hne hk10 (r:=r) (by simp) hf
theorem Sub.foldAt (nm f k:Nat) {off i:Nat} {t:List (Nat×AV)} {h:wT} {nx sz sz' len:Nat} {l rows':List (List AV)} {r:List AV} (hk:qN h k=some (sz',rows')) (hlen:off+len≤rows'.length) (hnm:qN h nm=some (sz,l.set i r)) (hne:k≠nm) (hk10:10≤k)
  (hf:r[f]?=some (.ns k off len)) (hi:i<l.length):Sub (.mk t h nx) (.mk t (del (put h nm (sz,l.set i (r.set f (.sl .own sz' (xC off len rows'))))) k) nx):=by
 have:=Sub.fold nm i f k (t:=t) (nx:=nx) hk hlen hnm hne hk10 (r:=r) (by simp [hi]) hf
 rw [List.set_set] at this
 exact this
end Go.Sep
namespace Go.Sep
set_option linter.unusedVariables false
set_option linter.unusedSimpArgs false
mutual
def bM:AV→Bool
 | .int _ _ | .bool _ | .str _=>true
 | .agg cs | .tup cs=>dE cs
 | _=>false
def dE:List AV→Bool
 | []=>true
 | c::cs=>bM c&&dE cs
end
mutual
theorem qAi (h:wT) :∀(v:AV),bM v=true→bwT h v=v
 | .int _ _,_ | .bool _,_ | .str _,_=>by simp [bwT,bwC]
 | .agg cs,hp=>by simp only [bM] at hp; simp only [bwT,qAk h cs hp]
 | .tup cs,hp=>by simp only [bM] at hp; simp only [bwT,qAk h cs hp]
 | .any,hp | .fn _ _,hp | .nilp,hp | .ptr _ _ _,hp | .fptr _ _ _,hp | .nil,hp | .nilI,hp | .ifc,hp | .ns _ _ _,hp | .sl _ _ _,hp=>by simp [bM] at hp
theorem qAk (h:wT) :∀(l:List AV),dE l=true→qFg h l=l
 | [],_=>by simp [qFg]
 | c::cs,hp=>by
  simp only [dE,qZu] at hp
  simp only [qFg,qAi h c hp.1,qAk h cs hp.2]
end
mutual
theorem qAh (h:wT) (F:Nat→Prop) :∀(v:AV),bM v=true→rI h F v
 | .int _ _,_ | .bool _,_ | .str _,_=>by simp [rI,bnd]
 | .agg cs,hp=>by simp only [bM] at hp; simp only [rI]; exact qAj h F cs hp
 | .tup cs,hp=>by simp only [bM] at hp; simp only [rI]; exact qAj h F cs hp
 | .any,hp | .fn _ _,hp | .nilp,hp | .ptr _ _ _,hp | .fptr _ _ _,hp | .nil,hp | .nilI,hp | .ifc,hp | .ns _ _ _,hp | .sl _ _ _,hp=>by simp [bM] at hp
theorem qAj (h:wT) (F:Nat→Prop) :∀(l:List AV),dE l=true→pK h F l
 | [],_=>by simp [pK]
 | c::cs,hp=>by
  simp only [dE,qZu] at hp
  simp only [pK]
  exact ⟨qAh h F c hp.1,qAj h F cs hp.2⟩
end
mutual
theorem qE6 (A:Nat→Prop) :∀(v:AV),bM v=true→okV A v
 | .int _ _,_ | .bool _,_ | .str _,_=>by simp [okV,nb]
 | .agg cs,hp=>by simp only [bM] at hp; simp only [okV]; exact pU A cs hp
 | .tup cs,hp=>by simp only [bM] at hp; simp only [okV]; exact pU A cs hp
 | .any,hp | .fn _ _,hp | .nilp,hp | .ptr _ _ _,hp | .fptr _ _ _,hp | .nil,hp | .nilI,hp | .ifc,hp | .ns _ _ _,hp | .sl _ _ _,hp=>by simp [bM] at hp
theorem pU (A:Nat→Prop) :∀(l:List AV),dE l=true→okL A l
 | [],_=>by simp [okL]
 | c::cs,hp=>by
  simp only [dE,qZu] at hp
  simp only [okL]
  exact ⟨qE6 A c hp.1,pU A cs hp.2⟩
end
mutual
theorem qE5 (f:Nat→Nat) :∀(v:AV),bM v=true→vG f v=v
 | .int _ _,_ | .bool _,_ | .str _,_=>by simp [vG]
 | .agg cs,hp=>by simp only [bM] at hp; simp only [vG,pT f cs hp]
 | .tup cs,hp=>by simp only [bM] at hp; simp only [vG,pT f cs hp]
 | .any,hp | .fn _ _,hp | .nilp,hp | .ptr _ _ _,hp | .fptr _ _ _,hp | .nil,hp | .nilI,hp | .ifc,hp | .ns _ _ _,hp | .sl _ _ _,hp=>by simp [bM] at hp
theorem pT (f:Nat→Nat) :∀(l:List AV),dE l=true→aN f l=l
 | [],_=>by simp [aN]
 | c::cs,hp=>by
  simp only [dE,qZu] at hp
  simp only [aN,qE5 f c hp.1,pT f cs hp.2]
end
mutual
theorem qBp (n:Nat) :∀(v:AV),bM v=true→yF n v=(v,[],n)
 | .int _ _,_ | .bool _,_ | .str _,_=>by simp [yF]
 | .agg cs,hp=>by simp only [bM] at hp; simp only [yF,mN n cs hp]
 | .tup cs,hp=>by simp only [bM] at hp; simp only [yF,mN n cs hp]
 | .any,hp | .fn _ _,hp | .nilp,hp | .ptr _ _ _,hp | .fptr _ _ _,hp | .nil,hp | .nilI,hp | .ifc,hp | .ns _ _ _,hp | .sl _ _ _,hp=>by simp [bM] at hp
theorem mN (n:Nat) :∀(l:List AV),dE l=true→jL n l=(l,[],n)
 | [],_=>by simp [jL]
 | c::cs,hp=>by
  simp only [dE,qZu] at hp
  simp only [jL,qBp n c hp.1,mN n cs hp.2,List.append_nil]
end
mutual
theorem qRp :∀(v:AV),wL v v
 | .nil=>by simp [wL]
 | .agg cs=>by simp only [wL]; exact ⟨cs,rfl,iT cs⟩
 | .tup cs=>by simp only [wL]; exact ⟨cs,rfl,iT cs⟩
 | .any | .int _ _ | .bool _ | .str _ | .fn _ _ | .nilp | .ptr _ _ _ | .fptr _ _ _ | .nilI | .ifc | .ns _ _ _ | .sl _ _ _=>by simp [wL]
theorem iT :∀(l:List AV),wM l l
 | []=>by simp [wM]
 | c::cs=>by simp only [wM]; exact ⟨c,cs,rfl,qRp c,iT cs⟩
end
def iC:List Bool→Bool
 | []=>true
 | b::bs=>!b&&iC bs
theorem rC (ix:Nat→Nat) (h:wT) :∀(ps:List Bool) (vs:List AV),iC ps=true→dE vs=true→iE ix h ps vs=vs
 | [],[],_,_=>by simp [iE]
 | [],v::vs,hn,hp=>by
  simp only [dE,qZu] at hp
  simp only [iE,qAi h v hp.1,rC ix h [] vs hn hp.2]
 | false::ps,[],_,_=>by simp [iE]
 | false::ps,v::vs,hn,hp=>by
  simp only [dE,qZu] at hp
  simp only [iC,Bool.not_false,Bool.true_and] at hn
  simp only [iE,qAi h v hp.1,rC ix h ps vs hn hp.2]
 | true::ps,vs,hn,_=>by simp [iC] at hn
theorem lF (h:wT) (A F:Nat→Prop) :∀(ps:List Bool) (vs:List AV),iC ps=true→dE vs=true→dP h A F ps vs
 | [],[],_,_=>by simp [dP]
 | [],v::vs,hn,hp=>by
  simp only [dE,qZu] at hp
  simp only [dP]
  exact ⟨qAh h F v hp.1,lF h A F [] vs hn hp.2⟩
 | false::ps,[],_,_=>by simp [dP]
 | false::ps,v::vs,hn,hp=>by
  simp only [dE,qZu] at hp
  simp only [iC,Bool.not_false,Bool.true_and] at hn
  simp only [dP]
  exact ⟨qAh h F v hp.1,lF h A F ps vs hn hp.2⟩
 | true::ps,vs,hn,_=>by simp [iC] at hn
section
variable {P:Program} {num:Nat→Nat} {fin:AS→Prop}
theorem qCc {f nx:Nat} {ps:List Bool} {xs:List Arg} {t:List (Nat×AV)} {h:wT} {res:AV} {vs:List AV} (hc:wD P num f vs [] res) (hx:xs.map (Arg.ev (wB t))=vs) (hn:iC ps=true) (hp:dE vs=true) (hr:bM res=true) :
  nZ P num (.call f ps xs) t h nx res [] nx:=by
 have:=qFd (P:=P) (num:=num) (nx:=nx) (h:=h) (ps:=ps) (xs:=xs) (t:=t) [] hc (by rw [hx,rC _ _ _ _ hn hp]; exact iT _) (by rw [hx]; exact lF _ _ _ _ _ hn hp) (by simp) (by simp) (by simp) (qE6 _ _ hr)
 rw [qE5 _ _ hr,qBp _ _ hr] at this
 simpa [fresh] using this
theorem fC {f nx:Nat} {ps:List Bool} {xs:List Arg} {t:List (Nat×AV)} {h:wT} {res:AV} {vs:List AV} {dst:Option Nat} {k:List It} (hc:wD P num f vs [] res) (hx:xs.map (Arg.ev (wB t))=vs) (hn:iC ps=true) (hp:dE vs=true) (hr:bM res=true)
  (hk:vc P num fin k (.mk (bX t dst res) h nx)):qI7 P num fin (.call f ps xs) dst k (.mk t h nx) :=
 fT (qCc hc hx hn hp hr) hk
theorem qSx (pend:List (Nat×List Nat)):apart pend []:=fun _ _ _ _ x hx=>by simp at hx
theorem eM {f nx:Nat} {ps:List Bool} {xs:List Arg} {t:List (Nat×AV)} {h:wT} {res:AV} {vs:List AV} {pend:List (Nat×List Nat)} {dst:Option Nat} {tr:uI} {k:List It} (hc:wD P num f vs [] res) (hx:xs.map (Arg.ev (wB t))=vs) (hn:iC ps=true) (hp:dE vs=true) (hr:bM res=true)
  (hk:vc P num fin (.draw tr pend::k) (.mk (bX t dst res) h nx)):qQf P num fin (.call f ps xs) pend dst tr k t h nx :=
 qC4 (qCc hc hx hn hp hr) (qSx pend) hk
end
end Go.Sep
namespace Go.Sep
set_option linter.unusedVariables false
set_option linter.unusedSimpArgs false
end Go.Sep
namespace Go.Sep
set_option linter.unusedVariables false
set_option linter.unusedSimpArgs false
theorem yG {n:Int} (h0:-(2^63)≤n) (h1:n<2^63):IntKind.i64.wrap n=n:=by
 unfold IntKind.wrap
 simp only [IntKind.bits,IntKind.signed]
 by_cases h:0≤n
 ·have:n%(2^64:Int)=n:=Int.emod_eq_of_lt h (by omega)
  simp only [this]
  rw [if_neg]
  simp
  omega
 ·have:n%(2^64:Int)=n+2^64:=by
   rw [←Int.add_emod_right n (2^64)]
   exact Int.emod_eq_of_lt (by omega) (by omega)
  simp only [this]
  rw [if_pos]
  ·omega
  ·simp
   omega
theorem wA {i:Nat} (h:i<2^62):IntKind.i64.wrap ((i:Int)+1)=((i+1:Nat):Int):=by rw [yG (by omega) (by omega)]; omega
theorem qYa (A:Nat→Prop) (l m:List (List AV)):yQ A (l++m)↔yQ A l∧yQ A m:=by simp [yC,or_imp,forall_and]
theorem zG (A:Nat→Prop) (m:Mode) (sz:Nat) (r:List (List AV)):bnd A (.sl m sz r)↔yQ A r:=by cases m<;>rfl
theorem qJg (A:Nat→Prop) (k:IntKind) (n:Int):bnd A (.int k n)↔True:=Iff.rfl
theorem qD4 (A:Nat→Prop) (b:Bool):bnd A (.bool b)↔True:=Iff.rfl
theorem qU3 (A:Nat→Prop) (s:ByteArray):bnd A (.str s)↔True:=Iff.rfl
def wC (l:List Int):List (List AV):=l.map fun n=>[.int .i64 n]
theorem tC:wC []=[]:=rfl
theorem zJ (l:List Int):(wC l).length=l.length:=by simp [wC]
theorem qBy (l m:List Int):wC l++wC m=wC (l++m):=by simp [wC]
theorem oN (l:List Int) (n:Nat):(wC l).drop n=wC (l.drop n):=by simp [wC]
theorem oL (l:List Int) (n:Nat):(wC l).take n=wC (l.take n):=by simp [wC]
theorem qM (n:Nat) (m:Int):List.replicate n [AV.int .i64 m]=wC (List.replicate n m):=by simp [wC]
theorem qM5 (l:List Int) (i:Nat) (m:Int):(wC l).set i [.int .i64 m]=wC (l.set i m):=by simp [wC]
theorem qJ (l:List Int) (i:Nat) (h:i<l.length):(wC l).getD i []=[.int .i64 (l.getD i 0)]:=by simp [wC,List.getD_eq_getElem?_getD,h]
theorem yU (A:Nat→Prop) (l:List Int):yQ A (wC l)↔True:=by
 simp only [iff_true]
 induction l with
 | nil=>trivial
 | cons n l ih=>exact ⟨⟨trivial,trivial⟩,ih⟩
theorem vZ (l:List Int):nbr (wC l)↔True:=by
 simp only [iff_true]
 induction l with
 | nil=>trivial
 | cons n l ih=>exact ⟨⟨trivial,trivial⟩,ih⟩
theorem uL :∀(l:List Int),bwR (wC l)=wC l
 | []=>rfl
 | n::l=>by
  have:=uL l
  simp only [wC,qZr,bwR,bwL,bwC] at this⊢
  rw [this]
theorem qHn (l:List Int):free (wC l)↔True:=by
 simp only [iff_true]
 intro r hr c hc
 simp only [wC,wBa] at hr
 obtain ⟨n,_,rfl⟩:=hr
 simp only [wAb] at hc
 subst hc
 rfl
theorem rB (nx:Nat):HB [] nx↔True:=by
 simp only [iff_true]
 intro n r h
 simp [qN] at h
theorem lD (n:Nat) (r:Row) (h:wT) (nx:Nat) (hh:HB h nx) (hn:n<nx) (hr:yQ (· < nx) r.2):HB ((n,r)::h) nx:=by
 intro m s hs
 simp only [qN] at hs
 split at hs
 ·rename_i he
  simp only [Option.some.injEq] at hs
  subst hs he
  exact ⟨hn,hr⟩
 ·exact hh m s hs
theorem qLh {α β:Type} (f:α→Option β):(none:Option α).bind f=none:=rfl
theorem tK {α:Type} (l:List α) (m:Nat):(l.drop m).take (l.length-m)=l.drop m:=List.take_of_length_le (by simp)
def xv (n k:Nat):yA:=⟨some n,.mv (.t k),none⟩
def xo (n:Nat) (p:MOp):yA:=⟨some n,p,none⟩
def xg (n:Nat) (p:MOp) (k:Nat) (b:Bool):yA:=⟨some n,p,some (k,b)⟩
def xr (l:List yA):bF:=.reg false l
def xi (n:Int):Arg:=.c (.int .i64 n)
def xz:AV:=.int .i64 0
end Go.Sep
namespace Go.Sep
open Go.RowKit
set_option linter.unusedVariables false
set_option linter.unusedSimpArgs false
theorem qW3 {e:Env} {Lf:Nat→List Nat} {b:Bool} {v:Value} {w':World} (h:qXl e Lf [] (.bool b) v w'):v=.bool b∧Below e.w.heap.size e.w w':=by
 obtain ⟨e',Lf',L,rfl,T,hv,_⟩:=h
 simp only [RV] at hv
 exact ⟨hv.1,T.io.1,T.io.2.1,T.io.2.2,T.size,fun k hk=>T.keep k hk (fun nm hF=>by simp at hF)⟩
def qMd (num:Nat→Nat) (W:World):Env:={num:=num,w:=W,w0:=W,φ:=fun _=>.dead,Fr:=fun _=>False,Bo:=fun b=>b<W.heap.size}
end Go.Sep
namespace Go.Sep
set_option linter.unusedVariables false
set_option linter.unusedSimpArgs false
end Go.Sep
namespace Go.Sep
open Go.WideShapes
set_option linter.unusedVariables false
set_option linter.unusedSimpArgs false
def eG (P:Program) (num:Nat→Nat) (t:TypeId) (n:Nat) {α:Type} (c:α→List AV) (Q:α→Prop):Prop :=
 P.cellsOf t=n∧(∀x,(c x).length=n∧(c x).all yM=true)∧
 ∀{H:Type} (enc:TypeId×Value→H) (W:World) (held:Bool) (fuel:Nat) (cs:List Value) (y:DataW H×List MemPlace),
  DataW.trod enc P W 0 (fun _=>true) held fuel t cs=some y→∃x,Q x∧RVs (qMd num W) (c x) cs []
theorem qC8 {α:Type} {R:Nat→α→Prop} :∀n,(∀i,i<n→∃x,R i x)→∃l:List α,l.length=n∧∀i x,l[i]?=some x→R i x
 | 0,_=>⟨[],rfl,by simp⟩
 | n+1,h=>by
  obtain ⟨l,hl,hr⟩:=qC8 n (fun i hi=>h i (by omega))
  obtain ⟨x,hx⟩:=h n (by omega)
  refine ⟨l++[x],by simp [hl],fun i y hy=>?_⟩
  rcases Nat.lt_trichotomy i n with hi | hi | hi
  ·rw [List.getElem?_append_left (by omega)] at hy
   exact hr i y hy
  ·subst hi
   rw [List.getElem?_append_right (by omega)] at hy
   simp [hl] at hy
   subst hy
   exact hx
  ·rw [wAf (by simp; omega)] at hy
   simp at hy
section
variable {P:Program} {num:Nat→Nat} {t:TypeId}
theorem qZ4 (ht:P.underlying t=some (.int .u8)) (hc:P.cellsOf t=1):eG P num t 1 (fun n:UInt8=>[.int .u8 n.toNat]) (fun _=>True):=by
 refine ⟨hc,fun _=>⟨rfl,rfl⟩,fun {H} enc W held fuel cs y h=>?_⟩
 obtain ⟨n,rfl,_,hw⟩:=DataW.trod_int ht h
 simp only [Lit.wf,IntKind.min,IntKind.max,IntKind.signed,IntKind.bits,qZu,decide_eq_true_eq,if_false,Bool.false_eq_true] at hw
 refine ⟨UInt8.ofNat n.toNat,trivial,?_⟩
 have:((UInt8.ofNat n.toNat).toNat:Int)=n:=by
  rw [UInt8.toNat_ofNat']
  omega
 simp only [RVs,RV,this]
 exact ⟨_,_,[],[],rfl,⟨rfl,rfl⟩,⟨rfl,rfl⟩,rfl⟩
theorem qL6 {e:Env} {W:World} {α:Type} {c:α→List AV} {b m:Nat} (hc :∀x,(c x).length=m∧(c x).all yM=true) :∀(l:List α) (o:Nat),
  (∀i x,l[i]?=some x→∃cs,cs.length=m∧(∀j,j<m→W.cell? ⟨b,o+i*m+j,none⟩=cs[j]?)∧RVs e (c x) cs [])→yK e W b o m (l.map c) []
 | [],o,_=>by simp [yK]
 | x::l,o,h=>by
  obtain ⟨cs,h1,h2,h3⟩:=h 0 x (by simp)
  have ih:=qL6 (e:=e) hc l (o+m) (fun i y hy=>by
   obtain ⟨ds,k1,k2,k3⟩:=h (i+1) y (by simpa using hy)
   refine ⟨ds,k1,fun j hj=>?_,k3⟩
   have:=k2 j hj
   rw [Nat.succ_mul] at this
   rw [←this]
   congr 2
   omega)
  simp only [qZr,yK]
  exact ⟨cs,[],[],hc x,h1,fun j hj=>by have:=h2 j hj; simpa using this,h3,ih,rfl⟩
theorem qZ5 {e:TypeId} {m:Nat} {α:Type} {c:α→List AV} {Q:α→Prop} (ht:P.underlying t=some (.slice e)) (hc:P.cellsOf t=1) (hm:0<m) (he:eG P num e m c Q) :
  eG P num t 1 (fun l:List α=>[.sl .bw m (l.map c)]) (fun l=>l.length<2^63∧∀x∈l,Q x):=by
 refine ⟨hc,fun _=>⟨rfl,rfl⟩,fun {H} enc W held fuel cs y h=>?_⟩
 obtain ⟨he1,he2,he3⟩:=he
 rcases DataW.trod_slice ht h with ⟨rfl,_⟩ | ⟨a,len,cap,elems,rest,n,_,rfl,_,_,hl,hx,hlen,hel,_⟩
 ·refine ⟨[],by simp,?_⟩
  simp only [RVs,RV]
  exact ⟨_,_,[],[],rfl,⟨rfl,.inl ⟨rfl,none,0,rfl,fun _=>rfl⟩⟩,⟨rfl,rfl⟩,rfl⟩
 ·have key :∀i,i<len→∃x,Q x∧∃ds,ds.length=m∧(∀j,j<m→W.cell? ((a.add (i*m)).add j)=ds[j]?)∧RVs (qMd num W) (c x) ds []:=by
   intro i hi
   have h1:=hel i hi
   rw [wBd (by omega),he1] at h1
   obtain ⟨ds,h2,h3⟩:=Option.bind_eq_some_iff.1 h1
   obtain ⟨x,h4,h5⟩:=he3 enc W held _ _ _ h3
   obtain ⟨h6,h7,h8⟩:=World.cells?_some h2
   exact ⟨x,h4,ds,h7,h8,h5⟩
  obtain ⟨l,hl1,hl2⟩:=qC8 len key
  refine ⟨l,⟨by unfold maxLen at hx; omega,fun x hx'=>?_⟩,?_⟩
  ·obtain ⟨i,hi,rfl⟩:=List.getElem_of_mem hx'
   exact (hl2 i _ (wBd hi)).1
  ·simp only [RVs,RV]
   refine ⟨_,_,[],[],rfl,⟨rfl,?_⟩,⟨rfl,rfl⟩,rfl⟩
   by_cases hz:len=0
   ·subst hz
    have:l=[]:=List.length_eq_zero_iff.1 hl1
    subst this
    exact .inl ⟨rfl,some a,cap,rfl,by simp⟩
   ·obtain ⟨b,o,sp⟩:=a
    have h0:0<l.length:=by omega
    obtain ⟨_,ds0,k1,k2,_⟩:=hl2 0 _ (wBd h0)
    have k3:=k2 0 hm
    rw [wBd (by omega)] at k3
    simp only [Nat.zero_mul,Addr.add,if_true] at k3
    unfold World.cell? at k3
    have hb:b<W.heap.size:=by
     rcases Nat.lt_or_ge b W.heap.size with h | h
     ·exact h
     ·simp [Array.getElem?_eq_none h] at k3
    have hsp:sp=none:=by
     cases sp with
     | none=>rfl
     | some s=>simp at k3; split at k3<;>simp at k3
    subst hsp
    refine .inr ⟨b,o,cap,by simp [hl1],by simp [hl1]; omega,.inr hb,qL6 he2 l o (fun i x hx'=>?_)⟩
    obtain ⟨_,ds,p1,p2,p3⟩:=hl2 i x hx'
    exact ⟨ds,p1,fun j hj=>by have:=p2 j hj; rw [eT,eT] at this; exact this,p3⟩
theorem eG.map {n:Nat} {α β:Type} {c:α→List AV} {d:β→List AV} {Q:α→Prop} {R:β→Prop} (h:eG P num t n c Q) (f:α→β) (hd :∀x,(d x).length=n∧(d x).all yM=true) (he :∀x,c x=d (f x)) (hq :∀x,Q x→R (f x)):eG P num t n d R:=by
 obtain ⟨h1,h2,h3⟩:=h
 refine ⟨h1,hd,fun {H} enc W held fuel cs y h=>?_⟩
 obtain ⟨x,q,r⟩:=h3 enc W held fuel cs y h
 exact ⟨f x,hq x q,he x▸r⟩
theorem eG.one {α:Type} {c:α→List AV} {Q:α→Prop} {H:Type} {enc:TypeId×Value→H} {W:World} {held:Bool} {v:Value} {d:DataW H} {p:List MemPlace} (h:eG P num t 1 c Q) (hv:v.cells = #[v]) (ht:DataW.Trod enc P W 0 (fun _=>true) held t v d p) :
  ∃x,Q x∧RV (qMd num W) ((c x).getD 0 .any) v []:=by
 obtain ⟨fuel,hf⟩:=ht
 obtain ⟨x,q,r⟩:=h.2.2 enc W held fuel _ _ hf
 rw [hv] at r
 have hl:=(h.2.1 x).1
 match hcx:c x,hl with
 | [a],_ =>
  rw [hcx] at r
  simp only [RVs] at r
  obtain ⟨v',vs',L1,L2,h1,h2,h3,h4⟩:=r
  have hL1:L1=[]:=(wY h4).1
  subst hL1
  simp only [List.cons.injEq] at h1
  rw [h1.1]
  exact ⟨x,q,by simpa [hcx] using h2⟩
theorem eG.agg {n:Nat} {α:Type} {c:α→List AV} {Q:α→Prop} {H:Type} {enc:TypeId×Value→H} {W:World} {held:Bool} {vs:Array Value} {d:DataW H} {p:List MemPlace} (h:eG P num t n c Q) (ht:DataW.Trod enc P W 0 (fun _=>true) held t (.agg vs) d p) :
  ∃x,Q x∧RV (qMd num W) (.agg (c x)) (.agg vs) []:=by
 obtain ⟨fuel,hf⟩:=ht
 obtain ⟨x,q,r⟩:=h.2.2 enc W held fuel _ _ hf
 refine ⟨x,q,?_⟩
 simp only [RV]
 exact ⟨vs.toList,by simp,by simpa [Value.cells] using r⟩
theorem qZ6 {e:Env} {a:AV} {as:List AV} {v:Value} {vs:List Value} (h1:RV e a v []) (h2:RVs e as vs []):RVs e (a::as) (v::vs) []:=by
 simp only [RVs]
 exact ⟨_,_,[],[],rfl,h1,h2,rfl⟩
theorem qZ2 {e:Env}:RVs e [] [] []:=by simp [RVs]
end
def qUw (num:Nat→Nat) (W:World):Env:={num:=num,w:=W,w0:=W,φ:=fun _=>.dead,Fr:=fun b=>b<W.heap.size,Bo:=fun _=>False}
theorem qYo (num:Nat→Nat) (W:World):Ok (qUw num W) (qB9 (fun _=>[]) (vV [])) (qN (vV [])) (fun _=>[]) where
 size0:=qZt _
 io0:=gE.refl _
 fr b hb:=by rcases hb with hb | hb; exact ⟨hb,by simp [qB9,vV]⟩; exact hb.elim
 keep0 _ _ _:=rfl
 own0 nm hn:=by simp [vV,qN] at hn
 rh:={row:=fun nm row hr=>by simp [vV,qN] at hr,nodup:=fun nm hn=>by simp [vV,qN] at hn,blk:=fun nm hn=>by simp [vV,qN] at hn,dis:=fun n m hn=>by simp [vV,qN] at hn,dead:=fun _ _=>rfl}
theorem qIf {e e':Env} :∀(cs:List AV),(∀c∈cs,∃k n,c=.int k n)→∀{vs:List Value} {L:List Nat},RVs e cs vs L→RVs e' cs vs L
 | [],_,vs,L,h=>by simpa only [RVs] using h
 | c::cs,hc,vs,L,h=>by
  obtain ⟨k,n,rfl⟩:=hc c (by simp)
  simp only [RVs,RV] at h⊢
  obtain ⟨v,vs',L1,L2,h1,h2,h3,h4⟩:=h
  exact ⟨v,vs',L1,L2,h1,h2,qIf cs (fun c hc'=>hc c (by simp [hc'])) h3,h4⟩
theorem qCn {e e':Env} {W:World} {b sz:Nat} :∀(rs:List (List AV)) (o:Nat),(∀r∈rs,∀c∈r,∃k n,c=.int k n)→∀{L:List Nat},yK e W b o sz rs L→yK e' W b o sz rs L
 | [],_,_,L,h=>by simpa only [yK] using h
 | r::rs,o,hc,L,h=>by
  simp only [yK] at h⊢
  obtain ⟨vs,L1,L2,h1,h2,h3,h4,h5,h6⟩:=h
  exact ⟨vs,L1,L2,h1,h2,h3,qIf r (hc r (by simp)) h4,qCn rs _ (fun r hr=>hc r (by simp [hr])) h5,h6⟩
theorem qYp {num:Nat→Nat} {W:World} {sz:Nat} {rows:List (List AV)} {v:Value} (hc :∀r∈rows,∀c∈r,∃k n,c=.int k n) (h:RV (qMd num W) (.sl .bw sz rows) v []):RV (qUw num W) (.sl .fz sz rows) v []:=by
 simp only [RV,true_and] at h⊢
 rcases h with h | ⟨b,o,c,h1,h2,h3,h4⟩
 ·exact .inl h
 ·refine .inr ⟨b,o,c,h1,h2,?_,qCn rows o hc h4⟩
  rcases h3 with h3 | h3
  ·exact h3.elim
  ·exact h3
end Go.Sep

