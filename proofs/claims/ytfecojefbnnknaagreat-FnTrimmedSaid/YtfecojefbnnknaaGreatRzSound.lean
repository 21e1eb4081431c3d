/- The executor of symbolic states: the texts App App2 Clear Plan Plan2, one after the other. No condition. -/
import Derived.Test.YtfecojefbnnknaaGreatRzStore
import Derived.Laws.Append
import Derived.Laws.BytesString
import Derived.OrdersHeld
open Bool renaming and_eq_true → wBp, false_eq_true → wBl, not_false → wCu
open List renaming append_nil → wCv, filter_cons_of_pos → wCz, getD_eq_getElem?_getD → wBr, getElem?_cons_succ → wCt, getElem?_cons_zero → wCs, getElem?_eq_none → wCa, getElem?_toArray → wCr, mem_cons → wBn, mem_cons_of_mem → wCk, mem_filter → wCy, mem_of_getElem? → wCx, mem_of_mem_drop → wCg, mem_of_mem_take → wCh, mem_singleton → wC6, not_mem_nil → wCw, range' → wD0, replicate → wBj, sublist_append_right → wCm, sublist_cons_self → wCo
open Nat renaming add_mul → wBh, le_refl → wBo, lt_of_lt_of_le → wCq, mul_le_mul_right → wC9
open Option renaming bind_some → wBu, map_some → wBs
namespace Go.Sep
set_option maxHeartbeats 16000000
set_option linter.unusedVariables false
set_option linter.unusedSimpArgs false
theorem dP.move {e:Env} {L0:List Nat} {H:Nat→Option Row} {Lf:Nat→List Nat} {A:Nat→Prop} {rd dl:FP} {nx:Nat} {row':Row} {w':World} {s':vG} {L':List Nat} (hk:Ok e L0 H Lf)
  (hbh :∀nm row,H nm=some row→yW A row.2) (hrd :∀x∈rd,x.2.2=x.2.1) (hpre :∀x∈rd++dl,H x.1=x.2.1) (hdl :∀x∈dl,x.2.2=none) (hapart :∀x∈rd,x.1∉dl.map (·.1)) (hnone:H nx=none) (hnA :¬A nx)
  (hnx:nx∉rd.map (·.1)∧nx∉dl.map (·.1)) (hs:e.w.heap.size≤w'.heap.size) (hio:gH e.w w')
  (hw :∀c,c<e.w.heap.size→(∀n∈dl.map (·.1),H n≠none→c∉Lf n)→w'.heap[c]?=e.w.heap[c]?)
  (hr :∀e':Env,e'.w=w'→e'.φ nx=s'→dI e e' A []→gI e' s' row' L') (hnd:L'.Nodup)
  (hsub :∀b∈L',b<w'.heap.size∧(e.w.heap.size≤b∨∃n∈dl.map (·.1),H n≠none∧b∈Lf n)) :
  ∃e' Lf',e'.w=w'∧e'.φ nx=s'∧(∀nm,A nm→e'.φ nm=e.φ nm∨e'.φ nm=.dead)∧
   dP e H Lf (fun n=>n∈(rd++dl++[(nx,none,some row')]:FP).map (·.1)) e' (upH H (rd++dl++[(nx,none,some row')])) Lf':=by
 classical
 let e':Env:={e with w:=w',φ:=fun n=>if n=nx then s' else if n∈dl.map (·.1) then .dead else e.φ n}
 have φx:e'.φ nx=s':=if_pos rfl
 have φd :∀n,n≠nx→n∈dl.map (·.1)→e'.φ n=.dead:=fun n h1 h2=>by
  show (if n=nx then _ else if n∈dl.map (·.1) then _ else _)=_
  rw [if_neg h1,if_pos h2]
 have φn :∀n,n≠nx→n∉dl.map (·.1)→e'.φ n=e.φ n:=fun n h1 h2=>by
  show (if n=nx then _ else if n∈dl.map (·.1) then _ else _)=_
  rw [if_neg h1,if_neg h2]
 have hA :∀nm,A nm→e'.φ nm=e.φ nm∨e'.φ nm=.dead:=fun nm h=>by
  have h1:nm≠nx:=fun he=>hnA (he▸h)
  by_cases h2:nm∈dl.map (·.1)
  ·exact .inr (φd nm h1 h2)
  ·exact .inl (φn nm h1 h2)
 have hHd :∀(dl:FP) (H:Nat→Option Row),(∀x∈dl,x.2.2=none)→∀n,upH H dl n=if n∈dl.map (·.1) then none else H n:=by
  intro dl
  induction dl with
  | nil=>intro H _ n; rfl
  | cons x dl ih =>
   obtain ⟨m,q,r⟩:=x
   intro H hd n
   have hr:r=none:=hd (m,q,r) (by simp)
   subst hr
   simp only [upH]
   rw [ih _ (fun x hx=>hd x (by simp [hx]))]
   by_cases h1:n∈dl.map (·.1)
   ·simp [h1]
   ·by_cases h2:n=m<;>simp [h1,h2]
 have hH :∀n,upH H (rd++dl++[(nx,none,some row')]) n=if n=nx then some row' else if n∈dl.map (·.1) then none else H n:=by
  intro n
  rw [lR,lR,tN (fun x hx=>hpre x (by simp [hx])) hrd]
  show (if n=nx then some row' else upH H dl n)=_
  rw [hHd dl H hdl]
 have iB :∀n,n∈(rd++dl++[(nx,none,some row')]:FP).map (·.1)↔n∈rd.map (·.1)∨n∈dl.map (·.1)∨n=nx:=by
  intro n; simp [List.mem_append]
 have hdead :∀x∈dl,H x.1=x.2.1:=fun x hx=>hpre x (by simp [hx])
 have keepL :∀nm,H nm≠none→nm∉dl.map (·.1)→∀b∈Lf nm,w'.heap[b]?=e.w.heap[b]?:=fun nm hn hd b hb =>
  hw b (hk.rh.blk nm hn b hb).1 (fun n hn2 hne=>hk.rh.dis nm n hn hne (fun he=>hd (he▸hn2)) b hb)
 have kp :∀L:List Nat,(∀b∈L,w'.heap[b]?=e.w.heap[b]?)→dI e e' A L:=fun L hL=>{
  num:=rfl
  fr:=fun m b h=>by cases m<;>exact h
  cells:=fun b _ o=>rfl
  φ:=hA
  own:=hL}
 refine ⟨e',fun n=>if n=nx then L' else Lf n,rfl,φx,hA,?_⟩
 refine {num:=rfl,w0:=rfl,Fr:=rfl,Bo:=rfl,io:=hio,size:=hs,keep:=?_,φ:=?_,φF:=?_,rest:=?_,row:=?_,nodup:=?_,blk:=?_,dis:=?_,dead:=?_}
 ·intro c hc h
  exact hw c hc (fun n hn hne=>h n ((iB n).2 (.inr (.inl hn))) hne)
 ·intro nm hF
  exact φn nm (fun he=>hF ((iB nm).2 (.inr (.inr he)))) (fun hd=>hF ((iB nm).2 (.inr (.inl hd))))
 ·intro nm _ hne
  have h1:nm≠nx:=fun he=>hne (he▸hnone)
  by_cases h2:nm∈dl.map (·.1)
  ·exact .inr (φd nm h1 h2)
  ·exact .inl (φn nm h1 h2)
 ·intro nm hF
  rw [hH,if_neg (fun he=>hF ((iB nm).2 (.inr (.inr he)))),if_neg (fun hd=>hF ((iB nm).2 (.inr (.inl hd))))]
 ·intro nm row _ hrow
  rw [hH] at hrow
  by_cases h1:nm=nx
  ·subst h1
   rw [if_pos rfl] at hrow
   simp only [Option.some.injEq] at hrow
   subst hrow
   simp only [if_true]
   unfold uX
   rw [φx]
   exact hr e' rfl φx (kp [] (by simp))
  ·rw [if_neg h1] at hrow
   simp only [if_neg h1]
   by_cases h2:nm∈dl.map (·.1)
   ·rw [if_pos h2] at hrow; simp at hrow
   ·rw [if_neg h2] at hrow
    exact (hk.rh.row nm row hrow).keep (kp _ (keepL nm (by simp [hrow]) h2)) (φn nm h1 h2) (hbh nm row hrow)
 ·intro nm _ hne
  rw [hH] at hne
  by_cases h1:nm=nx
  ·simpa [h1] using hnd
  ·rw [if_neg h1] at hne
   simp only [if_neg h1]
   by_cases h2:nm∈dl.map (·.1)
   ·rw [if_pos h2] at hne; exact absurd rfl hne
   ·rw [if_neg h2] at hne; exact hk.rh.nodup nm hne
 ·intro nm hF hne b hb
  rw [hH] at hne
  by_cases h1:nm=nx
  ·simp only [if_pos h1] at hb
   obtain ⟨g1,g2⟩:=hsub b hb
   refine ⟨g1,g2.imp id ?_⟩
   rintro ⟨n,hn,g3,g4⟩
   exact ⟨n,(iB n).2 (.inr (.inl hn)),g3,g4⟩
  ·rw [if_neg h1] at hne
   simp only [if_neg h1] at hb
   by_cases h2:nm∈dl.map (·.1)
   ·rw [if_pos h2] at hne; exact absurd rfl hne
   ·rw [if_neg h2] at hne
    exact ⟨wCq (hk.rh.blk nm hne b hb).1 hs,.inr ⟨nm,hF,hne,hb⟩⟩
 ·have key :∀m,m≠nx→m∉dl.map (·.1)→H m≠none→∀b,b∈L'→b∈Lf m→False:=by
   intro m h1 h2 hne b hb hb2
   obtain ⟨_,g2 | ⟨n,hn,g3,g4⟩⟩:=hsub b hb
   ·have:=(hk.rh.blk m hne b hb2).1; omega
   ·exact hk.rh.dis n m g3 hne (fun he=>h2 (he▸hn)) b g4 hb2
  intro n m _ _ hn hm hne b hb1 hb2
  rw [hH] at hn hm
  by_cases h1:n=nx<;>by_cases h2:m=nx
  ·exact hne (h1.trans h2.symm)
  ·simp only [if_pos h1,if_neg h2] at hb1 hb2 hm
   by_cases h3:m∈dl.map (·.1)
   ·rw [if_pos h3] at hm; exact hm rfl
   ·rw [if_neg h3] at hm; exact key m h2 h3 hm b hb1 hb2
  ·simp only [if_pos h2,if_neg h1] at hb1 hb2 hn
   by_cases h3:n∈dl.map (·.1)
   ·rw [if_pos h3] at hn; exact hn rfl
   ·rw [if_neg h3] at hn; exact key n h1 h3 hn b hb2 hb1
  ·simp only [if_neg h1,if_neg h2] at hb1 hb2 hn hm
   by_cases h3:n∈dl.map (·.1)
   ·rw [if_pos h3] at hn; exact hn rfl
   ·by_cases h4:m∈dl.map (·.1)
    ·rw [if_pos h4] at hm; exact hm rfl
    ·rw [if_neg h3] at hn; rw [if_neg h4] at hm
     exact hk.rh.dis n m hn hm hne b hb1 hb2
 ·intro nm _ hno
  rw [hH] at hno
  by_cases h1:nm=nx
  ·simp [h1] at hno
  ·rw [if_neg h1] at hno
   by_cases h2:nm∈dl.map (·.1)
   ·exact φd nm h1 h2
   ·rw [if_neg h2] at hno
    rw [φn nm h1 h2]
    exact hk.rh.dead nm hno
theorem qG3 {e:Env} {sz:Nat} :∀{rows:List (List AV)} {vs:List Value} {L:List Nat},free rows→vD e sz rows vs L→L=[]
 | [],_,_,_,h=>by simp only [vD] at h; exact h.2
 | r::rs,vs,L,hf,h=>by
  simp only [vD] at h
  obtain ⟨v1,v2,L1,L2,rfl,h1,h2,h3,rfl⟩:=h
  have g1:L1=[]:=by
   have key :∀(l:List AV) (us:List Value) (M:List Nat),(∀c∈l,qAh c=false)→l.all yS=true→RVs e l us M→M=[]:=by
    intro l
    induction l with
    | nil=>intro us M _ _ h; simp only [RVs] at h; exact h.2
    | cons c l ih =>
     intro us M hfc hok h
     simp only [RVs] at h
     obtain ⟨v,vs',M1,M2,rfl,k1,k2,rfl⟩:=h
     simp only [List.all_cons,wBp] at hok
     have:=qCa hok.1 (fun sz rows he=>by have:=hfc c (by simp); rw [he] at this; simp [qAh] at this) k1
     rw [this,ih vs' M2 (fun x hx=>hfc x (by simp [hx])) hok.2 k2]
     rfl
   exact key r v1 L1 (fun c hc=>hf r (by simp) c hc) h1.2 h2
  rw [g1,qG3 (fun x hx=>hf x (by simp [hx])) h3]
  rfl
section
variable {P:Program} {num:Nat→Nat} {o:Oper} {ρ:Nat→AV} {h:wT} {nx nx':Nat} {p:Prop} {v:AV} {fp:FP}
theorem qE3 {h:wT} {e:Env} {L0:List Nat} {H:Nat→Option Row} {Lf:Nat→List Nat} {sz:Nat} {d:AV} {c:Value} {cond:Prop} {xs:List (List AV)} {rd:FP} (hk:Ok e L0 H Lf) (hs:kT h sz d=some (cond,xs,rd)) (hc:cond)
  (hpre :∀x∈rd,H x.1=x.2.1) (hv:RV e d c []):(∀x∈rd,x.2.2=x.2.1)∧Builtin.lenOf c=pure xs.length∧∃vals,vD e sz xs vals []∧
   ∀w':World,nL e rd w'→(Builtin.firstCells sz xs.length c).run P w'=.ok vals.toArray w':=by
 have frozen :∀(m:Mode) (s:Nat) (rows:List (List AV)),m≠.own→d=.sl m s rows→some (s=sz∧free rows,rows,([]:FP))=some (cond,xs,rd)→(∀x∈rd,x.2.2=x.2.1)∧Builtin.lenOf c=pure xs.length∧∃vals,vD e sz xs vals []∧
   ∀w':World,nL e rd w'→(Builtin.firstCells sz xs.length c).run P w'=.ok vals.toArray w':=by
  intro m s rows hm hd hs
  simp only [Option.some.injEq,Prod.mk.injEq] at hs
  obtain ⟨rfl,rfl,rfl⟩:=hs
  obtain ⟨rfl,hf⟩:=hc
  refine ⟨by simp,?_⟩
  have hv':(rows=[]∧∃a c',c=.slice a 0 c'∧(a=none→c'=0))∨∃b o c',c=.slice (some ⟨b,o,none⟩) rows.length c'∧rows.length≤c'∧e.frozen m b∧yM e e.w0 b o s rows []:=by
   rw [hd] at hv
   cases m
   ·exact absurd rfl hm
   ·simp only [RV] at hv; exact hv.2
   ·simp only [RV] at hv; exact hv.2
  rcases hv' with ⟨rfl,a,c',rfl,_⟩ | ⟨b,o',c',rfl,_,hfr,hr⟩
  ·refine ⟨rfl,[],⟨rfl,rfl⟩,fun w' _=>?_⟩
   cases a<;>simp [Builtin.firstCells,loadCells,loadCellsFrom]
  ·obtain ⟨vals,g1,g2⟩:=lW hr
   refine ⟨rfl,vals,g1,fun w' hw=>?_⟩
   simp only [Builtin.firstCells]
   refine eL (vF g1) (fun j hj=>?_)
   rw [hw.1 _ (Env.frozen_or hfr),hk.frozen_cell (Env.frozen_or hfr)]
   exact g2 j (by rw [vF g1]; exact hj)
 unfold kT at hs
 split at hs
 ·rename_i hd
  simp only [Option.some.injEq,Prod.mk.injEq] at hs
  obtain ⟨rfl,rfl,rfl⟩:=hs
  simp only [RV] at hv
  obtain ⟨rfl,_⟩:=hv
  exact ⟨by simp,rfl,[],⟨rfl,rfl⟩,fun w' _=>by simp [Builtin.firstCells]⟩
 ·rename_i nm off len
  cases hl:qQ h nm with
  | none=>simp [hl] at hs
  | some row =>
   simp only [hl,wBs,Option.some.injEq,Prod.mk.injEq] at hs
   obtain ⟨rfl,rfl,rfl⟩:=hs
   obtain ⟨p1,p2,p3⟩:=hc
   have hrow:=hk.rh.row nm row (hpre (nm,some row,some row) (by simp))
   have hlen:((row.2.drop off).take len).length=len:=by simp; omega
   refine ⟨by simp,?_⟩
   rw [hlen]
   rcases qIr hrow hv with ⟨_,q1,rfl,rfl,aa,rfl⟩ | ⟨q,A,Lr,hq,q1,q2,q3,q4,q5,rfl,q7⟩
   ·rw [q1]
    exact ⟨rfl,[],⟨rfl,rfl⟩,fun w' _=>by cases aa<;>simp [Builtin.firstCells,loadCells,loadCellsFrom]⟩
   ·have h0:row.2=row.2.take off++((row.2.drop off).take len++row.2.drop (off+len)):=by
     rw [←List.drop_drop,List.take_append_drop,List.take_append_drop]
    have q3':=q3
    rw [h0] at q3'
    obtain ⟨M1,M2,_,h2,_⟩:=(jM _ _).1 q3'
    obtain ⟨M3,M4,h3,_,_⟩:=(jM _ _).1 h2
    rw [List.length_take,Nat.min_eq_left (by omega)] at h3
    obtain ⟨vals,g1,g2⟩:=lW h3
    have hM:=qG3 p3 g1
    subst hM
    rw [q1,p1] at g1
    refine ⟨rfl,vals,g1,fun w' hw=>?_⟩
    simp only [Builtin.firstCells]
    by_cases hz:len=0
    ·subst hz
     have:vals=[]:=by
      have:=vF g1
      simpa using this
     subst this
     simp [loadCells,loadCellsFrom]
    ·have hroom:off<q.cap:=by omega
     rw [q7 hroom]
     have hlv:=vF g1
     rw [hlen] at hlv
     refine eL hlv (fun j hj=>?_)
     rw [uZ (hw.2 (nm,some row,some row) (by simp) q hq)]
     exact g2 j (by rw [hlv]; exact hj)
 ·exact frozen .bw _ _ (by simp) rfl hs
 ·exact frozen .fz _ _ (by simp) rfl hs
 ·simp at hs
end
end Go.Sep
namespace Go.Sep
set_option linter.unusedVariables false
set_option linter.unusedSimpArgs false
section
variable {P:Program} {num:Nat→Nat} {o:Oper} {ρ:Nat→AV} {h:wT} {nx nx':Nat} {p:Prop} {v:AV} {fp:FP}
theorem qNb {A:Nat→Prop} {sz:Nat} {d:AV} {cond:Prop} {xs:List (List AV)} {rd:FP} {H:Nat→Option Row} (hs:kT h sz d=some (cond,xs,rd)) (hb:bnd A d) (hbh :∀nm row,H nm=some row→yW A row.2) (hpre :∀x∈rd,H x.1=x.2.1):yW A xs:=by
 unfold kT at hs
 split at hs
 ·simp only [Option.some.injEq,Prod.mk.injEq] at hs
  obtain ⟨_,rfl,_⟩:=hs
  trivial
 ·rename_i nm off len
  cases hl:qQ h nm with
  | none=>simp [hl] at hs
  | some row =>
   simp only [hl,wBs,Option.some.injEq,Prod.mk.injEq] at hs
   obtain ⟨_,rfl,rfl⟩:=hs
   have:=hbh nm row (hpre (nm,some row,some row) (by simp))
   exact yE.2 fun r hr=>yE.1 this r (wCg (wCh hr))
 ·simp only [Option.some.injEq,Prod.mk.injEq] at hs
  obtain ⟨_,rfl,_⟩:=hs
  exact hb
 ·simp only [Option.some.injEq,Prod.mk.injEq] at hs
  obtain ⟨_,rfl,_⟩:=hs
  exact hb
 ·simp at hs
theorem qRq {sz:Nat} {d:AV} {cond:Prop} {xs:List (List AV)} {rd:FP} {r:Nat×Option Row×Option Row} (hs:kT h sz d=some (cond,xs,rd)) (hr:r∈rd):r.2.1≠none:=by
 unfold kT at hs
 split at hs
 ·simp only [Option.some.injEq,Prod.mk.injEq] at hs
  obtain ⟨_,_,rfl⟩:=hs
  simp at hr
 ·rename_i nm off len
  cases hl:qQ h nm with
  | none=>simp [hl] at hs
  | some row =>
   simp only [hl,wBs,Option.some.injEq,Prod.mk.injEq] at hs
   obtain ⟨_,_,rfl⟩:=hs
   simp only [wC6] at hr
   subst hr
   simp
 ·simp only [Option.some.injEq,Prod.mk.injEq] at hs
  obtain ⟨_,_,rfl⟩:=hs
  simp at hr
 ·simp only [Option.some.injEq,Prod.mk.injEq] at hs
  obtain ⟨_,_,rfl⟩:=hs
  simp at hr
 ·simp at hs
theorem wAc (need old el t:Nat):need≤(Question.appendCap need old el).cut t:=by simp [Question.cut]
theorem qF5 {w:World} {t u ty el el':TypeId} {i:TypeInfo} {z c:Value} {sb:Option Addr} {sLen sCap n:Nat} {olds news:List Value} (ht:P.underlying t=some (.slice el)) (hu:P.underlying u=some (.slice el'))
  (hi:P.info? el=some i) (hz:i.zero=some z) (hn:Builtin.lenOf c=pure n) (hfo :∀w':World,w'.heap=w.heap→(Builtin.firstCells i.size sLen (.slice sb sLen sCap)).run P w'=.ok olds.toArray w')
  (hfn :∀w':World,w'.heap=w.heap→(Builtin.firstCells i.size n c).run P w'=.ok news.toArray w') (hg:sCap<sLen+n) (h47:sLen+n≤2^47) (hb:i.bytes*(sLen+n)≤2^47) :
  ∃cap,sLen+n≤cap∧(Builtin.append_ #[t,u] ty #[.slice sb sLen sCap,c]).run P w =
   .ok (.slice (some ⟨w.heap.size,0,none⟩) (sLen+n) cap) (w.drew.alloc (.cells (olds.toArray++news.toArray++Builtin.zeroCells z.cells (cap-(sLen+n))) el)):=by
 have h0 :¬(sLen+n≤sCap):=by omega
 have h63 :¬(((sLen+n:Nat):Int)>IntKind.i64.max∧((false:Bool)=true∨i.bytes=0)):=by
  have:IntKind.i64.max=9223372036854775807:=by decide
  rw [this]; omega
 have h48 :¬(Builtin.nextslicecap (sLen+n) sCap*i.bytes>2^48):=by
  have h1:=wC9 i.bytes (nextslicecap_le hg)
  have h2:2*(sLen+n)*i.bytes=2*(i.bytes*(sLen+n)):=by rw [Nat.mul_assoc,Nat.mul_comm (sLen+n)]
  omega
 refine ⟨(Question.appendCap (sLen+n) sCap el).cut (w.tape w.drawn (.appendCap (sLen+n) sCap el)),wAc _ _ _ _,?_⟩
 have hq:(Question.appendCap (sLen+n) sCap el).forced=false:=rfl
 unfold Builtin.append_
 simp only [wCr,wCs,wCt,Sem.run_bind,wM ht,wM hu,Result.andThen_ok,uM hi,Sem.run_pure,hn,wCu,if_true,wBl,if_false]
 rw [if_neg h0]
 simp only [Sem.run_bind,zF hi,Result.andThen_ok]
 have h63' :¬((((sLen+n:Nat):Int)>IntKind.i64.max∧(False∨i.bytes=0))):=by simpa using h63
 rw [if_neg h63']
 simp only [Sem.run_bind,zF hi,Result.andThen_ok]
 rw [if_neg h48]
 simp only [Sem.run_bind,run_choose,hq,wBl,if_false,Result.andThen_ok,run_askRoom,zF hi]
 rw [World.drew_eq,hfo w.drew rfl]
 simp only [Result.andThen_ok]
 rw [hfn w.drew rfl]
 simp only [Result.andThen_ok,dW hi hz]
 rw [aB]
 rfl
theorem qBh {w:World} {t u ty el el':TypeId} {i:TypeInfo} {c:Value} {b o' sLen sCap n:Nat} {a:Addr} {news:List Value} {arr:Array Value} {ety:TypeId} (ht:P.underlying t=some (.slice el)) (hu:P.underlying u=some (.slice el'))
  (hi:P.info? el=some i) (hn:Builtin.lenOf c=pure n) (hfn:(Builtin.firstCells i.size n c).run P w=.ok news.toArray w) (hg:sLen+n≤sCap) (ha:0<sCap→a=⟨b,o',none⟩)
  (hl:news.length=n*i.size) (h1 :∀v∈news,v.oneCell'=true) (hb:w.heap[b]?=some (.cells arr ety (0,0))) (hroom:o'+sLen*i.size+news.length≤arr.size) :
  (Builtin.append_ #[t,u] ty #[.slice (some a) sLen sCap,c]).run P w=.ok (.slice (some a) (sLen+n) sCap) (World.setBlk w b (.cells (vU arr (o'+sLen*i.size) news) ety (0,0))):=by
 unfold Builtin.append_
 simp only [wCr,wCs,wCt,Sem.run_bind,wM ht,wM hu,Result.andThen_ok,uM hi,Sem.run_pure,hn,wCu,if_true,wBl,if_false]
 rw [if_pos hg]
 simp only [Sem.run_bind,hfn,Result.andThen_ok]
 by_cases h0:0<sCap
 ·rw [ha h0]
  simp only [cL]
  rw [aM news w (o'+sLen*i.size) 0 arr hb h1 (by simpa using hroom)]
  simp
 ·have hn0:n=0:=by omega
  subst hn0
  have:news=[]:=by simpa using hl
  subst this
  have hid:World.setBlk w b (.cells (vU arr (o'+sLen*i.size) []) ety (0,0))=w:=by
   have h1:=(Array.getElem?_eq_some_iff.1 hb).1
   have h2:=(Array.getElem?_eq_some_iff.1 hb).2
   unfold World.setBlk vU
   congr 1
   apply Array.ext_getElem?
   intro k
   by_cases hk:b=k
   ·subst hk; simp [h1,h2]
   ·simp [Array.getElem?_setIfInBounds_ne hk]
  rw [hid]
  simp [storeCells]
theorem nC {w:World} {t u ty el el':TypeId} {i:TypeInfo} {c:Value} {aa:Option Addr} (ht:P.underlying t=some (.slice el)) (hu:P.underlying u=some (.slice el')) (hi:P.info? el=some i) (hn:Builtin.lenOf c=pure 0)
  (hfn:(Builtin.firstCells i.size 0 c).run P w=.ok #[] w):(Builtin.append_ #[t,u] ty #[.slice aa 0 0,c]).run P w=.ok (.slice aa 0 0) w:=by
 unfold Builtin.append_
 simp only [wCr,wCs,wCt,Sem.run_bind,wM ht,wM hu,Result.andThen_ok,uM hi,Sem.run_pure,hn,wCu,if_true,wBl,if_false]
 rw [if_pos (by omega)]
 cases aa<;>simp [hfn,storeCells]
theorem qU8 {e:Env} {W:World} {b o' sz:Nat} {rows:List (List AV)} {L:List Nat} (h:yM e W b o' sz rows L) :∃vs,vD e sz rows vs L∧vs.length=rows.length*sz∧∀j,j<vs.length→W.cell? ⟨b,o'+j,none⟩=vs[j]?:=by
 obtain ⟨vs,h1,h2⟩:=lW h
 exact ⟨vs,h1,vF h1,h2⟩
theorem qHa {e:Env} {sz:Nat} :∀{rows:List (List AV)} {vs:List Value} {L:List Nat},vD e sz rows vs L→∀v∈vs,v.oneCell'=true
 | [],_,_,h=>by simp only [vD] at h; simp [h.1]
 | r::rs,_,_,h=>by
  simp only [vD] at h
  obtain ⟨v1,v2,L1,L2,rfl,h1,h2,h3,rfl⟩:=h
  intro v hv
  rcases List.mem_append.1 hv with hv | hv
  ·exact qC9 h1.2 h2 v hv
  ·exact qHa h3 v hv
theorem qXr {e:Env} {nm len:Nat} {q:qH7} {a:Addr} {c:Nat} (hq:e.φ nm=.at q) (hc:c=q.cap) (hl:len≤q.cap) (ha:0<q.cap→a=⟨q.block,q.off,none⟩):RV e (.ns nm 0 len) (.slice (some a) len c) []:=by
 subst hc
 simp only [RV,hq,true_and]
 exact ⟨by omega,a,by simp,fun h=>by rw [ha h]; simp⟩
theorem qY3 {sz bytes:Nat} {s x:Arg} (hc:wW P num (.app sz bytes s x) o.op=true) (hp:wO ρ h nx (.app sz bytes s x)=some (p,v,fp,nx')) (hpp:p) (hnx :∀nm row,qQ h nm=some row→nm≠nx):Tri P num o ρ v fp:=by
 simp only [wW] at hc
 split at hc
 ·rename_i args tys hop
  split at hc
  ·rename_i y u t ut ha ht1 ht2
   simp only [wBp] at hc
   obtain ⟨⟨⟨c1,c2⟩,c3⟩,c4⟩:=hc
   obtain ⟨el',hel'⟩:=Option.isSome_iff_exists.1 c3
   cases hel:bX P t with
   | none=>simp [hel] at c4
   | some el =>
    simp only [hel,wBp] at c4
    obtain ⟨⟨c5,c6⟩,c7⟩:=c4
    obtain ⟨i,hi,his⟩:=dD c5
    obtain ⟨i',hi',hib⟩:=qB1 c6
    rw [hi] at hi'
    simp only [Option.some.injEq] at hi'
    subst hi'
    simp only [hi] at c7
    cases hz:i.zero with
    | none=>simp [hz] at c7
    | some z =>
     simp only [hz,beq_iff_eq] at c7
     have hut:=dG hel
     have huu:=dG hel'
     have hargs:args = #[y,u]:=Array.toList_inj.1 ha
     subst hargs
     have hexec :∀(a:Act) (w w':World) (v:Value),(Builtin.append_ tys o.type #[a.eval y,a.eval u]).run P w=.ok v w'→(execOp a.eval o).run P w=.ok (.value v) w':=by
      intro a w w' v hr
      simp [execOp,hop,resolve,invoke,builtin,hr]
     have happ :∀(ty:TypeId) (s c:Value) (w:World),(Builtin.append_ tys ty #[s,c]).run P w=(Builtin.append_ #[t,ut] ty #[s,c]).run P w:=by
      intro ty s c w
      unfold Builtin.append_
      simp only [ht1,ht2,wCr,wCs,wCt]
     simp only [wO] at hp
     cases hsrc:kT h sz (x.ev ρ) with
     | none=>simp [hsrc] at hp
     | some r =>
      obtain ⟨cond,xs,rd⟩:=r
      simp only [hsrc,wBu] at hp
      have newrow :∀(e:Env) (L0:List Nat) (H:Nat→Option Row) (Lf:Nat→List Nat) (A:Nat→Prop) (a:Act) (K:Act→World→Prop) (Q:Exit→Act→World→Prop) (dl:FP) (old:List (List AV)) (olds:List Value) (Lo:List Nat) (sb:Option Addr) (sLen sCap:Nat),
        e.num=num→Ok e L0 H Lf→(∀x∈rd++dl,H x.1=x.2.1)→H nx=none→¬A nx→(∀x∈dl,x.2.2=none)→(∀x∈rd,x.1∉dl.map (·.1))→nx∉rd.map (·.1)→nx∉dl.map (·.1)→(∀t,bnd A (ρ t))→(∀nm row,H nm=some row→yW A row.2)→
        (∀t,RV e (ρ t) (a.tmps.getD t undef) [])→cond→0<sz→bytes*(old.length+xs.length)≤2^47→old.length+xs.length≤2^47→a.eval y=.slice sb sLen sCap→sLen=old.length→sCap<sLen+xs.length→yW A old→vD e sz old olds Lo→Lo.Nodup→
        (∀b∈Lo,b<e.w.heap.size∧∃n∈dl.map (·.1),H n≠none∧b∈Lf n)→(∀b∈Lo,∀m∈dl.map (·.1),b∈Lf m→True)→
        (∀w':World,w'.heap=e.w.heap→(Builtin.firstCells i.size sLen (.slice sb sLen sCap)).run P w'=.ok olds.toArray w')→
        (∀e' Lf' v',dP e H Lf (fun n=>n∈(rd++dl++[(nx,none,some (sz,old++xs))]:FP).map (·.1)) e' (upH H (rd++dl++[(nx,none,some (sz,old++xs))])) Lf'→RV e' (.ns nx 0 (old.length+xs.length)) v' []→K (a.put o.dst v') e'.w)→
        o.wp P a e.w K Q:=by
       intro e L0 H Lf A a K Q dl old olds Lo sb sLen sCap hn hk hpre hnone hnA hdl hapart hn1 hn2 hbt hbh ht hcond hsz hb47 h47 hy hsl hlt hbo hfo hnd hLo _ hrf k
       subst hn
       have g2:=yF (ρ:=ρ) ht c2
       obtain ⟨s1,s2,vals,s3,s4⟩:=qE3 hk hsrc hcond (fun x hx=>hpre x (by simp [hx])) g2
       subst hsl
       rw [←his] at s3 s4
       obtain ⟨cap,k1,k2⟩:=qF5 (ty:=o.type) (w:=e.w) hut huu hi hz s2 hrf (fun w' hw=>s4 w' (.of_heap hw)) hlt h47 (by rw [hib]; exact hb47)
       rw [his] at s3
       have hlo:=vF hfo
       have hln:=vF s3
       refine xM (hexec a e.w _ _ (by rw [hy,happ,k2])) ?_
       have hsize:(e.w.drew.alloc (.cells (olds.toArray++vals.toArray++Builtin.zeroCells z.cells (cap-(old.length+xs.length))) el)).heap.size=e.w.heap.size+1:=by simp
       have hblk:=qJz (w:=e.w) (w1:=e.w.drew) (ob:=.cells (olds.toArray++vals.toArray++Builtin.zeroCells z.cells (cap-(old.length+xs.length))) el) rfl
       have hLold :∀b∈Lo,b<e.w.heap.size:=fun b hb=>(hLo b hb).1
       obtain ⟨e',Lf',hw',hφ',hA',hT⟩:=dP.move (dl:=dl) (row':=(sz,old++xs)) (s':=.at ⟨e.w.heap.size,0,cap,sz⟩) (L':=e.w.heap.size::Lo) (w':=e.w.drew.alloc (.cells (olds.toArray++vals.toArray++Builtin.zeroCells z.cells (cap-(old.length+xs.length))) el))
        hk hbh s1 hpre hdl hapart hnone hnA ⟨hn1,hn2⟩ (by omega) ⟨rfl,rfl,rfl⟩ (fun c hc _=>qCg rfl hc) (by
         intro e' hw' hφ' hkp
         have hkeep:dI e e' A Lo:={hkp with own:=fun b hb=>by rw [hw']; exact qCg rfl (hLold b hb)}
         refine ⟨rfl,⟨hsz,by simp; omega,_,el,by rw [hw']; exact hblk,?_⟩,Lo,?_,rfl⟩
         ·simp only [Nat.zero_add,Array.size_append,List.size_toArray,hlo,hln,Builtin.zeroCells,Array.size_map,Array.size_range,c7]
          have h1:cap*sz=old.length*sz+xs.length*sz+(cap-(old.length+xs.length))*sz:=by
           rw [←wBh,←wBh]
           congr 1
           omega
          omega
         ·have hfl:vD e' sz (old++xs) (olds++vals) (Lo++[]):=mY (eK hkeep hbo hfo) (eK (hkeep.sub (by simp)) (qNb hsrc (uH hbt c2) hbh (fun x hx=>hpre x (by simp [hx]))) s3)
          rw [wCv] at hfl
          refine hZ hfl (fun j hj=>?_)
          rw [hw',zP hblk,Nat.zero_add]
          rw [Array.getElem?_append_left (by simp at hj⊢; exact hj)]
          simp)
        (List.nodup_cons.2 ⟨fun hm=>by have:=hLold _ hm; omega,hnd⟩) (by
         intro b hb
         rcases List.mem_cons.1 hb with rfl | hb
         ·exact ⟨by omega,.inl (wBo _)⟩
         ·exact ⟨by have:=hLold b hb; omega,.inr (hLo b hb).2⟩)
       have:=k e' Lf' (.slice (some ⟨e.w.heap.size,0,none⟩) (old.length+xs.length) cap) hT (qR8 hφ' rfl (by simpa using k1))
       rw [hw'] at this
       exact this
      split at hp
      ·rename_i hs
       simp only [Option.some.injEq,Prod.mk.injEq] at hp
       obtain ⟨rfl,rfl,rfl,_⟩:=hp
       obtain ⟨p1,p2,p3,p4⟩:=hpp
       intro e L0 H Lf A a K Q hn hk hpre hbt hbh hfr ht k
       have hnone:H nx=none:=hpre (nx,none,some (sz,xs)) (by simp)
       have hnA :¬A nx:=hfr (nx,none,some (sz,xs)) (by simp) rfl
       have g1:=yF (e:=e) (ρ:=ρ) (a:=a) (x:=y) (y:=s) ht (by rw [hn]; exact c1)
       rw [hs] at g1
       simp only [RV] at g1
       have g2:=yF (e:=e) (ρ:=ρ) (a:=a) (x:=u) (y:=x) ht (by rw [hn]; exact c2)
       have hn1:nx∉rd.map (·.1):=by
        intro hm
        obtain ⟨r,hr,hrn⟩:=List.mem_map.1 hm
        exact qRq hsrc hr (by rw [←hpre r (by simp [hr]),hrn,hnone])
       by_cases hx0:xs.length=0
       ·have hxs:xs=[]:=List.length_eq_zero_iff.1 hx0
        subst hxs
        obtain ⟨s1,s2,vals,s3,s4⟩:=qE3 hk hsrc p1 (fun x hx=>hpre x (by simp [hx])) g2
        simp only [vD] at s3
        obtain ⟨rfl,_⟩:=s3
        have hrun:=nC (aa:=none) (ty:=o.type) (w:=e.w) hut huu hi s2 (by have:=s4 e.w (nL.refl _ _); rw [←his] at this; simpa using this)
        refine xM (hexec a e.w _ _ (by rw [g1.1,happ,hrun])) ?_
        obtain ⟨e',Lf',hw',hφ',hA',hT⟩:=dP.move (dl:=[]) (row':=(sz,([]:List (List AV)))) (s':=.nilp) (L':=[]) (w':=e.w) hk hbh s1 (fun x hx=>hpre x (by simpa using .inl (by simpa using hx))) (by simp) (by simp) hnone hnA ⟨hn1,by simp⟩ (wBo _) (gH.refl _) (fun _ _ _=>rfl)
         (fun e' _ _ _=>⟨rfl,rfl⟩) (by simp) (by simp)
        have:=k e' Lf' (.slice none 0 0) (by simpa using hT) (by simp [RV,hφ'])
        rw [hw'] at this
        exact this
       ·refine newrow e L0 H Lf A a K Q [] [] [] [] none 0 0 hn hk (fun x hx=>hpre x (by simpa using .inl (by simpa using hx))) hnone hnA (by simp) (by simp) hn1 (by simp) hbt hbh ht p1 p2 (by simpa using p3) (by simpa using p4) g1.1 rfl (by omega) trivial ⟨rfl,rfl⟩ (by simp) (by simp) (by simp) (fun w' _=>by simp [Builtin.firstCells]) ?_
        intro e' Lf' v' hT hv
        exact k e' Lf' v' (by simpa using hT) (by simpa using hv)
      ·rename_i nm off len hs
       cases hl:qQ h nm with
       | none=>simp [hl] at hp
       | some row =>
        simp only [hl,wBs,Option.some.injEq,Prod.mk.injEq] at hp
        obtain ⟨rfl,rfl,rfl,_⟩:=hp
        obtain ⟨p1,p2,p3,p4,p5,p6,p7⟩:=hpp
        have hlen:(row.2.drop off).length=len:=by simp; omega
        intro e L0 H Lf A a K Q hn hk hpre hbt hbh hfr ht k
        have hpre' :∀x∈rd++[(nm,some row,none)],H x.1=x.2.1:=fun x hx=>hpre x (by
         simp only [List.mem_append,wC6,wBn,wCw,or_false] at hx⊢
         rcases hx with hx | hx
         ·exact .inl hx
         ·exact .inr (.inl hx))
        have hnone:H nx=none:=hpre (nx,none,some (sz,row.2.drop off++xs)) (by simp)
        have hnA :¬A nx:=hfr (nx,none,some (sz,row.2.drop off++xs)) (by simp) rfl
        have hrow:H nm=some row:=hpre' (nm,some row,none) (by simp)
        have hnm:nx≠nm:=fun he=>by rw [he,hrow] at hnone; simp at hnone
        have hr:=hk.rh.row nm row hrow
        have hrb:=hbh nm row hrow
        have g1:=yF (e:=e) (ρ:=ρ) (a:=a) (x:=y) (y:=s) ht (by rw [hn]; exact c1)
        rw [hs] at g1
        have g2:=yF (e:=e) (ρ:=ρ) (a:=a) (x:=u) (y:=x) ht (by rw [hn]; exact c2)
        obtain ⟨s1,s2,vals,s3,s4⟩:=qE3 hk hsrc p1 (fun x hx=>hpre' x (by simp [hx])) g2
        have hn1:nx∉rd.map (·.1):=by
         intro hm
         obtain ⟨r,hr,hrn⟩:=List.mem_map.1 hm
         exact qRq hsrc hr (by rw [←hpre' r (by simp [hr]),hrn,hnone])
        have hn2:nx∉([(nm,some row,none)]:FP).map (·.1):=by simpa using hnm
        have hapart :∀x∈rd,x.1∉([(nm,some row,none)]:FP).map (·.1):=fun x hx=>by simpa using p5 x hx
        have hbo:yW A (row.2.drop off):=yE.2 fun r hr=>yE.1 hrb r (wCg hr)
        have kk :∀e' Lf' v',dP e H Lf (fun n=>n∈(rd++[(nm,some row,none)]++[(nx,none,some (sz,row.2.drop off++xs))]:FP).map (·.1)) e' (upH H (rd++[(nm,some row,none)]++[(nx,none,some (sz,row.2.drop off++xs))])) Lf'→RV e' (.ns nx 0 (len+xs.length)) v' []→K (a.put o.dst v') e'.w:=by
         intro e' Lf' v' hT hv
         exact k e' Lf' v' (by simpa [List.append_assoc] using hT) hv
        rcases qIr hr g1 with ⟨hq,q1,rfl,rfl,aa,g3⟩ | ⟨q,A0,Lr,hq,q1,q2,q3,q4,q5,q6,q7⟩
        ·
         have hd0:row.2.drop 0=[]:=by rw [q1]; rfl
         by_cases hx0:xs.length=0
         ·have hxs:xs=[]:=List.length_eq_zero_iff.1 hx0
          subst hxs
          simp only [vD] at s3
          obtain ⟨rfl,_⟩:=s3
          have hrun:=nC (aa:=aa) (ty:=o.type) (w:=e.w) hut huu hi s2 (by have:=s4 e.w (nL.refl _ _); rw [←his] at this; simpa using this)
          refine xM (hexec a e.w _ _ (by rw [g3,happ,hrun])) ?_
          obtain ⟨e',Lf',hw',hφ',hA',hT⟩:=dP.move (dl:=[(nm,some row,none)]) (row':=(sz,row.2.drop 0++[])) (s':=.nilp) (L':=[]) (w':=e.w) hk hbh s1 hpre' (by simp) hapart hnone hnA ⟨hn1,hn2⟩ (wBo _) (gH.refl _) (fun _ _ _=>rfl)
           (fun e' _ _ _=>⟨by simp [q1],rfl⟩) (by simp) (by simp)
          have:=kk e' Lf' (.slice aa 0 0) hT (by simp [RV,hφ'])
          rw [hw'] at this
          exact this
         ·refine newrow e L0 H Lf A a K Q [(nm,some row,none)] (row.2.drop 0) [] [] aa 0 0 hn hk hpre' hnone hnA (by simp) hapart hn1 hn2 hbt hbh ht p1 p2 (by rw [hlen]; exact p6) (by rw [hlen]; exact p7) g3 hlen.symm (by omega) hbo (by rw [hd0]; exact ⟨rfl,rfl⟩) (by simp) (by simp) (by simp) (fun w' _=>by cases aa<;>simp [Builtin.firstCells,loadCells,loadCellsFrom]) ?_
          intro e' Lf' v' hT hv
          exact kk e' Lf' v' hT (by rw [hlen] at hv; exact hv)
        ·have hoff:off≤row.2.length:=by omega
         have h0:row.2=row.2.take off++row.2.drop off:=by simp
         have q3':=q3
         rw [h0] at q3'
         obtain ⟨M1,M2,m1,m2,m3⟩:=(jM _ _).1 q3'
         rw [List.length_take,Nat.min_eq_left hoff] at m2
         obtain ⟨olds,o1,o2,o3⟩:=qU8 m2
         rw [hlen] at o2
         have hnd:=hk.rh.nodup nm (by simp [hrow])
         rw [q4,m3] at hnd
         have hblkL:=hk.rh.blk nm (by simp [hrow])
         have hqsz:q.sz=sz:=q1.trans p3
         rw [hqsz] at o1 o2
         obtain ⟨sz0,q8,arr,ety,q9,q10⟩:=q2
         by_cases hroom:len+xs.length≤q.cap-off
         ·
          have hln:=vF s3
          have hm:(off+(len+xs.length))*q.sz≤q.cap*q.sz∨q.cap-off=0∧len+xs.length=0:=by
           by_cases h:off≤q.cap
           ·exact .inl (wC9 _ (by omega))
           ·exact .inr ⟨by omega,by omega⟩
          have hcapoff:off≤q.cap:=by omega
          have hm':(off+(len+xs.length))*q.sz≤q.cap*q.sz:=wC9 _ (by omega)
          have hm2:(off+(len+xs.length))*q.sz=off*q.sz+len*q.sz+xs.length*q.sz:=by rw [wBh,wBh]; omega
          have hm3:q.off+off*q.sz+len*q.sz+vals.length≤arr.size:=by rw [hln,←hqsz]; omega
          have hrun:=qBh (ty:=o.type) (w:=e.w) (a:=A0) (sLen:=len) (sCap:=q.cap-off) (b:=q.block) (o':=q.off+off*q.sz) hut huu hi s2 (by have:=s4 e.w (nL.refl _ _); rw [←his] at this; exact this) hroom (fun h=>q7 (by omega))
           (by rw [hln,his]) (qHa s3) q9 (by rw [his,←hqsz]; exact hm3)
          rw [his,←hqsz] at hrun
          refine xM (hexec a e.w _ _ (by rw [q6,happ,hrun])) ?_
          have hbl:q.block<e.w.heap.size:=(Array.getElem?_eq_some_iff.1 q9).1
          have hblk:=pR e.w q.block (.cells (vU arr (q.off+off*q.sz+len*q.sz) vals) ety (0,0)) hbl
          have hnb :∀b∈M2,b≠q.block:=fun b hb he=>(List.nodup_cons.1 hnd).1 (by rw [←he]; simp [hb])
          obtain ⟨e',Lf',hw',hφ',hA',hT⟩:=dP.move (dl:=[(nm,some row,none)]) (row':=(sz,row.2.drop off++xs)) (s':=.at ⟨q.block,q.off+off*q.sz,q.cap-off,q.sz⟩) (L':=q.block::M2)
           (w':=World.setBlk e.w q.block (.cells (vU arr (q.off+off*q.sz+len*q.sz) vals) ety (0,0))) hk hbh s1 hpre' (by simp) hapart hnone hnA ⟨hn1,hn2⟩ (by rw [iD]; exact wBo _) ⟨rfl,rfl,rfl⟩
           (fun c _ hcn=>zU _ _ _ _ (fun he=>hcn nm (by simp) (by simp [hrow]) (by rw [q4,←he]; simp))) (by
            intro e' hw' hφ' hkp
            have hkeep:dI e e' A M2:={hkp with own:=fun b hb=>by rw [hw']; exact zU _ _ _ _ (fun he=>hnb b hb he.symm)}
            refine ⟨hqsz,⟨sz0,by simp; omega,_,ety,by rw [hw']; exact hblk,?_⟩,M2,?_,rfl⟩
            ·rw [pJ]
             have:off*q.sz+(q.cap-off)*q.sz=q.cap*q.sz:=by rw [←wBh]; congr 1; omega
             simp only
             omega
            ·have hfl:vD e' sz (row.2.drop off++xs) (olds++vals) (M2++[]):=mY (eK hkeep hbo o1) (eK (hkeep.sub (by simp)) (qNb hsrc (uH hbt c2) hbh (fun x hx=>hpre' x (by simp [hx]))) s3)
             rw [wCv] at hfl
             simp only [hqsz]
             refine hZ hfl (fun j hj=>?_)
             rw [hw',zP hblk]
             have hos:olds.length=len*q.sz:=by rw [o2,hqsz]
             by_cases hjo:j<olds.length
             ·rw [xE _ _ _ _ (.inl (by rw [←hqsz]; omega)),List.getElem?_append_left hjo]
              have:=o3 j hjo
              rw [zP q9] at this
              rw [←this,hqsz]
             ·rw [List.getElem?_append_right (by omega),hos]
              simp only [List.length_append] at hj
              have:=rO arr (q.off+off*q.sz+len*q.sz) vals (j-len*q.sz) (by omega) hm3
              rw [←this,←hqsz]
              congr 1
              omega)
           (List.nodup_cons.2 ⟨fun hm=>hnb _ hm rfl,(hnd.sublist ((wCm M1 M2).trans (wCo _ _)))⟩) (by
            intro b hb
            have hb':b∈Lf nm:=by
             rw [q4,m3]
             rcases List.mem_cons.1 hb with rfl | hb
             ·simp
             ·simp [hb]
            refine ⟨by rw [iD]; exact (hblkL b hb').1,.inr ⟨nm,by simp,by simp [hrow],hb'⟩⟩)
          have:=kk e' Lf' (.slice (some A0) (len+xs.length) (q.cap-off)) hT (qXr hφ' rfl (by simpa using hroom) (fun h=>q7 (by simp at h; omega)))
          rw [hw'] at this
          exact this
         ·
          have hrf :∀w':World,w'.heap=e.w.heap→(Builtin.firstCells i.size len (.slice (some A0) len (q.cap-off))).run P w'=.ok olds.toArray w':=by
           intro w' hw
           simp only [Builtin.firstCells]
           by_cases hz0:len=0
           ·subst hz0
            have:olds=[]:=List.length_eq_zero_iff.1 (by omega)
            subst this
            simp [loadCells,loadCellsFrom]
           ·rw [q7 (by omega)]
            refine eL (by rw [his]; exact o2) (fun j hj=>?_)
            rw [uZ (w:=e.w) (by rw [hw])]
            exact o3 j (by rw [his] at hj; omega)
          refine newrow e L0 H Lf A a K Q [(nm,some row,none)] (row.2.drop off) olds M2 (some A0) len (q.cap-off) hn hk hpre' hnone hnA (by simp) hapart hn1 hn2 hbt hbh ht p1 p2 (by rw [hlen]; exact p6) (by rw [hlen]; exact p7) q6 hlen.symm (by omega) hbo o1
           (hnd.sublist ((wCm M1 M2).trans (wCo _ _))) ?_ (by simp) hrf ?_
          ·intro b hb
           have hb':b∈Lf nm:=by rw [q4,m3]; simp [hb]
           exact ⟨(hblkL b hb').1,nm,by simp,by simp [hrow],hb'⟩
          ·intro e' Lf' v' hT hv
           exact kk e' Lf' v' hT (by rw [hlen] at hv; exact hv)
      ·simp at hp
  ·simp at hc
 ·simp at hc
end
end Go.Sep
namespace Go.Sep
set_option linter.unusedVariables false
set_option linter.unusedSimpArgs false
section
variable {P:Program} {num:Nat→Nat} {o:Oper} {ρ:Nat→AV} {h:wT} {nx nx':Nat} {p:Prop} {v:AV} {fp:FP}
theorem nV {w:World} {t el ty:TypeId} {a:Option Addr} {c:Nat} (ht:P.underlying t=some (.slice el)):(Builtin.clear_ #[t] ty #[.slice a 0 c]).run P w=.ok (.tuple #[]) w:=by
 unfold Builtin.clear_
 simp only [wCr,wCs,Sem.run_bind,wM ht,Result.andThen_ok]
 cases a<;>simp
theorem qTa {w:World} {t el ty:TypeId} {i:TypeInfo} {z:Value} {b o' n c:Nat} {arr:Array Value} {ety:TypeId} (ht:P.underlying t=some (.slice el)) (hi:P.info? el=some i) (hz:i.zero=some z) (hn:n≠0)
  (hb:w.heap[b]?=some (.cells arr ety (0,0))) (h1 :∀v∈(Builtin.zeroCells z.cells n).toList,v.oneCell'=true) (hs:o'+(Builtin.zeroCells z.cells n).toList.length≤arr.size) :
  (Builtin.clear_ #[t] ty #[.slice (some ⟨b,o',none⟩) n c]).run P w=.ok (.tuple #[]) (World.setBlk w b (.cells (vU arr o' (Builtin.zeroCells z.cells n).toList) ety (0,0))):=by
 obtain ⟨m,rfl⟩:=Nat.exists_eq_succ_of_ne_zero hn
 unfold Builtin.clear_
 simp only [wCr,wCs,Sem.run_bind,wM ht,Result.andThen_ok,dW hi hz]
 rw [aM _ w o' 0 arr hb h1 (by simpa using hs)]
 simp
theorem qY1 {zero:List AV} {x:Arg} (hc:wW P num (.clr zero x) o.op=true) (hp:wO ρ h nx (.clr zero x)=some (p,v,fp,nx')) (hpp:p):Tri P num o ρ v fp:=by
 simp only [wW] at hc
 split at hc
 ·rename_i args tys hop
  split at hc
  ·rename_i y t ha ht1
   simp only [wBp] at hc
   obtain ⟨c1,c2⟩:=hc
   cases hel:bX P t with
   | none=>simp [hel] at c2
   | some el =>
    simp only [hel] at c2
    obtain ⟨i,z,hi,his,hz,hzv,hzo⟩:=uY c2
    have hut:=dG hel
    have hargs:args = #[y]:=Array.toList_inj.1 ha
    subst hargs
    have hexec :∀(a:Act) (w w':World) (v:Value),(Builtin.clear_ tys o.type #[a.eval y]).run P w=.ok v w'→(execOp a.eval o).run P w=.ok (.value v) w':=by
     intro a w w' v hr
     simp [execOp,hop,resolve,invoke,builtin,hr]
    have hclr :∀(ty:TypeId) (s:Value) (w:World),(Builtin.clear_ tys ty #[s]).run P w=(Builtin.clear_ #[t] ty #[s]).run P w:=by
     intro ty s w
     unfold Builtin.clear_
     simp only [ht1,wCr,wCs]
    simp only [wO] at hp
    split at hp
    ·rename_i nm off len hx
     cases hl:qQ h nm with
     | none=>simp [hl] at hp
     | some row =>
      simp only [hl,wBs,Option.some.injEq,Prod.mk.injEq] at hp
      obtain ⟨rfl,rfl,rfl,_⟩:=hp
      obtain ⟨p1,p2⟩:=hpp
      intro e L0 H Lf A a K Q hn hk hpre hbt hbh hfr ht k
      subst hn
      have hrow:H nm=some row:=hpre _ List.mem_cons_self
      have hr:=hk.rh.row nm row hrow
      have hrb:=hbh nm row hrow
      have g:=yF (ρ:=ρ) ht c1
      rw [hx] at g
      have same :∀w':Value,(row.1,row.2.take off++wBj len zero)=row→K (a.put o.dst w') e.w:=by
       intro w' hsame
       rw [hsame] at k
       have hH:upH H [(nm,some row,some row)]=H:=by
        funext n
        show (if n=nm then some row else H n)=H n
        split
        ·rename_i he
         rw [he,hrow]
        ·rfl
       have:=k e Lf w' (by rw [hH]; exact dP.refl _ hk) (by simp [RV])
       exact this
      rcases qIr hr g with ⟨hq,q1,rfl,rfl,aa,g3⟩ | ⟨q,A0,Lr,hq,q1,q2,q3,q4,q5,q6,q7⟩
      ·refine xM (hexec a e.w _ _ (by rw [g3,hclr,nV hut])) (same _ ?_)
       obtain ⟨r1,r2⟩:=row
       simp only at q1
       subst q1
       rfl
      ·by_cases h0:len=0
       ·subst h0
        refine xM (hexec a e.w _ _ (by rw [q6,hclr,nV hut])) (same _ ?_)
        simp only [List.replicate_zero,wCv]
        rw [List.take_of_length_le (by omega)]
       ·have hoff:off≤row.2.length:=by omega
        have hs0:row.2=row.2.take off++row.2.drop off:=by simp
        have q3':=q3
        rw [hs0] at q3'
        obtain ⟨M1,M2,m1,m2,m3⟩:=(jM _ _).1 q3'
        obtain ⟨sz0,q8,arr,ety,q9,q10⟩:=q2
        have hqz:q.sz=zero.length:=q1.trans p1
        have hzl:=yU (gY (e:=e) hzv)
        have hzs:z.cells.size=q.sz:=by simp at hzl; omega
        have hlen:(Builtin.zeroCells z.cells len).toList.length=len*q.sz:=by simp [Builtin.zeroCells,hzs]
        have hget :∀j,j<len*q.sz→(Builtin.zeroCells z.cells len).toList[j]?=(wBj len z.cells.toList).flatten[j]?:=by
         intro j hj
         rw [Array.getElem?_toList]
         unfold Builtin.zeroCells
         exact qB8 rfl j (by rw [hzs]; exact hj)
        have hfl :∀e':Env,vD e' q.sz (wBj len zero) (wBj len z.cells.toList).flatten []:=fun e'=>zE (gY hzv) ⟨hqz.symm,hzo⟩ len
        have hfll:=vF (hfl e)
        rw [List.length_replicate] at hfll
        have hzeq:(Builtin.zeroCells z.cells len).toList=(wBj len z.cells.toList).flatten:=by
         apply List.ext_getElem?
         intro j
         by_cases hj:j<len*q.sz
         ·exact hget j hj
         ·rw [wCa (by omega),wCa (by omega)]
        have hm:(off+len)*q.sz≤q.cap*q.sz:=wC9 _ (by omega)
        rw [wBh] at hm
        have hrun:=qTa (ty:=o.type) (w:=e.w) (c:=q.cap-off) (o':=q.off+off*q.sz) hut hi hz h0 q9 (by rw [hzeq]; exact qHa (hfl e)) (by rw [hlen]; omega)
        refine xM (hexec a e.w _ _ (by rw [q6,q7 (by omega),hclr,hrun])) ?_
        have hbl:q.block<e.w.heap.size:=(Array.getElem?_eq_some_iff.1 q9).1
        have hblk:=pR e.w q.block (.cells (vU arr (q.off+off*q.sz) (Builtin.zeroCells z.cells len).toList) ety (0,0)) hbl
        have hnd:=hk.rh.nodup nm (by simp [hrow])
        rw [q4,m3] at hnd
        have hnb :∀b∈M1,b≠q.block:=fun b hb he=>(List.nodup_cons.1 hnd).1 (by rw [←he]; simp [hb])
        have kp:dI e {e with w:=World.setBlk e.w q.block (.cells (vU arr (q.off+off*q.sz) (Builtin.zeroCells z.cells len).toList) ety (0,0))} A M1:={
         num:=rfl
         fr:=fun m b h=>by cases m<;>exact h
         cells:=fun b _ o=>rfl
         φ:=fun nm hA=>.inl rfl
         own:=fun b hb=>zU _ _ _ _ (fun he=>hnb b hb he.symm)}
        refine k _ _ _ (dP.one (b:=q.block) (L':=q.block::M1) hk hrow (by rw [q4]; simp) (qIj _ _ _) (iD _ _ _) (fun c hc=>zU _ _ _ _ (fun he=>hc he.symm)) ?_ ?_ ?_) (by simp [RV])
        ·unfold uX gI
         simp only [hq]
         refine ⟨q1,⟨sz0,by simp; omega,_,ety,hblk,by rw [pJ]; exact q10⟩,M1,?_,rfl⟩
         have hb1:yW A (row.2.take off):=yE.2 fun r hr=>yE.1 hrb r (wCh hr)
         have htl:(row.2.take off).length=off:=by simp; omega
         refine (jM _ _).2 ⟨M1,[],iU _ (fun j h1 h2=>?_) (uJ _ kp hb1 (fun _ _=>rfl) m1),?_,by simp⟩
         ·rw [zP hblk,zP q9,xE _ _ _ _ (.inl (by rw [htl] at h2; omega))]
         ·rw [htl]
          refine hZ (hfl _) (fun j hj=>?_)
          rw [zP hblk,←hzeq,rO _ _ _ _ (by omega) (by omega)]
        ·exact hnd.sublist (List.Sublist.cons_cons _ (List.sublist_append_left _ _))
        ·intro b hb
         rw [q4,m3]
         simp only [wBn,List.mem_append] at hb⊢
         rcases hb with h | h
         ·exact .inl h
         ·exact .inr (.inl h)
    ·simp at hp
  ·simp at hc
 ·simp at hc
end
end Go.Sep
namespace Go.Sep
set_option linter.unusedVariables false
set_option linter.unusedSimpArgs false
section
variable {P:Program} {num:Nat→Nat} {o:Oper} {ρ:Nat→AV} {h:wT} {nx nx':Nat} {p:Prop} {v:AV} {fp:FP}
theorem qVg {sz:Nat} {d:AV} {cond:Prop} {xs:List (List AV)} {rd:FP} {r:Nat×Option Row×Option Row} (hs:kT h sz d=some (cond,xs,rd)) (hr:r∈rd):r.2.2=r.2.1:=by
 unfold kT at hs
 split at hs
 ·simp only [Option.some.injEq,Prod.mk.injEq] at hs
  obtain ⟨_,_,rfl⟩:=hs
  simp at hr
 ·rename_i nm off len
  cases hl:qQ h nm with
  | none=>simp [hl] at hs
  | some row =>
   simp only [hl,wBs,Option.some.injEq,Prod.mk.injEq] at hs
   obtain ⟨_,_,rfl⟩:=hs
   simp only [wC6] at hr
   subst hr
   rfl
 ·simp only [Option.some.injEq,Prod.mk.injEq] at hs
  obtain ⟨_,_,rfl⟩:=hs
  simp at hr
 ·simp only [Option.some.injEq,Prod.mk.injEq] at hs
  obtain ⟨_,_,rfl⟩:=hs
  simp at hr
 ·simp at hs
theorem qT3 {e:Env} {sz:Nat} {d:AV} {c:Value} {cond:Prop} {xs:List (List AV)} {rd:FP} (hs:kT h sz d=some (cond,xs,rd)) (hv:RV e d c []) :∃a l k,c=.slice a l k:=by
 unfold kT at hs
 split at hs
 ·simp only [RV] at hv
  exact ⟨_,_,_,hv.1⟩
 ·simp only [RV] at hv
  obtain ⟨_,hv⟩:=hv
  split at hv
  ·exact hv
  ·obtain ⟨_,_,a,hv⟩:=hv
   exact ⟨_,_,_,hv⟩
  ·obtain ⟨_,a,hv,_⟩:=hv
   exact ⟨_,_,_,hv⟩
 ·simp only [RV] at hv
  rcases hv.2 with ⟨_,a,c',hv,_⟩ | ⟨b,o',c',hv,_⟩<;>exact ⟨_,_,_,hv⟩
 ·simp only [RV] at hv
  rcases hv.2 with ⟨_,a,c',hv,_⟩ | ⟨b,o',c',hv,_⟩<;>exact ⟨_,_,_,hv⟩
 ·simp at hs
def cF:List (List AV)→List Int
 | [.int _ n]::l=>n::cF l
 | _=>[]
theorem qGk {e:Env} :∀{xs:List (List AV)} {vals:List Value} {L:List Nat} {l:List UInt8},eR xs=some l→vD e 1 xs vals L→vals=(cF xs).map (Value.int .u8)∧l=(cF xs).map (fun n=>UInt8.ofNat n.toNat)∧(cF xs).length=xs.length
 | [],_,_,_,hb,h=>by
  simp only [eR,Option.some.injEq] at hb
  subst hb
  simp only [vD] at h
  simp [h.1,cF]
 | r::rs,vals,L,l,hb,h=>by
  unfold eR at hb
  split at hb
  ·rename_i hx; simp at hx
  ·rename_i n l' hx
   simp only [List.cons.injEq] at hx
   obtain ⟨rfl,rfl⟩:=hx
   cases hl:eR rs with
   | none=>simp [hl] at hb
   | some l1 =>
    simp only [hl,wBs,Option.some.injEq] at hb
    subst hb
    simp only [vD] at h
    obtain ⟨v1,v2,L1,L2,rfl,h1,h2,h3,rfl⟩:=h
    simp only [RVs,RV] at h2
    obtain ⟨v,vs',M1,M2,rfl,⟨rfl,_⟩,⟨rfl,_⟩,_⟩:=h2
    obtain ⟨g1,g2,g3⟩:=qGk hl h3
    simp [cF,g1,g2,g3]
  ·simp at hb
theorem qFa :∀(ns:List Int) (s:ByteArray),ns.foldl (fun r n=>r.push (UInt8.ofNat n.toNat)) s=⟨s.data++(ns.map (fun n=>UInt8.ofNat n.toNat)).toArray⟩
 | [],s=>by simp
 | n::ns,s=>by
  simp only [List.foldl_cons,qFa ns]
  simp [ByteArray.push]
theorem qRk {x:Arg} (hc:wW P num (.cvs x) o.op=true) (hp:wO ρ h nx (.cvs x)=some (p,v,fp,nx')) (hpp:p):aV P num o ρ v fp:=by
 simp only [wW] at hc
 split at hc
 ·rename_i s d y hop
  simp only [wBp] at hc
  obtain ⟨⟨hc,hd⟩,h5⟩:=hc
  cases hel:bX P s with
  | none=>simp [hel] at h5
  | some el =>
   simp only [hel] at h5
   have hu:=dG hel
   have hu8:P.underlying el=some (.int .u8):=by
    split at h5
    ·assumption
    ·simp at h5
   have hds:P.underlying d=some .string:=by
    unfold qFx at hd
    split at hd
    ·assumption
    ·simp at hd
   simp only [wO] at hp
   cases hsrc:kT h 1 (x.ev ρ) with
   | none=>simp [hsrc] at hp
   | some r =>
    obtain ⟨cond,xs,rd⟩:=r
    simp only [hsrc,wBu] at hp
    cases hb:eR xs with
    | none=>simp [hb] at hp
    | some l =>
     simp only [hb,wBs,Option.some.injEq,Prod.mk.injEq] at hp
     obtain ⟨rfl,rfl,rfl,_⟩:=hp
     refine Tri.of_read ?_ ?_
     ·exact fun r hr=>qVg hsrc hr
     ·intro e L0 H Lf a hn hk hpre ht
      subst hn
      have h1:=yF (ρ:=ρ) ht hc
      obtain ⟨ad,ln,cp,hv⟩:=qT3 hsrc h1
      obtain ⟨s1,s2,vals,s3,s4⟩:=qE3 hk hsrc hpp hpre h1
      obtain ⟨g1,g2,g3⟩:=qGk hb s3
      refine ⟨.string ⟨l.toArray⟩,?_,by simp [RV]⟩
      have hln:ln=xs.length:=by
       rw [hv] at s2
       simp only [Builtin.lenOf] at s2
       have:=congrArg (fun m=>Sem.run P m e.w) s2
       simpa [Sem.run_pure] using this
      intro w' hw'
      have h4:=s4 w' hw'
      rw [hv] at h4
      simp only [execOp,hop,Sem.run_bind,hv]
      rw [run_convert_bytes_string w' s d el ad ln cp hu hu8 hds]
      cases ad with
      | none =>
       simp only [Builtin.firstCells,Sem.run_pure] at h4
       have hvals:vals=[]:=by simpa using (Result.ok.inj h4).1.symm
       rw [hvals] at g1
       have:cF xs=[]:=by simpa using g1.symm
       rw [this] at g2
       subst g2
       simp [Conv.bytesToString,Sem.run_pure]
       rfl
      | some ad =>
       simp only [Builtin.firstCells,Nat.mul_one] at h4
       rw [←hln,g1] at h4
       rw [run_bytesToString w' ad ln cp (cF xs) h4,qFa,g2]
       simp [Sem.run_pure]
 ·simp at hc
end
end Go.Sep
namespace Go.Sep
set_option linter.unusedVariables false
set_option linter.unusedSimpArgs false
section
variable {P:Program} {num:Nat→Nat} {o:Oper} {ρ:Nat→AV} {h:wT} {nx nx':Nat} {p:Prop} {v:AV} {fp:FP}
theorem qTf {m:MOp} (hr:xL m=true) (hc:wW P num m o.op=true) (hp:wO ρ h nx m=some (p,v,fp,nx')) (hpp:p):aV P num o ρ v fp:=by
 cases m with
 | mv x=>exact (qVe hc hp)
 | pick c a b=>exact (qMc hc hp)
 | alloc z=>simp [xL] at hr
 | box x=>simp [xL] at hr
 | build z ps=>exact (qI8 hc hp hpp)
 | mkSl z l ps=>simp [xL] at hr
 | load n ag a =>
  simp only [wO] at hp
  split at hp
  ·rename_i nm i f hx
   cases hl:qQ h nm with
   | none=>simp [hl] at hp
   | some row =>
    simp only [hl,wBs,Option.some.injEq,Prod.mk.injEq] at hp
    obtain ⟨rfl,rfl,rfl,rfl⟩:=hp
    exact (qEp hc hx hpp.1 hpp.2)
  ·rename_i m cells f hx
   simp only [Option.some.injEq,Prod.mk.injEq] at hp
   obtain ⟨rfl,rfl,rfl,rfl⟩:=hp
   exact (qEq hc hx hpp)
  ·simp at hp
 | store n a z=>simp [xL] at hr
 | nilck x=>exact (qI6 hc hp)
 | bin b x y=>exact (qRn hc hp hpp)
 | eqS ng ks x y=>exact (qRi hc hp)
 | eqB ng x y=>exact (qRj hc hp)
 | neNil x=>exact (qI7 hc hp)
 | un u x=>exact (qVc hc hp)
 | cvi k x=>exact (qRl hc hp)
 | cvs x=>exact (qRk hc hp hpp)
 | mkS z b l c=>simp [xL] at hr
 | cut s x l h=>exact (qRm hc hp hpp)
 | cutS x l h=>exact (qMe hc hp hpp)
 | fad f x=>exact (qRg hc hp)
 | fld f n ag x=>exact (qRf hc hp hpp)
 | iad s x i=>exact (qRe hc hp hpp)
 | idx x i=>exact (qRd hc hp hpp)
 | ext x i=>exact (qRh hc hp hpp)
 | len x=>exact (qRc hc hp)
 | lenS x=>exact (qMd hc hp)
 | mx x y=>exact (qVd hc hp)
 | app s b x y=>simp [xL] at hr
 | clr z x=>simp [xL] at hr
 | call f ps xs=>simp [xL] at hr
 | calv f xs=>simp [xL] at hr
theorem qN1 {m:MOp} (hc:wW P num m o.op=true) (hp:wO ρ h nx m=some (p,v,fp,nx')) (hpp:p) (hnx :∀nm row,qQ h nm=some row→nm≠nx):Tri P num o ρ v fp:=by
 cases m with
 | mv x=>exact (qVe hc hp).tri
 | pick c a b=>exact (qMc hc hp).tri
 | alloc z=>exact qSw hc hp hpp
 | box x=>exact qY2 hc hp hpp
 | build z ps=>exact (qI8 hc hp hpp).tri
 | mkSl z l ps=>exact qVf hc hp hpp
 | load n ag a =>
  simp only [wO] at hp
  split at hp
  ·rename_i nm i f hx
   cases hl:qQ h nm with
   | none=>simp [hl] at hp
   | some row =>
    simp only [hl,wBs,Option.some.injEq,Prod.mk.injEq] at hp
    obtain ⟨rfl,rfl,rfl,rfl⟩:=hp
    exact (qEp hc hx hpp.1 hpp.2).tri
  ·rename_i m cells f hx
   simp only [Option.some.injEq,Prod.mk.injEq] at hp
   obtain ⟨rfl,rfl,rfl,rfl⟩:=hp
   exact (qEq hc hx hpp).tri
  ·simp at hp
 | store n a z =>
  simp only [wO] at hp
  split at hp
  ·rename_i nm i f hx
   cases hl:qQ h nm with
   | none=>simp [hl] at hp
   | some row =>
    simp only [hl,wBs,Option.some.injEq,Prod.mk.injEq] at hp
    obtain ⟨rfl,rfl,rfl,rfl⟩:=hp
    exact qSv hc hx hpp.2.2.1 hpp.2.2.2 hpp.1 hpp.2.1
  ·simp at hp
 | nilck x=>exact (qI6 hc hp).tri
 | bin b x y=>exact (qRn hc hp hpp).tri
 | eqS ng ks x y=>exact (qRi hc hp).tri
 | eqB ng x y=>exact (qRj hc hp).tri
 | neNil x=>exact (qI7 hc hp).tri
 | un u x=>exact (qVc hc hp).tri
 | cvi k x=>exact (qRl hc hp).tri
 | cvs x=>exact (qRk hc hp hpp).tri
 | mkS z b l c=>exact qY0 hc hp hpp
 | cut s x l h=>exact (qRm hc hp hpp).tri
 | cutS x l h=>exact (qMe hc hp hpp).tri
 | fad f x=>exact (qRg hc hp).tri
 | fld f n ag x=>exact (qRf hc hp hpp).tri
 | iad s x i=>exact (qRe hc hp hpp).tri
 | idx x i=>exact (qRd hc hp hpp).tri
 | ext x i=>exact (qRh hc hp hpp).tri
 | len x=>exact (qRc hc hp).tri
 | lenS x=>exact (qMd hc hp).tri
 | mx x y=>exact (qVd hc hp).tri
 | app s b x y=>exact qY3 hc hp hpp hnx
 | clr z x=>exact qY1 hc hp hpp
 | call f ps xs=>simp [wO] at hp
 | calv f xs=>simp [wO] at hp
structure PB (h:wT) (nx:Nat) (v:AV) (fp:FP) (nx':Nat):Prop where
 le:nx≤nx'
 v:bnd (· < nx') v
 pre :∀x∈fp,qQ h x.1=x.2.1
 new :∀x∈fp,x.2.1=none→nx≤x.1
 lt :∀x∈fp,x.1<nx'
 row :∀x∈fp,∀row,x.2.2=some row→yW (· < nx') row.2
def HB (h:wT) (nx:Nat):Prop :=∀nm row,qQ h nm=some row→nm<nx∧yW (· < nx) row.2
theorem HB.new {h:wT} {nx n:Nat} (hb:HB h nx) (hn:nx≤n):qQ h n=none:=by
 cases hl:qQ h n with
 | none=>rfl
 | some row=>have:=(hb n row hl).1; omega
theorem rJ {A:Nat→Prop} {l:List AV} (h:jK A l) (n:Nat):jK A (l.take n):=jV.2 fun x hx=>jV.1 h x (wCh hx)
theorem rK {A:Nat→Prop} {l:List AV} (h:jK A l) (n:Nat):jK A (l.drop n):=jV.2 fun x hx=>jV.1 h x (wCg hx)
theorem rM {A:Nat→Prop} {l:List (List AV)} (h:yW A l) (n:Nat):yW A (l.take n):=yE.2 fun x hx=>yE.1 h x (wCh hx)
theorem lN {A:Nat→Prop} {l:List (List AV)} (h:yW A l) (n:Nat):yW A (l.drop n):=yE.2 fun x hx=>yE.1 h x (wCg hx)
theorem qOy {A:Nat→Prop} {l m:List AV} (h:jK A l) (h':jK A m):jK A (l++m):=jV.2 fun x hx=>by
 rcases List.mem_append.1 hx with hx | hx
 ·exact jV.1 h x hx
 ·exact jV.1 h' x hx
theorem qXn {A:Nat→Prop} {l m:List (List AV)} (h:yW A l) (h':yW A m):yW A (l++m):=yE.2 fun x hx=>by
 rcases List.mem_append.1 hx with hx | hx
 ·exact yE.1 h x hx
 ·exact yE.1 h' x hx
theorem lL {A:Nat→Prop} {l:List AV} (h:jK A l) (n:Nat):bnd A (l.getD n .any):=by
 rw [wBr]
 cases hg:l[n]? with
 | none=>trivial
 | some x=>exact jV.1 h x (wCx hg)
theorem lM {A:Nat→Prop} {l:List (List AV)} (h:yW A l) (n:Nat):jK A (l.getD n []):=by
 rw [wBr]
 cases hg:l[n]? with
 | none=>trivial
 | some x=>exact yE.1 h x (wCx hg)
theorem qGv {A:Nat→Prop} {l:List (List AV)} (h:yW A l) (n:Nat) {r:List AV} (hr:jK A r):yW A (l.set n r):=yE.2 fun x hx=>by
 rcases List.mem_or_eq_of_mem_set hx with hx | rfl
 ·exact yE.1 h x hx
 ·exact hr
theorem pH {A:Nat→Prop} {l cs:List AV} (h:jK A l) (h':jK A cs) (f:Nat):jK A (gF l f cs):=qOy (qOy (rJ h f) h') (rK h _)
theorem qJe {A:Nat→Prop} {P:Program} {fs:Array Field} (ht :∀t,bnd A (ρ t)) :∀(parts:List (Nat×Nat×Arg)) (ps:List (Nat×Operand)) (cs:List AV),aT P num fs ps parts=true→jK A cs→jK A (qJf ρ cs parts)
 | [],_,_,_,hb=>hb
 | (off,sz,x)::l,[],_,hc,_=>by simp [aT] at hc
 | (off,sz,x)::l,(i,y)::ps,cs,hc,hb=>by
  simp only [aT,wBp] at hc
  exact qJe ht l ps _ hc.2 (pH hb (aH (uH ht hc.1.2)) off)
theorem qBt {A:Nat→Prop} :∀(l:List AV) (n:Nat),jK (· < n) l→jK (· < (yX n l).2.2) (yX n l).1∧∀x∈(yX n l).2.1,yW (· < (yX n l).2.2) x.2.2
 | [],n,_=>by simp [yX,jK]
 | v::l,n,hb=>by
  by_cases hv :∃sz rows,v=.sl .own sz rows
  ·obtain ⟨sz,rows,rfl⟩:=hv
   have hle:=(eX l (n+1)).1
   have ih:=qBt (A:=A) l (n+1) (xC (by intro k hk; omega) l hb.2)
   simp only [yX,jK,bnd,wBn]
   refine ⟨⟨by omega,ih.1⟩,?_⟩
   rintro x (rfl | hx)
   ·exact uV (by intro k hk; omega) rows hb.1
   ·exact ih.2 x hx
  ·have ho:yX n (v::l)=(v::(yX n l).1,(yX n l).2.1,(yX n l).2.2):=by
    cases v
    case sl m sz rows =>
     cases m
     ·exact absurd ⟨_,_,rfl⟩ hv
     all_goals rfl
    all_goals rfl
   rw [ho]
   have ih:=qBt (A:=A) l n hb.2
   have hle:=(eX l n).1
   exact ⟨⟨lO (by intro k hk; simp only at hk⊢; omega) v hb.1,ih.1⟩,ih.2⟩
theorem qRr {A:Nat→Prop} {sz:Nat} {d:AV} {cond:Prop} {xs:List (List AV)} {rd:FP} (hs:kT h sz d=some (cond,xs,rd)) (hb:bnd A d) (hh :∀nm row,qQ h nm=some row→yW A row.2) :
  yW A xs∧∀x∈rd,qQ h x.1=x.2.1∧x.2.1≠none∧x.2.2=x.2.1:=by
 unfold kT at hs
 split at hs
 ·simp only [Option.some.injEq,Prod.mk.injEq] at hs
  obtain ⟨_,rfl,rfl⟩:=hs
  exact ⟨trivial,by simp⟩
 ·rename_i nm off len
  cases hl:qQ h nm with
  | none=>simp [hl] at hs
  | some row =>
   simp only [hl,wBs,Option.some.injEq,Prod.mk.injEq] at hs
   obtain ⟨_,rfl,rfl⟩:=hs
   exact ⟨rM (lN (hh nm row hl) off) len,by simp [hl]⟩
 ·simp only [Option.some.injEq,Prod.mk.injEq] at hs
  obtain ⟨_,rfl,rfl⟩:=hs
  exact ⟨hb,by simp⟩
 ·simp only [Option.some.injEq,Prod.mk.injEq] at hs
  obtain ⟨_,rfl,rfl⟩:=hs
  exact ⟨hb,by simp⟩
 ·simp at hs
theorem PB.none {v:AV} (hv:bnd (· < nx) v):PB h nx v [] nx:=⟨wBo _,hv,by simp,by simp,by simp,by simp⟩
theorem PB.read {v:AV} (hb:HB h nx) (hv:bnd (· < nx) v) {nm:Nat} {row:Row} (hl:qQ h nm=some row):PB h nx v [(nm,some row,some row)] nx :=
 ⟨wBo _,hv,by simpa using hl,by simp,by simpa using (hb nm row hl).1,by rintro x hx r hr; simp only [wC6] at hx; subst hx; simp only [Option.some.injEq] at hr; subst hr; exact (hb nm row hl).2⟩
theorem PB.fresh {v:AV} (hb:HB h nx) (hv:bnd (· < nx+1) v) {row:Row} (hr:yW (· < nx) row.2):PB h nx v [(nx,Option.none,some row)] (nx+1) :=
 ⟨by omega,hv,by simpa using hb.new (wBo _),by simp,by simp,by rintro x hx r hr'; simp only [wC6] at hx; subst hx; simp only [Option.some.injEq] at hr'; subst hr'; exact uV (by intro k hk; omega) row.2 hr⟩
theorem qA7 {m:MOp} {op:Op} (hc:wW P num m op=true) (hp:wO ρ h nx m=some (p,v,fp,nx')) (ht :∀t,bnd (· < nx) (ρ t)) (hb:HB h nx):PB h nx v fp nx':=by
 have hbr :∀nm row,qQ h nm=some row→yW (· < nx) row.2:=fun nm row hl=>(hb nm row hl).2
 cases m with
 | mv x =>
  simp only [wO,ok,Option.some.injEq,Prod.mk.injEq] at hp
  obtain ⟨_,rfl,rfl,rfl⟩:=hp
  simp only [wW] at hc
  split at hc
  ·exact .none (uH ht hc)
  ·exact .none (uH ht hc)
  ·simp at hc
 | pick c a b =>
  simp only [wW] at hc
  split at hc
  ·simp only [wBp] at hc
   simp only [wO] at hp
   have ha:=uH ht hc.1.2
   have hb':=uH ht hc.2
   split at hp
   ·split at hp
    ·simp only [ok,Option.some.injEq,Prod.mk.injEq] at hp
     obtain ⟨_,rfl,rfl,rfl⟩:=hp
     exact .none trivial
    ·simp only [ok,Option.some.injEq,Prod.mk.injEq] at hp
     obtain ⟨_,rfl,rfl,rfl⟩:=hp
     refine .none ?_
     rename_i q _ _ _ _ _
     cases q
     ·exact hb'
     ·exact ha
   ·simp at hp
  ·simp at hc
 | alloc z =>
  simp only [wO,Option.some.injEq,Prod.mk.injEq] at hp
  obtain ⟨_,rfl,rfl,rfl⟩:=hp
  simp only [wW] at hc
  split at hc
  ·obtain ⟨i,z',hi,hs,hz,hzv,hzo⟩:=uY hc
   exact .fresh hb (by simp [bnd]) ⟨zG hzv,trivial⟩
  ·simp at hc
 | box x =>
  simp only [wO,Option.some.injEq,Prod.mk.injEq] at hp
  obtain ⟨_,rfl,rfl,rfl⟩:=hp
  simp only [wW] at hc
  split at hc
  ·exact .fresh hb (by simp [bnd]) ⟨aH (uH ht hc),trivial⟩
  ·simp at hc
 | build z ps =>
  simp only [wO,Option.some.injEq,Prod.mk.injEq] at hp
  obtain ⟨_,rfl,rfl,rfl⟩:=hp
  simp only [wW] at hc
  split at hc
  ·simp only [wBp] at hc
   obtain ⟨i,z',hi,hs,hz,hzv,hzo⟩:=uY hc.1
   have h2:=hc.2
   split at h2
   ·simp only [wBp] at h2
    exact .none (qJe ht _ _ _ h2.2 (zG hzv))
   ·simp at h2
  ·simp at hc
 | mkSl z l ps =>
  simp only [wO,Option.some.injEq,Prod.mk.injEq] at hp
  obtain ⟨_,rfl,rfl,rfl⟩:=hp
  simp only [wW] at hc
  split at hc
  ·simp only [wBp] at hc
   have h2:=hc.2
   split at h2
   ·simp only [wBp] at h2
    obtain ⟨i,z',hi,hs,hz,hzv,hzo⟩:=uY h2.1.1.1
    exact .fresh hb (by simp [bnd]) (qC5 ht _ _ _ h2.2 (xR (zG hzv) _))
   ·simp at h2
  ·simp at hc
 | load n ag a =>
  simp only [wW] at hc
  split at hc
  ·simp only [wBp] at hc
   have ha:=uH ht hc.1.1.1
   simp only [wO] at hp
   split at hp
   ·rename_i nm i f hx
    cases hl:qQ h nm with
    | none=>simp [hl] at hp
    | some row =>
     simp only [hl,wBs,Option.some.injEq,Prod.mk.injEq] at hp
     obtain ⟨_,rfl,rfl,rfl⟩:=hp
     have hr:=hb nm row hl
     have hc0:jK (· < nx) (((row.2.getD i []).drop f).take n):=rJ (rK (lM hr.2 i) f) n
     obtain ⟨g1,g2⟩:=qBt (A:=fun _=>True) _ _ hc0
     obtain ⟨g3,g4⟩:=eX (((row.2.getD i []).drop f).take n) nx
     have mono :∀k,k<nx→k<(yX nx (((row.2.getD i []).drop f).take n)).2.2:=fun k hk=>by omega
     refine ⟨g3,?_,?_,?_,?_,?_⟩
     ·cases ag
      ·exact lL g1 0
      ·exact g1
     ·intro x hx
      rcases List.mem_cons.1 hx with rfl | hx
      ·exact hl
      ·obtain ⟨y,hy,rfl⟩:=List.mem_map.1 hx
       exact hb.new (g4 y hy).1
     ·intro x hx hn
      rcases List.mem_cons.1 hx with rfl | hx
      ·simp at hn
      ·obtain ⟨y,hy,rfl⟩:=List.mem_map.1 hx
       exact (g4 y hy).1
     ·intro x hx
      rcases List.mem_cons.1 hx with rfl | hx
      ·exact mono _ hr.1
      ·obtain ⟨y,hy,rfl⟩:=List.mem_map.1 hx
       exact (g4 y hy).2
     ·intro x hx row' hrow'
      rcases List.mem_cons.1 hx with rfl | hx
      ·simp only [Option.some.injEq] at hrow'
       subst hrow'
       split
       ·exact uV mono _ hr.2
       ·exact qGv (uV mono _ hr.2) i (pH (xC mono _ (lM hr.2 i)) g1 f)
      ·obtain ⟨y,hy,rfl⟩:=List.mem_map.1 hx
       simp only [Option.some.injEq] at hrow'
       subst hrow'
       exact g2 y hy
   ·rename_i m cells f hx
    simp only [Option.some.injEq,Prod.mk.injEq] at hp
    obtain ⟨_,rfl,rfl,rfl⟩:=hp
    rw [hx] at ha
    have hc0:jK (· < nx) ((cells.drop f).take n):=rJ (rK ha f) n
    refine .none ?_
    cases ag
    ·exact lL hc0 0
    ·exact hc0
   ·simp at hp
  ·simp at hc
 | store n a z =>
  simp only [wW] at hc
  split at hc
  ·simp only [wBp] at hc
   have ha:=uH ht hc.1.1
   have hz:=uH ht hc.1.2
   simp only [wO] at hp
   split at hp
   ·rename_i nm i f hx
    cases hl:qQ h nm with
    | none=>simp [hl] at hp
    | some row =>
     simp only [hl,wBs,Option.some.injEq,Prod.mk.injEq] at hp
     obtain ⟨_,rfl,rfl,rfl⟩:=hp
     have hr:=hb nm row hl
     exact ⟨wBo _,trivial,by simpa using hl,by simp,by simpa using hr.1,by simpa using qGv hr.2 i (pH (lM hr.2 i) (aH hz) f)⟩
   ·simp at hp
  ·simp at hc
 | nilck x =>
  simp only [wW] at hc
  split at hc
  ·have ha:=uH ht hc
   simp only [wO] at hp
   split at hp
   ·rename_i nm i f hx
    rw [hx] at ha
    cases hl:qQ h nm with
    | none=>simp [hl] at hp
    | some row =>
     simp only [hl,wBs,Option.some.injEq,Prod.mk.injEq] at hp
     obtain ⟨_,rfl,rfl,rfl⟩:=hp
     exact .read hb (by exact ha) hl
   ·rename_i hx
    simp only [ok,Option.some.injEq,Prod.mk.injEq] at hp
    obtain ⟨_,rfl,rfl,rfl⟩:=hp
    rw [hx] at ha
    exact .none ha
   ·simp at hp
  ·simp at hc
 | bin b x y =>
  simp only [wO] at hp
  cases hr:qCf b (x.ev ρ) (y.ev ρ) with
  | none=>simp [hr] at hp
  | some r =>
   simp only [hr,wBs,Option.some.injEq,Prod.mk.injEq] at hp
   obtain ⟨_,rfl,rfl,rfl⟩:=hp
   refine .none ?_
   unfold qCf at hr
   split at hr
   ·split at hr
    ·split at hr<;>first | (simp at hr; done) | (simp only [Option.some.injEq] at hr; subst hr; trivial)
    ·unfold qF0 at hr
     split at hr<;>first | (simp at hr; done) | (simp only [Option.some.injEq] at hr; subst hr; trivial)
   ·split at hr<;>first | (simp at hr; done) | (simp only [Option.some.injEq] at hr; subst hr; trivial)
   ·simp at hr
 | eqS ng ks x y =>
  simp only [wO] at hp
  split at hp
  ·rename_i xs ys _ _
   cases hr:eqC ks xs ys with
   | none=>simp [hr] at hp
   | some r =>
    simp only [hr,wBs,Option.some.injEq,Prod.mk.injEq] at hp
    obtain ⟨_,rfl,rfl,rfl⟩:=hp
    exact .none trivial
  ·simp at hp
 | eqB ng x y =>
  simp only [wO] at hp
  split at hp
  ·simp only [ok,Option.some.injEq,Prod.mk.injEq] at hp
   obtain ⟨_,rfl,rfl,rfl⟩:=hp
   exact .none trivial
  ·simp at hp
 | neNil x =>
  simp only [wO] at hp
  split at hp
  all_goals first | (simp at hp; done) | skip
  all_goals
   simp only [ok,Option.some.injEq,Prod.mk.injEq] at hp
   obtain ⟨_,rfl,rfl,rfl⟩:=hp
   exact .none trivial
 | un u x =>
  simp only [wO] at hp
  split at hp
  all_goals first | (simp at hp; done) | skip
  all_goals
   simp only [ok,Option.some.injEq,Prod.mk.injEq] at hp
   obtain ⟨_,rfl,rfl,rfl⟩:=hp
   exact .none trivial
 | cvi k x =>
  simp only [wO] at hp
  split at hp
  all_goals first | (simp at hp; done) | skip
  all_goals
   simp only [ok,Option.some.injEq,Prod.mk.injEq] at hp
   obtain ⟨_,rfl,rfl,rfl⟩:=hp
   exact .none trivial
 | cvs x =>
  simp only [wW] at hc
  split at hc
  ·simp only [wBp] at hc
   have ha:=uH ht hc.1.1
   simp only [wO] at hp
   cases hsrc:kT h 1 (x.ev ρ) with
   | none=>simp [hsrc] at hp
   | some r =>
    obtain ⟨cond,xs,rd⟩:=r
    simp only [hsrc,wBu] at hp
    cases hbs:eR xs with
    | none=>simp [hbs] at hp
    | some l =>
     simp only [hbs,wBs,Option.some.injEq,Prod.mk.injEq] at hp
     obtain ⟨_,rfl,rfl,rfl⟩:=hp
     have g:=(qRr hsrc ha hbr).2
     exact ⟨wBo _,trivial,fun x hx=>(g x hx).1,fun x hx hn=>absurd hn (g x hx).2.1,fun x hx=>by
      cases hl:x.2.1 with
      | none=>exact absurd hl (g x hx).2.1
      | some row=>exact (hb x.1 row (by rw [(g x hx).1,hl])).1,fun x hx row hr=>hbr x.1 row (by rw [(g x hx).1,←(g x hx).2.2,hr])⟩
  ·simp at hc
 | mkS z b l c =>
  simp only [wW] at hc
  split at hc
  ·simp only [wBp] at hc
   have h2:=hc.2
   split at h2
   ·simp only [wBp] at h2
    obtain ⟨i,z',hi,hs,hz,hzv,hzo⟩:=uY h2.1.1
    simp only [wO] at hp
    split at hp
    ·simp only [Option.some.injEq,Prod.mk.injEq] at hp
     obtain ⟨_,rfl,rfl,rfl⟩:=hp
     exact .fresh hb (by simp [bnd]) (xR (zG hzv) _)
    ·simp at hp
   ·simp at h2
  ·simp at hc
 | cut s x l hi =>
  simp only [wW] at hc
  split at hc
  ·simp only [wBp] at hc
   have ha:=uH ht hc.1.1.1
   simp only [wO] at hp
   cases hl0:aJ ρ 0 l with
   | none=>simp [hl0] at hp
   | some lo =>
    simp only [hl0,wBu] at hp
    split at hp
    ·cases hh:aJ ρ 0 hi with
     | none=>simp [hh] at hp
     | some k =>
      simp only [hh,wBs,Option.some.injEq,Prod.mk.injEq] at hp
      obtain ⟨_,rfl,rfl,rfl⟩:=hp
      exact .none trivial
    ·rename_i nm off len hx
     rw [hx] at ha
     cases hl:qQ h nm with
     | none=>simp [hl] at hp
     | some row =>
      simp only [hl,wBu] at hp
      cases hh:aJ ρ len hi with
      | none=>simp [hh] at hp
      | some k =>
       simp only [hh,wBs,Option.some.injEq,Prod.mk.injEq] at hp
       obtain ⟨_,rfl,rfl,rfl⟩:=hp
       exact .read hb (by exact ha) hl
    ·rename_i s' rows hx
     rw [hx] at ha
     cases hh:aJ ρ rows.length hi with
     | none=>simp [hh] at hp
     | some k =>
      simp only [hh,wBs,Option.some.injEq,Prod.mk.injEq] at hp
      obtain ⟨_,rfl,rfl,rfl⟩:=hp
      exact .none (rM (lN ha _) _)
    ·rename_i s' rows hx
     rw [hx] at ha
     cases hh:aJ ρ rows.length hi with
     | none=>simp [hh] at hp
     | some k =>
      simp only [hh,wBs,Option.some.injEq,Prod.mk.injEq] at hp
      obtain ⟨_,rfl,rfl,rfl⟩:=hp
      exact .none (rM (lN ha _) _)
    ·simp at hp
  ·simp at hc
 | cutS x l hi =>
  simp only [wO] at hp
  cases hl0:aJ ρ 0 l with
  | none=>simp [hl0] at hp
  | some lo =>
   simp only [hl0,wBu] at hp
   split at hp
   ·rename_i s hx
    cases hh:aJ ρ s.size hi with
    | none=>simp [hh] at hp
    | some k =>
     simp only [hh,wBs,Option.some.injEq,Prod.mk.injEq] at hp
     obtain ⟨_,rfl,rfl,rfl⟩:=hp
     exact .none trivial
   ·simp at hp
 | fad f x =>
  simp only [wW] at hc
  split at hc
  ·simp only [wBp] at hc
   have ha:=uH ht hc.1
   simp only [wO] at hp
   split at hp
   ·rename_i nm i f hx
    rw [hx] at ha
    cases hl:qQ h nm with
    | none=>simp [hl] at hp
    | some row =>
     simp only [hl,wBs,Option.some.injEq,Prod.mk.injEq] at hp
     obtain ⟨_,rfl,rfl,rfl⟩:=hp
     exact .read hb (by exact ha) hl
   ·rename_i hx
    simp only [ok,Option.some.injEq,Prod.mk.injEq] at hp
    obtain ⟨_,rfl,rfl,rfl⟩:=hp
    rw [hx] at ha
    exact .none ha
   ·simp at hp
  ·simp at hc
 | fld f n ag x =>
  simp only [wW] at hc
  split at hc
  ·simp only [wBp] at hc
   have ha:=uH ht hc.1
   simp only [wO] at hp
   split at hp
   ·rename_i cs hx
    rw [hx] at ha
    simp only [Option.some.injEq,Prod.mk.injEq] at hp
    obtain ⟨_,rfl,rfl,rfl⟩:=hp
    refine .none ?_
    cases ag
    ·exact lL ha f
    ·exact rJ (rK ha f) n
   ·simp at hp
  ·simp at hc
 | iad s x i =>
  simp only [wW] at hc
  split at hc
  ·simp only [wBp] at hc
   have ha:=uH ht hc.1.1
   simp only [wO] at hp
   split at hp
   ·rename_i nm off len _ j hx hi
    rw [hx] at ha
    cases hl:qQ h nm with
    | none=>simp [hl] at hp
    | some row =>
     simp only [hl,wBs,Option.some.injEq,Prod.mk.injEq] at hp
     obtain ⟨_,rfl,rfl,rfl⟩:=hp
     exact .read hb (by exact ha) hl
   ·rename_i hx hi
    rw [hx] at ha
    simp only [Option.some.injEq,Prod.mk.injEq] at hp
    obtain ⟨_,rfl,rfl,rfl⟩:=hp
    exact .none (lM ha _)
   ·rename_i hx hi
    rw [hx] at ha
    simp only [Option.some.injEq,Prod.mk.injEq] at hp
    obtain ⟨_,rfl,rfl,rfl⟩:=hp
    exact .none (lM ha _)
   ·simp at hp
  ·simp at hc
 | idx x i =>
  simp only [wO] at hp
  split at hp
  ·simp only [Option.some.injEq,Prod.mk.injEq] at hp
   obtain ⟨_,rfl,rfl,rfl⟩:=hp
   exact .none trivial
  ·simp at hp
 | ext x i =>
  simp only [wW] at hc
  split at hc
  ·simp only [wBp] at hc
   have ha:=uH ht hc.1
   simp only [wO] at hp
   split at hp
   ·rename_i hx
    rw [hx] at ha
    simp only [Option.some.injEq,Prod.mk.injEq] at hp
    obtain ⟨_,rfl,rfl,rfl⟩:=hp
    exact .none (lL ha i)
   ·simp at hp
  ·simp at hc
 | len x =>
  simp only [wO] at hp
  split at hp
  ·simp only [ok,Option.some.injEq,Prod.mk.injEq] at hp
   obtain ⟨_,rfl,rfl,rfl⟩:=hp
   exact .none trivial
  ·rename_i nm off l hx
   cases hl:qQ h nm with
   | none=>simp [hl] at hp
   | some row =>
    simp only [hl,wBs,Option.some.injEq,Prod.mk.injEq] at hp
    obtain ⟨_,rfl,rfl,rfl⟩:=hp
    exact .read hb (v:=.int _ _) trivial hl
  ·simp only [ok,Option.some.injEq,Prod.mk.injEq] at hp
   obtain ⟨_,rfl,rfl,rfl⟩:=hp
   exact .none trivial
  ·simp only [ok,Option.some.injEq,Prod.mk.injEq] at hp
   obtain ⟨_,rfl,rfl,rfl⟩:=hp
   exact .none trivial
  ·simp at hp
 | lenS x =>
  simp only [wO] at hp
  split at hp
  ·simp only [ok,Option.some.injEq,Prod.mk.injEq] at hp
   obtain ⟨_,rfl,rfl,rfl⟩:=hp
   exact .none trivial
  ·simp at hp
 | mx x y =>
  simp only [wO] at hp
  split at hp
  ·split at hp
   ·simp only [ok,Option.some.injEq,Prod.mk.injEq] at hp
    obtain ⟨_,rfl,rfl,rfl⟩:=hp
    exact .none trivial
   ·simp at hp
  ·simp at hp
 | clr z x =>
  simp only [wW] at hc
  split at hc
  ·split at hc
   ·rename_i args tys hop _ _ y t ha ht1
    simp only [wBp] at hc
    obtain ⟨c1,c2⟩:=hc
    cases hel:bX P t with
    | none=>simp [hel] at c2
    | some el =>
     simp only [hel] at c2
     obtain ⟨i,z',hi,his,hz,hzv,hzo⟩:=uY c2
     simp only [wO] at hp
     split at hp
     ·rename_i nm off len hx
      cases hl:qQ h nm with
      | none=>simp [hl] at hp
      | some row =>
       simp only [hl,wBs,Option.some.injEq,Prod.mk.injEq] at hp
       obtain ⟨_,rfl,rfl,rfl⟩:=hp
       have hr:=hb nm row hl
       exact ⟨wBo _,trivial,by simpa using hl,by simp,by simpa using hr.1,by
        simp only [wC6,forall_eq,Option.some.injEq]
        rintro _ rfl
        refine yE.2 fun r h=>?_
        rcases List.mem_append.1 h with h | h
        ·exact yE.1 hr.2 r (wCh h)
        ·exact yE.1 (xR (zG hzv) len) r h⟩
     ·simp at hp
   ·simp at hc
  ·simp at hc
 | app s b x y =>
  simp only [wW] at hc
  split at hc
  ·split at hc
   ·simp only [wBp] at hc
    have hx:=uH ht hc.1.1.1
    have hy:=uH ht hc.1.1.2
    simp only [wO] at hp
    cases hsrc:kT h s (y.ev ρ) with
    | none=>simp [hsrc] at hp
    | some r =>
     obtain ⟨cond,xs,rd⟩:=r
     simp only [hsrc,wBu] at hp
     obtain ⟨gx,g⟩:=qRr hsrc hy hbr
     have glt :∀x∈rd,x.1<nx:=fun x hx=>by
      cases hl:x.2.1 with
      | none=>exact absurd hl (g x hx).2.1
      | some row=>exact (hb x.1 row (by rw [(g x hx).1,hl])).1
     have grow :∀x∈rd,∀row,x.2.2=some row→yW (· < nx) row.2:=fun x hx row hr=>hbr x.1 row (by rw [(g x hx).1,←(g x hx).2.2,hr])
     have mono :∀k,k<nx→k<nx+1:=fun k hk=>by omega
     split at hp
     ·simp only [Option.some.injEq,Prod.mk.injEq] at hp
      obtain ⟨_,rfl,rfl,rfl⟩:=hp
      refine ⟨by omega,by simp [bnd],?_,?_,?_,?_⟩<;>intro x hx<;>rcases List.mem_append.1 hx with hx | hx
      ·exact (g x hx).1
      ·simp only [wC6] at hx; subst hx; exact hb.new (wBo _)
      ·exact fun hn=>absurd hn (g x hx).2.1
      ·simp only [wC6] at hx; subst hx; exact fun _=>wBo _
      ·exact mono _ (glt x hx)
      ·simp only [wC6] at hx; subst hx; exact Nat.lt_succ_self _
      ·exact fun row hr=>uV mono _ (grow x hx row hr)
      ·simp only [wC6] at hx; subst hx
       intro row hr
       simp only [Option.some.injEq] at hr
       subst hr
       exact uV mono _ gx
     ·rename_i nm off len hx'
      cases hl:qQ h nm with
      | none=>simp [hl] at hp
      | some row0 =>
       simp only [hl,wBs,Option.some.injEq,Prod.mk.injEq] at hp
       obtain ⟨_,rfl,rfl,rfl⟩:=hp
       have hr0:=hb nm row0 hl
       refine ⟨by omega,by simp [bnd],?_,?_,?_,?_⟩<;>intro x hx<;>rcases List.mem_append.1 hx with hx | hx
       ·exact (g x hx).1
       ·simp only [wBn,wCw,or_false] at hx
        rcases hx with rfl | rfl
        ·exact hl
        ·exact hb.new (wBo _)
       ·exact fun hn=>absurd hn (g x hx).2.1
       ·simp only [wBn,wCw,or_false] at hx
        rcases hx with rfl | rfl
        ·simp
        ·exact fun _=>wBo _
       ·exact mono _ (glt x hx)
       ·simp only [wBn,wCw,or_false] at hx
        rcases hx with rfl | rfl
        ·exact mono _ hr0.1
        ·exact Nat.lt_succ_self _
       ·exact fun row hr=>uV mono _ (grow x hx row hr)
       ·simp only [wBn,wCw,or_false] at hx
        rcases hx with rfl | rfl
        ·simp
        ·intro row hr
         simp only [Option.some.injEq] at hr
         subst hr
         exact uV mono _ (qXn (lN hr0.2 _) gx)
     ·simp at hp
   ·simp at hc
  ·simp at hc
 | call f ps xs=>simp [wO] at hp
 | calv f xs=>simp [wO] at hp
end
end Go.Sep
namespace Go.Sep
set_option linter.unusedVariables false
set_option linter.unusedSimpArgs false
structure lP where
 num:Nat→Nat
 w0:World
 Fr:Nat→Prop
 Bo:Nat→Prop
 L0:List Nat
 φ0:Nat→vG
 nt:Nat
def lP.env (B:lP) (w:World) (φ:Nat→vG):Env:={num:=B.num,w:=w,w0:=B.w0,φ:=φ,Fr:=B.Fr,Bo:=B.Bo}
structure pM (B:lP) (t:List (Nat×AV)) (h:wT) (nx:Nat) (a:Act) (w:World) (φ:Nat→vG) (Lf:Nat→List Nat):Prop where
 ok:Ok (B.env w φ) B.L0 (qQ h) Lf
 tm :∀n,RV (B.env w φ) (wD t n) (a.tmps.getD n undef) []
 φ0 :∀n,B.φ0 n≠.dead→n<10∧(φ n=B.φ0 n∨φ n=.dead)
 ten:10≤nx
def St (B:lP):AS→Act→World→Prop
 | .bad,_,_=>False
 | .mk t h nx,a,w=>a.tmps.size=B.nt∧a.defers=[]∧HB h nx∧(∀n,bnd (· < nx) (wD t n))∧∃φ Lf,pM B t h nx a w φ Lf
theorem qFr {h:wT} {n:Nat} {r:Row} (m:Nat):qQ (put h n r) m=if m=n then some r else qQ h m:=by
 induction h with
 | nil =>
  simp only [put,qQ]
 | cons x h ih =>
  obtain ⟨k,s⟩:=x
  simp only [put]
  split
  ·rename_i hk
   simp only [qQ]
   by_cases hm:m=n
   ·rw [if_pos (by omega),if_pos hm]
   ·rw [if_neg (by omega),if_neg hm,if_neg (by omega)]
  ·rename_i hk
   simp only [qQ,ih]
   by_cases hm:m=k
   ·rw [if_pos hm,if_neg (by omega),if_pos hm]
   ·rw [if_neg hm,if_neg hm]
theorem qAd {h:wT} {n:Nat} (m:Nat):qQ (del h n) m=if m=n then none else qQ h m:=by
 induction h with
 | nil=>simp [del,qQ]
 | cons x h ih =>
  obtain ⟨k,s⟩:=x
  simp only [del]
  split
  ·rename_i hk
   rw [ih]
   simp only [qQ]
   by_cases hm:m=n
   ·rw [if_pos hm,if_pos hm]
   ·rw [if_neg hm,if_neg hm,if_neg (by omega)]
  ·rename_i hk
   simp only [qQ,ih]
   by_cases hm:m=k
   ·rw [if_pos hm,if_neg (by omega),if_pos hm]
   ·rw [if_neg hm,if_neg hm]
theorem lC :∀(fp:FP) (h:wT),qQ (dR h fp)=upH (qQ h) fp
 | [],h=>rfl
 | (n,p,some r)::fp,h=>by
  simp only [dR,upH]
  rw [lC fp]
  congr 1
  funext m
  exact qFr m
 | (n,p,none)::fp,h=>by
  simp only [dR,upH]
  rw [lC fp]
  congr 1
  funext m
  exact qAd m
theorem qQ3 (t:List (Nat×AV)) (d:Nat) (v:AV) (n:Nat):wD (qYf t d v) n=if n=d then v else wD t n:=rfl
theorem eE (t:List (Nat×AV)) (d:Option Nat) (v:AV) (n:Nat):wD (bS t d v) n=if d=some n then v else wD t n:=by
 cases d with
 | none=>simp [bS]
 | some d =>
  simp only [bS,qQ3,Option.some.injEq]
  by_cases h:n=d
  ·rw [if_pos h,if_pos h.symm]
  ·rw [if_neg h,if_neg (fun he=>h he.symm)]
def pA (nt:Nat):Option Nat→Bool
 | none=>true
 | some d=>decide (d<nt)
theorem qA6 {a:Act} {d:Option Nat} {v:Value} {nt:Nat} (hs:a.tmps.size=nt) (hd:pA nt d=true) (n:Nat) :
  (a.put d v).tmps.getD n undef=if d=some n then v else a.tmps.getD n undef:=by
 cases d with
 | none=>simp [Act.put]
 | some d =>
  simp only [pA,decide_eq_true_eq] at hd
  simp only [Act.put,Option.some.injEq,Array.getD_eq_getD_getElem?,Array.getElem?_setIfInBounds]
  by_cases h:d=n
  ·subst h
   simp [hs,hd]
  ·simp [h]
theorem oA {a:Act} {d:Option Nat} {v:Value}:(a.put d v).tmps.size=a.tmps.size:=by
 cases d<;>simp [Act.put]
theorem fK {a:Act} {d:Option Nat} {v:Value}:(a.put d v).defers=a.defers:=by
 cases d<;>simp [Act.put]
theorem pM.turn {B:lP} {t:List (Nat×AV)} {h:wT} {nx nx':Nat} {a:Act} {w:World} {φ:Nat→vG} {Lf:Nat→List Nat} {fp:FP} {v:AV} {e':Env} {Lf':Nat→List Nat} {v':Value} {d:Option Nat}
  (hs:pM B t h nx a w φ Lf) (hsz:a.tmps.size=B.nt) (hd:pA B.nt d=true) (hb:HB h nx) (hbt :∀n,bnd (· < nx) (wD t n)) (hp:PB h nx v fp nx')
  (ht:dP (B.env w φ) (qQ h) Lf (fun n=>n∈fp.map (·.1)) e' (upH (qQ h) fp) Lf') (hv:RV e' v v' []) :
  e'=B.env e'.w e'.φ∧HB (dR h fp) nx'∧(∀n,bnd (· < nx') (wD (bS t d v) n))∧∃Lf'',pM B (bS t d v) (dR h fp) nx' (a.put d v') e'.w e'.φ Lf'':=by
 have he:e'=B.env e'.w e'.φ:=by
  have h1:=ht.num
  have h2:=ht.w0
  have h3:=ht.Fr
  have h4:=ht.Bo
  cases e'
  simp only [lP.env] at h1 h2 h3 h4⊢
  subst h1 h2 h3 h4
  rfl
 have hnew :∀nm,nm<nx→nm∈fp.map (·.1)→qQ h nm=none→e'.φ nm=.dead:=by
  intro nm hlt hm hn
  obtain ⟨x,hx,rfl⟩:=List.mem_map.1 hm
  have:=hp.new x hx (by rw [←hp.pre x hx,hn])
  omega
 refine ⟨he,?_,?_,mix (fun n=>n∈fp.map (·.1)) Lf Lf',?_⟩
 ·intro nm row hr
  rw [lC] at hr
  by_cases hm:nm∈fp.map (·.1)
  ·have hlast :∀(fp:FP) (H:Nat→Option Row),nm∈fp.map (·.1)→∃x∈fp,x.1=nm∧upH H fp nm=x.2.2:=by
    intro fp
    induction fp with
    | nil=>intro H hm; simp at hm
    | cons x fp ih =>
     intro H hm
     obtain ⟨n,pr,r⟩:=x
     by_cases hm':nm∈fp.map (·.1)
     ·obtain ⟨y,hy,h1,h2⟩:=ih (fun m=>if m=n then r else H m) hm'
      exact ⟨y,by simp [hy],h1,h2⟩
     ·simp only [List.map_cons,wBn,hm',or_false] at hm
      refine ⟨(n,pr,r),by simp,hm.symm,?_⟩
      simp only [upH]
      rw [kO hm',if_pos hm]
   obtain ⟨x,hx,h1,h2⟩:=hlast fp (qQ h) hm
   rw [h2] at hr
   exact ⟨h1▸hp.lt x hx,hp.row x hx row hr⟩
  ·rw [kO hm] at hr
   have:=hb nm row hr
   exact ⟨wCq this.1 hp.le,uV (fun k hk=>wCq hk hp.le) _ this.2⟩
 ·intro n
  rw [eE]
  split
  ·exact hp.v
  ·exact lO (fun k hk=>wCq hk hp.le) _ (hbt n)
 ·rw [he] at ht hv
  refine ⟨?_,?_,?_,Nat.le_trans hs.ten hp.le⟩
  ·rw [lC]
   exact ht.ok (A:=(· < nx)) hs.ok (fun nm row hr=>(hb nm row hr).2) hnew
  ·intro n
   rw [eE,qA6 hsz hd]
   split
   ·exact hv
   ·exact iS _ (ht.keeps (A:=(· < nx)) (L:=[]) hnew hs.ok.rh.dead (by simp)) (hbt n) (hs.tm n)
  ·intro n hn
   obtain ⟨h10,h2⟩:=hs.φ0 n hn
   have h1:n<nx:=wCq h10 hs.ten
   refine ⟨h10,?_⟩
   by_cases hm:n∈fp.map (·.1)
   ·by_cases hH:qQ h n=none
    ·exact .inr (hnew n h1 hm hH)
    ·rcases ht.φF n hm hH with hq | hq
     ·have hq':e'.φ n=φ n:=hq
      rw [hq']; exact h2
     ·exact .inr hq
   ·have hq:e'.φ n=φ n:=ht.φ n hm
    rw [hq]; exact h2
theorem qY5 {P:Program} {B:lP} {o:Oper} {m:MOp} {t:List (Nat×AV)} {h:wT} {nx nx':Nat} {p:Prop} {v:AV} {fp:FP} {a:Act} {w:World} {K:Act→World→Prop} {Q:Exit→Act→World→Prop}
  (hc:wW P B.num m o.op=true) (hd:pA B.nt o.dst=true) (hs:St B (.mk t h nx) a w) (hp:wO (wD t) h nx m=some (p,v,fp,nx')) (hpp:p)
  (k :∀a' w',St B (.mk (bS t o.dst v) (dR h fp) nx') a' w'→K a' w'):o.wp P a w K Q:=by
 obtain ⟨h1,h2,hb,hbt,φ,Lf,hl⟩:=hs
 have pb:=qA7 hc hp hbt hb
 have tri:=qN1 hc hp hpp (fun nm row hr=>by have:=(hb nm row hr).1; omega)
 refine tri (B.env w φ) B.L0 (qQ h) Lf (· < nx) a K Q rfl hl.ok pb.pre hbt (fun nm row hr=>(hb nm row hr).2) (fun x hx hn=>by have:=pb.new x hx hn; omega) hl.tm ?_
 intro e' Lf' v' ht hv
 obtain ⟨g1,g2,g3,Lf'',g4⟩:=hl.turn (d:=o.dst) h1 hd hb hbt pb ht hv
 exact k _ _ ⟨by rw [oA]; exact h1,by rw [fK]; exact h2,g2,g3,e'.φ,Lf'',g4⟩
theorem St.skip {B:lP} {t:List (Nat×AV)} {h:wT} {nx:Nat} {a:Act} {w:World} {d:Option Nat} (hd:pA B.nt d=true) (hs:St B (.mk t h nx) a w):St B (.mk (bS t d (.tup [])) h nx) (a.put d undef) w:=by
 obtain ⟨h1,h2,hb,hbt,φ,Lf,hl⟩:=hs
 refine ⟨by rw [oA]; exact h1,by rw [fK]; exact h2,hb,?_,φ,Lf,hl.ok,?_,hl.φ0,hl.ten⟩
 ·intro n
  rw [eE]
  split
  ·simp [bnd,jK]
  ·exact hbt n
 ·intro n
  rw [eE,qA6 h1 hd]
  split
  ·simp [RV,RVs,undef]
  ·exact hl.tm n
theorem St.world {B:lP} {s:AS} {a:Act} {w w':World} (hio:gH w w') (hw:w'.heap=w.heap) (hs:St B s a w):St B s a w':=by
 cases s with
 | bad=>exact hs
 | mk t h nx =>
  obtain ⟨h1,h2,hb,hbt,φ,Lf,hl⟩:=hs
  have T:dP (B.env w φ) (qQ h) Lf (fun _=>False) (B.env w' φ) (qQ h) Lf :=
   {num:=rfl,w0:=rfl,Fr:=rfl,Bo:=rfl,io:=hio,size:=by simp [lP.env,hw],keep:=fun b _ _=>by simp [lP.env,hw],φ:=fun _ _=>rfl,φF:=fun _ hf=>hf.elim,rest:=fun _ _=>rfl,
    row:=fun _ _ hf=>hf.elim,nodup:=fun _ hf=>hf.elim,blk:=fun _ hf=>hf.elim,dis:=fun _ _ hf=>hf.elim,dead:=fun _ hf=>hf.elim}
  have:=T.ok (A:=fun _=>True) hl.ok (fun nm row hr=>rL _) (fun _ _ hf=>hf.elim)
  have hm:mix (fun _=>False) Lf Lf=Lf:=by funext n; exact cS (fun hf=>hf)
  rw [hm] at this
  exact ⟨h1,h2,hb,hbt,φ,Lf,this,fun n=>iS _ (T.keeps (A:=fun _=>True) (L:=[]) (fun _ _ hf=>hf.elim) hl.ok.rh.dead (by simp)) (qB3 _) (hl.tm n),hl.φ0,hl.ten⟩
end Go.Sep
namespace Go.Sep
set_option linter.unusedVariables false
set_option linter.unusedSimpArgs false
def Sub (s s':AS):Prop :=∀(B:lP) (a:Act) (w:World),St B s a w→St B s' a w
theorem Sub.refl (s:AS):Sub s s:=fun _ _ _ h=>h
theorem Sub.trans {s s' s'':AS} (h:Sub s s') (h':Sub s' s''):Sub s s'':=fun B a w k=>h' B a w (h B a w k)
def tM (P:Program) (num:Nat→Nat) (m:MOp) (dst:Option Nat) (s s':AS):Prop :=
 ∀(B:lP) (o:Oper) (a:Act) (w:World) (K:Act→World→Prop) (Q:Exit→Act→World→Prop),B.num=num→wW P num m o.op=true→o.dst=dst→pA B.nt dst=true→St B s a w→
  (∀a' w',St B s' a' w'→K a' w')→o.wp P a w K Q
theorem tM.sub {P:Program} {num:Nat→Nat} {m:MOp} {dst:Option Nat} {s s1 s':AS} (h:Sub s s1) (k:tM P num m dst s1 s'):tM P num m dst s s' :=
 fun B o a w K Q h1 h2 h3 h4 hs hk=>k B o a w K Q h1 h2 h3 h4 (h B a w hs) hk
def nG (P:Program) (num:Nat→Nat) (m:MOp) (t:List (Nat×AV)) (h:wT) (nx:Nat) (v:AV) (fp:FP) (nx':Nat):Prop :=
 HB h nx→(∀n,bnd (· < nx) (wD t n))→PB h nx v fp nx'∧∀(B:lP) (o:Oper) (a:Act) (w:World) (φ:Nat→vG) (Lf:Nat→List Nat) (K:Act→World→Prop) (Q:Exit→Act→World→Prop),B.num=num→wW P num m o.op=true→pM B t h nx a w φ Lf→
  (∀e3 Lf3 v',dP (B.env w φ) (qQ h) Lf (fun n=>n∈fp.map (·.1)) e3 (upH (qQ h) fp) Lf3→RV e3 v v' []→K (a.put o.dst v') e3.w)→o.wp P a w K Q
inductive It where
 | draw (tr:vZ) (pend:List (Nat×List Nat))
 | code (m:bK)
 | ops (l:List yC)
 | blk (id:Nat)
 | stop (J:AS→Prop)
def osz:List yC→Nat
 | []=>1
 | o::os=>(match o.guard with | none=>1 | some _=>2)+osz os
def gsz (o:yC):Nat:=match o.guard with | none=>1 | some _=>2
def vZ.sz:vZ→Nat
 | .done=>1
 | .take _ o k=>gsz o+k.sz
 | .only _ _ o k=>gsz o+k.sz
 | .both _ _ o k _ _ p l=>gsz o+gsz p+k.sz+l.sz+2
 | .tri _ _ o k _ _ p l _ _ q r=>gsz o+gsz p+gsz q+k.sz+l.sz+r.sz+3
def bK.sz:bK→Nat
 | .skip | .exit _ | .ret=>1
 | .dreg tr=>tr.sz+1
 | .reg _ ops=>osz ops+1
 | .seq a b=>a.sz+b.sz+1
 | .cond _ a b=>a.sz+b.sz+1
 | .blk _ a=>a.sz+2
 | .loop a=>a.sz+2
def It.sz:It→Nat
 | .code m=>m.sz
 | .ops l=>osz l
 | .draw tr _=>tr.sz
 | .blk _=>1
 | .stop _=>0
def szs:List It→Nat
 | []=>0
 | i::k=>i.sz+szs k
def gv (v:AV) (q:Option Bool):Prop:=(∃b,v=.bool b∧q=some b)∨(v=.tup []∧q=none)
def gU (id:Nat):List It→List It
 | []=>[.stop fun _=>False]
 | .blk j::k=>if j=id then k else gU id k
 | _::k=>gU id k
theorem eH (id:Nat) :∀k,szs (gU id k)≤szs k
 | []=>by simp [gU,szs,It.sz]
 | .blk j::k=>by
  have:=eH id k
  simp only [gU]
  split<;>simp only [szs]<;>omega
 | .code _::k=>by have:=eH id k; simp only [gU,szs]; omega
 | .ops _::k=>by have:=eH id k; simp only [gU,szs]; omega
 | .draw _ _::k=>by have:=eH id k; simp only [gU,szs]; omega
 | .stop _::k=>by have:=eH id k; simp only [gU,szs]; omega
def cN (fp:FP):List Nat:=(fp.filter fun x=>x.2.1.isSome).map (·.1)
def qK0 (pend:List (Nat×List Nat)) (h:wT):Prop :=∀p∈pend,∀n∈p.2,qQ h n≠none
def apart (pend:List (Nat×List Nat)) (fp:FP):Prop :=∀p∈pend,∀n∈p.2,∀x∈fp,x.1≠n
def qGy (i:Nat) (ns:List Nat) (pend:List (Nat×List Nat)):List (Nat×List Nat):=match ns with | []=>pend | n::ns=>(i,n::ns)::pend
def yK (deps:List Nat) (pend:List (Nat×List Nat)):List (Nat×List Nat):=pend.filter fun p=>!deps.contains p.1
def vc (P:Program) (num:Nat→Nat) (fin:AS→Prop):List It→AS→Prop
 | [],s=>fin s
 | .stop J::_,s=>J s
 | .blk _::k,s=>vc P num fin k s
 | .ops []::k,s=>vc P num fin k s
 | .ops (o::os)::k,.mk t h nx =>
  match hg:o.guard with
  | none =>
   if qFy o.op then∃s',tM P num o.op o.dst (.mk t h nx) s'∧vc P num fin (.ops os::k) s'
   else match wO (wD t) h nx o.op with
    | some (p,v,fp,nx')=>p∧vc P num fin (.ops os::k) (.mk (bS t o.dst v) (dR h fp) nx')
    | none=>False
  | some (g,want) =>∃q,gv (wD t g) q∧(q=some want→vc P num fin (.ops (({dst:=o.dst,op:=o.op,guard:=none}:yC)::os)::k) (.mk t h nx))∧
    (q≠some want→vc P num fin (.ops os::k) (.mk (bS t o.dst (.tup [])) h nx))
 | .ops (_::_)::_,.bad=>True
 | .draw .done _::k,s=>vc P num fin k s
 | .draw (.take i o tr) pend::k,.mk t h nx =>
  match hg:o.guard with
  | none=>(match wO (wD t) h nx o.op with
   | some (p,v,fp,nx')=>p∧qK0 (qGy i (cN fp) pend) (dR h fp)∧vc P num fin (.draw tr (qGy i (cN fp) pend)::k) (.mk (bS t o.dst v) (dR h fp) nx')
   | none=>False)
  | some (g,want) =>∃q,gv (wD t g) q∧(q=some want→vc P num fin (.draw (.take i {dst:=o.dst,op:=o.op,guard:=none} tr) pend::k) (.mk t h nx))∧
    (q≠some want→vc P num fin (.draw tr pend::k) (.mk (bS t o.dst (.tup [])) h nx))
 | .draw (.only i deps o tr) pend::k,.mk t h nx =>
  match hg:o.guard with
  | none =>
   if qFy o.op then∃v fp nx',nG P num o.op t h nx v fp nx'∧apart (yK deps pend) fp∧vc P num fin (.draw tr (yK deps pend)::k) (.mk (bS t o.dst v) (dR h fp) nx')
   else (match wO (wD t) h nx o.op with
    | some (p,v,fp,nx')=>p∧(if xL o.op then qK0 (yK deps pend) (dR h fp) else apart (yK deps pend) fp)∧vc P num fin (.draw tr (yK deps pend)::k) (.mk (bS t o.dst v) (dR h fp) nx')
    | none=>False)
  | some (g,want) =>∃q,gv (wD t g) q∧(q=some want→vc P num fin (.draw (.only i deps {dst:=o.dst,op:=o.op,guard:=none} tr) pend::k) (.mk t h nx))∧
    (q≠some want→vc P num fin (.draw tr (yK deps pend)::k) (.mk (bS t o.dst (.tup [])) h nx))
 | .draw (.both i di o tr j dj p tr') pend::k,s=>vc P num fin (.draw (.only i di o tr) pend::k) s∧vc P num fin (.draw (.only j dj p tr') pend::k) s
 | .draw (.tri i di o tr j dj p tr' m dm q tr2) pend::k,s=>vc P num fin (.draw (.only i di o tr) pend::k) s∧vc P num fin (.draw (.only j dj p tr') pend::k) s∧vc P num fin (.draw (.only m dm q tr2) pend::k) s
 | .draw (.take _ _ _) _::_,.bad=>True
 | .draw (.only _ _ _ _) _::_,.bad=>True
 | .code (.dreg tr)::k,s=>vc P num fin (.draw tr []::k) s
 | .code .skip::k,s=>vc P num fin k s
 | .code .ret::_,s=>fin s
 | .code (.exit id)::k,s=>vc P num fin (gU id k) s
 | .code (.seq a b)::k,s=>vc P num fin (.code a::.code b::k) s
 | .code (.blk id a)::k,s=>vc P num fin (.code a::.blk id::k) s
 | .code (.reg _ ops)::k,s=>vc P num fin (.ops ops::k) s
 | .code (.cond x a b)::k,.mk t h nx =>∃q,wD t x=.bool q∧(q=true→vc P num fin (.code a::k) (.mk t h nx))∧(q=false→vc P num fin (.code b::k) (.mk t h nx))
 | .code (.cond _ _ _)::_,.bad=>True
 | .code (.loop a)::k,s =>∃(J:Nat→AS→Prop) (n:Nat),(∃s1,Sub s s1∧J n s1)∧∀n s,J n s→vc P num fin (.code a::.stop (fun s' =>∃s1,Sub s' s1∧∃m,m<n∧J m s1)::k) s
 termination_by l=>szs l
 decreasing_by
  all_goals simp_wf
  all_goals first
   | (simp only [szs,It.sz,bK.sz,osz,vZ.sz,gsz]; done)
   | (simp only [szs,It.sz,bK.sz,osz,vZ.sz,gsz]; omega)
   | (simp only [szs,It.sz,osz,vZ.sz,gsz,hg]; omega)
   | (have:=eH id k; simp only [szs,It.sz,bK.sz]; omega)
   | (simp only [szs,It.sz,vZ.sz,gsz]; cases o.guard<;>simp only []<;>omega)
end Go.Sep
namespace Go.Sep
set_option linter.unusedVariables false
set_option linter.unusedSimpArgs false
section
variable {P:Program} {ops:Array Oper} {Q:Exit→Act→World→Prop} {md:Region.Mode}
def dep (md:Region.Mode) (ops:Array Oper) (j i:Nat):Bool :=
 match ops[j]? with
 | some oj=>oj.after.any fun e=>Region.binds md e&&e.on==i
 | none=>false
inductive qH1 (md:Region.Mode) (ops:Array Oper) (j:Nat):Nat→Prop
 | one {i:Nat} (h:dep md ops j i=true):qH1 md ops j i
 | more {r i:Nat} (h:qH1 md ops j r) (hd:dep md ops r i=true):qH1 md ops j i
open Classical in
noncomputable def aK (md:Region.Mode) (ops:Array Oper) (j i:Nat):Bool:=decide (qH1 md ops j i)
def kL (md:Region.Mode) (ops:Array Oper) (i:Nat):List Nat→List Nat→Bool
 | _,[]=>true
 | acc,d::ds=>(dep md ops i d||acc.any fun r=>dep md ops r d)&&kL md ops i (d::acc) ds
theorem qAu {i:Nat} :∀{acc ds:List Nat},kL md ops i acc ds=true→(∀r∈acc,qH1 md ops i r)→∀d∈ds,aK md ops i d=true
 | _,[],_,_,d,hd=>by simp at hd
 | acc,x::ds,h,ha,d,hd=>by
  simp only [kL,wBp,Bool.or_eq_true,List.any_eq_true] at h
  have hx:qH1 md ops i x:=by
   rcases h.1 with h1 | ⟨r,hr,h1⟩
   ·exact .one h1
   ·exact .more (ha r hr) h1
  rcases List.mem_cons.1 hd with rfl | hd
  ·simp [aK,hx]
  ·exact qAu h.2 (fun r hr=>by
    rcases List.mem_cons.1 hr with rfl | hr
    ·exact hx
    ·exact ha r hr) d hd
def iR (md:Region.Mode) (ops:Array Oper) (listed:Array Bool):Prop :=∀j oj,ops[j]?=some oj→listed.getD j false=true→∀e∈oj.after,Region.binds md e=true→listed.getD e.on false=true
theorem iR.none {n:Nat}:iR md ops (Array.replicate n false):=by
 intro j oj _ h
 rw [Array.getD_eq_getD_getElem?,Array.getElem?_replicate] at h
 split at h<;>simp at h
structure qB5 where
 i:Nat
 S:World→Prop
def wpD (P:Program) (md:Region.Mode) (ops:Array Oper) (Q:Exit→Act→World→Prop):Nat→List qB5→Array Bool→Act→World→Prop
 | 0,_,listed,a,w=>Region.ready md ops listed=[]∧Q .normal a w
 | fuel+1,L,listed,a,w =>
  (Region.ready md ops listed=[]→Q .normal a w)∧
  ∀j∈Region.ready md ops listed,wpOp P ops Q j (fun a' w'=>(∀p∈L,aK md ops j p.i=false→p.S w')∧wpD P md ops Q fuel (L.filter fun p=>!aK md ops j p.i) (listed.setIfInBounds j true) a' w') a w
theorem qR9 :∀(fuel:Nat) (L:List qB5) (listed:Array Bool) (a:Act) (w:World),wpD P md ops Q fuel L listed a w→wpAny P md ops Q fuel listed a w
 | 0,_,_,_,_,h=>h
 | fuel+1,_,_,_,_,h=>⟨h.1,fun j hj=>wpOp_mono (fun a' w' h'=>qR9 fuel _ _ a' w' h'.2) (h.2 j hj)⟩
theorem qM7 :∀(fuel:Nat) (L L':List qB5) (listed:Array Bool) (a:Act) (w:World),(∀p∈L',p∈L)→wpD P md ops Q fuel L listed a w→wpD P md ops Q fuel L' listed a w
 | 0,_,_,_,_,_,_,h=>h
 | fuel+1,L,L',_,_,_,hs,h=>⟨h.1,fun j hj=>wpOp_mono (fun a' w' h'=>⟨fun p hp hd=>h'.1 p (hs p hp) hd,qM7 fuel _ _ _ a' w' (fun p hp=>by
   rw [wCy] at hp⊢
   exact ⟨hs p hp.1,hp.2⟩) h'.2⟩) (h.2 j hj)⟩
theorem qM5 (i:Nat) :∀(fuel:Nat) (L:List qB5) (listed:Array Bool) (a:Act) (w:World),wpD P md ops Q fuel L listed a w→wpD P md ops Q fuel (⟨i,fun _=>True⟩::L) listed a w
 | 0,_,_,_,_,h=>h
 | fuel+1,L,_,_,_,h=>⟨h.1,fun j hj=>wpOp_mono (fun a' w' h'=>by
   refine ⟨fun p hp hd=>?_,?_⟩
   ·rcases List.mem_cons.1 hp with rfl | hp
    ·trivial
    ·exact h'.1 p hp hd
   ·by_cases hd:aK md ops j i=true
    ·rw [List.filter_cons_of_neg (by simp [hd])]
     exact h'.2
    ·rw [wCz (by simpa using hd)]
     exact qM5 i fuel _ _ a' w' h'.2) (h.2 j hj)⟩
theorem iR.not {listed:Array Bool} (hsh:iR md ops listed) {j i:Nat} {oj:Oper} (hall :∀e∈oj.after,Region.binds md e=true→listed.getD e.on false=true) (hoj:ops[j]?=some oj) (hun:listed.getD i false=false):aK md ops j i=false:=by
 have key :∀i,qH1 md ops j i→listed.getD i false=true:=fun i hr=>by
  induction hr with
  | one h =>
   unfold dep at h
   rw [hoj] at h
   obtain ⟨e,he,hb⟩:=Array.any_eq_true'.1 h
   simp only [wBp,beq_iff_eq] at hb
   rw [←hb.2]
   exact hall e he hb.1
  | @more r i _ hd ih =>
   unfold dep at hd
   cases hor:ops[r]? with
   | none=>rw [hor] at hd; simp at hd
   | some o =>
    rw [hor] at hd
    obtain ⟨e,he,hb⟩:=Array.any_eq_true'.1 hd
    simp only [wBp,beq_iff_eq] at hb
    rw [←hb.2]
    exact hsh r o hor ih e he hb.1
 simp only [aK,decide_eq_false_iff_not]
 intro h
 rw [key i h] at hun
 cases hun
theorem iR.step {listed:Array Bool} (hsh:iR md ops listed) {j:Nat} {oj:Oper} (hall :∀e∈oj.after,Region.binds md e=true→listed.getD e.on false=true) (hoj:ops[j]?=some oj):iR md ops (listed.setIfInBounds j true):=by
 have up :∀k,listed.getD k false=true→(listed.setIfInBounds j true).getD k false=true:=fun k hk=>by
  simp only [Array.getD_eq_getD_getElem?,Array.getElem?_setIfInBounds] at hk⊢
  split
  ·split
   ·rfl
   ·rename_i h1 h2
    subst h1
    rw [Array.getElem?_eq_none (by omega)] at hk
    simp at hk
  ·exact hk
 intro k ok hok hk e he hb
 by_cases hkj:j=k
 ·subst hkj
  rw [hoj] at hok
  cases hok
  exact up _ (hall e he hb)
 ·refine up _ (hsh k ok hok ?_ e he hb)
  rw [Array.getD_eq_getD_getElem?,Array.getElem?_setIfInBounds_ne hkj] at hk
  rw [Array.getD_eq_getD_getElem?]
  exact hk
theorem iR.up {listed:Array Bool} (hsh:iR md ops listed) {j:Nat} (hr:j∈Region.ready md ops listed):iR md ops (listed.setIfInBounds j true):=by
 obtain ⟨_,o,ho,hall⟩:=mem_ready.1 hr
 exact hsh.step hall ho
theorem qM6 {i:Nat} {oi:Oper} {v:Value} {S:World→Prop} (hi:ops[i]?=some oi) (hsel :∀(j:Nat) (o:Oper) cs b,ops[j]?=some o→o.op≠.select cs b)
  (hQ :∀c a w,Q (.panic c) (a.put oi.dst v) w→Q (.panic c) a w) :
  ∀(fuel:Nat) (L:List qB5) (listed:Array Bool) (a:Act) (w:World),
   (∀j oj,ops[j]?=some oj→j≠i→listed.getD j true=false→(∀e∈oj.after,Region.binds md e=true→e.on≠i)→oi.apart ops oj=true)→
   iR md ops listed→i∈Region.ready md ops listed→YieldsIf P ops S oi v a→S w→(∀p∈L,p.S w)→
   wpD P md ops Q fuel (⟨i,S⟩::L) (listed.setIfInBounds i true) (a.put oi.dst v) w→wpD P md ops Q (fuel+1) L listed a w:=by
 intro fuel
 induction fuel with
 | zero =>
  intro L listed a w _ _ hr hy hS hL H
  refine ⟨fun h=>(by rw [h] at hr; cases hr),fun j hj=>?_⟩
  by_cases hji:j=i
  ·subst hji; exact hy.wpOp hi hS ⟨fun p hp _=>hL p hp,H⟩
  ·have:=ready_mono hj hji
   rw [H.1] at this
   cases this
 | succ fuel ih =>
  intro L listed a w hfree hsh hr hy hS hL H
  refine ⟨fun h=>(by rw [h] at hr; cases hr),fun j hj=>?_⟩
  by_cases hji:j=i
  ·subst hji
   refine hy.wpOp hi hS ⟨fun p hp _=>hL p hp,qM7 _ _ _ _ _ _ (fun p hp=>?_) H⟩
   exact wCk _ (List.mem_filter.1 hp).1
  ·have h1:=H.2 j (ready_mono hj hji)
   obtain ⟨hjun,oj,hoj,hall⟩:=mem_ready.1 hj
   have hnot :∀e∈oj.after,Region.binds md e=true→e.on≠i:=fun e he hb heq=>by
    have h1:=hall e he hb
    have h0:=(mem_ready.1 hr).1
    rw [heq] at h1
    rcases Nat.lt_or_ge i listed.size with h' | h'
    ·simp [h'] at h0 h1; rw [h0] at h1; cases h1
    ·simp [Array.getElem?_eq_none h'] at h1
   have hun:listed.getD i false=false:=by
    have h0:=(mem_ready.1 hr).1
    rcases Nat.lt_or_ge i listed.size with h' | h'
    ·simp [h'] at h0⊢; exact h0
    ·simp [Array.getElem?_eq_none h']
   have hd:aK md ops j i=false:=iR.not hsh hall hoj hun
   have h2:=wpOp_putIf hoj (hfree j oj hoj hji hjun hnot) (fun cs b=>hsel i oi cs b hi) (fun cs b=>hsel j oj cs b hoj) hQ hy h1
   have hfree' :∀k ok,ops[k]?=some ok→k≠i→(listed.setIfInBounds j true).getD k true=false→
     (∀e∈ok.after,Region.binds md e=true→e.on≠i)→oi.apart ops ok=true:=fun k ok hk hki hun hno=>by
    refine hfree k ok hk hki ?_ hno
    by_cases hjk:j=k
    ·subst hjk; exact hjun
    ·rw [getD_set_ne true hjk] at hun; exact hun
   refine wpOp_mono (fun a' w' h3=>?_) h2
   obtain ⟨h4,h5,h6⟩:=h3
   have h7:S w':=h5 ⟨i,S⟩ (by simp) hd
   refine ⟨fun p hp hdp=>h5 p (by simp [hp]) hdp,ih _ (listed.setIfInBounds j true) a' w' hfree' (hsh.step hall hoj) (ready_mono hr (Ne.symm hji)) h4 h7 (fun p hp=>?_) ?_⟩
   ·rw [wCy] at hp
    exact h5 p (by simp [hp.1]) (by simpa using hp.2)
   ·rw [Array.setIfInBounds_comm _ _ hji]
    rw [wCz (by simp [hd])] at h6
    exact h6
theorem qK9 {rs:List Nat} {fuel:Nat} {L:List qB5} {listed:Array Bool} {a:Act} {w:World} (hr:Region.ready md ops listed=rs) (hne:rs≠[])
  (h :∀j∈rs,wpOp P ops Q j (fun a' w'=>(∀p∈L,aK md ops j p.i=false→p.S w')∧wpD P md ops Q fuel (L.filter fun p=>!aK md ops j p.i) (listed.setIfInBounds j true) a' w') a w) :
  wpD P md ops Q (fuel+1) L listed a w:=⟨fun h0=>absurd (hr▸h0) hne,hr▸h⟩
theorem qV0 {L:List qB5} {listed:Array Bool} {a:Act} {w:World} (hr:Region.ready md ops listed=[]) (h:Q .normal a w) :∀fuel,wpD P md ops Q fuel L listed a w
 | 0=>⟨hr,h⟩
 | _+1=>⟨fun _=>h,by rw [hr]; simp⟩
end
end Go.Sep
namespace Go.Sep
set_option linter.unusedVariables false
set_option linter.unusedSimpArgs false
def qR6 (nt:Nat) (l:List Oper):Bool:=l.all fun o=>pA nt o.dst
def sC (P:Program) (num:Nat→Nat) (nt:Nat) (os:Array Oper) (i:Nat) (m:yC):Bool :=
 match os[i]? with
 | some x=>qAz P num os m x&&pA nt x.dst
 | none=>false
def nK (P:Program) (num:Nat→Nat) (nt:Nat) (os:Array Oper):Nat→Array Bool→vZ→Bool
 | _,listed,.done=>(Region.ready .any os listed).isEmpty
 | fuel+1,listed,.take i o k=>xL o.op&&(Region.ready .any os listed).contains i&&Region.free .any os listed i&&sC P num nt os i o&&nK P num nt os fuel (listed.setIfInBounds i true) k
 | fuel+1,listed,.only i deps o k=>Region.ready .any os listed==[i]&&kL .any os i [] deps&&sC P num nt os i o&&nK P num nt os fuel (listed.setIfInBounds i true) k
 | fuel+1,listed,.both i di o k j dj p l=>Region.ready .any os listed==[i,j]&&kL .any os i [] di&&kL .any os j [] dj&&sC P num nt os i o&&sC P num nt os j p &&
   nK P num nt os fuel (listed.setIfInBounds i true) k&&nK P num nt os fuel (listed.setIfInBounds j true) l
 | fuel+1,listed,.tri i di o k j dj p l m dm q r=>Region.ready .any os listed==[i,j,m]&&kL .any os i [] di&&kL .any os j [] dj&&kL .any os m [] dm&&sC P num nt os i o&&sC P num nt os j p&&sC P num nt os m q &&
   nK P num nt os fuel (listed.setIfInBounds i true) k&&nK P num nt os fuel (listed.setIfInBounds j true) l&&nK P num nt os fuel (listed.setIfInBounds m true) r
 | 0,_,_=>false
def mT (P:Program) (num:Nat→Nat) (nt:Nat):bK→Code→Bool
 | .skip,c=>(match c with | .skip=>true | .cond (.const (.bool false)) _ .skip=>true | _=>false)
 | .reg d ops,c=>(match c with | .region _ os d'=>!d&&!d'&&lK P num os ops os.toList&&qR6 nt os.toList | _=>false)
 | .dreg tr,c=>(match c with | .region _ os d'=>d'&&P.follows .mixedOrders&&Region.noSelect os&&nK P num nt os os.size (Array.replicate os.size false) tr | _=>false)
 | .seq a b,c=>(match c with | .seq x y=>mT P num nt a x&&mT P num nt b y | _=>false)
 | .cond t a b,c=>(match c with | .cond (.tmp t') x y=>t'==t&&mT P num nt a x&&mT P num nt b y | _=>false)
 | .blk id a,c=>(match c with | .block id' x=>id'==id&&mT P num nt a x | _=>false)
 | .loop a,c=>(match c with | .loop x=>mT P num nt a x | _=>false)
 | .exit id,c=>(match c with | .exit id'=>id'==id | _=>false)
 | .ret,c=>(match c with | .ret=>true | _=>false)
section
variable {P:Program} {num:Nat→Nat} {fin:AS→Prop} {B:lP} {R:Act→World→Prop}
def sem (P:Program) (num:Nat→Nat) (B:lP) (R:Act→World→Prop):List It→Exit→Act→World→Prop
 | [],e,a,w=>(e=.normal∨e=.ret)∧R a w
 | .code m::k,.normal,a,w =>∀c,mT P num B.nt m c=true→c.wp P (sem P num B R k) a w
 | .ops l::k,.normal,a,w =>∀(ops:Array Oper) (j:Nat),lK P num ops l (ops.toList.drop j)=true→qR6 B.nt ops.toList=true→wpOps P ops (sem P num B R k) (wD0 j (ops.size-j)) a w
 | .blk _::k,.normal,a,w=>sem P num B R k .normal a w
 | .blk id::k,.exit j,a,w=>if j=id then sem P num B R k .normal a w else sem P num B R k (.exit j) a w
 | .stop J::_,.normal,a,w =>∃s,St B s a w∧J s
 | .draw _ _::_,.normal,_,_=>True
 | _::k,e,a,w=>sem P num B R k e a w
theorem kY (id:Nat) (a:Act) (w:World) :∀k,sem P num B R (gU id k) .normal a w→sem P num B R k (.exit id) a w
 | [],h=>by
  simp only [gU,sem] at h
  obtain ⟨_,_,h⟩:=h
  exact h.elim
 | .blk j::k,g=>by
  simp only [gU] at g
  simp only [sem]
  by_cases hj:j=id
  ·rw [if_pos hj] at g
   rw [if_pos hj.symm]
   exact g
  ·rw [if_neg hj] at g
   rw [if_neg (fun he=>hj he.symm)]
   exact kY id a w k g
 | .code _::k,g=>by simp only [gU] at g; simp only [sem]; exact kY id a w k g
 | .ops _::k,g=>by simp only [gU] at g; simp only [sem]; exact kY id a w k g
 | .draw _ _::k,g=>by simp only [gU] at g; simp only [sem]; exact kY id a w k g
 | .stop _::k,g=>by simp only [gU] at g; simp only [sem]; exact kY id a w k g
theorem pS (a:Act) (w:World) (hR:R a w) :∀k,sem P num B R k .ret a w
 | []=>⟨.inr rfl,hR⟩
 | .blk _::k=>by simp only [sem]; exact pS a w hR k
 | .code _::k=>by simp only [sem]; exact pS a w hR k
 | .ops _::k=>by simp only [sem]; exact pS a w hR k
 | .draw _ _::k=>by simp only [sem]; exact pS a w hR k
 | .stop _::k=>by simp only [sem]; exact pS a w hR k
theorem qV5 {dst:Option Nat} {op:MOp} {os:List yC} {k:List It} {t:List (Nat×AV)} {h:wT} {nx:Nat}:vc P num fin (.ops ({dst:=dst,op:=op,guard:=none}::os)::k) (.mk t h nx) =
  (if qFy op then∃s',tM P num op dst (.mk t h nx) s'∧vc P num fin (.ops os::k) s'
   else match wO (wD t) h nx op with
    | some (p,v,fp,nx')=>p∧vc P num fin (.ops os::k) (.mk (bS t dst v) (dR h fp) nx')
    | none=>False):=by
 rw [vc]
 all_goals rfl
theorem qZv {dst:Option Nat} {op:MOp} {os:List yC} {k:List It} {t:List (Nat×AV)} {h:wT} {nx:Nat} {o:Oper} {a:Act} {w:World} {K:Act→World→Prop} {Q:Exit→Act→World→Prop} (hn:B.num=num)
  (hv:vc P num fin (.ops ({dst:=dst,op:=op,guard:=none}::os)::k) (.mk t h nx)) (hc:wW P num op o.op=true) (hd:o.dst=dst) (hdo:pA B.nt o.dst=true) (hs:St B (.mk t h nx) a w)
  (ih :∀s',vc P num fin (.ops os::k) s'→∀a' w',St B s' a' w'→K a' w'):o.wp P a w K Q:=by
 subst hn
 subst hd
 rw [qV5] at hv
 split at hv
 ·obtain ⟨s',h1,h2⟩:=hv
  exact h1 B o a w K Q rfl hc rfl hdo hs (ih s' h2)
 ·split at hv
  ·rename_i hp
   exact qY5 hc hdo hs hp hv.1 (ih _ hv.2)
  ·exact hv.elim
theorem qSo {t:List (Nat×AV)} {h:wT} {nx:Nat} {a:Act} {w:World} {x:Nat} {b:Bool} (hs:St B (.mk t h nx) a w) (hx:wD t x=.bool b):a.tmps.getD x undef=.bool b∧a.tmps[x]?=some (.bool b):=by
 obtain ⟨_,_,_,_,φ,Lf,hl⟩:=hs
 have h1:=hl.tm x
 rw [hx] at h1
 simp only [RV] at h1
 refine ⟨h1.1,?_⟩
 have h2:=h1.1
 rw [Array.getD_eq_getD_getElem?] at h2
 cases hg:a.tmps[x]? with
 | none=>rw [hg] at h2; simp [undef] at h2
 | some v=>rw [hg] at h2; simpa using h2
theorem qXq {t:List (Nat×AV)} {h:wT} {nx:Nat} {a:Act} {w:World} {os:Array Oper} {x j:Nat} {q:Option Bool} (hs:St B (.mk t h nx) a w) (hx:gv (wD t x) q) (hg:(os[j]?).bind (·.dst)=some x):yielded os a.tmps j=q:=by
 rcases hx with ⟨b,hb,rfl⟩ | ⟨hb,rfl⟩
 ·obtain ⟨_,h2⟩:=qSo hs hb
  unfold yielded
  rw [hg]
  simp [h2]
 ·obtain ⟨_,_,_,_,φ,Lf,hl⟩:=hs
  have h1:=hl.tm x
  rw [hb] at h1
  simp only [RV,RVs] at h1
  obtain ⟨vs,h1,h2,_⟩:=h1
  subst h2
  rw [Array.getD_eq_getD_getElem?] at h1
  unfold yielded
  rw [hg]
  simp only [wBu]
  cases hg':a.tmps[x]? with
  | none=>rfl
  | some v =>
   rw [hg'] at h1
   simp only [Option.getD_some] at h1
   rw [h1]
theorem cZ (c:List PanicEntry) (a:Act) (w:World) :∀k,sem P num B R k (.panic c) a w→False
 | [],h=>by simp only [sem] at h; rcases h.1 with h | h<;>cases h
 | .blk _::k,h=>by simp only [sem] at h; exact cZ c a w k h
 | .code _::k,h=>by simp only [sem] at h; exact cZ c a w k h
 | .ops _::k,h=>by simp only [sem] at h; exact cZ c a w k h
 | .draw _ _::k,h=>by simp only [sem] at h; exact cZ c a w k h
 | .stop _::k,h=>by simp only [sem] at h; exact cZ c a w k h
def tL (B:lP) (p:Nat×List Nat) (q:qB5) (φ:Nat→vG) (h:wT) (w:World):Prop :=
 q.i=p.1∧q.S w∧(∀w':World,(∀b,B.Fr b∨B.Bo b→∀o,w'.cell? ⟨b,o,none⟩=w.cell? ⟨b,o,none⟩)→(∀n∈p.2,∀pl,φ n=.at pl→w'.heap[pl.block]?=w.heap[pl.block]?)→q.S w')∧∀n∈p.2,qQ h n≠none
def qEg (B:lP) (pend:List (Nat×List Nat)) (L:List qB5) (φ:Nat→vG) (h:wT) (w:World):Prop :=∀q∈L,∃p,(p∈pend∨p.2=[])∧tL B p q φ h w
theorem pM.place {t:List (Nat×AV)} {h:wT} {nx:Nat} {a:Act} {w:World} {φ:Nat→vG} {Lf:Nat→List Nat} (hl:pM B t h nx a w φ Lf) {n:Nat} (hn:qQ h n≠none):φ n≠.dead∧∀pl,φ n=.at pl→pl.block∈Lf n∧pl.block<w.heap.size:=by
 cases hr:qQ h n with
 | none=>exact absurd hr hn
 | some row =>
  have h1:=hl.ok.rh.row n row hr
  have h1':(match φ n with | .dead=>False | .nilp=>row.2=[]∧Lf n=[] | .at p=>p.sz=row.1∧hY w p row.2.length∧∃Lr,yM (B.env w φ) w p.block p.off p.sz row.2 Lr∧Lf n=p.block::Lr):=h1
  refine ⟨fun hd=>by rw [hd] at h1'; exact h1',fun pl hp=>?_⟩
  rw [hp] at h1'
  obtain ⟨_,_,Lr,_,h2⟩:=h1'
  have h3:pl.block∈Lf n:=by rw [h2]; simp
  exact ⟨h3,(hl.ok.rh.blk n hn _ h3).1⟩
theorem tL.step {p:Nat×List Nat} {q:qB5} {φ φ2:Nat→vG} {h h2:wT} {w w2:World} (hq:tL B p q φ h w) (hcell :∀b,B.Fr b∨B.Bo b→∀o,w2.cell? ⟨b,o,none⟩=w.cell? ⟨b,o,none⟩)
  (hφ :∀n∈p.2,φ2 n=φ n) (hb :∀n∈p.2,∀pl,φ n=.at pl→w2.heap[pl.block]?=w.heap[pl.block]?) (ha :∀n∈p.2,qQ h2 n≠none):tL B p q φ2 h2 w2:=by
 obtain ⟨h1,h3,h4,h5⟩:=hq
 refine ⟨h1,h4 w2 hcell hb,fun w' hc hb'=>h4 w' (fun b hf o=>(hc b hf o).trans (hcell b hf o)) (fun n hn pl hp=>?_),ha⟩
 rw [hb' n hn pl (by rw [hφ n hn]; exact hp),hb n hn pl hp]
theorem qKf {t:List (Nat×AV)} {h:wT} {nx:Nat} {a a2:Act} {w:World} {φ:Nat→vG} {Lf:Nat→List Nat} {t2:List (Nat×AV)} {h2:wT} {nx2:Nat} {w2:World} {φ2:Nat→vG} {Lf2:Nat→List Nat}
  (hl:pM B t h nx a w φ Lf) (hl2:pM B t2 h2 nx2 a2 w2 φ2 Lf2) :∀b,B.Fr b∨B.Bo b→∀o,w2.cell? ⟨b,o,none⟩=w.cell? ⟨b,o,none⟩ :=
 fun b hb o=>(hl2.ok.frozen_cell hb o).trans (hl.ok.frozen_cell hb o).symm
theorem qIl {os:Array Oper} {k:List It} {i:Nat} {x:Oper} {dst:Option Nat} {op:MOp} {fuel:Nat} {pend pend2:List (Nat×List Nat)} {L L2:List qB5} {listed:Array Bool} {a:Act} {w:World} {t:List (Nat×AV)} {h:wT} {nx nx':Nat} {φ:Nat→vG} {Lf:Nat→List Nat}
  {p:Prop} {v:AV} {fp:FP} (hn:B.num=num) (hrd:xL op=true) (hc:wW P num op x.op=true) (hd:x.dst=dst) (hdo:pA B.nt x.dst=true) (hsz:a.tmps.size=B.nt) (hdef:a.defers=[]) (hb:HB h nx) (hbt :∀n,bnd (· < nx) (wD t n))
  (hl:pM B t h nx a w φ Lf) (hp:wO (wD t) h nx op=some (p,v,fp,nx')) (hpp:p) :
  ∃v',(∀w',nL (B.env w φ) fp w'→(execOp a.eval x).run P w'=.ok (.value v') w')∧∃φ2 Lf2,(a.put x.dst v').tmps.size=B.nt∧(a.put x.dst v').defers=[]∧HB (dR h fp) nx'∧(∀n,bnd (· < nx') (wD (bS t dst v) n))∧
   pM B (bS t dst v) (dR h fp) nx' (a.put x.dst v') w φ2 Lf2∧(∀n,qQ h n≠none→qQ (dR h fp) n≠none→φ2 n=φ n):=by
 subst hn
 subst hd
 have pb:=qA7 hc hp hbt hb
 obtain ⟨v',h1,e',Lf',h2,h3,h4⟩:=qTf hrd hc hp hpp (B.env w φ) B.L0 (qQ h) Lf (· < nx) a rfl hl.ok pb.pre hbt (fun nm row hr=>(hb nm row hr).2) (fun y hy hn=>by have:=pb.new y hy hn; omega) hl.tm
 obtain ⟨g1,g2,g3,Lf'',g4⟩:=hl.turn (d:=x.dst) hsz hdo hb hbt pb h3 h4
 have h2':e'.w=w:=h2
 rw [h2'] at g4
 refine ⟨v',h1,e'.φ,Lf'',by rw [oA]; exact hsz,by rw [fK]; exact hdef,g2,g3,g4,fun n hn1 hn2=>?_⟩
 by_cases hF:n∈fp.map (·.1)
 ·rcases h3.φF n hF hn1 with h5 | h5
  ·exact h5
  ·exact absurd h5 (g4.place hn2).1
 ·exact h3.φ n hF
theorem fB {os:Array Oper} {k:List It} {i:Nat} {deps:List Nat} {m:yC} {tr:vZ} {fuel:Nat} {pend:List (Nat×List Nat)} {L:List qB5} {listed:Array Bool} {a:Act} {w:World} {t:List (Nat×AV)} {h:wT} {nx:Nat} {φ:Nat→vG} {Lf:Nat→List Nat}
  (hn:B.num=num) (hv:vc P num fin (.draw (.only i deps m tr) pend::k) (.mk t h nx)) (hsz:a.tmps.size=B.nt) (hdef:a.defers=[]) (hb:HB h nx) (hbt :∀n,bnd (· < nx) (wD t n)) (hl:pM B t h nx a w φ Lf)
  (hpr:qEg B pend L φ h w) (hdeps:kL .any os i [] deps=true) (hat:sC P num B.nt os i m=true)
  (ih :∀(pend:List (Nat×List Nat)) (L:List qB5) (a:Act) (w:World) (t:List (Nat×AV)) (h:wT) (nx:Nat) (φ:Nat→vG) (Lf:Nat→List Nat),vc P num fin (.draw tr pend::k) (.mk t h nx)→a.tmps.size=B.nt→a.defers=[]→HB h nx→(∀n,bnd (· < nx) (wD t n))→
   pM B t h nx a w φ Lf→qEg B pend L φ h w→wpD P .any os (sem P num B R k) fuel L (listed.setIfInBounds i true) a w) :
  wpOp P os (sem P num B R k) i (fun a' w'=>(∀p∈L,aK .any os i p.i=false→p.S w')∧wpD P .any os (sem P num B R k) fuel (L.filter fun p=>!aK .any os i p.i) (listed.setIfInBounds i true) a' w') a w:=by
 unfold sC at hat
 cases hx:os[i]? with
 | none=>rw [hx] at hat; simp at hat
 | some x =>
  rw [hx] at hat
  simp only [wBp] at hat
  obtain ⟨hc1,hdx⟩:=hat
  unfold qAz at hc1
  simp only [wBp,beq_iff_eq] at hc1
  obtain ⟨⟨hd1,hc1⟩,hg⟩:=hc1
  have kept :∀q∈L,aK .any os i q.i=false→∃p,(p∈yK deps pend∨p.2=[])∧tL B p q φ h w:=by
   intro q hq hdq
   obtain ⟨p,hp,hpo⟩:=hpr q hq
   refine ⟨p,?_,hpo⟩
   rcases hp with hp | hp
   case inr=>exact .inr hp
   refine .inl ?_
   unfold yK
   rw [wCy]
   refine ⟨hp,?_⟩
   rw [←hpo.1]
   cases hcn:deps.contains q.i with
   | false=>rfl
   | true =>
    have:=qAu hdeps (fun r hr=>by simp at hr) q.i (by simpa using hcn)
    rw [hdq] at this
    simp at this
  have rel :∀{φ2:Nat→vG} {h2:wT} {w2:World},(∀p,(p∈yK deps pend∨p.2=[])→∀q,tL B p q φ h w→tL B p q φ2 h2 w2)→(∀p∈L,aK .any os i p.i=false→p.S w2)∧qEg B (yK deps pend) (L.filter fun p=>!aK .any os i p.i) φ2 h2 w2:=by
   intro φ2 h2 w2 hst
   refine ⟨fun q hq hdq=>?_,fun q hq=>?_⟩
   ·obtain ⟨p,hp,hpo⟩:=kept q hq hdq
    exact (hst p hp q hpo).2.1
   ·rw [wCy] at hq
    obtain ⟨p,hp,hpo⟩:=kept q hq.1 (by simpa using hq.2)
    exact ⟨p,hp,hst p hp q hpo⟩
  obtain ⟨dst,op,guard⟩:=m
  simp only at hd1 hc1 hg
  have run:vc P num fin (.draw (.only i deps ⟨dst,op,none⟩ tr) pend::k) (.mk t h nx)→x.wp P a w (fun a' w'=>(∀p∈L,aK .any os i p.i=false→p.S w')∧wpD P .any os (sem P num B R k) fuel (L.filter fun p=>!aK .any os i p.i) (listed.setIfInBounds i true) a' w') (sem P num B R k):=by
   intro hv
   rw [vc] at hv
   simp only at hv
   have wr :∀{v:AV} {fp:FP} {nx':Nat} {e3:Env} {Lf3:Nat→List Nat} {v':Value},PB h nx v fp nx'→apart (yK deps pend) fp→vc P num fin (.draw tr (yK deps pend)::k) (.mk (bS t dst v) (dR h fp) nx')→
     dP (B.env w φ) (qQ h) Lf (fun n=>n∈fp.map (·.1)) e3 (upH (qQ h) fp) Lf3→RV e3 v v' []→
     (∀p∈L,aK .any os i p.i=false→p.S e3.w)∧wpD P .any os (sem P num B R k) fuel (L.filter fun p=>!aK .any os i p.i) (listed.setIfInBounds i true) (a.put x.dst v') e3.w:=by
    intro v fp nx' e3 Lf3 v' pb hap hv2 ht hrv
    obtain ⟨g1,g2,g3,Lf'',g4⟩:=hl.turn (d:=x.dst) hsz hdx hb hbt pb ht hrv
    have hnF :∀p,(p∈yK deps pend∨p.2=[])→∀n∈p.2,n∉fp.map (·.1):=fun p hp n hn' hm=>by
     rcases hp with hp | hp
     case inr=>rw [hp] at hn'; simp at hn'
     obtain ⟨y,hy,hyn⟩:=List.mem_map.1 hm
     exact hap p hp n hn' y hy hyn
    obtain ⟨r1,r2⟩:=rel (φ2:=e3.φ) (h2:=dR h fp) (w2:=e3.w) (fun p hp q hq=>hq.step (qKf hl g4) (fun n hn'=>ht.φ n (hnF p hp n hn')) (fun n hn' pl hpl=>by
      obtain ⟨_,h6⟩:=hl.place (hq.2.2.2 n hn')
      obtain ⟨h7,h8⟩:=h6 pl hpl
      exact ht.keep _ h8 (fun m hm hmn hbm=>hl.ok.rh.dis n m (hq.2.2.2 n hn') hmn (fun he=>hnF p hp n hn' (he▸hm)) _ h7 hbm)) (fun n hn'=>by
      rw [lC,kO (hnF p hp n hn')]
      exact hq.2.2.2 n hn'))
    rw [hd1] at g3 g4
    refine ⟨r1,?_⟩
    have:=ih (yK deps pend) _ (a.put dst v') e3.w _ _ _ e3.φ Lf'' hv2 (by rw [oA]; exact hsz) (by rw [fK]; exact hdef) g2 g3 g4 r2
    rw [hd1]
    exact this
   split at hv
   ·obtain ⟨v,fp,nx',hcr,hap,hv2⟩:=hv
    obtain ⟨pb,hcall⟩:=hcr hb hbt
    exact hcall B x a w φ Lf _ _ hn hc1 hl (fun e3 Lf3 v' ht hrv=>wr pb hap hv2 ht hrv)
   ·split at hv
    ·rename_i p v fp nx' hp
     obtain ⟨hpp,hcond,hv2⟩:=hv
     split at hcond
     ·rename_i hrd
      obtain ⟨v',g1,φ2,Lf2,s1,s2,s3,s4,s5,s6⟩:=qIl (k:=k) (os:=os) (i:=i) (fuel:=fuel) (pend:=pend) (pend2:=pend) (L:=L) (L2:=L) (listed:=listed) hn hrd hc1 hd1 hdx hsz hdef hb hbt hl hp hpp
      obtain ⟨r1,r2⟩:=rel (φ2:=φ2) (h2:=dR h fp) (w2:=w) (fun p hp q hq=>by
       have hcond' :∀n∈p.2,qQ (dR h fp) n≠none:=fun n hn'=>by
        rcases hp with hp | hp
        ·exact hcond p hp n hn'
        ·rw [hp] at hn'; simp at hn'
       exact hq.step (fun _ _ _=>rfl) (fun n hn'=>s6 n (hq.2.2.2 n hn') (hcond' n hn')) (fun _ _ _ _=>rfl) hcond')
      exact xM (g1 w (nL.refl _ _)) ⟨r1,ih _ _ _ _ _ _ _ φ2 Lf2 hv2 s1 s2 s3 s4 s5 r2⟩
     ·subst hn
      have pb:=qA7 hc1 hp hbt hb
      have tri:=qN1 hc1 hp hpp (fun nm row hr=>by have:=(hb nm row hr).1; omega)
      exact tri (B.env w φ) B.L0 (qQ h) Lf (· < nx) a _ _ rfl hl.ok pb.pre hbt (fun nm row hr=>(hb nm row hr).2) (fun y hy hn=>by have:=pb.new y hy hn; omega) hl.tm (fun e3 Lf3 v' ht hrv=>wr pb hcond hv2 ht hrv)
    ·exact hv.elim
  unfold wpOp
  rw [hx]
  dsimp only
  cases guard with
  | none =>
   cases hxg:x.guard with
   | some y=>rw [hxg] at hg; simp at hg
   | none =>
    have hw:Region.wanted x (yielded os a.tmps)=true:=by simp [Region.wanted,hxg]
    simp only [hw,if_true]
    exact .inl (run hv)
  | some y =>
   obtain ⟨g,want⟩:=y
   cases hxg:x.guard with
   | none=>rw [hxg] at hg; simp at hg
   | some z =>
    obtain ⟨jj,want'⟩:=z
    rw [hxg] at hg
    simp only [wBp,beq_iff_eq] at hg
    obtain ⟨hg1,hg2⟩:=hg
    subst hg1
    rw [vc] at hv
    simp only at hv
    obtain ⟨b,hbv,k1,k2⟩:=hv
    have hy:yielded os a.tmps jj=b:=qXq (B:=B) (h:=h) (nx:=nx) ⟨hsz,hdef,hb,hbt,φ,Lf,hl⟩ hbv hg2
    have hw:Region.wanted x (yielded os a.tmps)=(b==some want'):=by simp [Region.wanted,hxg,hy]
    rw [hw]
    by_cases hbw:b=some want'
    ·subst hbw
     simp only [beq_self_eq_true,if_true]
     exact .inl (run (k1 rfl))
    ·have:(b==some want')=false:=by simpa using hbw
     simp only [this,wBl,if_false]
     have k3:=k2 hbw
     obtain ⟨r1,r2⟩:=rel (φ2:=φ) (h2:=h) (w2:=w) (fun p hp q hq=>hq)
     rw [hd1] at hdx⊢
     obtain ⟨s1,s2,s3,s4,φ',Lf',s5⟩:=St.skip (B:=B) hdx ⟨hsz,hdef,hb,hbt,φ,Lf,hl⟩
     have s5':pM B (bS t dst (.tup [])) h nx (a.put dst undef) w φ Lf:=by
      refine ⟨hl.ok,?_,hl.φ0,hl.ten⟩
      intro n
      rw [eE,qA6 hsz hdx]
      split
      ·simp [RV,RVs,undef]
      ·exact hl.tm n
     exact ⟨r1,ih _ _ _ _ _ _ _ φ Lf k3 s1 s2 s3 s4 s5' r2⟩
theorem qQg {os:Array Oper} {k:List It} (hn:B.num=num) (hsel:Region.noSelect os=true) (IHk :∀s,vc P num fin k s→∀a w,St B s a w→sem P num B R k .normal a w) :
  ∀(tr:vZ) (fuel:Nat) (listed:Array Bool) (pend:List (Nat×List Nat)) (L:List qB5) (a:Act) (w:World) (t:List (Nat×AV)) (h:wT) (nx:Nat) (φ:Nat→vG) (Lf:Nat→List Nat),nK P num B.nt os fuel listed tr=true→iR .any os listed→
   vc P num fin (.draw tr pend::k) (.mk t h nx)→a.tmps.size=B.nt→a.defers=[]→HB h nx→(∀n,bnd (· < nx) (wD t n))→
   pM B t h nx a w φ Lf→qEg B pend L φ h w→wpD P .any os (sem P num B R k) fuel L listed a w:=by
 intro tr
 induction tr with
 | done =>
  intro fuel listed pend L a w t h nx φ Lf hc hsh hv hsz hdef hb hbt hl hpr
  have hc':(Region.ready .any os listed).isEmpty=true:=by cases fuel<;>simpa [nK] using hc
  rw [vc] at hv
  exact qV0 (by simpa using hc') (IHk _ hv a w ⟨hsz,hdef,hb,hbt,φ,Lf,hl⟩) fuel
 | only i deps m tr ih =>
  intro fuel listed pend L a w t h nx φ Lf hc hsh hv hsz hdef hb hbt hl hpr
  cases fuel with
  | zero=>simp [nK] at hc
  | succ fuel =>
   simp only [nK,wBp,beq_iff_eq] at hc
   obtain ⟨⟨⟨h1,h2⟩,h3⟩,h4⟩:=hc
   refine qK9 h1 (by simp) (fun j hj=>?_)
   simp only [wC6] at hj
   subst hj
   exact fB hn hv hsz hdef hb hbt hl hpr h2 h3 (fun pend L a w t h nx φ Lf hv=>ih fuel _ pend L a w t h nx φ Lf h4 (hsh.up (by rw [h1]; simp)) hv)
 | both i di m tr j dj m' tr' ih ih' =>
  intro fuel listed pend L a w t h nx φ Lf hc hsh hv hsz hdef hb hbt hl hpr
  cases fuel with
  | zero=>simp [nK] at hc
  | succ fuel =>
   simp only [nK,wBp,beq_iff_eq] at hc
   obtain ⟨⟨⟨⟨⟨⟨h1,h2⟩,h3⟩,h4⟩,h5⟩,h6⟩,h7⟩:=hc
   rw [vc] at hv
   refine qK9 h1 (by simp) (fun l hj=>?_)
   simp only [wBn,wCw,or_false] at hj
   rcases hj with hj | hj
   ·subst hj
    exact fB hn hv.1 hsz hdef hb hbt hl hpr h2 h4 (fun pend L a w t h nx φ Lf hv=>ih fuel _ pend L a w t h nx φ Lf h6 (hsh.up (by rw [h1]; simp)) hv)
   ·subst hj
    exact fB hn hv.2 hsz hdef hb hbt hl hpr h3 h5 (fun pend L a w t h nx φ Lf hv=>ih' fuel _ pend L a w t h nx φ Lf h7 (hsh.up (by rw [h1]; simp)) hv)
 | tri i di m tr j dj m' tr' j2 dj2 m2 tr2 ih ih' ih2 =>
  intro fuel listed pend L a w t h nx φ Lf hc hsh hv hsz hdef hb hbt hl hpr
  cases fuel with
  | zero=>simp [nK] at hc
  | succ fuel =>
   simp only [nK,wBp,beq_iff_eq] at hc
   obtain ⟨⟨⟨⟨⟨⟨⟨⟨⟨h1,h2⟩,h3⟩,h4⟩,h5⟩,h6⟩,h7⟩,h8⟩,h9⟩,h10⟩:=hc
   rw [vc] at hv
   refine qK9 h1 (by simp) (fun l hj=>?_)
   simp only [wBn,wCw,or_false] at hj
   rcases hj with hj | hj | hj
   ·subst hj
    exact fB hn hv.1 hsz hdef hb hbt hl hpr h2 h5 (fun pend L a w t h nx φ Lf hv=>ih fuel _ pend L a w t h nx φ Lf h8 (hsh.up (by rw [h1]; simp)) hv)
   ·subst hj
    exact fB hn hv.2.1 hsz hdef hb hbt hl hpr h3 h6 (fun pend L a w t h nx φ Lf hv=>ih' fuel _ pend L a w t h nx φ Lf h9 (hsh.up (by rw [h1]; simp)) hv)
   ·subst hj
    exact fB hn hv.2.2 hsz hdef hb hbt hl hpr h4 h7 (fun pend L a w t h nx φ Lf hv=>ih2 fuel _ pend L a w t h nx φ Lf h10 (hsh.up (by rw [h1]; simp)) hv)
 | take i m tr ih =>
  intro fuel listed pend L a w t h nx φ Lf hc hsh hv hsz hdef hb hbt hl hpr
  cases fuel with
  | zero=>simp [nK] at hc
  | succ fuel =>
   simp only [nK,wBp] at hc
   obtain ⟨⟨⟨⟨hrd,hready⟩,hfree⟩,hat⟩,hck⟩:=hc
   unfold sC at hat
   cases hx:os[i]? with
   | none=>rw [hx] at hat; simp at hat
   | some x =>
    rw [hx] at hat
    simp only [wBp] at hat
    obtain ⟨hc1,hdx⟩:=hat
    unfold qAz at hc1
    simp only [wBp,beq_iff_eq] at hc1
    obtain ⟨⟨hd1,hc1⟩,hg⟩:=hc1
    obtain ⟨dst,op,guard⟩:=m
    simp only at hd1 hc1 hg hrd
    have hQ :∀v:Value,∀c a w,sem P num B R k (.panic c) (a.put x.dst v) w→sem P num B R k (.panic c) a w:=fun v c a w hp=>(cZ c _ w k hp).elim
    have hr':i∈Region.ready .any os listed:=by simpa using hready
    have run:Region.wanted x (yielded os a.tmps)=true→vc P num fin (.draw (.take i ⟨dst,op,none⟩ tr) pend::k) (.mk t h nx)→wpD P .any os (sem P num B R k) (fuel+1) L listed a w:=by
     intro hwt hv
     rw [vc] at hv
     simp only at hv
     split at hv
     ·rename_i p v fp nx' hp
      obtain ⟨hpp,hal,hv2⟩:=hv
      obtain ⟨v',g1,φ2,Lf2,s1,s2,s3,s4,s5,s6⟩:=qIl (k:=k) (os:=os) (i:=i) (fuel:=fuel) (pend:=pend) (pend2:=pend) (L:=L) (L2:=L) (listed:=listed) hn hrd hc1 hd1 hdx hsz hdef hb hbt hl hp hpp
      refine qM6 (S:=nL (B.env w φ) fp) (v:=v') hx (Region.noSelect_spec hsel) (hQ v') fuel L listed a w (Region.free_spec hx hfree) hsh hr' (.inl ⟨hwt,g1⟩) (nL.refl _ _) (fun q hq=>?_) ?_
      ·obtain ⟨p,_,hpo⟩:=hpr q hq
       exact hpo.2.1
      ·have hal' :∀n∈cN fp,qQ (dR h fp) n≠none:=fun n hn'=>by
        cases hns:cN fp with
        | nil=>rw [hns] at hn'; simp at hn'
        | cons n0 ns =>
         rw [hns] at hal hn'
         exact hal (i,n0::ns) (by simp [qGy]) n hn'
       have hadd :∀p∈pend,p∈qGy i (cN fp) pend:=fun p hp=>by
        unfold qGy
        split
        ·exact hp
        ·exact wCk _ hp
       refine ih fuel _ (qGy i (cN fp) pend) _ _ w _ _ _ φ2 Lf2 hck (hsh.up hr') hv2 s1 s2 s3 s4 s5 ?_
       intro q hq
       rcases List.mem_cons.1 hq with rfl | hq
       ·refine ⟨(i,cN fp),?_,rfl,nL.refl _ _,?_,fun n hn'=>hal' n hn'⟩
        ·cases hns:cN fp with
         | nil=>exact .inr rfl
         | cons n0 ns=>exact .inl (by simp [qGy])
        intro w' hc' hb'
        refine ⟨hc',fun y hy pl hpl=>?_⟩
        have hyn:qQ h y.1≠none:=by
         intro hno
         have:φ y.1=.dead:=hl.ok.rh.dead y.1 hno
         have hpl':φ y.1=.at pl:=hpl
         rw [this] at hpl'
         simp at hpl'
        have hmem:y.1∈cN fp:=by
         unfold cN
         refine List.mem_map.2 ⟨y,List.mem_filter.2 ⟨hy,?_⟩,rfl⟩
         rw [←(qA7 hc1 hp hbt hb).pre y hy]
         cases hh:qQ h y.1 with
         | none=>exact absurd hh hyn
         | some r=>rfl
        refine hb' y.1 hmem pl ?_
        rw [s6 y.1 hyn (hal' y.1 hmem)]
        exact hpl
       ·obtain ⟨p,hp',hpo⟩:=hpr q hq
        have halp :∀n∈p.2,qQ (dR h fp) n≠none:=fun n hn'=>by
         rcases hp' with hp' | hp'
         ·exact hal p (hadd p hp') n hn'
         ·rw [hp'] at hn'; simp at hn'
        exact ⟨p,hp'.imp (hadd p) id,hpo.step (fun _ _ _=>rfl) (fun n hn'=>s6 n (hpo.2.2.2 n hn') (halp n hn')) (fun _ _ _ _=>rfl) halp⟩
     ·exact hv.elim
    cases guard with
    | none =>
     cases hxg:x.guard with
     | some y=>rw [hxg] at hg; simp at hg
     | none=>exact run (by simp [Region.wanted,hxg]) hv
    | some y =>
     obtain ⟨g,want⟩:=y
     cases hxg:x.guard with
     | none=>rw [hxg] at hg; simp at hg
     | some z =>
      obtain ⟨jj,want'⟩:=z
      rw [hxg] at hg
      simp only [wBp,beq_iff_eq] at hg
      obtain ⟨hg1,hg2⟩:=hg
      subst hg1
      rw [vc] at hv
      simp only at hv
      obtain ⟨b,hbv,k1,k2⟩:=hv
      have hy:yielded os a.tmps jj=b:=qXq (B:=B) (h:=h) (nx:=nx) ⟨hsz,hdef,hb,hbt,φ,Lf,hl⟩ hbv hg2
      have hw:Region.wanted x (yielded os a.tmps)=(b==some want'):=by simp [Region.wanted,hxg,hy]
      by_cases hbw:b=some want'
      ·subst hbw
       exact run (by rw [hw]; simp) (k1 rfl)
      ·have hw':Region.wanted x (yielded os a.tmps)=false:=by rw [hw]; simpa using hbw
       have k3:=k2 hbw
       have hdx':=hdx
       rw [hd1] at hdx'
       obtain ⟨s1,s2,s3,s4,_⟩:=St.skip (B:=B) hdx' ⟨hsz,hdef,hb,hbt,φ,Lf,hl⟩
       have s5':pM B (bS t dst (.tup [])) h nx (a.put dst undef) w φ Lf:=by
        refine ⟨hl.ok,?_,hl.φ0,hl.ten⟩
        intro n
        rw [eE,qA6 hsz hdx']
        split
        ·simp [RV,RVs,undef]
        ·exact hl.tm n
       refine qM6 (S:=fun _=>True) (v:=undef) hx (Region.noSelect_spec hsel) (hQ undef) fuel L listed a w (Region.free_spec hx hfree) hsh hr' (.inr ⟨hw',rfl⟩) trivial (fun q hq=>?_) ?_
       ·obtain ⟨p,_,hpo⟩:=hpr q hq
        exact hpo.2.1
       ·rw [hd1]
        exact qM5 i _ _ _ _ _ (ih fuel _ pend L _ w _ _ _ φ Lf hck (hsh.up hr') k3 s1 s2 s3 s4 s5' hpr)
theorem qS1 (p:Nat→Prop):(∃n,p n)→∃n,p n∧∀m,p m→n≤m:=by
 rintro ⟨n,hn⟩
 induction n using Nat.strongRecOn with
 | _ n ih =>
 by_cases h :∃m,m<n∧p m
 ·obtain ⟨m,hm,hp⟩:=h
  exact ih m hm hp
 ·exact ⟨n,hn,fun m hm=>Nat.le_of_not_lt fun hl=>h ⟨m,hl,hm⟩⟩
open Classical in
noncomputable def least (p:Nat→Prop):Nat:=if h :∃n,p n then Classical.choose (qS1 p h) else 0
theorem qFu {p:Nat→Prop} (h :∃n,p n):p (least p)∧∀m,p m→least p≤m:=by
 unfold least
 rw [dif_pos h]
 exact Classical.choose_spec (qS1 p h)
theorem qV4 (hn:B.num=num) (hfin :∀s a w,fin s→St B s a w→R a w) :∀(n:Nat) (todo:List It),szs todo≤n→∀s,vc P num fin todo s→∀a w,St B s a w→sem P num B R todo .normal a w:=by
 intro n
 induction n using Nat.strongRecOn with
 | _ n ih =>
 intro todo hle s hv a w hs
 match todo,s with
 | [],s =>
  rw [vc] at hv
  exact ⟨.inl rfl,hfin s a w hv hs⟩
 | .stop J::k,s =>
  rw [vc] at hv
  exact ⟨s,hs,hv⟩
 | .blk id::k,s =>
  rw [vc] at hv
  simp only [szs,It.sz] at hle
  simp only [sem]
  exact ih (szs k) (by omega) k (wBo _) s hv a w hs
 | .ops []::k,s =>
  rw [vc] at hv
  simp only [szs,It.sz,osz] at hle
  simp only [sem]
  intro ops j hc hd
  have hnil:ops.toList.drop j=[]:=by
   cases hl:ops.toList.drop j with
   | nil=>rfl
   | cons x xs=>rw [hl] at hc; simp [lK] at hc
  have hz:ops.size-j=0:=by
   have:=congrArg List.length hnil
   simpa using this
  rw [hz]
  show sem P num B R k .normal a w
  exact ih (szs k) (by omega) k (wBo _) s hv a w hs
 | .ops (m::os)::k,.bad=>exact hs.elim
 | .ops (m::os)::k,.mk t h nx =>
  simp only [szs,It.sz,osz] at hle
  have hos:szs (.ops os::k)<n:=by
   simp only [szs,It.sz]
   cases hg:m.guard<;>simp only [hg] at hle<;>omega
  simp only [sem]
  intro ops j hc hd
  cases hl:ops.toList.drop j with
  | nil=>rw [hl] at hc; simp [lK] at hc
  | cons x xs =>
   rw [hl] at hc
   simp only [lK,wBp] at hc
   obtain ⟨hc1,hc2⟩:=hc
   have hlen:j<ops.size:=by
    have:=congrArg List.length hl
    simp at this
    omega
   have hx:ops[j]?=some x:=by
    have:=congrArg (·[0]?) hl
    simpa using this
   have hxs:ops.toList.drop (j+1)=xs:=by
    have:=congrArg List.tail hl
    simpa using this
   have hr:wD0 j (ops.size-j)=j::wD0 (j+1) (ops.size-(j+1)):=by
    rw [show ops.size-j=(ops.size-(j+1))+1 by omega]
    rfl
   rw [hr,wpOps_cons]
   unfold wpOp
   rw [hx]
   dsimp only
   have hdx:pA B.nt x.dst=true:=by
    unfold qR6 at hd
    rw [List.all_eq_true] at hd
    exact hd x (wCg (i:=j) (by rw [hl]; simp))
   unfold qAz at hc1
   simp only [wBp,beq_iff_eq] at hc1
   obtain ⟨⟨hd1,hc1⟩,hg⟩:=hc1
   have next :∀s',vc P num fin (.ops os::k) s'→∀a' w',St B s' a' w'→wpOps P ops (sem P num B R k) (wD0 (j+1) (ops.size-(j+1))) a' w':=by
    intro s' hv' a' w' hs'
    have:=ih (szs (.ops os::k)) hos (.ops os::k) (wBo _) s' hv' a' w' hs'
    simp only [sem] at this
    exact this ops (j+1) (by rw [hxs]; exact hc2) hd
   obtain ⟨dst,op,guard⟩:=m
   simp only at hd1 hc1 hg hv
   cases guard with
   | none =>
    cases hxg:x.guard with
    | some y=>rw [hxg] at hg; simp at hg
    | none =>
     have hw:Region.wanted x (yielded ops a.tmps)=true:=by simp [Region.wanted,hxg]
     simp only [hw,if_true]
     exact .inl (qZv hn hv hc1 hd1 hdx hs next)
   | some y =>
    obtain ⟨g,want⟩:=y
    cases hxg:x.guard with
    | none=>rw [hxg] at hg; simp at hg
    | some z =>
     obtain ⟨jj,want'⟩:=z
     rw [hxg] at hg
     simp only [wBp,beq_iff_eq] at hg
     obtain ⟨hg1,hg2⟩:=hg
     subst hg1
     rw [vc] at hv
     simp only at hv
     obtain ⟨b,hb,k1,k2⟩:=hv
     have hy:yielded ops a.tmps jj=b:=qXq hs hb hg2
     have hw:Region.wanted x (yielded ops a.tmps)=(b==some want'):=by
      simp [Region.wanted,hxg,hy]
     rw [hw]
     by_cases hbw:b=some want'
     ·subst hbw
      simp only [beq_self_eq_true,if_true]
      exact .inl (qZv hn (k1 rfl) hc1 hd1 hdx hs next)
     ·have:(b==some want')=false:=by simpa using hbw
      simp only [this,wBl,if_false]
      have k3:=k2 hbw
      rw [hd1] at hdx⊢
      exact next _ k3 _ _ (St.skip hdx hs)
 | .draw tr pend::k,s=>simp only [sem]
 | .code (.dreg tr)::k,.bad=>exact hs.elim
 | .code (.dreg tr)::k,.mk t h nx =>
  rw [vc] at hv
  simp only [szs,It.sz,bK.sz] at hle
  simp only [sem]
  intro c hc
  cases c<;>simp [mT] at hc
  rename_i id os d'
  obtain ⟨⟨⟨h1,h2⟩,h3⟩,h4⟩:=hc
  subst h1
  refine wp_region_any h2 (qR9 _ [] _ _ _ ?_)
  have hs':=St.world (w:=w) (w':={w with drawn:=w.drawn+1}) ⟨rfl,rfl,rfl⟩ rfl hs
  obtain ⟨g1,g2,g3,g4,φ,Lf,g5⟩:=hs'
  exact qQg hn h3 (fun s hv a w hs=>ih (szs k) (by omega) k (wBo _) s hv a w hs) tr _ _ [] [] a _ t h nx φ Lf h4 iR.none hv g1 g2 g3 g4 g5 (fun q hq=>by simp at hq)
 | .code .skip::k,s =>
  rw [vc] at hv
  simp only [szs,It.sz,bK.sz] at hle
  simp only [sem]
  intro c hc
  have hk:=ih (szs k) (by omega) k (wBo _) s hv a w hs
  simp only [mT] at hc
  split at hc
  ·exact wp_skip hk
  ·exact wp_cond_split (t:=false) rfl (fun h=>by simp at h) (fun _=>wp_skip hk)
  ·simp at hc
 | .code .ret::k,s =>
  rw [vc] at hv
  simp only [sem]
  intro c hc
  cases c<;>simp [mT] at hc
  exact wp_ret (pS a w (hfin s a w hv hs) k)
 | .code (.exit id)::k,s =>
  rw [vc] at hv
  simp only [szs,It.sz,bK.sz] at hle
  simp only [sem]
  intro c hc
  cases c<;>simp [mT] at hc
  rw [hc]
  have:=eH id k
  have h1:=ih (szs (gU id k)) (by omega) (gU id k) (wBo _) s hv a w hs
  exact wp_exit (kY id a w k h1)
 | .code (.seq x y)::k,s =>
  rw [vc] at hv
  simp only [szs,It.sz,bK.sz] at hle
  simp only [sem]
  intro c hc
  cases c<;>simp [mT] at hc
  rename_i c1 c2
  have h1:=ih (szs (.code x::.code y::k)) (by simp only [szs,It.sz]; omega) (.code x::.code y::k) (wBo _) s hv a w hs
  simp only [sem] at h1
  refine wp_seq (wp_mono (h1 c1 hc.1) ?_)
  intro e a' w' he
  cases e with
  | normal=>simp only [sem] at he; exact he c2 hc.2
  | _=>simp only [sem] at he; exact he
 | .code (.blk id x)::k,s =>
  rw [vc] at hv
  simp only [szs,It.sz,bK.sz] at hle
  simp only [sem]
  intro c hc
  cases c<;>simp [mT] at hc
  rename_i id' c1
  obtain ⟨rfl,hc⟩:=hc
  have h1:=ih (szs (.code x::.blk id'::k)) (by simp only [szs,It.sz]; omega) (.code x::.blk id'::k) (wBo _) s hv a w hs
  simp only [sem] at h1
  refine wp_block (wp_mono (h1 c1 hc) ?_)
  intro e a' w' he
  cases e with
  | normal=>simp only [sem] at he; exact he
  | exit j=>simp only [sem] at he; exact he
  | _=>simp only [sem] at he; exact he
 | .code (.reg d ops)::k,s =>
  rw [vc] at hv
  simp only [szs,It.sz,bK.sz] at hle
  simp only [sem]
  intro c hc
  cases c<;>simp [mT] at hc
  rename_i id os d'
  obtain ⟨⟨⟨h1,h2⟩,h3⟩,h4⟩:=hc
  subst h2
  have h5:=ih (szs (.ops ops::k)) (by simp only [szs,It.sz]; omega) (.ops ops::k) (wBo _) s hv a w hs
  simp only [sem] at h5
  have:=h5 os 0 (by simpa using h3) h4
  refine wp_region ?_
  rw [List.range_eq_range']
  simpa using this
 | .code (.cond x y z)::k,.bad=>exact hs.elim
 | .code (.cond x y z)::k,.mk t h nx =>
  rw [vc] at hv
  simp only [szs,It.sz,bK.sz] at hle
  simp only [sem]
  intro c hc
  cases c<;>simp [mT] at hc
  rename_i c0 c1 c2
  cases c0<;>simp at hc
  obtain ⟨⟨rfl,hc1⟩,hc2⟩:=hc
  obtain ⟨q,hq,h1,h2⟩:=hv
  refine wp_cond_split (t:=q) (qSo hs hq).1 (fun hq=>?_) (fun hq=>?_)
  ·have h3:=ih (szs (.code y::k)) (by simp only [szs,It.sz]; omega) (.code y::k) (wBo _) _ (h1 hq) a w hs
   simp only [sem] at h3
   exact h3 c1 hc1
  ·have h3:=ih (szs (.code z::k)) (by simp only [szs,It.sz]; omega) (.code z::k) (wBo _) _ (h2 hq) a w hs
   simp only [sem] at h3
   exact h3 c2 hc2
 | .code (.loop x)::k,s =>
  rw [vc] at hv
  simp only [szs,It.sz,bK.sz] at hle
  simp only [sem]
  intro c hc
  cases c<;>simp [mT] at hc
  rename_i c1
  obtain ⟨J,m0,⟨s1,hsub,hJ⟩,hround⟩:=hv
  let I:Act→World→Nat→Prop:=fun a w m =>∃s,J m s∧St B s a w
  refine wp_loop (fun a w =>∃m,I a w m) (fun a w=>least (I a w)) ⟨m0,s1,hJ,hsub B a w hs⟩ ?_
  intro a1 w1 hI
  obtain ⟨s2,hJ2,hs2⟩:=(qFu hI).1
  have h3:=ih (szs (.code x::.stop (fun s' =>∃s1,Sub s' s1∧∃m,m<least (I a1 w1)∧J m s1)::k)) (by simp only [szs,It.sz]; omega) _ (wBo _) s2 (hround (least (I a1 w1)) s2 hJ2) a1 w1 hs2
  simp only [sem] at h3
  refine wp_mono (h3 c1 hc) ?_
  intro e a2 w2 he
  cases e with
  | normal =>
   simp only [sem] at he
   obtain ⟨s3,hs3,s4,hsub4,m,hm,hJ4⟩:=he
   have hI2:I a2 w2 m:=⟨s4,hJ4,hsub4 B a2 w2 hs3⟩
   exact ⟨⟨m,hI2⟩,Nat.lt_of_le_of_lt ((qFu ⟨m,hI2⟩).2 m hI2) hm⟩
  | _=>simp only [sem] at he; exact he
end
end Go.Sep

