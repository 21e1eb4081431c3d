/- Contracts of functions. -/
import Derived.Test.YtebbppogicgpkaaOxx21
namespace Go.Sep
set_option maxHeartbeats 16000000
open Go.Proofs
set_option linter.unusedSimpArgs false
set_option linter.unusedVariables false
set_option maxRecDepth 100000
open Nat renaming reduceAdd → qA, reduceMul → qB, reduceEqDiff → qC, reduceBEq → qD
open Int renaming reduceToNat → qE, reduceEq → qF, reduceLT → qG, reduceLE → qH
open List renaming getD_eq_getElem?_getD → gD
mutual
theorem qTm {e e':Env} {A:Nat→Prop} {f:Nat→Nat} (k :∀L,gS e e' (fun _=>False) L) (hφ :∀n,A n→e'.φ n=e.φ (f n)) :∀(v:AV) {c:Value} {L:List Nat},okB A v→RV e (jA f v) c L→RV e' v c L
 | .ptr nm i o,c,L,ha,h=>by
  simp only [okB,jA,RV] at ha h⊢
  rw [hφ nm ha]
  exact h
 | .ns nm o l,c,L,ha,h=>by
  simp only [okB,jA,RV] at ha h⊢
  rw [hφ nm ha]
  exact h
 | .agg cs,c,L,ha,h=>by
  simp only [okB,jA,RV] at ha h⊢
  obtain ⟨vs,h1,h2⟩:=h
  exact ⟨vs,h1,tI k hφ cs ha h2⟩
 | .tup cs,c,L,ha,h=>by
  simp only [okB,jA,RV] at ha h⊢
  obtain ⟨vs,h1,h2⟩:=h
  exact ⟨vs,h1,tI k hφ cs ha h2⟩
 | .any,c,L,ha,h | .int _ _,c,L,ha,h | .bool _,c,L,ha,h | .str _,c,L,ha,h | .fn _ _,c,L,ha,h | .nilp,c,L,ha,h | .fptr _ _ _,c,L,ha,h | .nil,c,L,ha,h | .nilI,c,L,ha,h | .ifc,c,L,ha,h | .sl _ _ _,c,L,ha,h=>by
  simp only [okB] at ha
  simp only [jA] at h
  exact fZ _ (k L) ha h
theorem tI {e e':Env} {A:Nat→Prop} {f:Nat→Nat} (k :∀L,gS e e' (fun _=>False) L) (hφ :∀n,A n→e'.φ n=e.φ (f n)) :∀(l:List AV) {cs:List Value} {L:List Nat},oB A l→RVs e (zF f l) cs L→RVs e' l cs L
 | [],cs,L,_,h=>by simpa only [RVs,zF] using h
 | v::l,cs,L,ha,h=>by
  simp only [oB,zF,RVs] at ha h⊢
  obtain ⟨c,cs',L1,L2,h1,h2,h3,h4⟩:=h
  exact ⟨c,cs',L1,L2,h1,qTm k hφ v ha.1 h2,tI k hφ l ha.2 h3,h4⟩
end
def qG8 (A:Nat→Prop):List (List AV)→Prop
 | []=>True
 | r::rs=>oB A r∧qG8 A rs
theorem qKq {A B:Nat→Prop} (h :∀n,A n→B n) :∀(l:List (List AV)),qG8 A l→yV B l
 | [],_=>trivial
 | r::l,ha=>⟨tJ h r ha.1,qKq h l ha.2⟩
theorem qI9 {e e':Env} {A:Nat→Prop} {f:Nat→Nat} (k :∀L,gS e e' (fun _=>False) L) (hφ :∀n,A n→e'.φ n=e.φ (f n)) :∀(rs:List (List AV)) {W:World} {b o sz:Nat} {L:List Nat},qG8 A rs→yL e W b o sz (dV f rs) L→yL e' W b o sz rs L
 | [],_,_,_,_,_,_,h=>by simpa only [yL,dV] using h
 | r::rs,W,b,o,sz,L,hb,h=>by
  simp only [yL,dV] at h⊢
  obtain ⟨vs,L1,L2,h1,h2,h3,h4,h5,h6⟩:=h
  rw [iX,pD] at h1
  exact ⟨vs,L1,L2,h1,h2,h3,tI k hφ r hb.1 h4,qI9 k hφ rs hb.2 h5,h6⟩
theorem Sub.link (f:Nat→Nat) {t t':List (Nat×AV)} {h h':wQ} {nx nx':Nat} (hn:10≤nx')
  (hh :∀x∈h',((yV (fun _=>False) x.2.2∧qO h (f x.1)=some x.2)∨(qG8 (fun n=>qO h' n≠none) x.2.2∧qO h (f x.1)=some (x.2.1,dV f x.2.2)))∧x.1<nx'∧(x.1<10→f x.1=x.1))
  (hi:(h'.map (fun x=>f x.1)).Nodup)
  (ht :∀x∈t',x.2=.any∨(wA t x.1=jA f x.2∧okB (fun n=>qO h' n≠none) x.2)):Sub (.mk t h nx) (.mk t' h' nx'):=by
 rintro B a w ⟨h1,h2,hb,hbt,φ,Lf,hl⟩
 have mem :∀n r,qO h' n=some r→(n,r)∈h':=fun n r hr=>qL2 hr
 have inj :∀n m,qO h' n≠none→qO h' m≠none→f n=f m→n=m:=by
  intro n m hn' hm' he
  cases hln:qO h' n with
  | none=>exact absurd hln hn'
  | some r =>
   cases hlm:qO h' m with
   | none=>exact absurd hlm hm'
   | some q =>
    have a1:=mem n r hln
    have a2:=mem m q hlm
    have key :∀(l:wQ),(l.map (fun x=>f x.1)).Nodup→(n,r)∈l→(m,q)∈l→n=m:=by
     intro l
     induction l with
     | nil=>intro _ h; simp at h
     | cons y l ih =>
      intro hnd p1 p2
      simp only [List.map_cons,List.nodup_cons] at hnd
      rcases List.mem_cons.1 p1 with h3 | p3<;>rcases List.mem_cons.1 p2 with h4 | p4
      ·exact (congrArg Prod.fst h3).trans (congrArg Prod.fst h4).symm
      ·refine absurd (List.mem_map.2 ⟨(m,q),p4,?_⟩) hnd.1
       rw [←h3]; exact he.symm
      ·refine absurd (List.mem_map.2 ⟨(n,r),p3,?_⟩) hnd.1
       rw [←h4]; exact he
      ·exact ih hnd.2 p3 p4
    exact key h' hi a1 a2
 classical
 let φ':Nat→vS:=fun n=>if qO h' n=none then .dead else φ (f n)
 let Lf':Nat→List Nat:=fun n=>Lf (f n)
 have φd :∀n,qO h' n=none→φ' n=.dead:=fun n hn'=>by show (if qO h' n=none then vS.dead else _)=_; rw [if_pos hn']
 have φo :∀n,qO h' n≠none→φ' n=φ (f n):=fun n hn'=>by show (if qO h' n=none then vS.dead else φ (f n))=_; rw [if_neg hn']
 have old :∀n row,qO h' n=some row→∃r0,qO h (f n)=some (row.1,r0)∧r0.length=row.2.length:=by
  intro n row hr
  rcases (hh _ (mem n row hr)).1 with ⟨_,h3⟩ | ⟨_,h3⟩
  ·exact ⟨row.2,h3,rfl⟩
  ·exact ⟨_,h3,fD f row.2⟩
 have oldn :∀n,qO h' n≠none→qO h (f n)≠none:=by
  intro n hn'
  cases hr:qO h' n with
  | none=>exact absurd hr hn'
  | some row =>
   obtain ⟨r0,h3,_⟩:=old n row hr
   simp [h3]
 have ltn :∀n,qO h' n≠none→n<nx':=by
  intro n hn'
  cases hr:qO h' n with
  | none=>exact absurd hr hn'
  | some row=>exact (hh _ (mem n row hr)).2.1
 have hk :∀L:List Nat,gS (B.env w φ) (B.env w φ') (fun _=>False) L:=fun L=>{num:=rfl,fr:=fun m b hb'=>by cases m<;>exact hb',cells:=fun b _ o=>rfl,φ:=fun n hn'=>hn'.elim,own:=fun b _=>rfl}
 refine ⟨h1,h2,?_,?_,φ',Lf',?_,?_,?_,hn⟩
 ·intro n row hr
  have:=hh _ (mem n row hr)
  refine ⟨this.2.1,?_⟩
  rcases this.1 with ⟨h3,_⟩ | ⟨h3,_⟩
  ·exact uZ (fun k hk=>hk.elim) _ h3
  ·exact qKq (fun k hk=>ltn k hk) _ h3
 ·intro n
  have key :∀(l:List (Nat×AV)),(∀x∈l,x.2=.any∨(wA t x.1=jA f x.2∧okB (fun n=>qO h' n≠none) x.2))→bnd (· < nx') (wA l n):=by
   intro l
   induction l with
   | nil=>intro _; trivial
   | cons y l ih =>
    intro hy
    obtain ⟨m,v⟩:=y
    simp only [wA]
    split
    ·rcases hy (m,v) (by simp) with h3 | ⟨_,h4⟩
     ·simp only at h3; subst h3; trivial
     ·exact qJ0 (fun n hn'=>ltn n hn') v h4
    ·exact ih (fun x hx=>hy x (by simp [hx]))
  exact key t' ht
 ·exact {
   size0:=hl.ok.size0
   io0:=hl.ok.io0
   fr:=hl.ok.fr
   keep0:=hl.ok.keep0
   own0:=fun n hn' b hb'=>hl.ok.own0 (f n) (oldn n hn') b hb'
   rh:={
    row:=fun n row hr=>by
     have hne:qO h' n≠none:=by simp [hr]
     unfold bB gR
     have h3:(B.env w φ').φ n=φ (f n):=φo n hne
     rw [h3]
     obtain ⟨r0,h4,hlen⟩:=old n row hr
     have h6:=hl.ok.rh.row (f n) _ h4
     have h6':(match φ (f n) with | .dead=>False | .nilp=>r0=[]∧Lf (f n)=[] | .at p=>p.sz=row.1∧iQ w p r0.length∧∃Lr,yL (B.env w φ) w p.block p.off p.sz r0 Lr∧Lf (f n)=p.block::Lr):=h6
     cases hq:φ (f n) with
     | dead=>rw [hq] at h6'; exact h6'.elim
     | nilp =>
      rw [hq] at h6'
      refine ⟨?_,h6'.2⟩
      rw [h6'.1] at hlen
      exact List.eq_nil_of_length_eq_zero hlen.symm
     | «at» p =>
      rw [hq] at h6'
      obtain ⟨g1,g2,Lr,g3,g4⟩:=h6'
      rw [hlen] at g2
      refine ⟨g1,g2,Lr,?_,g4⟩
      rcases (hh _ (mem n row hr)).1 with ⟨h7,h8⟩ | ⟨h7,h8⟩
      ·have e:r0=row.2:=by
        have:=h4.symm.trans h8
        simp only [Option.some.injEq] at this
        rw [←this]
       rw [e] at g3
       exact uL row.2 (hk Lr) h7 (fun _ _=>rfl) g3
      ·have e:r0=dV f row.2:=by
        have:=h4.symm.trans h8
        simp only [Option.some.injEq,Prod.mk.injEq,true_and] at this
        exact this
       rw [e] at g3
       exact qI9 hk (fun m hm=>φo m hm) row.2 h7 g3
    nodup:=fun n hn'=>hl.ok.rh.nodup _ (oldn n hn')
    blk:=fun n hn' b hb'=>hl.ok.rh.blk _ (oldn n hn') b hb'
    dis:=fun n m hn' hm' hne b hb1 hb2=>hl.ok.rh.dis _ _ (oldn n hn') (oldn m hm') (fun hf=>hne (inj n m hn' hm' hf)) b hb1 hb2
    dead:=fun n hn'=>φd n hn'}}
 ·intro n
  have key :∀(l:List (Nat×AV)),(∀x∈l,x.2=.any∨(wA t x.1=jA f x.2∧okB (fun n=>qO h' n≠none) x.2))→RV (B.env w φ') (wA l n) (a.tmps.getD n undef) []:=by
   intro l
   induction l with
   | nil=>intro _; simp [wA,RV]
   | cons y l ih =>
    intro hy
    obtain ⟨m,v⟩:=y
    simp only [wA]
    split
    ·rename_i hnm
     subst hnm
     have h0:=hl.tm n
     rcases hy (n,v) (by simp) with h3 | ⟨h3,h4⟩
     ·simp only at h3; subst h3; simp [RV]
     ·simp only at h3 h4
      rw [h3] at h0
      exact qIz (hk []) (fun m hm=>φo m hm) v h4 h0
    ·exact ih (fun x hx=>hy x (by simp [hx]))
  exact key t' ht
 ·intro n hn'
  obtain ⟨h3,h4⟩:=hl.φ0 n hn'
  refine ⟨h3,?_⟩
  cases hr:qO h' n with
  | none=>exact .inr (φd n hr)
  | some row =>
   rw [φo n (by simp [hr]),(hh _ (mem n row hr)).2.2 h3]
   exact h4
def m407:MFn:=⟨49,[.t 4,.cell 5 4 true,.t 6],kr [xb 2 0,xo 4 (.mv (.c (.nil))),xo 5 (.alloc [.nil,.nil,.nil,.nil]),xF 6] (kr [xm 15 2 2,xc1 16 392 (.t 15),xv 14 16,xX 17 14 0,xX 18 14 1,xo 7 (.alloc [.nil,.nil,.nil,.nil]),xS 4 7 17,xv 8 18] (.seq (kr [xv 19 8,xN 20 19,xv 21 20,zv 22 1 21,ze 23 22 21,zI 24 .gtr 23 4000 21,xQ 25 21 24] (kF 25 [xo 26 (.build [.nil,.nil,.nil,.nil] []),xo 4 (.mv (.c (.nil))),xS 4 5 26,xF 6])) (kr [xo 27 (.mkSl [xz] 0 []),xv 9 27] (.seq (kr [xv 28 1,xe 29 28,xI 30 0] (.blk 0 (.loop (kr [bT 31 .lss 30 29] (.seq (kX 31 0) (.seq (.blk 1 (kr [xD 32 2 28 30,xm 33 2 32,xo 11 (.alloc [xz,xz]),xS 2 11 33] (kr [xm 35 2 2,xm 36 2 11,xo 37 (.call 428 [false,true,false] [.t 35,.t 7,.t 36]),xv 34 37,xX 38 34 0,xX 39 34 1,xv 12 38,xv 13 39] (kr [xv 40 13] (.cond 40 (xr [xv 41 9,xa 42 0 11,xl 43 42,xo 44 (.mkSl [xz] 1 [(0,.t 43)]),xA 45 1 8 41 44,xv 9 45]) (.skip)))))) (xr [bI 46 .add 30 1,xv 30 46]))))))) (.seq (.dreg (.take 0 (xv 47 9) (.take 1 (xm 48 4 7) (.only 2 [0] (xv 4 47) (.only 3 [0,1] (xS 4 5 48) (.only 4 [0,1] (xT 6) (.done))))))) (.ret))))))⟩
theorem fU {p:wN} (h:(launch p).2=true):vD p=true∧bR p.caps=true∧(launch p).1.codes=p.bods.map (comp p.caps)∧wJ (launch p).1=true:=by
 unfold launch at h⊢
 cases hc:(dZ p).2
 ·rw [hc] at h
  exact absurd h (by simp)
 rw [hc] at h
 simp only [if_true] at h⊢
 have hcc:vD p=true∧bR p.caps=true∧(dZ p).1=p.bods.map (comp p.caps):=by
  unfold dZ at hc⊢
  split
  ·rename_i hh
   simp only [Bool.and_eq_true] at hh
   exact ⟨hh.1.1,hh.1.2,rfl⟩
  ·rename_i hh
   rw [if_neg hh] at hc
   exact absurd hc (by simp)
 refine ⟨hcc.1,hcc.2.1,?_,?_⟩
 ·unfold aX at h⊢
  split
  ·exact hcc.2.2
  ·rename_i hh
   rw [if_neg hh] at h
   exact absurd h (by simp)
 ·unfold aX at h⊢
  split
  ·rename_i hh
   exact hh
  ·rename_i hh
   rw [if_neg hh] at h
   exact absurd h (by simp)
def yG (p:wN) (l:List gI):List Int×qK×Bool :=
 if (launch p).2&&decide ((l.length:Int)≤4000) then (bU p (launch p).1 l,iK (launch p).1 l,true) else ([],qB0,false)
theorem qAj (p:wN) (l:List gI):(yG p l).1.length≤4000∧nM (yG p l).2.1≤4000000:=by
 unfold yG
 split
 ·rename_i h
  simp only [Bool.and_eq_true,decide_eq_true_eq] at h
  have:=lX p (launch p).1 l
  exact ⟨by simp only; omega,qL1 (qCz l (fU h.1).2.2.2)⟩
 ·exact ⟨by simp,by decide⟩
theorem qHd (f:Nat→Nat) (l:List dW):dV f (yW l)=yW l:=cQ f _ ((gK l).2 trivial)
theorem qPx {A:Nat→Prop} (l:List dW):okR A (yW l)↔True:=by simp [aP _ ((gK l).2 trivial)]
theorem qGy (f:Nat→Nat) (l:List wX):dV f (yT l)=yT l:=cQ f _ ((eO l).2 trivial)
theorem qPb {A:Nat→Prop} (l:List wX):okR A (yT l)↔True:=by simp [aP _ ((eO l).2 trivial)]
attribute [go_sem] qHd qGy
attribute [simp] qHd qGy qPx qPb
@[simp] def qVi (m:qK) (j:Nat):FP:=[(0,some (1,(codes .own m.codes).set j [.ns 4 0 (m.codes.getD j []).length]),some (1,(codes .own m.codes).set j [.ns 4 0 (m.codes.getD j []).length])),(1,some (4,cores .own m.cores),some (4,cores .own m.cores)),(2,some (1,jT .own m.mem.cells),some (1,jT .own m.mem.cells)),(3,some (2,yW m.tr),some (2,yW m.tr)),(4,some (5,yT (m.codes.getD j [])),some (5,yT (m.codes.getD j [])))]
attribute [go_sem] qVi
theorem qK5 (p:wN) (m:qK) (l:List gI) (i:Nat) (h:i<l.length):bU p m (l.take (i+1))=bU p m (l.take i)++(if did p (iK m (l.take i)) (l.getD i default) then [(l.getD i default).who] else []):=by
 rw [zC l default i h,qBr]
theorem oJ (p:wN) (l:List gI) (hp:xE p) (hl:l.length<2^40) (hx :∀x∈l,qPq x):wD Try.prog num 407 [.agg (vP .bw p),.sl .bw 2 (aN l)] [] (.tup [.sl .own 1 (wT (yG p l).1),.agg (qS .own (yG p l).2.1),.bool (yG p l).2.2]):=by
 refine EN m407 Try.func6 ?_
 unfold m407
 simp only [go_sem,seval]
 refine CA [] (qGi p hp) ?_
 try simp only [go_sem,seval]
 cases hok:(launch p).2
 ·have hr:yG p l=([],qB0,false):=by simp [yG,hok]
  rw [hr]
  try simp only [go_sem,seval,hok]
  apply jV (by simp)
  ·exact Sub.refl _
  ·simp [-List.drop_one,-gD,qS,qB0,lL]<;>(first | rfl | exact ⟨rfl,rfl⟩ | exact ⟨rfl,rfl,rfl⟩ | skip)
 have hlc:=fU hok
 generalize hm:(launch p).1=m at *
 by_cases h4:(4000:Int)<l.length
 ·have h4' :¬(l.length:Int)≤4000:=by omega
  have hr:yG p l=([],qB0,false):=by simp [yG,h4']
  rw [hr]
  try simp only [go_sem,seval,hok,h4]
  apply jV (by simp)
  ·exact Sub.refl _
  ·simp [-List.drop_one,-gD,qS,qB0,lL]<;>(first | rfl | exact ⟨rfl,rfl⟩ | exact ⟨rfl,rfl,rfl⟩ | skip)
 have h4':(l.length:Int)≤4000:=by omega
 have hr:yG p l=(bU p m l,iK m l,true):=by simp [yG,h4',hok,hm]
 rw [hr]
 try simp only [go_sem,seval,hok,h4]
 refine wL (ι:=Nat) (fun i=>.mk [(2,.ptr 10 0 0),(5,.ptr 11 0 0),(7,.ptr 12 0 0),(9,.ns 13 0 (bU p m (l.take i)).length),(28,.sl .bw 2 (aN l)),(29,.int .i64 l.length),(30,.int .i64 i)] [(10,2,[vP .bw p]),(11,4,[[.nil,.nil,.nil,.nil]]),(12,4,[qS .own (iK m (l.take i))]),(13,1,wT (bU p m (l.take i)))] 14) (fun i=>i≤l.length) (fun i=>l.length-i) 0 (by simp) ?_ ?_
 ·refine Sub.trans (Sub.fold1 16 0 12 rfl (by simp [-gD]<;>omega) rfl (by decide) (by decide) rfl) ?_
  simp only [fS,fS2,qA,qC]
  refine Sub.trans (Sub.fold1 16 1 13 rfl (by simp [-gD]<;>omega) rfl (by decide) (by decide) rfl) ?_
  simp only [fS,fS2,qA,qC]
  refine Sub.trans (Sub.fold1 16 2 14 rfl (by simp [-gD]<;>omega) rfl (by decide) (by decide) rfl) ?_
  simp only [fS,fS2,qA,qC]
  refine Sub.trans (Sub.fold1 16 3 15 rfl (by simp [-gD]<;>omega) rfl (by decide) (by decide) rfl) ?_
  simp only [fS,fS2,qA,qC]
  refine Sub.shape [] (fun n=>if n=12 then 16 else if n=13 then 17 else n) (by omega) ?_ ?_ ?_ ?_<;>simp [qP]
  all_goals simp [bU,iK,wT]
 ·rintro i hi
  simp only [go_sem,seval]
  refine qT (fun hc=>?_) (fun hc=>?_)
  ·simp only [decide_eq_true_eq] at hc
   have hl':i<l.length:=by omega
   have hlt:(bU p m (l.take i)).length≤i:=by have:=lX p m (l.take i); rw [List.length_take] at this; omega
   have hM:=qCz (l.take i) hlc.2.2.2
   have hxi:=hx _ (yQ l i default hl')
   have e1:=qP9 m l i hl'
   have e2:=qK5 p m l i hl'
   simp only [go_sem,seval,wB (i:=i) (by omega),qPr l i hl']
   repeat refine K ?_
   refine CA [(0,12)] (lN p (iK m (l.take i)) (l.getD i default) hp hM hxi) ?_
   try simp only [go_sem,seval]
   cases hd:did p (iK m (l.take i)) (l.getD i default)
   ·rw [hd] at e2
    try simp only [go_sem,seval,hd,wB (i:=i) (by omega)]
    refine wC (i+1) ?_ hl' (by omega)
    rw [e1,e2]
    refine Sub.shape [] id (by omega) ?_ ?_ ?_ ?_<;>simp [qP]
   ·rw [hd] at e2
    try simp only [go_sem,seval,hd,wB (i:=i) (by omega)]
    repeat refine K ?_
    refine wC (i+1) ?_ hl' (by omega)
    rw [e1,e2]
    refine Sub.shape [] (fun n=>if n=13 then 16 else n) (by omega) ?_ ?_ ?_ ?_<;>simp [qP]
    all_goals simp [wT]
  ·simp only [decide_eq_false_iff_not] at hc
   obtain rfl:i=l.length:=by omega
   have hie:l.take l.length=l:=List.take_length
   simp only [go_sem,seval,hie]
   repeat refine K ?_
   apply jV (by simp)
   ·exact Sub.refl _
   ·simp [-List.drop_one,-gD,qS]<;>(first | rfl | exact ⟨rfl,rfl⟩ | exact ⟨rfl,rfl,rfl⟩ | skip)
end Go.Sep
