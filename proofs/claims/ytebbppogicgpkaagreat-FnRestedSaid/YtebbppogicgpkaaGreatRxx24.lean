/- Contracts of functions. -/
import Derived.Test.YtebbppogicgpkaaGreatRxx13
namespace Go.Sep
set_option maxHeartbeats 16000000
open Go.Proofs
set_option linter.unusedSimpArgs false
set_option linter.unusedVariables false
set_option maxRecDepth 100000
mutual
theorem qX2 {e e':Env} {A:Nat→Prop} {f:Nat→Nat} (k :∀L,gJ e e' (fun _=>False) L) (hφ :∀n,A n→e'.φ n=e.φ (f n)) :∀(v:AV) {c:Value} {L:List Nat},okB A v→RV e (jK f v) c L→RV e' v c L
 | .ptr nm i o,c,L,ha,h=>by
  simp only [okB,jK,RV] at ha h⊢
  rw [hφ nm ha]
  exact h
 | .ns nm o l,c,L,ha,h=>by
  simp only [okB,jK,RV] at ha h⊢
  rw [hφ nm ha]
  exact h
 | .agg cs,c,L,ha,h=>by
  simp only [okB,jK,RV] at ha h⊢
  obtain ⟨vs,h1,h2⟩:=h
  exact ⟨vs,h1,qBd k hφ cs ha h2⟩
 | .tup cs,c,L,ha,h=>by
  simp only [okB,jK,RV] at ha h⊢
  obtain ⟨vs,h1,h2⟩:=h
  exact ⟨vs,h1,qBd k hφ cs ha h2⟩
 | .any,c,L,ha,h | .int _ _,c,L,ha,h | .bool _,c,L,ha,h | .str _,c,L,ha,h | .fn _ _,c,L,ha,h | .nilp,c,L,ha,h | .fptr _ _ _,c,L,ha,h | .nil,c,L,ha,h | .nilI,c,L,ha,h | .ifc,c,L,ha,h | .sl _ _ _,c,L,ha,h=>by
  simp only [okB] at ha
  simp only [jK] at h
  exact fE _ (k L) ha h
theorem qBd {e e':Env} {A:Nat→Prop} {f:Nat→Nat} (k :∀L,gJ e e' (fun _=>False) L) (hφ :∀n,A n→e'.φ n=e.φ (f n)) :∀(l:List AV) {cs:List Value} {L:List Nat},pX A l→RVs e (xU f l) cs L→RVs e' l cs L
 | [],cs,L,_,h=>by simpa only [RVs,xU] using h
 | v::l,cs,L,ha,h=>by
  simp only [pX,xU,RVs] at ha h⊢
  obtain ⟨c,cs',L1,L2,h1,h2,h3,h4⟩:=h
  exact ⟨c,cs',L1,L2,h1,qX2 k hφ v ha.1 h2,qBd k hφ l ha.2 h3,h4⟩
end
def qIp (A:Nat→Prop):List (List AV)→Prop
 | []=>True
 | r::rs=>pX A r∧qIp A rs
theorem qNx {A B:Nat→Prop} (h :∀n,A n→B n) :∀(l:List (List AV)),qIp A l→jL B l
 | [],_=>trivial
 | r::l,ha=>⟨qBe h r ha.1,qNx h l ha.2⟩
theorem qKx {e e':Env} {A:Nat→Prop} {f:Nat→Nat} (k :∀L,gJ e e' (fun _=>False) L) (hφ :∀n,A n→e'.φ n=e.φ (f n)) :∀(rs:List (List AV)) {W:World} {b o sz:Nat} {L:List Nat},qIp A rs→yW e W b o sz (zZ f rs) L→yW e' W b o sz rs L
 | [],_,_,_,_,_,_,h=>by simpa only [yW,zZ] using h
 | r::rs,W,b,o,sz,L,hb,h=>by
  simp only [yW,zZ] at h⊢
  obtain ⟨vs,L1,L2,h1,h2,h3,h4,h5,h6⟩:=h
  rw [lV,sE] at h1
  exact ⟨vs,L1,L2,h1,h2,h3,qBd k hφ r hb.1 h4,qKx k hφ rs hb.2 h5,h6⟩
theorem Sub.link (f:Nat→Nat) {t t':List (Nat×AV)} {h h':wZ} {nx nx':Nat} (hn:10≤nx')
  (hh :∀x∈h',((jL (fun _=>False) x.2.2∧qU h (f x.1)=some x.2)∨(qIp (fun n=>qU h' n≠none) x.2.2∧qU h (f x.1)=some (x.2.1,zZ f x.2.2)))∧x.1<nx'∧(x.1<10→f x.1=x.1))
  (hi:(h'.map (fun x=>f x.1)).Nodup)
  (ht :∀x∈t',x.2=.any∨(wH t x.1=jK f x.2∧okB (fun n=>qU h' n≠none) x.2)):Sub (.mk t h nx) (.mk t' h' nx'):=by
 rintro B a w ⟨h1,h2,hb,hbt,φ,Lf,hl⟩
 have mem :∀n r,qU h' n=some r→(n,r)∈h':=fun n r hr=>qOc hr
 have inj :∀n m,qU h' n≠none→qU h' m≠none→f n=f m→n=m:=by
  intro n m hn' hm' he
  cases hln:qU h' n with
  | none=>exact absurd hln hn'
  | some r =>
   cases hlm:qU h' m with
   | none=>exact absurd hlm hm'
   | some q =>
    have a1:=mem n r hln
    have a2:=mem m q hlm
    have key :∀(l:wZ),(l.map (fun x=>f x.1)).Nodup→(n,r)∈l→(m,q)∈l→n=m:=by
     intro l
     induction l with
     | nil=>intro _ h; simp at h
     | cons y l ih =>
      intro hnd p1 p2
      simp only [List.map_cons,List.nodup_cons] at hnd
      rcases List.mem_cons.1 p1 with h3 | p3<;>rcases List.mem_cons.1 p2 with h4 | p4
      ·exact (congrArg Prod.fst h3).trans (congrArg Prod.fst h4).symm
      ·refine absurd (List.mem_map.2 ⟨(m,q),p4,?_⟩) hnd.1
       rw [←h3]; exact he.symm
      ·refine absurd (List.mem_map.2 ⟨(n,r),p3,?_⟩) hnd.1
       rw [←h4]; exact he
      ·exact ih hnd.2 p3 p4
    exact key h' hi a1 a2
 classical
 let φ':Nat→vD:=fun n=>if qU h' n=none then .dead else φ (f n)
 let Lf':Nat→List Nat:=fun n=>Lf (f n)
 have φd :∀n,qU h' n=none→φ' n=.dead:=fun n hn'=>by show (if qU h' n=none then vD.dead else _)=_; rw [if_pos hn']
 have φo :∀n,qU h' n≠none→φ' n=φ (f n):=fun n hn'=>by show (if qU h' n=none then vD.dead else φ (f n))=_; rw [if_neg hn']
 have old :∀n row,qU h' n=some row→∃r0,qU h (f n)=some (row.1,r0)∧r0.length=row.2.length:=by
  intro n row hr
  rcases (hh _ (mem n row hr)).1 with ⟨_,h3⟩ | ⟨_,h3⟩
  ·exact ⟨row.2,h3,rfl⟩
  ·exact ⟨_,h3,hY f row.2⟩
 have oldn :∀n,qU h' n≠none→qU h (f n)≠none:=by
  intro n hn'
  cases hr:qU h' n with
  | none=>exact absurd hr hn'
  | some row =>
   obtain ⟨r0,h3,_⟩:=old n row hr
   simp [h3]
 have ltn :∀n,qU h' n≠none→n<nx':=by
  intro n hn'
  cases hr:qU h' n with
  | none=>exact absurd hr hn'
  | some row=>exact (hh _ (mem n row hr)).2.1
 have hk :∀L:List Nat,gJ (B.env w φ) (B.env w φ') (fun _=>False) L:=fun L=>{num:=rfl,fr:=fun m b hb'=>by cases m<;>exact hb',cells:=fun b _ o=>rfl,φ:=fun n hn'=>hn'.elim,own:=fun b _=>rfl}
 refine ⟨h1,h2,?_,?_,φ',Lf',?_,?_,?_,hn⟩
 ·intro n row hr
  have:=hh _ (mem n row hr)
  refine ⟨this.2.1,?_⟩
  rcases this.1 with ⟨h3,_⟩ | ⟨h3,_⟩
  ·exact bU (fun k hk=>hk.elim) _ h3
  ·exact qNx (fun k hk=>ltn k hk) _ h3
 ·intro n
  have key :∀(l:List (Nat×AV)),(∀x∈l,x.2=.any∨(wH t x.1=jK f x.2∧okB (fun n=>qU h' n≠none) x.2))→bnd (· < nx') (wH l n):=by
   intro l
   induction l with
   | nil=>intro _; trivial
   | cons y l ih =>
    intro hy
    obtain ⟨m,v⟩:=y
    simp only [wH]
    split
    ·rcases hy (m,v) (by simp) with h3 | ⟨_,h4⟩
     ·simp only at h3; subst h3; trivial
     ·exact qLq (fun n hn'=>ltn n hn') v h4
    ·exact ih (fun x hx=>hy x (by simp [hx]))
  exact key t' ht
 ·exact {
   size0:=hl.ok.size0
   io0:=hl.ok.io0
   fr:=hl.ok.fr
   keep0:=hl.ok.keep0
   own0:=fun n hn' b hb'=>hl.ok.own0 (f n) (oldn n hn') b hb'
   rh:={
    row:=fun n row hr=>by
     have hne:qU h' n≠none:=by simp [hr]
     unfold bH gQ
     have h3:(B.env w φ').φ n=φ (f n):=φo n hne
     rw [h3]
     obtain ⟨r0,h4,hlen⟩:=old n row hr
     have h6:=hl.ok.rh.row (f n) _ h4
     have h6':(match φ (f n) with | .dead=>False | .nilp=>r0=[]∧Lf (f n)=[] | .at p=>p.sz=row.1∧iR w p r0.length∧∃Lr,yW (B.env w φ) w p.block p.off p.sz r0 Lr∧Lf (f n)=p.block::Lr):=h6
     cases hq:φ (f n) with
     | dead=>rw [hq] at h6'; exact h6'.elim
     | nilp =>
      rw [hq] at h6'
      refine ⟨?_,h6'.2⟩
      rw [h6'.1] at hlen
      exact List.eq_nil_of_length_eq_zero hlen.symm
     | «at» p =>
      rw [hq] at h6'
      obtain ⟨g1,g2,Lr,g3,g4⟩:=h6'
      rw [hlen] at g2
      refine ⟨g1,g2,Lr,?_,g4⟩
      rcases (hh _ (mem n row hr)).1 with ⟨h7,h8⟩ | ⟨h7,h8⟩
      ·have e:r0=row.2:=by
        have:=h4.symm.trans h8
        simp only [Option.some.injEq] at this
        rw [←this]
       rw [e] at g3
       exact uV row.2 (hk Lr) h7 (fun _ _=>rfl) g3
      ·have e:r0=zZ f row.2:=by
        have:=h4.symm.trans h8
        simp only [Option.some.injEq,Prod.mk.injEq,true_and] at this
        exact this
       rw [e] at g3
       exact qKx hk (fun m hm=>φo m hm) row.2 h7 g3
    nodup:=fun n hn'=>hl.ok.rh.nodup _ (oldn n hn')
    blk:=fun n hn' b hb'=>hl.ok.rh.blk _ (oldn n hn') b hb'
    dis:=fun n m hn' hm' hne b hb1 hb2=>hl.ok.rh.dis _ _ (oldn n hn') (oldn m hm') (fun hf=>hne (inj n m hn' hm' hf)) b hb1 hb2
    dead:=fun n hn'=>φd n hn'}}
 ·intro n
  have key :∀(l:List (Nat×AV)),(∀x∈l,x.2=.any∨(wH t x.1=jK f x.2∧okB (fun n=>qU h' n≠none) x.2))→RV (B.env w φ') (wH l n) (a.tmps.getD n undef) []:=by
   intro l
   induction l with
   | nil=>intro _; simp [wH,RV]
   | cons y l ih =>
    intro hy
    obtain ⟨m,v⟩:=y
    simp only [wH]
    split
    ·rename_i hnm
     subst hnm
     have h0:=hl.tm n
     rcases hy (n,v) (by simp) with h3 | ⟨h3,h4⟩
     ·simp only at h3; subst h3; simp [RV]
     ·simp only at h3 h4
      rw [h3] at h0
      exact qLp (hk []) (fun m hm=>φo m hm) v h4 h0
    ·exact ih (fun x hx=>hy x (by simp [hx]))
  exact key t' ht
 ·intro n hn'
  obtain ⟨h3,h4⟩:=hl.φ0 n hn'
  refine ⟨h3,?_⟩
  cases hr:qU h' n with
  | none=>exact .inr (φd n hr)
  | some row =>
   rw [φo n (by simp [hr]),(hh _ (mem n row hr)).2.2 h3]
   exact h4
end Go.Sep
