/- Contracts of functions. -/
import Derived.Test.YtfecojefbnnknaaGreatRxx22
open Bool renaming false_eq_true → wBl
open List renaming append_nil → wCv, filter_cons → wDt, getD_eq_getElem?_getD → wBr, length_cons → wBk, length_filter_le → wDu, map_cons → wBm, mem_cons_of_mem → wCk, replicate → wBj, take_length → wDo
namespace Go.Sep
set_option maxHeartbeats 16000000
open Go.Proofs
set_option linter.unusedSimpArgs false
set_option linter.unusedVariables false
set_option maxRecDepth 100000
open Nat renaming reduceAdd → qA, reduceMul → qB, reduceEqDiff → qC, reduceBEq → qD
open Int renaming reduceToNat → qE, reduceEq → qF, reduceLT → qG, reduceLE → qH
open List renaming getD_eq_getElem?_getD → gD
def m170:MFn:=⟨78,[.t 2],kr [xo 2 (.mv (.c (.nil)))] (.seq (kr [xv 11 0,xc2 12 67 (.t 11) (xi 3),xN 13 12] (kF 13 [xo 2 (.mv (.c (.nil)))])) (kr [xv 14 0,xe 15 14,xo 16 (.mkS [.nil] 24 (.t 15) (.t 15)),xv 3 16] (.seq (kr [xT 4] (.blk 0 (.loop (.seq (kr [xv 17 4] (kX 17 0)) (.blk 1 (kr [xF 4] (kr [xv 18 0,xe 19 18,bI 20 .sub 19 1,xv 5 20] (.blk 2 (.loop (.seq (kr [xv 21 5,bI 22 .geq 21 0] (kX 22 2)) (.seq (.blk 3 (kr [xv 25 0,xv 26 5,xD 27 5 25 26,xm 28 5 27,xc1 29 215 (.t 28),xc1 30 36 (.t 29),xv 6 30] (.seq (kr [xv 31 0,xv 32 5,xc2 33 216 (.t 31) (.t 32),xe 34 33,xI 35 0] (.blk 4 (.loop (kr [bT 36 .lss 35 34] (.seq (kX 36 4) (.seq (.blk 5 (kr [xD 37 1 33 35,xl 38 37,xv 8 38] (kr [xv 39 3,xv 40 8,xD 41 1 39 40,xl 42 41,xe 43 42,xI 44 0] (.blk 6 (.loop (kr [bT 45 .lss 44 43] (.seq (kX 45 6) (.seq (.blk 7 (kr [xD 46 1 42 44,xl 47 46,xv 10 47] (kr [xv 48 0,xv 49 5,xD 50 5 48 49,xm 51 5 50,xc1 52 217 (.t 51),xv 53 10,xc2 54 218 (.t 52) (.t 53),xN 55 54] (.cond 55 (xr [xv 56 6,xv 57 10,xo 58 (.mkSl [xz] 1 [(0,.t 57)]),xA 59 1 8 56 58,xv 6 59]) (.skip))))) (xr [bI 60 .add 44 1,xv 44 60]))))))))) (xr [bI 61 .add 35 1,xv 35 61]))))))) (kr [xv 62 6,xo 63 (.call 219 [true] [.t 62])] (kr [xv 64 6,xo 65 (.call 220 [true] [.t 64]),xv 6 65] (kr [xv 66 6,xv 67 3,xv 68 5,xD 69 1 67 68,xl 70 69,xc2 71 34 (.t 66) (.t 70),xN 72 71] (.cond 72 (kr [xv 73 3,xv 74 5,xv 75 6,xD 76 1 73 74,xS 1 76 75] (xr [xT 4])) (.skip)))))))) (xr [xv 23 5,bI 24 .sub 23 1,xv 5 24])))))))))))) (kR [xv 77 3,xv 2 77]))))⟩
theorem Sub.shapeN (E:List Nat) (f:Nat→Nat) {t t':List (Nat×AV)} {h h':wT} {nx nx':Nat} (hn:10≤nx')
  (hh :∀x∈h',yW (fun n=>f n=n∧n∉E∧qQ h' n≠none) x.2.2∧x.1<nx'∧((x.1∈E∧x.2.2=[]∧10≤x.1)∨(x.1∉E∧(∃r0,qQ h (f x.1)=some (x.2.1,r0)∧(r0=x.2.2∨dE r0 x.2.2))∧(x.1<10→f x.1=x.1))))
  (hi:(h'.map (fun x=>f x.1)).Nodup) (hE :∀k∈E,k<nx'∧qQ h' k≠none)
  (ht :∀x∈t',shp E (fun n=>n∉E∧qQ h' n≠none) f (wD t x.1) x.2):Sub (.mk t h nx) (.mk t' h' nx'):=by
 rintro B a w ⟨h1,h2,hb,hbt,φ,Lf,hl⟩
 have mem :∀n r,qQ h' n=some r→(n,r)∈h':=fun n r hr=>qNk hr
 have inj :∀n m,qQ h' n≠none→qQ h' m≠none→f n=f m→n=m:=by
  intro n m hn' hm' he
  cases hln:qQ h' n with
  | none=>exact absurd hln hn'
  | some r =>
   cases hlm:qQ h' m with
   | none=>exact absurd hlm hm'
   | some q =>
    have a1:=mem n r hln
    have a2:=mem m q hlm
    have key :∀(l:wT),(l.map (fun x=>f x.1)).Nodup→(n,r)∈l→(m,q)∈l→n=m:=by
     intro l
     induction l with
     | nil=>intro _ h; simp at h
     | cons y l ih =>
      intro hnd p1 p2
      simp only [wBm,List.nodup_cons] at hnd
      rcases List.mem_cons.1 p1 with h3 | p3<;>rcases List.mem_cons.1 p2 with h4 | p4
      ·exact (congrArg Prod.fst h3).trans (congrArg Prod.fst h4).symm
      ·refine absurd (List.mem_map.2 ⟨(m,q),p4,?_⟩) hnd.1
       rw [←h3]; exact he.symm
      ·refine absurd (List.mem_map.2 ⟨(n,r),p3,?_⟩) hnd.1
       rw [←h4]; exact he
      ·exact ih hnd.2 p3 p4
    exact key h' hi a1 a2
 classical
 let φ':Nat→vG:=fun n=>if qQ h' n=none then .dead else if n∈E then .nilp else φ (f n)
 let Lf':Nat→List Nat:=fun n=>if n∈E then [] else Lf (f n)
 have φd :∀n,qQ h' n=none→φ' n=.dead:=fun n hn'=>by show (if qQ h' n=none then vG.dead else _)=_; rw [if_pos hn']
 have φE :∀n,qQ h' n≠none→n∈E→φ' n=.nilp:=fun n hn' he=>by show (if qQ h' n=none then vG.dead else if n∈E then vG.nilp else φ (f n))=_; rw [if_neg hn',if_pos he]
 have φo :∀n,qQ h' n≠none→n∉E→φ' n=φ (f n):=fun n hn' he=>by show (if qQ h' n=none then vG.dead else if n∈E then vG.nilp else φ (f n))=_; rw [if_neg hn',if_neg he]
 have LE :∀n,n∈E→Lf' n=[]:=fun n he=>by show (if n∈E then [] else Lf (f n))=_; rw [if_pos he]
 have Lo :∀n,n∉E→Lf' n=Lf (f n):=fun n he=>by show (if n∈E then [] else Lf (f n))=_; rw [if_neg he]
 have old :∀n row,qQ h' n=some row→n∉E→∃r0,qQ h (f n)=some (row.1,r0)∧(r0=row.2∨dE r0 row.2):=by
  intro n row hr he
  rcases (hh _ (mem n row hr)).2.2 with ⟨h3,_⟩ | ⟨_,h3,_⟩
  ·exact absurd h3 he
  ·exact h3
 have oldn :∀n,qQ h' n≠none→n∉E→qQ h (f n)≠none:=by
  intro n hn' he
  cases hr:qQ h' n with
  | none=>exact absurd hr hn'
  | some row =>
   obtain ⟨r0,h3,_⟩:=old n row hr he
   simp [h3]
 have hkA :∀L:List Nat,dI (B.env w φ) (B.env w φ') (fun n=>f n=n∧n∉E∧qQ h' n≠none) L:=fun L=>{num:=rfl,fr:=fun m b hb'=>by cases m<;>exact hb',cells:=fun b _ o=>rfl,φ:=fun n hn'=>.inl ((φo n hn'.2.2 hn'.2.1).trans (congrArg φ hn'.1)),own:=fun b _=>rfl}
 have hk :∀L:List Nat,dI (B.env w φ) (B.env w φ') (fun _=>False) L:=fun L=>{num:=rfl,fr:=fun m b hb'=>by cases m<;>exact hb',cells:=fun b _ o=>rfl,φ:=fun n hn'=>hn'.elim,own:=fun b _=>rfl}
 refine ⟨h1,h2,?_,?_,φ',Lf',?_,?_,?_,hn⟩
 ·intro n row hr
  have:=hh _ (mem n row hr)
  exact ⟨this.2.1,uV (fun k hk=>by cases hr:qQ h' k with | none=>exact absurd hr hk.2.2 | some row=>exact (hh _ (mem k row hr)).2.1) _ this.1⟩
 ·intro n
  have key :∀(l:List (Nat×AV)),(∀x∈l,shp E (fun n=>n∉E∧qQ h' n≠none) f (wD t x.1) x.2)→bnd (· < nx') (wD l n):=by
   intro l
   induction l with
   | nil=>intro _; trivial
   | cons y l ih =>
    intro hy
    obtain ⟨m,v⟩:=y
    simp only [wD]
    split
    ·rcases hy (m,v) (by simp) with h3 | ⟨k,h3,h4,_⟩ | ⟨_,h4⟩
     ·simp only at h3; subst h3; trivial
     ·simp only at h3; subst h3; exact (hE k h4).1
     ·refine qL3 (fun n hn'=>?_) v h4
      cases hr:qQ h' n with
      | none=>exact absurd hr hn'.2
      | some row=>exact (hh _ (mem n row hr)).2.1
    ·exact ih (fun x hx=>hy x (by simp [hx]))
  exact key t' ht
 ·exact {
   size0:=hl.ok.size0
   io0:=hl.ok.io0
   fr:=hl.ok.fr
   keep0:=hl.ok.keep0
   own0:=fun n hn' b hb'=>by
    by_cases he:n∈E
    ·rw [LE n he] at hb'; simp at hb'
    ·rw [Lo n he] at hb'
     exact hl.ok.own0 (f n) (oldn n hn' he) b hb'
   rh:={
    row:=fun n row hr=>by
     have hne:qQ h' n≠none:=by simp [hr]
     unfold uX gI
     by_cases he:n∈E
     ·have h3:(B.env w φ').φ n=.nilp:=φE n hne he
      rw [h3,LE n he]
      rcases (hh _ (mem n row hr)).2.2 with ⟨_,h4,_⟩ | ⟨h4,_⟩
      ·exact ⟨h4,rfl⟩
      ·exact absurd he h4
     ·have h3:(B.env w φ').φ n=φ (f n):=φo n hne he
      rw [h3,Lo n he]
      obtain ⟨r0,h4,h5⟩:=old n row hr he
      have h6:=hl.ok.rh.row (f n) _ h4
      have hbr:=(hh _ (mem n row hr)).1
      have h6':(match φ (f n) with | .dead=>False | .nilp=>r0=[]∧Lf (f n)=[] | .at p=>p.sz=row.1∧hY w p r0.length∧∃Lr,yM (B.env w φ) w p.block p.off p.sz r0 Lr∧Lf (f n)=p.block::Lr):=h6
      cases hq:φ (f n) with
      | dead=>rw [hq] at h6'; exact h6'.elim
      | nilp =>
       rw [hq] at h6'
       refine ⟨?_,h6'.2⟩
       rcases h5 with h5 | h5
       ·rw [←h5]; exact h6'.1
       ·rw [h6'.1] at h5; simpa [dE] using h5
      | «at» p =>
       rw [hq] at h6'
       obtain ⟨g1,g2,Lr,g3,g4⟩:=h6'
       have hlen:row.2.length=r0.length:=by
        rcases h5 with h5 | h5
        ·rw [h5]
        ·exact cR h5
       refine ⟨g1,by rw [hlen]; exact g2,Lr,?_,g4⟩
       refine uJ row.2 (hkA Lr) hbr (fun _ _=>rfl) ?_
       rcases h5 with h5 | h5
       ·rw [←h5]; exact g3
       ·exact qAa h5 g3
    nodup:=fun n hn'=>by
     by_cases he:n∈E
     ·rw [LE n he]; exact List.nodup_nil
     ·rw [Lo n he]; exact hl.ok.rh.nodup _ (oldn n hn' he)
    blk:=fun n hn' b hb'=>by
     by_cases he:n∈E
     ·rw [LE n he] at hb'; simp at hb'
     ·rw [Lo n he] at hb'; exact hl.ok.rh.blk _ (oldn n hn' he) b hb'
    dis:=fun n m hn' hm' hne b hb1 hb2=>by
     by_cases he:n∈E
     ·rw [LE n he] at hb1; simp at hb1
     ·by_cases hg:m∈E
      ·rw [LE m hg] at hb2; simp at hb2
      ·rw [Lo n he] at hb1
       rw [Lo m hg] at hb2
       exact hl.ok.rh.dis _ _ (oldn n hn' he) (oldn m hm' hg) (fun hf=>hne (inj n m hn' hm' hf)) b hb1 hb2
    dead:=fun n hn'=>φd n hn'}}
 ·intro n
  have key :∀(l:List (Nat×AV)),(∀x∈l,shp E (fun n=>n∉E∧qQ h' n≠none) f (wD t x.1) x.2)→RV (B.env w φ') (wD l n) (a.tmps.getD n undef) []:=by
   intro l
   induction l with
   | nil=>intro _; simp [wD,RV]
   | cons y l ih =>
    intro hy
    obtain ⟨m,v⟩:=y
    simp only [wD]
    split
    ·rename_i hnm
     subst hnm
     have h0:=hl.tm n
     rcases hy (n,v) (by simp) with h3 | ⟨k,h3,h4,h5⟩ | ⟨h3,h4⟩
     ·simp only at h3; subst h3; simp [RV]
     ·simp only at h3 h5; subst h3
      rw [h5] at h0
      simp only [RV] at h0
      have hφk:(B.env w φ').φ k=.nilp:=φE k (hE k h4).2 h4
      simp only [RV,hφk,true_and]
      exact ⟨none,h0.1⟩
     ·simp only at h3 h4
      rw [h3] at h0
      exact qL2 (hk []) (fun m hm=>φo m hm.2 hm.1) v h4 h0
    ·exact ih (fun x hx=>hy x (by simp [hx]))
  exact key t' ht
 ·intro n hn'
  obtain ⟨h3,h4⟩:=hl.φ0 n hn'
  refine ⟨h3,?_⟩
  cases hr:qQ h' n with
  | none=>exact .inr (φd n hr)
  | some row =>
   rcases (hh _ (mem n row hr)).2.2 with ⟨_,_,h5⟩ | ⟨h5,_,h6⟩
   ·simp only at h5; omega
   ·rw [φo n (by simp [hr]) h5,h6 h3]
    exact h4
def qKz (S:List (List Int)) (l:List Ins) (a:Nat):List Int:=vS (l.getD a default)++(yO l a).flatMap fun m=>(S.getD m.toNat []).filter fun r=>!decide (r∈uR (l.getD a default))
def dA (S:List (List Int)) (l:List Ins) (a:Nat):List Int:=cn (qKz S l a)
def sJ (S:List (List Int)):Nat:=(S.map List.length).sum
structure LvS (l:List Ins) (S:List (List Int)):Prop where
 len:S.length=l.length
 can :∀a,a<l.length→cn (S.getD a [])=S.getD a []
 sound :∀a r,a<l.length→r∈S.getD a []→qE2 l a r
 infl :∀a r,a<l.length→r∈S.getD a []→r∈dA S l a
theorem LvS.reg {l:List Ins} {S:List (List Int)} (h:LvS l S) {a:Nat} (ha:a<l.length) :∀r∈S.getD a [],0≤r∧r<4:=by
 rw [←h.can a ha]
 exact qXc
theorem nZ {S:List (List Int)} {l:List Ins} {a:Nat} {r:Int}:r∈qKz S l a↔r∈vS (l.getD a default)∨(r∉uR (l.getD a default)∧∃m∈yO l a,r∈S.getD m.toNat []):=by
 unfold qKz
 rw [List.mem_append,List.mem_flatMap]
 constructor
 ·rintro (h | ⟨m,h1,h2⟩)
  ·exact .inl h
  ·obtain ⟨h3,h4⟩:=List.mem_filter.1 h2
   exact .inr ⟨by simpa using h4,m,h1,h3⟩
 ·rintro (h | ⟨h1,m,h2,h3⟩)
  ·exact .inl h
  ·exact .inr ⟨m,h2,List.mem_filter.2 ⟨h3,by simpa using h1⟩⟩
theorem qIk {l:List Ins} (hb:wF l 3=true) {a:Nat} (ha:a<l.length) :∀r∈vS (l.getD a default),0≤r∧r<4:=by
 obtain ⟨h1,h2,h3⟩:=qCd hb ha
 intro r hr
 unfold vS at hr
 split at hr
 ·rcases List.mem_cons.1 hr with e | hr
  ·rw [e]; exact ⟨h2.1,by omega⟩
  ·rw [List.mem_singleton.1 hr]; exact ⟨h3.1,by omega⟩
 ·split at hr
  ·rw [List.mem_singleton.1 hr]; exact ⟨h2.1,by omega⟩
  ·simp at hr
theorem qE7 {l:List Ins} {S:List (List Int)} (h:LvS l S) (hb:wF l 3=true) {a:Nat} (ha:a<l.length) :∀r∈qKz S l a,0≤r∧r<4:=by
 intro r hr
 rcases nZ.1 hr with h1 | ⟨_,m,h2,h3⟩
 ·exact qIk hb ha r h1
 ·exact h.reg (zW hb ha m h2).2 r h3
theorem qId {l:List Ins} {S:List (List Int)} (h:LvS l S) (hb:wF l 3=true) {a:Nat} (ha:a<l.length) {r:Int}:r∈dA S l a↔r∈vS (l.getD a default)∨(r∉uR (l.getD a default)∧∃m∈yO l a,r∈S.getD m.toNat []):=by
 unfold dA
 rw [qGd (qE7 h hb ha),nZ]
theorem qG2 {n a:Nat}:(wBj n ([]:List Int)).getD a []=[]:=by
 rw [wBr,List.getElem?_replicate]
 split<;>rfl
theorem LvS.new (l:List Ins):LvS l (wBj l.length []) where
 len:=by simp
 can a _:=by rw [qG2]; rfl
 sound a r _ h:=by rw [qG2] at h; simp at h
 infl a r _ h:=by rw [qG2] at h; simp at h
theorem qU7 (S:List (List Int)) (i k:Nat) (x:List Int) (h:i<S.length):(S.set i x).getD k []=if k=i then x else S.getD k []:=by
 simp only [wBr,List.getElem?_set]
 by_cases e:i=k
 ·subst e
  simp [h]
 ·rw [if_neg e,if_neg (fun h=>e h.symm)]
theorem LvS.step_live {l:List Ins} {S:List (List Int)} (h:LvS l S) (hb:wF l 3=true) {a:Nat} (ha:a<l.length) {r:Int} (hr:r∈dA S l a):qE2 l a r:=by
 refine oN l a r ha ?_
 rcases (qId h hb ha).1 hr with h1 | ⟨h1,m,h2,h3⟩
 ·exact .inl h1
 ·exact .inr ⟨h1,m,h2,h.sound _ _ (zW hb ha m h2).2 h3⟩
theorem LvS.put {l:List Ins} {S:List (List Int)} (h:LvS l S) (hb:wF l 3=true) {a:Nat} (ha:a<l.length):LvS l (S.set a (dA S l a)):=by
 have hlen:=h.len
 have hg:=fun k=>qU7 S a k (dA S l a) (by omega)
 have hup :∀k r,k<l.length→r∈S.getD k []→r∈(S.set a (dA S l a)).getD k []:=by
  intro k r hk hr
  rw [hg]
  split
  ·rename_i e
   rw [e] at hr
   exact h.infl a r ha hr
  ·exact hr
 have hcan :∀k,k<l.length→cn ((S.set a (dA S l a)).getD k [])=(S.set a (dA S l a)).getD k []:=by
  intro k hk
  rw [hg]
  split
  ·exact wAt (qE7 h hb ha)
  ·exact h.can k hk
 have hmono :∀k r,k<l.length→r∈dA S l k→r∈dA (S.set a (dA S l a)) l k:=by
  intro k r hk hr
  unfold dA at hr⊢
  have hreg :∀r∈qKz (S.set a (cn (qKz S l a))) l k,0≤r∧r<4:=by
   intro r hr
   rcases nZ.1 hr with h1 | ⟨_,m,h2,h3⟩
   ·exact qIk hb hk r h1
   ·have hm:=(zW hb hk m h2).2
    have:=hcan m.toNat hm
    unfold dA at this
    rw [←this] at h3
    exact qXc r h3
  rw [qGd hreg,nZ]
  rw [qGd (qE7 h hb hk),nZ] at hr
  rcases hr with h1 | ⟨h1,m,h2,h3⟩
  ·exact .inl h1
  ·exact .inr ⟨h1,m,h2,hup _ _ (zW hb hk m h2).2 h3⟩
 refine ⟨by simpa using hlen,hcan,fun k r hk hr=>?_,fun k r hk hr=>?_⟩
 ·rw [hg] at hr
  split at hr
  ·rename_i e
   rw [e]
   exact h.step_live hb ha hr
  ·exact h.sound k r hk hr
 ·rw [hg] at hr
  split at hr
  ·rename_i e
   rw [e]
   exact hmono a r ha hr
  ·exact hmono k r hk (h.infl k r hk hr)
theorem qMh :∀(S:List (List Int)) (a:Nat) (x:List Int),a<S.length→sJ (S.set a x)+(S.getD a []).length=sJ S+x.length
 | [],a,x,h=>by simp at h
 | s::S,0,x,h=>by simp [sJ]; omega
 | s::S,a+1,x,h=>by
  have:=qMh S a x (by simpa using h)
  simp only [sJ,List.set_cons_succ,wBm,List.sum_cons,List.getD_cons_succ] at this⊢
  omega
theorem qMg :∀(S:List (List Int)),(∀s∈S,s.length≤4)→sJ S≤4*S.length
 | [],_=>by simp [sJ]
 | s::S,h=>by
  have h1:=qMg S (fun x hx=>h x (wCk _ hx))
  have h2:=h s (by simp)
  simp only [sJ,wBm,List.sum_cons,wBk] at h1⊢
  omega
theorem qZ7 {L M:List Int} (h :∀r∈cn L,r∈cn M) (hne:cn L≠cn M):(cn L).length<(cn M).length:=by
 unfold cn at *
 generalize ([0,1,2,3]:List Int)=U at *
 have key :∀(U:List Int),(∀r∈U.filter (fun r=>decide (r∈L)),r∈U.filter (fun r=>decide (r∈M)))→(U.filter (fun r=>decide (r∈L))).length≤(U.filter (fun r=>decide (r∈M))).length∧((U.filter (fun r=>decide (r∈L))).length=(U.filter (fun r=>decide (r∈M))).length→U.filter (fun r=>decide (r∈L))=U.filter (fun r=>decide (r∈M))):=by
  intro U
  induction U with
  | nil=>intro _; simp
  | cons u U ih =>
   intro hU
   have hu:u∈L→u∈M:=fun hu=>by
    have:=hU u (List.mem_filter.2 ⟨by simp,by simpa using hu⟩)
    simpa using (List.mem_filter.1 this).2
   have hr :∀r∈U.filter (fun r=>decide (r∈L)),r∈U.filter (fun r=>decide (r∈M)):=fun r hr=>by
    obtain ⟨h1,h2⟩:=List.mem_filter.1 hr
    have:=hU r (List.mem_filter.2 ⟨wCk _ h1,h2⟩)
    exact List.mem_filter.2 ⟨h1,(List.mem_filter.1 this).2⟩
   obtain ⟨i1,i2⟩:=ih hr
   by_cases h1:u∈L
   ·have h2:=hu h1
    simp only [wDt,decide_eq_true h1,decide_eq_true h2,if_true,wBk]
    exact ⟨by omega,fun e=>by rw [i2 (by omega)]⟩
   ·by_cases h2:u∈M
    ·simp only [wDt,decide_eq_false h1,decide_eq_true h2,if_true,wBl,if_false,wBk]
     exact ⟨by omega,fun e=>by omega⟩
    ·simp only [wDt,decide_eq_false h1,decide_eq_false h2,wBl,if_false]
     exact ⟨i1,i2⟩
 obtain ⟨k1,k2⟩:=key U h
 by_cases e:(U.filter (fun r=>decide (r∈L))).length=(U.filter (fun r=>decide (r∈M))).length
 ·exact absurd (k2 e) hne
 ·omega
theorem LvS.more {l:List Ins} {S:List (List Int)} (h:LvS l S) {a:Nat} (ha:a<l.length) (hne:dA S l a≠S.getD a []):sJ S<sJ (S.set a (dA S l a)):=by
 have h1:=qMh S a (dA S l a) (by have:=h.len; omega)
 have h2:(S.getD a []).length<(dA S l a).length:=by
  rw [←h.can a ha]
  refine qZ7 (fun r hr=>?_) (fun e=>hne ?_)
  ·rw [h.can a ha] at hr
   exact h.infl a r ha hr
  ·rw [←h.can a ha,e]
   rfl
 omega
theorem LvS.totS_le {l:List Ins} {S:List (List Int)} (h:LvS l S):sJ S≤4*l.length:=by
 rw [←h.len]
 refine qMg S fun s hs=>?_
 obtain ⟨i,hi,e⟩:=List.getElem_of_mem hs
 have hg:S.getD i []=s:=by simp [wBr,hi,e]
 rw [←hg,←h.can i (by have:=h.len; omega)]
 exact qLn _
theorem LvS.done {l:List Ins} {S:List (List Int)} (h:LvS l S) (hb:wF l 3=true) (hs :∀a,a<l.length→dA S l a=S.getD a []) {a:Nat} (ha:a<l.length) (r:Int):r∈S.getD a []↔qE2 l a r:=by
 refine ⟨h.sound a r ha,fun hl=>?_⟩
 have hc:qEh l (fun a r=>a<l.length→r∈S.getD a []):=by
  intro b q hb' hq _
  rw [←hs b hb',qId h hb hb']
  rcases hq with h1 | ⟨h1,m,h2,h3⟩
  ·exact .inl h1
  ·exact .inr ⟨h1,m,h2,h3 (zW hb hb' m h2).2⟩
 exact hl _ hc ha
noncomputable def dO (l:List Ins):List (List Int):=if wF l 3 then (List.range l.length).map fun a=>[0,1,2,3].filter fun r=>@decide (qE2 l a r) (Classical.propDecidable _) else []
theorem qW8 {l:List Ins} {S:List (List Int)} (hb:wF l 3=true) (h:LvS l S) (hs :∀a,a<l.length→dA S l a=S.getD a []):dO l=S:=by
 unfold dO
 rw [if_pos hb]
 have hlen:=h.len
 refine qO6 [] (by simp [hlen]) fun a ha=>?_
 have ha':a<l.length:=by simpa using ha
 rw [←h.can a ha']
 simp only [wBr,List.getElem?_map,List.getElem?_range ha',Option.map_some,Option.getD_some]
 unfold cn
 congr 1
 funext r
 have:=h.done hb hs ha' r
 rw [wBr] at this
 exact (decide_eq_decide.2 this).symm
def lvF (S:List (List Int)) (x:Ins) (m:Int):List Int:=(S.getD m.toNat []).filter fun r=>!decide (r∈uR x)
def qBn (S:List (List Int)) (l:List Ins) (a i:Nat):List Int:=vS (l.getD a default)++((yO l a).take i).flatMap (lvF S (l.getD a default))
theorem qVr (S:List (List Int)) (l:List Ins) (a:Nat):qBn S l a (yO l a).length=qKz S l a:=by
 unfold qBn qKz
 rw [wDo]
 rfl
theorem qIm (S:List (List Int)) (l:List Ins) (a:Nat) {i:Nat} (h:i<(yO l a).length):qBn S l a (i+1)=qBn S l a i++lvF S (l.getD a default) ((yO l a).getD i 0):=by
 unfold qBn
 rw [jX _ 0 i h,List.flatMap_append]
 simp
theorem qBm (x:Ins):(vS x).length≤2:=by
 unfold vS
 repeat' split
 all_goals simp
theorem qYn {S:List (List Int)} {l:List Ins} (h:LvS l S) (x:Ins) {m:Int} (hm:m.toNat<l.length):(lvF S x m).length≤4:=by
 unfold lvF
 refine Nat.le_trans (wDu _ _) ?_
 rw [←h.can _ hm]
 exact qLn _
theorem qMz {S:List (List Int)} {l:List Ins} (h:LvS l S) (hb:wF l 3=true) {a:Nat} (ha:a<l.length) :∀i,i≤(yO l a).length→(qBn S l a i).length≤2+4*i
 | 0,_=>by
  have:=qBm (l.getD a default)
  unfold qBn
  rw [List.take_zero,List.flatMap_nil,wCv]
  omega
 | i+1,hi=>by
  have h1:=qMz h hb ha i (by omega)
  have h2:=qYn h (l.getD a default) (zW hb ha _ (yB _ i 0 hi)).2
  rw [qIm S l a hi,List.length_append]
  omega
theorem qPw (n:Nat):dE (wBj n [AV.nil]) (jG .own (wBj n [])):=by
 induction n with
 | zero=>simp [jG,dE]
 | succ n ih =>
  simp only [List.replicate_succ,jG,wBm] at ih⊢
  exact (fN _ _ _ _).2 ⟨by simp [wJ,wK,wE],ih⟩
theorem qO5 {p:Int→Bool} (l:List Int) {i:Nat} (h:i<l.length):(l.take (i+1)).filter p=(l.take i).filter p++if p (l.getD i 0) then [l.getD i 0] else []:=by
 rw [jX _ 0 i h,List.filter_append]
 congr 1
 simp only [wDt,List.filter_nil]
theorem qHr (l:List Ins) (hl:l.length<2^40):qY Tryz.prog num 170 [.sl .bw 5 (yV l)] [] (.sl .own 1 (jG .own (dO l))):=by
 refine EN m170 Tryz.func53 ?_
 unfold m170
 simp only [go_sem,seval]
 repeat refine K ?_
 refine CA [] (kK l 3 (by omega) (by omega) (by omega)) ?_
 try simp only [go_sem,seval]
 repeat refine K ?_
 cases hb:wF l 3
 ·have hf:dO l=[]:=by simp [dO,hb]
  rw [hf]
  try simp only [go_sem,seval,hb]
  repeat refine K ?_
  refine ⟨_,Sub.refl _,qU ?_⟩; simp [-List.drop_one]
 obtain ⟨hl1,hl2⟩:=zS hb
 try simp only [go_sem,seval,hb]
 repeat refine K ?_
 refine qZ (ι:=List (List Int)×Bool) (fun q=>.mk [(0,.sl .bw 5 (yV l)),(3,.ns 10 0 l.length),(4,.bool q.2)] [(10,1,jG .own q.1)] 11) (fun q=>LvS l q.1∧(q.2=false→∀a,a<l.length→dA q.1 l a=q.1.getD a [])) (fun q=>4*l.length-sJ q.1+(if q.2 then 1 else 0)) (wBj l.length [],true) ⟨LvS.new l,fun h=>absurd h (by simp)⟩ ?_ ?_
 ·refine Sub.shape [] id (by omega) ?_ ?_ ?_ ?_<;>simp [qK]
  exact .inr (qPw _)
 ·rintro ⟨S0,more⟩ ⟨hS,hm⟩
  simp only at hS hm⊢
  cases more
  ·have e:=qW8 hb hS (hm rfl)
   have hlen:=hS.len
   rw [e]
   simp only [go_sem,seval]
   repeat refine K ?_
   refine ⟨_,Sub.refl _,qU ?_⟩; simp [-List.drop_one]
   exact ⟨by omega,fun h=>absurd hlen h⟩
  ·have wl:IntKind.i64.wrap ((l.length:Int)-1)=(l.length:Int)-1:=yL (by omega) (by omega)
   simp only [go_sem,seval,wl]
   repeat refine K ?_
   refine qZ (ι:=Nat×List (List Int)×Bool) (fun q=>.mk [(0,.sl .bw 5 (yV l)),(3,.ns 10 0 l.length),(4,.bool q.2.2),(5,.int .i64 ((q.1:Int)-1))] [(10,1,jG .own q.2.1)] 11) (fun q=>q.1≤l.length∧LvS l q.2.1∧sJ S0≤sJ q.2.1∧(q.2.2=false→q.2.1=S0∧∀a,q.1≤a→a<l.length→dA S0 l a=S0.getD a [])∧(q.2.2=true→sJ S0<sJ q.2.1)) (fun q=>q.1) (l.length,S0,false) ⟨Nat.le_refl _,hS,Nat.le_refl _,fun _=>⟨rfl,fun a h1 h2=>by simp only at h1; omega⟩,fun h=>absurd h (by simp)⟩ ?_ ?_
   ·refine Sub.shape [] id (by omega) ?_ ?_ ?_ ?_<;>simp [qK]
   ·rintro ⟨j,S1,mo⟩ ⟨hj,hS1,ht,hf,hmo⟩
    simp only at hj hS1 ht hf hmo⊢
    have hlen1:=hS1.len
    cases j with
    | zero =>
     simp only [go_sem,seval]
     repeat refine K ?_
     refine qM (S1,mo) ?_ ⟨hS1,fun h=>?_⟩ ?_
     ·refine Sub.shape [] id (by omega) ?_ ?_ ?_ ?_<;>simp [qK]
     ·obtain ⟨h1,h2⟩:=hf h
      simp only at h⊢
      rw [h1]
      exact fun a ha=>h2 a (by omega) ha
     ·have:=hS1.totS_le
      have:=hS.totS_le
      cases mo
      ·simp only [wBl,if_false,if_true]
       omega
      ·have:=hmo rfl
       simp only [if_true]
       omega
    | succ a =>
     have ha:a<l.length:=by omega
     have ja:(((a+1:Nat):Int)-1)=(a:Int):=by omega
     have hg:=jQ l a ha
     have h0a:(0:Int)≤(a:Int):=by omega
     have haL:(a:Int)<(l.length:Nat):=by omega
     have hnl:=eD l a
     have hni:=zW hb ha
     have hrl:=qMz hS1 hb ha
     simp only [go_sem,seval,ja,hg,h0a,haL]
     repeat refine K ?_
     refine CA [] (qLf (l.getD a default)) ?_
     try simp only [go_sem,seval]
     repeat refine K ?_
     try simp only [go_sem,seval]
     repeat refine K ?_
     refine CA [] (cD (vS (l.getD a default)) (by have:=qBm (l.getD a default); omega)) ?_
     try simp only [go_sem,seval]
     repeat refine K ?_
     try simp only [go_sem,seval]
     repeat refine K ?_
     refine CA [] (rX l a hb ha) ?_
     try simp only [go_sem,seval]
     repeat refine K ?_
     try simp only [go_sem,seval]
     repeat refine K ?_
     have hN0:=qVr S1 l a
     have hNn:=fun i hi=>@qIm S1 l a i hi
     have hR0:qBn S1 l a 0=vS (l.getD a default):=by simp [qBn]
     have hraw:dA S1 l a=cn (qKz S1 l a):=rfl
     have hrr:=qE7 hS1 hb ha
     rw [←hN0] at hraw hrr
     clear hN0
     generalize yO l a=N at *
     refine qZ (ι:=Nat) (fun i=>.mk [(0,.sl .bw 5 (yV l)),(3,.ns 10 0 l.length),(4,.bool mo),(5,.int .i64 a),(6,.ns 12 0 (qBn S1 l a i).length),(33,.ns 13 0 N.length),(34,.int .i64 N.length),(35,.int .i64 i)] [(10,1,jG .own S1),(12,1,wE (qBn S1 l a i)),(13,1,wE N)] 14) (fun i=>i≤N.length) (fun i=>N.length-i) 0 (by simp) ?_ ?_
     ·rw [hR0]
      refine Sub.shape [] id (by omega) ?_ ?_ ?_ ?_<;>simp [qK]
     ·intro i hi
      have hril:=hrl i hi
      simp only [go_sem,seval]
      refine qP (fun hc=>?_) (fun hc=>?_)
      ·simp only [decide_eq_true_eq] at hc
       have hiN:i<N.length:=by omega
       have gN:=qI N i hiN
       obtain ⟨m0,m1⟩:=hni _ (yB N i 0 hiN)
       have hnx:=hNn i hiN
       have m2:N.getD i 0<(l.length:Nat):=by omega
       generalize N.getD i 0=m at gN m0 m1 m2 hnx
       have gS:=mK .own S1 m.toNat (by omega)
       have gSs :∀r,((jG .own S1).set m.toNat r).getD m.toNat []=r:=fun r=>jR _ _ _ _ (by rw [uE]; omega)
       have hSm:(jG .own S1).set m.toNat [.sl .own 1 (wE (S1.getD m.toNat []))]=jG .own S1:=by rw [←gS]; exact jP _ _ _ (by rw [uE]; omega)
       have hlv:lvF S1 (l.getD a default) m=(S1.getD m.toNat []).filter fun r=>!decide (r∈uR (l.getD a default)):=rfl
       rw [hlv] at hnx
       have h4:(S1.getD m.toNat []).length≤4:=by rw [←hS1.can _ m1]; exact qLn _
       generalize S1.getD m.toNat []=Rm at *
       generalize qBn S1 l a i=raw at *
       have hbs :∀A:Nat→Prop,A 14→yW A ((jG .own S1).set m.toNat [.ns 14 0 Rm.length]):=fun A hA=>qGv ((vM A _ _).2 trivial) _ (by simp [jK,bnd,hA])
       simp only [go_sem,seval,gN,gS,gSs,m0,m1,m2]
       repeat refine K ?_
       refine qZ (ι:=Nat) (fun j=>.mk [(0,.sl .bw 5 (yV l)),(3,.ns 10 0 l.length),(4,.bool mo),(5,.int .i64 a),(6,.ns 12 0 (raw++(Rm.take j).filter fun r=>!decide (r∈uR (l.getD a default))).length),(33,.ns 13 0 N.length),(34,.int .i64 N.length),(35,.int .i64 i),(42,.ns 14 0 Rm.length),(43,.int .i64 Rm.length),(44,.int .i64 j)] [(10,1,(jG .own S1).set m.toNat [.ns 14 0 Rm.length]),(12,1,wE (raw++(Rm.take j).filter fun r=>!decide (r∈uR (l.getD a default)))),(13,1,wE N),(14,1,wE Rm)] 15) (fun j=>j≤Rm.length) (fun j=>Rm.length-j) 0 (by simp) ?_ ?_
       ·refine Sub.shapeN [] id (by omega) ?_ ?_ ?_ ?_<;>simp [qK,hbs]
       ·intro j hj
        have hfl:((Rm.take j).filter fun r=>!decide (r∈uR (l.getD a default))).length≤j:=Nat.le_trans (wDu _ _) (by rw [List.length_take]; omega)
        simp only [go_sem,seval]
        refine qP (fun hc2=>?_) (fun hc2=>?_)
        ·simp only [decide_eq_true_eq] at hc2
         have hjR:j<Rm.length:=by omega
         have gR:=qI Rm j hjR
         have hfs:=qO5 (p:=fun r=>!decide (r∈uR (l.getD a default))) Rm hjR
         generalize Rm.getD j 0=r at gR hfs
         simp only [go_sem,seval,gR,hg,h0a,haL]
         repeat refine K ?_
         refine CA [] (qO3 (l.getD a default)) ?_
         try simp only [go_sem,seval]
         repeat refine K ?_
         try simp only [go_sem,seval]
         repeat refine K ?_
         refine CA [] (qCp (uR (l.getD a default)) r (by have:=qMr (l.getD a default); omega)) ?_
         try simp only [go_sem,seval]
         repeat refine K ?_
         by_cases hrs:r∈uR (l.getD a default)
         ·have d1:decide (r∈uR (l.getD a default))=true:=decide_eq_true hrs
          simp only [d1,Bool.not_true,wBl,if_false,wCv] at hfs
          try simp only [go_sem,seval,d1,qN (i:=j) (by omega)]
          repeat refine K ?_
          refine qM (j+1) ?_ hjR (by omega)
          simp only [hfs]
          refine Sub.shapeN [] id (by omega) ?_ ?_ ?_ ?_<;>simp [qK,hbs]
         ·have d1:decide (r∈uR (l.getD a default))=false:=decide_eq_false hrs
          simp only [d1,Bool.not_false,if_true] at hfs
          try simp only [go_sem,seval,d1,qN (i:=j) (by omega)]
          repeat refine K ?_
          refine qM (j+1) ?_ hjR (by omega)
          simp only [hfs]
          refine Sub.shapeN [] (fun n=>if n=12 then 17 else n) (by omega) ?_ ?_ ?_ ?_<;>simp [qK,hbs]
          all_goals first | omega | exact .inl (by simp [wE])
        ·simp only [decide_eq_false_iff_not] at hc2
         have hjR:j=Rm.length:=by omega
         subst hjR
         rw [wDo] at *
         simp only [go_sem,seval,qN (i:=i) (by omega)]
         repeat refine K ?_
         refine qM (i+1) ?_ hiN (by omega)
         rw [hnx]
         refine Sub.trans (Sub.foldAt 10 0 14 rfl (by simp [-gD]<;>omega) rfl (by decide) (by decide) rfl (by simp<;>omega)) ?_
         simp only [fS,fS3,qA,qC,hSm]
         refine Sub.shape [] id (by omega) ?_ ?_ ?_ ?_<;>simp [qK]
      ·simp only [decide_eq_false_iff_not] at hc
       have hiN:i=N.length:=by omega
       subst hiN
       generalize qBn S1 l a N.length=raw at *
       have hus:=qV8 hrr
       have hsl:=qRp raw
       simp only [go_sem,seval]
       repeat refine K ?_
       refine CA [(0,12)] (qMp raw (by omega)) ?_
       try simp only [go_sem,seval]
       repeat refine K ?_
       try simp only [go_sem,seval]
       repeat refine K ?_
       rw [←hsl]
       refine CA [(0,12)] (qD8 (srt raw) (by omega)) ?_
       try simp only [go_sem,seval]
       repeat refine K ?_
       rw [hus,←hraw]
       have gSa:=mK .own S1 a (by omega)
       have gSas :∀r,((jG .own S1).set a r).getD a []=r:=fun r=>jR _ _ _ _ (by rw [uE]; omega)
       have hSa:(jG .own S1).set a [.sl .own 1 (wE (S1.getD a []))]=jG .own S1:=by rw [←gSa]; exact jP _ _ _ (by rw [uE]; omega)
       have hul:(dA S1 l a).length≤4:=qLn _
       have wa:IntKind.i64.wrap ((a:Int)-1)=(a:Int)-1:=yL (by omega) (by omega)
       have haS:a<S1.length:=by omega
       try simp only [go_sem,seval,gSa,gSas,haS]
       repeat refine K ?_
       refine CA [] (qEz (dA S1 l a) (S1.getD a []) (by omega)) ?_
       try simp only [go_sem,seval]
       repeat refine K ?_
       by_cases hU:dA S1 l a=S1.getD a []
       ·have d1:decide (dA S1 l a=S1.getD a [])=true:=decide_eq_true hU
        try simp only [go_sem,seval,d1,wa]
        repeat refine K ?_
        refine qM (a,S1,mo) ?_ ⟨by simp only; omega,hS1,ht,fun h=>⟨(hf h).1,fun b hb1 hb2=>?_⟩,hmo⟩ (by simp only; omega)
        ·refine Sub.trans (Sub.foldAt 10 0 15 rfl (by simp [-gD]<;>omega) rfl (by decide) (by decide) rfl (by simp<;>omega)) ?_
         simp only [fS,fS3,qA,qC,hSa]
         refine Sub.shape [] id (by omega) ?_ ?_ ?_ ?_<;>simp [qK]
        ·by_cases hba:b=a
         ·rw [hba,←(hf h).1]
          exact hU
         ·exact (hf h).2 b (by simp only at hb1; omega) hb2
       ·have d1:decide (dA S1 l a=S1.getD a [])=false:=decide_eq_false hU
        have hmr:=hS1.more ha hU
        have hput:=hS1.put hb ha
        generalize dA S1 l a=U at *
        try simp only [go_sem,seval,d1,wa,gSa,gSas,haS]
        repeat refine K ?_
        refine qM (a,S1.set a U,true) ?_ ⟨by simp only; omega,hput,by simp only; omega,fun h=>absurd h (by simp),fun _=>by simp only; omega⟩ (by simp only; omega)
        refine Sub.trans (Sub.foldAt 10 0 14 rfl (by simp [-gD]<;>omega) rfl (by decide) (by decide) rfl (by simp<;>omega)) ?_
        simp only [fS,fS3,qA,qC,qJ3]
        refine Sub.shape [] id (by omega) ?_ ?_ ?_ ?_<;>simp [qK]
end Go.Sep
