/- Contracts of functions. -/
import Derived.Test.YtfecojefbnnknaaLxx20
open Bool renaming false_eq_true → qZq
open List renaming append_nil → wB0, filter_cons → wC0, getD_eq_getElem?_getD → qZw, length_cons → qZp, length_filter_le → wC1, map_cons → qZr, mem_cons_of_mem → wAp, replicate → qZo, take_length → wBv
namespace Go.Sep
set_option maxHeartbeats 16000000
open Go.Proofs
set_option linter.unusedSimpArgs false
set_option linter.unusedVariables false
set_option maxRecDepth 100000
open Nat renaming reduceAdd → qA, reduceMul → qB, reduceEqDiff → qC, reduceBEq → qD
open Int renaming reduceToNat → qE, reduceEq → qF, reduceLT → qG, reduceLE → qH
open List renaming getD_eq_getElem?_getD → gD
def m170:MFn:=⟨78,[.t 2],kr [xo 2 (.mv (.c (.nil)))] (.seq (kr [xv 11 0,xc2 12 67 (.t 11) (xi 3),xN 13 12] (kF 13 [xo 2 (.mv (.c (.nil)))])) (kr [xv 14 0,xe 15 14,xo 16 (.mkS [.nil] 24 (.t 15) (.t 15)),xv 3 16] (.seq (kr [xT 4] (.blk 0 (.loop (.seq (kr [xv 17 4] (kX 17 0)) (.blk 1 (kr [xF 4] (kr [xv 18 0,xe 19 18,bI 20 .sub 19 1,xv 5 20] (.blk 2 (.loop (.seq (kr [xv 21 5,bI 22 .geq 21 0] (kX 22 2)) (.seq (.blk 3 (kr [xv 25 0,xv 26 5,xD 27 5 25 26,xm 28 5 27,xc1 29 215 (.t 28),xc1 30 36 (.t 29),xv 6 30] (.seq (kr [xv 31 0,xv 32 5,xc2 33 216 (.t 31) (.t 32),xe 34 33,xI 35 0] (.blk 4 (.loop (kr [bT 36 .lss 35 34] (.seq (kX 36 4) (.seq (.blk 5 (kr [xD 37 1 33 35,xl 38 37,xv 8 38] (kr [xv 39 3,xv 40 8,xD 41 1 39 40,xl 42 41,xe 43 42,xI 44 0] (.blk 6 (.loop (kr [bT 45 .lss 44 43] (.seq (kX 45 6) (.seq (.blk 7 (kr [xD 46 1 42 44,xl 47 46,xv 10 47] (kr [xv 48 0,xv 49 5,xD 50 5 48 49,xm 51 5 50,xc1 52 217 (.t 51),xv 53 10,xc2 54 218 (.t 52) (.t 53),xN 55 54] (.cond 55 (xr [xv 56 6,xv 57 10,xo 58 (.mkSl [xz] 1 [(0,.t 57)]),xA 59 1 8 56 58,xv 6 59]) (.skip))))) (xr [bI 60 .add 44 1,xv 44 60]))))))))) (xr [bI 61 .add 35 1,xv 35 61]))))))) (kr [xv 62 6,xo 63 (.call 219 [true] [.t 62])] (kr [xv 64 6,xo 65 (.call 220 [true] [.t 64]),xv 6 65] (kr [xv 66 6,xv 67 3,xv 68 5,xD 69 1 67 68,xl 70 69,xc2 71 34 (.t 66) (.t 70),xN 72 71] (.cond 72 (kr [xv 73 3,xv 74 5,xv 75 6,xD 76 1 73 74,xS 1 76 75] (xr [xT 4])) (.skip)))))))) (xr [xv 23 5,bI 24 .sub 23 1,xv 5 24])))))))))))) (kR [xv 77 3,xv 2 77]))))⟩
theorem Sub.shapeN (E:List Nat) (f:Nat→Nat) {t t':List (Nat×AV)} {h h':wT} {nx nx':Nat} (hn:10≤nx')
  (hh :∀x∈h',yQ (fun n=>f n=n∧n∉E∧qN h' n≠none) x.2.2∧x.1<nx'∧((x.1∈E∧x.2.2=[]∧10≤x.1)∨(x.1∉E∧(∃r0,qN h (f x.1)=some (x.2.1,r0)∧(r0=x.2.2∨gZ r0 x.2.2))∧(x.1<10→f x.1=x.1))))
  (hi:(h'.map (fun x=>f x.1)).Nodup) (hE :∀k∈E,k<nx'∧qN h' k≠none)
  (ht :∀x∈t',shp E (fun n=>n∉E∧qN h' n≠none) f (wB t x.1) x.2):Sub (.mk t h nx) (.mk t' h' nx'):=by
 rintro B a w ⟨h1,h2,hb,hbt,φ,Lf,hl⟩
 have mem :∀n r,qN h' n=some r→(n,r)∈h':=fun n r hr=>qLs hr
 have inj :∀n m,qN h' n≠none→qN h' m≠none→f n=f m→n=m:=by
  intro n m hn' hm' he
  cases hln:qN h' n with
  | none=>exact absurd hln hn'
  | some r =>
   cases hlm:qN h' m with
   | none=>exact absurd hlm hm'
   | some q =>
    have a1:=mem n r hln
    have a2:=mem m q hlm
    have key :∀(l:wT),(l.map (fun x=>f x.1)).Nodup→(n,r)∈l→(m,q)∈l→n=m:=by
     intro l
     induction l with
     | nil=>intro _ h; simp at h
     | cons y l ih =>
      intro hnd p1 p2
      simp only [qZr,List.nodup_cons] at hnd
      rcases List.mem_cons.1 p1 with h3 | p3<;>rcases List.mem_cons.1 p2 with h4 | p4
      ·exact (congrArg Prod.fst h3).trans (congrArg Prod.fst h4).symm
      ·refine absurd (List.mem_map.2 ⟨(m,q),p4,?_⟩) hnd.1
       rw [←h3]; exact he.symm
      ·refine absurd (List.mem_map.2 ⟨(n,r),p3,?_⟩) hnd.1
       rw [←h4]; exact he
      ·exact ih hnd.2 p3 p4
    exact key h' hi a1 a2
 classical
 let φ':Nat→vA:=fun n=>if qN h' n=none then .dead else if n∈E then .nilp else φ (f n)
 let Lf':Nat→List Nat:=fun n=>if n∈E then [] else Lf (f n)
 have φd :∀n,qN h' n=none→φ' n=.dead:=fun n hn'=>by show (if qN h' n=none then vA.dead else _)=_; rw [if_pos hn']
 have φE :∀n,qN h' n≠none→n∈E→φ' n=.nilp:=fun n hn' he=>by show (if qN h' n=none then vA.dead else if n∈E then vA.nilp else φ (f n))=_; rw [if_neg hn',if_pos he]
 have φo :∀n,qN h' n≠none→n∉E→φ' n=φ (f n):=fun n hn' he=>by show (if qN h' n=none then vA.dead else if n∈E then vA.nilp else φ (f n))=_; rw [if_neg hn',if_neg he]
 have LE :∀n,n∈E→Lf' n=[]:=fun n he=>by show (if n∈E then [] else Lf (f n))=_; rw [if_pos he]
 have Lo :∀n,n∉E→Lf' n=Lf (f n):=fun n he=>by show (if n∈E then [] else Lf (f n))=_; rw [if_neg he]
 have old :∀n row,qN h' n=some row→n∉E→∃r0,qN h (f n)=some (row.1,r0)∧(r0=row.2∨gZ r0 row.2):=by
  intro n row hr he
  rcases (hh _ (mem n row hr)).2.2 with ⟨h3,_⟩ | ⟨_,h3,_⟩
  ·exact absurd h3 he
  ·exact h3
 have oldn :∀n,qN h' n≠none→n∉E→qN h (f n)≠none:=by
  intro n hn' he
  cases hr:qN h' n with
  | none=>exact absurd hr hn'
  | some row =>
   obtain ⟨r0,h3,_⟩:=old n row hr he
   simp [h3]
 have hkA :∀L:List Nat,dD (B.env w φ) (B.env w φ') (fun n=>f n=n∧n∉E∧qN h' n≠none) L:=fun L=>{num:=rfl,fr:=fun m b hb'=>by cases m<;>exact hb',cells:=fun b _ o=>rfl,φ:=fun n hn'=>.inl ((φo n hn'.2.2 hn'.2.1).trans (congrArg φ hn'.1)),own:=fun b _=>rfl}
 have hk :∀L:List Nat,dD (B.env w φ) (B.env w φ') (fun _=>False) L:=fun L=>{num:=rfl,fr:=fun m b hb'=>by cases m<;>exact hb',cells:=fun b _ o=>rfl,φ:=fun n hn'=>hn'.elim,own:=fun b _=>rfl}
 refine ⟨h1,h2,?_,?_,φ',Lf',?_,?_,?_,hn⟩
 ·intro n row hr
  have:=hh _ (mem n row hr)
  exact ⟨this.2.1,uR (fun k hk=>by cases hr:qN h' k with | none=>exact absurd hr hk.2.2 | some row=>exact (hh _ (mem k row hr)).2.1) _ this.1⟩
 ·intro n
  have key :∀(l:List (Nat×AV)),(∀x∈l,shp E (fun n=>n∉E∧qN h' n≠none) f (wB t x.1) x.2)→bnd (· < nx') (wB l n):=by
   intro l
   induction l with
   | nil=>intro _; trivial
   | cons y l ih =>
    intro hy
    obtain ⟨m,v⟩:=y
    simp only [wB]
    split
    ·rcases hy (m,v) (by simp) with h3 | ⟨k,h3,h4,_⟩ | ⟨_,h4⟩
     ·simp only at h3; subst h3; trivial
     ·simp only at h3; subst h3; exact (hE k h4).1
     ·refine qJf (fun n hn'=>?_) v h4
      cases hr:qN h' n with
      | none=>exact absurd hr hn'.2
      | some row=>exact (hh _ (mem n row hr)).2.1
    ·exact ih (fun x hx=>hy x (by simp [hx]))
  exact key t' ht
 ·exact {
   size0:=hl.ok.size0
   io0:=hl.ok.io0
   fr:=hl.ok.fr
   keep0:=hl.ok.keep0
   own0:=fun n hn' b hb'=>by
    by_cases he:n∈E
    ·rw [LE n he] at hb'; simp at hb'
    ·rw [Lo n he] at hb'
     exact hl.ok.own0 (f n) (oldn n hn' he) b hb'
   rh:={
    row:=fun n row hr=>by
     have hne:qN h' n≠none:=by simp [hr]
     unfold uT gF
     by_cases he:n∈E
     ·have h3:(B.env w φ').φ n=.nilp:=φE n hne he
      rw [h3,LE n he]
      rcases (hh _ (mem n row hr)).2.2 with ⟨_,h4,_⟩ | ⟨h4,_⟩
      ·exact ⟨h4,rfl⟩
      ·exact absurd he h4
     ·have h3:(B.env w φ').φ n=φ (f n):=φo n hne he
      rw [h3,Lo n he]
      obtain ⟨r0,h4,h5⟩:=old n row hr he
      have h6:=hl.ok.rh.row (f n) _ h4
      have hbr:=(hh _ (mem n row hr)).1
      have h6':(match φ (f n) with | .dead=>False | .nilp=>r0=[]∧Lf (f n)=[] | .at p=>p.sz=row.1∧fF w p r0.length∧∃Lr,yK (B.env w φ) w p.block p.off p.sz r0 Lr∧Lf (f n)=p.block::Lr):=h6
      cases hq:φ (f n) with
      | dead=>rw [hq] at h6'; exact h6'.elim
      | nilp =>
       rw [hq] at h6'
       refine ⟨?_,h6'.2⟩
       rcases h5 with h5 | h5
       ·rw [←h5]; exact h6'.1
       ·rw [h6'.1] at h5; simpa [gZ] using h5
      | «at» p =>
       rw [hq] at h6'
       obtain ⟨g1,g2,Lr,g3,g4⟩:=h6'
       have hlen:row.2.length=r0.length:=by
        rcases h5 with h5 | h5
        ·rw [h5]
        ·exact eZ h5
       refine ⟨g1,by rw [hlen]; exact g2,Lr,?_,g4⟩
       refine uD row.2 (hkA Lr) hbr (fun _ _=>rfl) ?_
       rcases h5 with h5 | h5
       ·rw [←h5]; exact g3
       ·exact sN h5 g3
    nodup:=fun n hn'=>by
     by_cases he:n∈E
     ·rw [LE n he]; exact List.nodup_nil
     ·rw [Lo n he]; exact hl.ok.rh.nodup _ (oldn n hn' he)
    blk:=fun n hn' b hb'=>by
     by_cases he:n∈E
     ·rw [LE n he] at hb'; simp at hb'
     ·rw [Lo n he] at hb'; exact hl.ok.rh.blk _ (oldn n hn' he) b hb'
    dis:=fun n m hn' hm' hne b hb1 hb2=>by
     by_cases he:n∈E
     ·rw [LE n he] at hb1; simp at hb1
     ·by_cases hg:m∈E
      ·rw [LE m hg] at hb2; simp at hb2
      ·rw [Lo n he] at hb1
       rw [Lo m hg] at hb2
       exact hl.ok.rh.dis _ _ (oldn n hn' he) (oldn m hm' hg) (fun hf=>hne (inj n m hn' hm' hf)) b hb1 hb2
    dead:=fun n hn'=>φd n hn'}}
 ·intro n
  have key :∀(l:List (Nat×AV)),(∀x∈l,shp E (fun n=>n∉E∧qN h' n≠none) f (wB t x.1) x.2)→RV (B.env w φ') (wB l n) (a.tmps.getD n undef) []:=by
   intro l
   induction l with
   | nil=>intro _; simp [wB,RV]
   | cons y l ih =>
    intro hy
    obtain ⟨m,v⟩:=y
    simp only [wB]
    split
    ·rename_i hnm
     subst hnm
     have h0:=hl.tm n
     rcases hy (n,v) (by simp) with h3 | ⟨k,h3,h4,h5⟩ | ⟨h3,h4⟩
     ·simp only at h3; subst h3; simp [RV]
     ·simp only at h3 h5; subst h3
      rw [h5] at h0
      simp only [RV] at h0
      have hφk:(B.env w φ').φ k=.nilp:=φE k (hE k h4).2 h4
      simp only [RV,hφk,true_and]
      exact ⟨none,h0.1⟩
     ·simp only at h3 h4
      rw [h3] at h0
      exact qJe (hk []) (fun m hm=>φo m hm.2 hm.1) v h4 h0
    ·exact ih (fun x hx=>hy x (by simp [hx]))
  exact key t' ht
 ·intro n hn'
  obtain ⟨h3,h4⟩:=hl.φ0 n hn'
  refine ⟨h3,?_⟩
  cases hr:qN h' n with
  | none=>exact .inr (φd n hr)
  | some row =>
   rcases (hh _ (mem n row hr)).2.2 with ⟨_,_,h5⟩ | ⟨h5,_,h6⟩
   ·simp only at h5; omega
   ·rw [φo n (by simp [hr]) h5,h6 h3]
    exact h4
def qJb (S:List (List Int)) (l:List Ins) (a:Nat):List Int:=vO (l.getD a default)++(jA l a).flatMap fun m=>(S.getD m.toNat []).filter fun r=>!decide (r∈uM (l.getD a default))
def gV (S:List (List Int)) (l:List Ins) (a:Nat):List Int:=cn (qJb S l a)
def pR (S:List (List Int)):Nat:=(S.map List.length).sum
structure LvS (l:List Ins) (S:List (List Int)):Prop where
 len:S.length=l.length
 can :∀a,a<l.length→cn (S.getD a [])=S.getD a []
 sound :∀a r,a<l.length→r∈S.getD a []→qCy l a r
 infl :∀a r,a<l.length→r∈S.getD a []→r∈gV S l a
theorem LvS.reg {l:List Ins} {S:List (List Int)} (h:LvS l S) {a:Nat} (ha:a<l.length) :∀r∈S.getD a [],0≤r∧r<4:=by
 rw [←h.can a ha]
 exact qVg
theorem mK {S:List (List Int)} {l:List Ins} {a:Nat} {r:Int}:r∈qJb S l a↔r∈vO (l.getD a default)∨(r∉uM (l.getD a default)∧∃m∈jA l a,r∈S.getD m.toNat []):=by
 unfold qJb
 rw [List.mem_append,List.mem_flatMap]
 constructor
 ·rintro (h | ⟨m,h1,h2⟩)
  ·exact .inl h
  ·obtain ⟨h3,h4⟩:=List.mem_filter.1 h2
   exact .inr ⟨by simpa using h4,m,h1,h3⟩
 ·rintro (h | ⟨h1,m,h2,h3⟩)
  ·exact .inl h
  ·exact .inr ⟨m,h2,List.mem_filter.2 ⟨h3,by simpa using h1⟩⟩
theorem qH7 {l:List Ins} (hb:wJ l 3=true) {a:Nat} (ha:a<l.length) :∀r∈vO (l.getD a default),0≤r∧r<4:=by
 obtain ⟨h1,h2,h3⟩:=qIa hb ha
 intro r hr
 unfold vO at hr
 split at hr
 ·rcases List.mem_cons.1 hr with e | hr
  ·rw [e]; exact ⟨h2.1,by omega⟩
  ·rw [List.mem_singleton.1 hr]; exact ⟨h3.1,by omega⟩
 ·split at hr
  ·rw [List.mem_singleton.1 hr]; exact ⟨h2.1,by omega⟩
  ·simp at hr
theorem qD3 {l:List Ins} {S:List (List Int)} (h:LvS l S) (hb:wJ l 3=true) {a:Nat} (ha:a<l.length) :∀r∈qJb S l a,0≤r∧r<4:=by
 intro r hr
 rcases mK.1 hr with h1 | ⟨_,m,h2,h3⟩
 ·exact qH7 hb ha r h1
 ·exact h.reg (aH hb ha m h2).2 r h3
theorem qH1 {l:List Ins} {S:List (List Int)} (h:LvS l S) (hb:wJ l 3=true) {a:Nat} (ha:a<l.length) {r:Int}:r∈gV S l a↔r∈vO (l.getD a default)∨(r∉uM (l.getD a default)∧∃m∈jA l a,r∈S.getD m.toNat []):=by
 unfold gV
 rw [qF7 (qD3 h hb ha),mK]
theorem qEw {n a:Nat}:(qZo n ([]:List Int)).getD a []=[]:=by
 rw [qZw,List.getElem?_replicate]
 split<;>rfl
theorem LvS.new (l:List Ins):LvS l (qZo l.length []) where
 len:=by simp
 can a _:=by rw [qEw]; rfl
 sound a r _ h:=by rw [qEw] at h; simp at h
 infl a r _ h:=by rw [qEw] at h; simp at h
theorem qS9 (S:List (List Int)) (i k:Nat) (x:List Int) (h:i<S.length):(S.set i x).getD k []=if k=i then x else S.getD k []:=by
 simp only [qZw,List.getElem?_set]
 by_cases e:i=k
 ·subst e
  simp [h]
 ·rw [if_neg e,if_neg (fun h=>e h.symm)]
theorem LvS.step_live {l:List Ins} {S:List (List Int)} (h:LvS l S) (hb:wJ l 3=true) {a:Nat} (ha:a<l.length) {r:Int} (hr:r∈gV S l a):qCy l a r:=by
 refine nB l a r ha ?_
 rcases (qH1 h hb ha).1 hr with h1 | ⟨h1,m,h2,h3⟩
 ·exact .inl h1
 ·exact .inr ⟨h1,m,h2,h.sound _ _ (aH hb ha m h2).2 h3⟩
theorem LvS.put {l:List Ins} {S:List (List Int)} (h:LvS l S) (hb:wJ l 3=true) {a:Nat} (ha:a<l.length):LvS l (S.set a (gV S l a)):=by
 have hlen:=h.len
 have hg:=fun k=>qS9 S a k (gV S l a) (by omega)
 have hup :∀k r,k<l.length→r∈S.getD k []→r∈(S.set a (gV S l a)).getD k []:=by
  intro k r hk hr
  rw [hg]
  split
  ·rename_i e
   rw [e] at hr
   exact h.infl a r ha hr
  ·exact hr
 have hcan :∀k,k<l.length→cn ((S.set a (gV S l a)).getD k [])=(S.set a (gV S l a)).getD k []:=by
  intro k hk
  rw [hg]
  split
  ·exact qYx (qD3 h hb ha)
  ·exact h.can k hk
 have hmono :∀k r,k<l.length→r∈gV S l k→r∈gV (S.set a (gV S l a)) l k:=by
  intro k r hk hr
  unfold gV at hr⊢
  have hreg :∀r∈qJb (S.set a (cn (qJb S l a))) l k,0≤r∧r<4:=by
   intro r hr
   rcases mK.1 hr with h1 | ⟨_,m,h2,h3⟩
   ·exact qH7 hb hk r h1
   ·have hm:=(aH hb hk m h2).2
    have:=hcan m.toNat hm
    unfold gV at this
    rw [←this] at h3
    exact qVg r h3
  rw [qF7 hreg,mK]
  rw [qF7 (qD3 h hb hk),mK] at hr
  rcases hr with h1 | ⟨h1,m,h2,h3⟩
  ·exact .inl h1
  ·exact .inr ⟨h1,m,h2,hup _ _ (aH hb hk m h2).2 h3⟩
 refine ⟨by simpa using hlen,hcan,fun k r hk hr=>?_,fun k r hk hr=>?_⟩
 ·rw [hg] at hr
  split at hr
  ·rename_i e
   rw [e]
   exact h.step_live hb ha hr
  ·exact h.sound k r hk hr
 ·rw [hg] at hr
  split at hr
  ·rename_i e
   rw [e]
   exact hmono a r ha hr
  ·exact hmono k r hk (h.infl k r hk hr)
theorem qKt :∀(S:List (List Int)) (a:Nat) (x:List Int),a<S.length→pR (S.set a x)+(S.getD a []).length=pR S+x.length
 | [],a,x,h=>by simp at h
 | s::S,0,x,h=>by simp [pR]; omega
 | s::S,a+1,x,h=>by
  have:=qKt S a x (by simpa using h)
  simp only [pR,List.set_cons_succ,qZr,List.sum_cons,List.getD_cons_succ] at this⊢
  omega
theorem qKs :∀(S:List (List Int)),(∀s∈S,s.length≤4)→pR S≤4*S.length
 | [],_=>by simp [pR]
 | s::S,h=>by
  have h1:=qKs S (fun x hx=>h x (wAp _ hx))
  have h2:=h s (by simp)
  simp only [pR,qZr,List.sum_cons,qZp] at h1⊢
  omega
theorem qXc {L M:List Int} (h :∀r∈cn L,r∈cn M) (hne:cn L≠cn M):(cn L).length<(cn M).length:=by
 unfold cn at *
 generalize ([0,1,2,3]:List Int)=U at *
 have key :∀(U:List Int),(∀r∈U.filter (fun r=>decide (r∈L)),r∈U.filter (fun r=>decide (r∈M)))→(U.filter (fun r=>decide (r∈L))).length≤(U.filter (fun r=>decide (r∈M))).length∧((U.filter (fun r=>decide (r∈L))).length=(U.filter (fun r=>decide (r∈M))).length→U.filter (fun r=>decide (r∈L))=U.filter (fun r=>decide (r∈M))):=by
  intro U
  induction U with
  | nil=>intro _; simp
  | cons u U ih =>
   intro hU
   have hu:u∈L→u∈M:=fun hu=>by
    have:=hU u (List.mem_filter.2 ⟨by simp,by simpa using hu⟩)
    simpa using (List.mem_filter.1 this).2
   have hr :∀r∈U.filter (fun r=>decide (r∈L)),r∈U.filter (fun r=>decide (r∈M)):=fun r hr=>by
    obtain ⟨h1,h2⟩:=List.mem_filter.1 hr
    have:=hU r (List.mem_filter.2 ⟨wAp _ h1,h2⟩)
    exact List.mem_filter.2 ⟨h1,(List.mem_filter.1 this).2⟩
   obtain ⟨i1,i2⟩:=ih hr
   by_cases h1:u∈L
   ·have h2:=hu h1
    simp only [wC0,decide_eq_true h1,decide_eq_true h2,if_true,qZp]
    exact ⟨by omega,fun e=>by rw [i2 (by omega)]⟩
   ·by_cases h2:u∈M
    ·simp only [wC0,decide_eq_false h1,decide_eq_true h2,if_true,qZq,if_false,qZp]
     exact ⟨by omega,fun e=>by omega⟩
    ·simp only [wC0,decide_eq_false h1,decide_eq_false h2,qZq,if_false]
     exact ⟨i1,i2⟩
 obtain ⟨k1,k2⟩:=key U h
 by_cases e:(U.filter (fun r=>decide (r∈L))).length=(U.filter (fun r=>decide (r∈M))).length
 ·exact absurd (k2 e) hne
 ·omega
theorem LvS.more {l:List Ins} {S:List (List Int)} (h:LvS l S) {a:Nat} (ha:a<l.length) (hne:gV S l a≠S.getD a []):pR S<pR (S.set a (gV S l a)):=by
 have h1:=qKt S a (gV S l a) (by have:=h.len; omega)
 have h2:(S.getD a []).length<(gV S l a).length:=by
  rw [←h.can a ha]
  refine qXc (fun r hr=>?_) (fun e=>hne ?_)
  ·rw [h.can a ha] at hr
   exact h.infl a r ha hr
  ·rw [←h.can a ha,e]
   rfl
 omega
theorem LvS.totS_le {l:List Ins} {S:List (List Int)} (h:LvS l S):pR S≤4*l.length:=by
 rw [←h.len]
 refine qKs S fun s hs=>?_
 obtain ⟨i,hi,e⟩:=List.getElem_of_mem hs
 have hg:S.getD i []=s:=by simp [qZw,hi,e]
 rw [←hg,←h.can i (by have:=h.len; omega)]
 exact qJz _
theorem LvS.done {l:List Ins} {S:List (List Int)} (h:LvS l S) (hb:wJ l 3=true) (hs :∀a,a<l.length→gV S l a=S.getD a []) {a:Nat} (ha:a<l.length) (r:Int):r∈S.getD a []↔qCy l a r:=by
 refine ⟨h.sound a r ha,fun hl=>?_⟩
 have hc:qDd l (fun a r=>a<l.length→r∈S.getD a []):=by
  intro b q hb' hq _
  rw [←hs b hb',qH1 h hb hb']
  rcases hq with h1 | ⟨h1,m,h2,h3⟩
  ·exact .inl h1
  ·exact .inr ⟨h1,m,h2,h3 (aH hb hb' m h2).2⟩
 exact hl _ hc ha
noncomputable def dA (l:List Ins):List (List Int):=if wJ l 3 then (List.range l.length).map fun a=>[0,1,2,3].filter fun r=>@decide (qCy l a r) (Classical.propDecidable _) else []
theorem qUb {l:List Ins} {S:List (List Int)} (hb:wJ l 3=true) (h:LvS l S) (hs :∀a,a<l.length→gV S l a=S.getD a []):dA l=S:=by
 unfold dA
 rw [if_pos hb]
 have hlen:=h.len
 refine qUv [] (by simp [hlen]) fun a ha=>?_
 have ha':a<l.length:=by simpa using ha
 rw [←h.can a ha']
 simp only [qZw,List.getElem?_map,List.getElem?_range ha',Option.map_some,Option.getD_some]
 unfold cn
 congr 1
 funext r
 have:=h.done hb hs ha' r
 rw [qZw] at this
 exact (decide_eq_decide.2 this).symm
def lvF (S:List (List Int)) (x:Ins) (m:Int):List Int:=(S.getD m.toNat []).filter fun r=>!decide (r∈uM x)
def qAg (S:List (List Int)) (l:List Ins) (a i:Nat):List Int:=vO (l.getD a default)++((jA l a).take i).flatMap (lvF S (l.getD a default))
theorem qTt (S:List (List Int)) (l:List Ins) (a:Nat):qAg S l a (jA l a).length=qJb S l a:=by
 unfold qAg qJb
 rw [wBv]
 rfl
theorem qH9 (S:List (List Int)) (l:List Ins) (a:Nat) {i:Nat} (h:i<(jA l a).length):qAg S l a (i+1)=qAg S l a i++lvF S (l.getD a default) ((jA l a).getD i 0):=by
 unfold qAg
 rw [bD _ 0 i h,List.flatMap_append]
 simp
theorem qAf (x:Ins):(vO x).length≤2:=by
 unfold vO
 repeat' split
 all_goals simp
theorem qWt {S:List (List Int)} {l:List Ins} (h:LvS l S) (x:Ins) {m:Int} (hm:m.toNat<l.length):(lvF S x m).length≤4:=by
 unfold lvF
 refine Nat.le_trans (wC1 _ _) ?_
 rw [←h.can _ hm]
 exact qJz _
theorem qL8 {S:List (List Int)} {l:List Ins} (h:LvS l S) (hb:wJ l 3=true) {a:Nat} (ha:a<l.length) :∀i,i≤(jA l a).length→(qAg S l a i).length≤2+4*i
 | 0,_=>by
  have:=qAf (l.getD a default)
  unfold qAg
  rw [List.take_zero,List.flatMap_nil,wB0]
  omega
 | i+1,hi=>by
  have h1:=qL8 h hb ha i (by omega)
  have h2:=qWt h (l.getD a default) (aH hb ha _ (yO _ i 0 hi)).2
  rw [qH9 S l a hi,List.length_append]
  omega
theorem qNs (n:Nat):gZ (qZo n [AV.nil]) (yY .own (qZo n [])):=by
 induction n with
 | zero=>simp [yY,gZ]
 | succ n ih =>
  simp only [List.replicate_succ,yY,qZr] at ih⊢
  exact (cU _ _ _ _).2 ⟨by simp [wM,wL,wC],ih⟩
theorem qMc {p:Int→Bool} (l:List Int) {i:Nat} (h:i<l.length):(l.take (i+1)).filter p=(l.take i).filter p++if p (l.getD i 0) then [l.getD i 0] else []:=by
 rw [bD _ 0 i h,List.filter_append]
 congr 1
 simp only [wC0,List.filter_nil]
theorem pF (l:List Ins) (hl:l.length<2^40):wD Try.prog num 170 [.sl .bw 5 (vR l)] [] (.sl .own 1 (yY .own (dA l))):=by
 refine EN m170 Try.func11 ?_
 unfold m170
 simp only [go_sem,seval]
 repeat refine K ?_
 refine CA [] (pG l 3 (by omega) (by omega) (by omega)) ?_
 try simp only [go_sem,seval]
 repeat refine K ?_
 cases hb:wJ l 3
 ·have hf:dA l=[]:=by simp [dA,hb]
  rw [hf]
  try simp only [go_sem,seval,hb]
  repeat refine K ?_
  refine ⟨_,Sub.refl _,qZ ?_⟩; simp [-List.drop_one]
 obtain ⟨hl1,hl2⟩:=kA hb
 try simp only [go_sem,seval,hb]
 repeat refine K ?_
 refine wE (ι:=List (List Int)×Bool) (fun q=>.mk [(0,.sl .bw 5 (vR l)),(3,.ns 10 0 l.length),(4,.bool q.2)] [(10,1,yY .own q.1)] 11) (fun q=>LvS l q.1∧(q.2=false→∀a,a<l.length→gV q.1 l a=q.1.getD a [])) (fun q=>4*l.length-pR q.1+(if q.2 then 1 else 0)) (qZo l.length [],true) ⟨LvS.new l,fun h=>absurd h (by simp)⟩ ?_ ?_
 ·refine Sub.shape [] id (by omega) ?_ ?_ ?_ ?_<;>simp [qM]
  exact .inr (qNs _)
 ·rintro ⟨S0,more⟩ ⟨hS,hm⟩
  simp only at hS hm⊢
  cases more
  ·have e:=qUb hb hS (hm rfl)
   have hlen:=hS.len
   rw [e]
   simp only [go_sem,seval]
   repeat refine K ?_
   refine ⟨_,Sub.refl _,qZ ?_⟩; simp [-List.drop_one]
   exact ⟨by omega,fun h=>absurd hlen h⟩
  ·have wl:IntKind.i64.wrap ((l.length:Int)-1)=(l.length:Int)-1:=yG (by omega) (by omega)
   simp only [go_sem,seval,wl]
   repeat refine K ?_
   refine wE (ι:=Nat×List (List Int)×Bool) (fun q=>.mk [(0,.sl .bw 5 (vR l)),(3,.ns 10 0 l.length),(4,.bool q.2.2),(5,.int .i64 ((q.1:Int)-1))] [(10,1,yY .own q.2.1)] 11) (fun q=>q.1≤l.length∧LvS l q.2.1∧pR S0≤pR q.2.1∧(q.2.2=false→q.2.1=S0∧∀a,q.1≤a→a<l.length→gV S0 l a=S0.getD a [])∧(q.2.2=true→pR S0<pR q.2.1)) (fun q=>q.1) (l.length,S0,false) ⟨Nat.le_refl _,hS,Nat.le_refl _,fun _=>⟨rfl,fun a h1 h2=>by simp only at h1; omega⟩,fun h=>absurd h (by simp)⟩ ?_ ?_
   ·refine Sub.shape [] id (by omega) ?_ ?_ ?_ ?_<;>simp [qM]
   ·rintro ⟨j,S1,mo⟩ ⟨hj,hS1,ht,hf,hmo⟩
    simp only at hj hS1 ht hf hmo⊢
    have hlen1:=hS1.len
    cases j with
    | zero =>
     simp only [go_sem,seval]
     repeat refine K ?_
     refine qW (S1,mo) ?_ ⟨hS1,fun h=>?_⟩ ?_
     ·refine Sub.shape [] id (by omega) ?_ ?_ ?_ ?_<;>simp [qM]
     ·obtain ⟨h1,h2⟩:=hf h
      simp only at h⊢
      rw [h1]
      exact fun a ha=>h2 a (by omega) ha
     ·have:=hS1.totS_le
      have:=hS.totS_le
      cases mo
      ·simp only [qZq,if_false,if_true]
       omega
      ·have:=hmo rfl
       simp only [if_true]
       omega
    | succ a =>
     have ha:a<l.length:=by omega
     have ja:(((a+1:Nat):Int)-1)=(a:Int):=by omega
     have hg:=bY l a ha
     have h0a:(0:Int)≤(a:Int):=by omega
     have haL:(a:Int)<(l.length:Nat):=by omega
     have hnl:=qEh l a
     have hni:=aH hb ha
     have hrl:=qL8 hS1 hb ha
     simp only [go_sem,seval,ja,hg,h0a,haL]
     repeat refine K ?_
     refine CA [] (qJr (l.getD a default)) ?_
     try simp only [go_sem,seval]
     repeat refine K ?_
     try simp only [go_sem,seval]
     repeat refine K ?_
     refine CA [] (nN (vO (l.getD a default)) (by have:=qAf (l.getD a default); omega)) ?_
     try simp only [go_sem,seval]
     repeat refine K ?_
     try simp only [go_sem,seval]
     repeat refine K ?_
     refine CA [] (qGh l a hb ha) ?_
     try simp only [go_sem,seval]
     repeat refine K ?_
     try simp only [go_sem,seval]
     repeat refine K ?_
     have hN0:=qTt S1 l a
     have hNn:=fun i hi=>@qH9 S1 l a i hi
     have hR0:qAg S1 l a 0=vO (l.getD a default):=by simp [qAg]
     have hraw:gV S1 l a=cn (qJb S1 l a):=rfl
     have hrr:=qD3 hS1 hb ha
     rw [←hN0] at hraw hrr
     clear hN0
     generalize jA l a=N at *
     refine wE (ι:=Nat) (fun i=>.mk [(0,.sl .bw 5 (vR l)),(3,.ns 10 0 l.length),(4,.bool mo),(5,.int .i64 a),(6,.ns 12 0 (qAg S1 l a i).length),(33,.ns 13 0 N.length),(34,.int .i64 N.length),(35,.int .i64 i)] [(10,1,yY .own S1),(12,1,wC (qAg S1 l a i)),(13,1,wC N)] 14) (fun i=>i≤N.length) (fun i=>N.length-i) 0 (by simp) ?_ ?_
     ·rw [hR0]
      refine Sub.shape [] id (by omega) ?_ ?_ ?_ ?_<;>simp [qM]
     ·intro i hi
      have hril:=hrl i hi
      simp only [go_sem,seval]
      refine qU (fun hc=>?_) (fun hc=>?_)
      ·simp only [decide_eq_true_eq] at hc
       have hiN:i<N.length:=by omega
       have gN:=qJ N i hiN
       obtain ⟨m0,m1⟩:=hni _ (yO N i 0 hiN)
       have hnx:=hNn i hiN
       have m2:N.getD i 0<(l.length:Nat):=by omega
       generalize N.getD i 0=m at gN m0 m1 m2 hnx
       have gS:=lC .own S1 m.toNat (by omega)
       have gSs :∀r,((yY .own S1).set m.toNat r).getD m.toNat []=r:=fun r=>jK _ _ _ _ (by rw [vY]; omega)
       have hSm:(yY .own S1).set m.toNat [.sl .own 1 (wC (S1.getD m.toNat []))]=yY .own S1:=by rw [←gS]; exact jD _ _ _ (by rw [vY]; omega)
       have hlv:lvF S1 (l.getD a default) m=(S1.getD m.toNat []).filter fun r=>!decide (r∈uM (l.getD a default)):=rfl
       rw [hlv] at hnx
       have h4:(S1.getD m.toNat []).length≤4:=by rw [←hS1.can _ m1]; exact qJz _
       generalize S1.getD m.toNat []=Rm at *
       generalize qAg S1 l a i=raw at *
       have hbs :∀A:Nat→Prop,A 14→yQ A ((yY .own S1).set m.toNat [.ns 14 0 Rm.length]):=fun A hA=>qFo ((vJ A _ _).2 trivial) _ (by simp [jF,bnd,hA])
       simp only [go_sem,seval,gN,gS,gSs,m0,m1,m2]
       repeat refine K ?_
       refine wE (ι:=Nat) (fun j=>.mk [(0,.sl .bw 5 (vR l)),(3,.ns 10 0 l.length),(4,.bool mo),(5,.int .i64 a),(6,.ns 12 0 (raw++(Rm.take j).filter fun r=>!decide (r∈uM (l.getD a default))).length),(33,.ns 13 0 N.length),(34,.int .i64 N.length),(35,.int .i64 i),(42,.ns 14 0 Rm.length),(43,.int .i64 Rm.length),(44,.int .i64 j)] [(10,1,(yY .own S1).set m.toNat [.ns 14 0 Rm.length]),(12,1,wC (raw++(Rm.take j).filter fun r=>!decide (r∈uM (l.getD a default)))),(13,1,wC N),(14,1,wC Rm)] 15) (fun j=>j≤Rm.length) (fun j=>Rm.length-j) 0 (by simp) ?_ ?_
       ·refine Sub.shapeN [] id (by omega) ?_ ?_ ?_ ?_<;>simp [qM,hbs]
       ·intro j hj
        have hfl:((Rm.take j).filter fun r=>!decide (r∈uM (l.getD a default))).length≤j:=Nat.le_trans (wC1 _ _) (by rw [List.length_take]; omega)
        simp only [go_sem,seval]
        refine qU (fun hc2=>?_) (fun hc2=>?_)
        ·simp only [decide_eq_true_eq] at hc2
         have hjR:j<Rm.length:=by omega
         have gR:=qJ Rm j hjR
         have hfs:=qMc (p:=fun r=>!decide (r∈uM (l.getD a default))) Rm hjR
         generalize Rm.getD j 0=r at gR hfs
         simp only [go_sem,seval,gR,hg,h0a,haL]
         repeat refine K ?_
         refine CA [] (qMa (l.getD a default)) ?_
         try simp only [go_sem,seval]
         repeat refine K ?_
         try simp only [go_sem,seval]
         repeat refine K ?_
         refine CA [] (qL3 (uM (l.getD a default)) r (by have:=qL4 (l.getD a default); omega)) ?_
         try simp only [go_sem,seval]
         repeat refine K ?_
         by_cases hrs:r∈uM (l.getD a default)
         ·have d1:decide (r∈uM (l.getD a default))=true:=decide_eq_true hrs
          simp only [d1,Bool.not_true,qZq,if_false,wB0] at hfs
          try simp only [go_sem,seval,d1,wA (i:=j) (by omega)]
          repeat refine K ?_
          refine qW (j+1) ?_ hjR (by omega)
          simp only [hfs]
          refine Sub.shapeN [] id (by omega) ?_ ?_ ?_ ?_<;>simp [qM,hbs]
         ·have d1:decide (r∈uM (l.getD a default))=false:=decide_eq_false hrs
          simp only [d1,Bool.not_false,if_true] at hfs
          try simp only [go_sem,seval,d1,wA (i:=j) (by omega)]
          repeat refine K ?_
          refine qW (j+1) ?_ hjR (by omega)
          simp only [hfs]
          refine Sub.shapeN [] (fun n=>if n=12 then 17 else n) (by omega) ?_ ?_ ?_ ?_<;>simp [qM,hbs]
          all_goals first | omega | exact .inl (by simp [wC])
        ·simp only [decide_eq_false_iff_not] at hc2
         have hjR:j=Rm.length:=by omega
         subst hjR
         rw [wBv] at *
         simp only [go_sem,seval,wA (i:=i) (by omega)]
         repeat refine K ?_
         refine qW (i+1) ?_ hiN (by omega)
         rw [hnx]
         refine Sub.trans (Sub.foldAt 10 0 14 rfl (by simp [-gD]<;>omega) rfl (by decide) (by decide) rfl (by simp<;>omega)) ?_
         simp only [fS,fS3,qA,qC,hSm]
         refine Sub.shape [] id (by omega) ?_ ?_ ?_ ?_<;>simp [qM]
      ·simp only [decide_eq_false_iff_not] at hc
       have hiN:i=N.length:=by omega
       subst hiN
       generalize qAg S1 l a N.length=raw at *
       have hus:=qTa hrr
       have hsl:=qPl raw
       simp only [go_sem,seval]
       repeat refine K ?_
       refine CA [(0,12)] (qL1 raw (by omega)) ?_
       try simp only [go_sem,seval]
       repeat refine K ?_
       try simp only [go_sem,seval]
       repeat refine K ?_
       rw [←hsl]
       refine CA [(0,12)] (qC6 (srt raw) (by omega)) ?_
       try simp only [go_sem,seval]
       repeat refine K ?_
       rw [hus,←hraw]
       have gSa:=lC .own S1 a (by omega)
       have gSas :∀r,((yY .own S1).set a r).getD a []=r:=fun r=>jK _ _ _ _ (by rw [vY]; omega)
       have hSa:(yY .own S1).set a [.sl .own 1 (wC (S1.getD a []))]=yY .own S1:=by rw [←gSa]; exact jD _ _ _ (by rw [vY]; omega)
       have hul:(gV S1 l a).length≤4:=qJz _
       have wa:IntKind.i64.wrap ((a:Int)-1)=(a:Int)-1:=yG (by omega) (by omega)
       have haS:a<S1.length:=by omega
       try simp only [go_sem,seval,gSa,gSas,haS]
       repeat refine K ?_
       refine CA [] (qDt (gV S1 l a) (S1.getD a []) (by omega)) ?_
       try simp only [go_sem,seval]
       repeat refine K ?_
       by_cases hU:gV S1 l a=S1.getD a []
       ·have d1:decide (gV S1 l a=S1.getD a [])=true:=decide_eq_true hU
        try simp only [go_sem,seval,d1,wa]
        repeat refine K ?_
        refine qW (a,S1,mo) ?_ ⟨by simp only; omega,hS1,ht,fun h=>⟨(hf h).1,fun b hb1 hb2=>?_⟩,hmo⟩ (by simp only; omega)
        ·refine Sub.trans (Sub.foldAt 10 0 15 rfl (by simp [-gD]<;>omega) rfl (by decide) (by decide) rfl (by simp<;>omega)) ?_
         simp only [fS,fS3,qA,qC,hSa]
         refine Sub.shape [] id (by omega) ?_ ?_ ?_ ?_<;>simp [qM]
        ·by_cases hba:b=a
         ·rw [hba,←(hf h).1]
          exact hU
         ·exact (hf h).2 b (by simp only at hb1; omega) hb2
       ·have d1:decide (gV S1 l a=S1.getD a [])=false:=decide_eq_false hU
        have hmr:=hS1.more ha hU
        have hput:=hS1.put hb ha
        generalize gV S1 l a=U at *
        try simp only [go_sem,seval,d1,wa,gSa,gSas,haS]
        repeat refine K ?_
        refine qW (a,S1.set a U,true) ?_ ⟨by simp only; omega,hput,by simp only; omega,fun h=>absurd h (by simp),fun _=>by simp only; omega⟩ (by simp only; omega)
        refine Sub.trans (Sub.foldAt 10 0 14 rfl (by simp [-gD]<;>omega) rfl (by decide) (by decide) rfl (by simp<;>omega)) ?_
        simp only [fS,fS3,qA,qC,qHm]
        refine Sub.shape [] id (by omega) ?_ ?_ ?_ ?_<;>simp [qM]
end Go.Sep
