/- Contracts of functions. -/
import Derived.Test.YtfecojefbnnknaaGreatRxx24
open List renaming drop_one → wD9, getD_eq_getElem?_getD → wBr, map_cons → wBm, set_cons_succ → wDv
namespace Go.Sep
set_option maxHeartbeats 16000000
open Go.Proofs
set_option linter.unusedSimpArgs false
set_option linter.unusedVariables false
set_option maxRecDepth 100000
open Nat renaming reduceAdd → qA, reduceMul → qB, reduceEqDiff → qC, reduceBEq → qD
open Int renaming reduceToNat → qE, reduceEq → qF, reduceLT → qG, reduceLE → qH
open List renaming getD_eq_getElem?_getD → gD
def m492:MFn:=⟨86,[.t 6],kr [xF 6] (kr [xF 7] (kr [xv 12 0,xv 13 2,xc2 14 326 (.t 12) (.t 13),xv 8 14] (.seq (kr [xI 9 0] (.blk 0 (.loop (.seq (kr [xv 15 9,bI 16 .lss 15 4] (kX 16 0)) (.seq (.blk 1 (kr [xv 19 0,xv 20 2,xD 21 5 19 20,xm 22 5 21,xc1 23 494 (.t 22),xv 24 9,xc2 25 495 (.t 23) (.t 24),xv 10 25] (.seq (kr [xI 11 0] (.blk 2 (.loop (.seq (kr [xv 26 11,xv 27 8,xe 28 27,bT 29 .lss 26 28] (kX 29 2)) (.seq (.blk 3 (xr [xv 32 10,xv 33 32,zv 34 1 33,zv 35 8 33,zv 36 11 33,xg 37 (.iad 1 (.t 35) (.t 36)) 33 false,zl 38 1 37 33,xg 39 (.iad 1 (.t 34) (.t 38)) 33 false,zl 40 1 39 33,zv 41 9 33,xg 42 (.iad 1 (.t 40) (.t 41)) 33 false,zl 43 1 42 33,zv 44 43 33,yv 45 0 44,yv 46 2 44,xg 47 (.iad 5 (.t 45) (.t 46)) 44 true,xg 48 (.load 5 true (.t 47)) 44 true,xg 49 (.call 344 [false] [.t 48]) 44 true,yv 50 9 44,xg 51 (.call 495 [false,false] [.t 49,.t 50]) 44 true,yN 52 51 44,xg 53 (.pick (.t 44) (.t 52) (.c (.bool false))) 33 false,xQ 54 33 53,xv 10 54])) (xr [xv 30 11,bI 31 .add 30 1,xv 11 31])))))) (kr [xv 55 7,xv 56 55,zv 57 10 56,zv 58 57 56,yv 59 1 58,yv 60 2 58,xg 61 (.iad 1 (.t 59) (.t 60)) 58 true,yl 62 1 61 58,yv 63 9 58,xg 64 (.iad 1 (.t 62) (.t 63)) 58 true,yl 65 1 64 58,yN 66 65 58,xg 67 (.pick (.t 58) (.t 66) (.c (.bool false))) 56 false,xQ 68 56 67,xv 7 68] (.dreg (.take 0 (xv 69 1) (.take 1 (xv 70 2) (.take 2 (xD 71 1 69 70) (.take 3 (xl 72 71) (.take 4 (xv 73 9) (.take 5 (xv 74 1) (.take 6 (xv 75 2) (.take 7 (xD 76 1 74 75) (.take 8 (xl 77 76) (.only 9 [] (xv 78 9) (.only 10 [8,7,5,6] (xD 79 1 77 78) (.only 11 [10,8,7,5,6] (xl 80 79) (.only 12 [11,10,8,7,5,6] (xv 81 80) (.only 13 [12,11,10,8,7,5,6] (zv 82 10 81) (.only 14 [12,11,10,8,7,5,6] (xQ 83 81 82) (.only 15 [0,1,2,3,4,5,6,7,8] (xD 84 1 72 73) (.only 16 [0,1,2,3,4,5,6,7,8] (xS 1 84 83) (.done))))))))))))))))))))))) (xr [xv 17 9,bI 18 .add 17 1,xv 9 18])))))) (kR [xv 85 7,xv 6 85]))))⟩
def m493:MFn:=⟨25,[.t 4],kr [xo 4 (.mv (.c (.nil)))] (kr [xo 7 (.mkSl [xz] 0 []),xv 5 7] (.seq (kr [xI 6 0] (.blk 0 (.loop (.seq (kr [xv 8 6,xv 9 0,xe 10 9,bT 11 .lss 8 10] (kX 11 0)) (.seq (.blk 1 (kr [xv 14 0,xv 15 6,xD 16 1 14 15,xl 17 16,xv 18 1,xo 19 (.eqB false (.t 17) (.t 18))] (.cond 19 (xr [xv 20 5,xv 21 6,xo 22 (.mkSl [xz] 1 [(0,.t 21)]),xA 23 1 8 20 22,xv 5 23]) (.skip)))) (xr [xv 12 6,bI 13 .add 12 1,xv 6 13])))))) (kR [xv 24 5,xv 4 24])))⟩
def m494:MFn:=⟨23,[.t 2],kr [xb 1 0,xo 2 (.mv (.c (.nil)))] (.seq (kr [xa 3 0 1,xl 4 3] (.blk 0 (.seq (kr [bI 6 .eql 4 2,xv 5 6] (.cond 5 (.skip) (kr [bI 7 .eql 4 3,xv 5 7] (.cond 5 (.skip) (xr [bI 8 .eql 4 4,xv 5 8]))))) (.cond 5 (kR [xa 9 2 1,xl 10 9,xa 11 3 1,xl 12 11,xo 13 (.mkSl [xz] 2 [(0,.t 10),(1,.t 12)]),xv 2 13]) (.seq (kr [bI 15 .eql 4 5,xv 14 15] (.cond 14 (.skip) (kr [bI 16 .eql 4 7,xv 14 16] (.cond 14 (.skip) (kr [bI 17 .eql 4 10,xv 14 17] (.cond 14 (.skip) (xr [bI 18 .eql 4 12,xv 14 18]))))))) (kF 14 [xa 19 2 1,xl 20 19,xo 21 (.mkSl [xz] 1 [(0,.t 20)]),xv 2 21])))))) (kR [xo 22 (.mkSl [xz] 0 []),xv 2 22]))⟩
def m495:MFn:=⟨18,[.t 4],kr [xF 4] (.seq (kr [xI 5 0] (.blk 0 (.loop (.seq (kr [xv 6 5,xv 7 0,xe 8 7,bT 9 .lss 6 8] (kX 9 0)) (.seq (.blk 1 (kr [xv 12 0,xv 13 5,xD 14 1 12 13,xl 15 14,xv 16 1,bT 17 .eql 15 16] (kF 17 [xT 4]))) (xr [xv 10 5,bI 11 .add 10 1,xv 5 11])))))) (kR [xF 4]))⟩
def jH (m:Mode) (l:List (List Bool)):List (List AV):=l.map fun b=>[.sl m 1 (jA b)]
theorem qR2 (m:Mode):jH m []=[]:=rfl
theorem zH (m:Mode) (l:List (List Bool)):(jH m l).length=l.length:=by simp [jH]
theorem sE (m:Mode) (l k:List (List Bool)):jH m l++jH m k=jH m (l++k):=by simp [jH]
theorem qR1 (m:Mode) (b_:List Bool):[[.sl m 1 (jA b_)]]=jH m [b_]:=rfl
theorem qDi (m:Mode) (l:List (List Bool)) (n:Nat):(jH m l).drop n=jH m (l.drop n):=by simp [jH]
theorem qDg (m:Mode) (l:List (List Bool)) (n:Nat):(jH m l).take n=jH m (l.take n):=by simp [jH]
theorem qGn (m:Mode) (l:List (List Bool)) (i:Nat) (b_:List Bool):(jH m l).set i [.sl m 1 (jA b_)]=jH m (l.set i b_):=by simp [jH]
theorem qDh (m:Mode) (l:List (List Bool)) (i:Nat) (h:i<l.length):(jH m l).getD i []=[.sl m 1 (jA (l.getD i []))]:=by simp [jH,List.getD_eq_getElem?_getD,h]
theorem qGo (A:Nat→Prop) (m:Mode) (l:List (List Bool)):yW A (jH m l)↔True:=by
 simp only [iff_true]
 induction l with
 | nil=>trivial
 | cons x l ih=>exact ⟨by simp [jK,bnd,zM,qGp],ih⟩
theorem qUr (l:List (List Bool)):nbr (jH .own l)↔True:=by
 simp only [iff_true]
 induction l with
 | nil=>trivial
 | cons x l ih=>exact ⟨by simp [nbs,nb,qJv],ih⟩
theorem qJu (m:Mode) :∀(l:List (List Bool)),bwR (jH m l)=jH .bw l
 | []=>rfl
 | x::l=>by
  have:=qJu m l
  simp only [jH,wBm,bwR] at this⊢
  rw [this]
  simp [bwL,bwC,qCc]
theorem qOt (l:List (List Bool)):free (jH .bw l)↔True:=by
 simp only [iff_true]
 intro r hr c hc
 simp only [jH,List.mem_map] at hr
 obtain ⟨x,_,rfl⟩:=hr
 simp [] at hc
 rcases hc with rfl<;>rfl
attribute [go_sem] zH sE qDi qDg qGn
attribute [simp] qGo qR2 qJu qUr zH qDg qDi qOt
theorem qKm (x:Ins):qY Tryz.prog num 494 [.agg (gE x)] [] (.sl .own 1 (wE (vS x))):=by
 refine EN m494 Tryz.func125 ?_
 unfold m494
 by_cases h2:x.op=2
 ·simp only [go_sem,seval,h2]
  repeat refine K ?_
  refine ⟨_,Sub.refl _,qU ?_⟩; simp [-wD9]
  all_goals simp [vS,h2,wE]
 by_cases h3:x.op=3
 ·simp only [go_sem,seval,h2,h3]
  repeat refine K ?_
  refine ⟨_,Sub.refl _,qU ?_⟩; simp [-wD9]
  all_goals simp [vS,h3,wE]
 by_cases h4:x.op=4
 ·simp only [go_sem,seval,h2,h3,h4]
  repeat refine K ?_
  refine ⟨_,Sub.refl _,qU ?_⟩; simp [-wD9]
  all_goals simp [vS,h4,wE]
 by_cases h5:x.op=5
 ·simp only [go_sem,seval,h2,h3,h4,h5]
  repeat refine K ?_
  refine ⟨_,Sub.refl _,qU ?_⟩; simp [-wD9]
  all_goals simp [vS,h5,wE]
 by_cases h7:x.op=7
 ·simp only [go_sem,seval,h2,h3,h4,h5,h7]
  repeat refine K ?_
  refine ⟨_,Sub.refl _,qU ?_⟩; simp [-wD9]
  all_goals simp [vS,h7,wE]
 by_cases h10:x.op=10
 ·simp only [go_sem,seval,h2,h3,h4,h5,h7,h10]
  repeat refine K ?_
  refine ⟨_,Sub.refl _,qU ?_⟩; simp [-wD9]
  all_goals simp [vS,h10,wE]
 by_cases h12:x.op=12
 ·simp only [go_sem,seval,h2,h3,h4,h5,h7,h10,h12]
  repeat refine K ?_
  refine ⟨_,Sub.refl _,qU ?_⟩; simp [-wD9]
  all_goals simp [vS,h12,wE]
 simp only [go_sem,seval,h2,h3,h4,h5,h7,h10,h12]
 repeat refine K ?_
 refine ⟨_,Sub.refl _,qU ?_⟩; simp [-wD9]
 all_goals simp [vS,h2,h3,h4,h5,h7,h10,h12,wE]
theorem iM (l:List Int) (v:Int) (hl:l.length<2^47):qY Tryz.prog num 495 [.sl .bw 1 (wE l),.int .i64 v] [] (.bool (decide (v∈l))):=by
 refine EN m495 Tryz.func60 ?_
 unfold m495
 simp only [go_sem,seval]
 repeat refine K ?_
 refine qZ (ι:=Nat) (fun i=>.mk [(0,.sl .bw 1 (wE l)),(1,.int .i64 v),(5,.int .i64 i)] [] 10) (fun i=>i≤l.length∧v∉l.take i) (fun i=>l.length-i) 0 (by simp) ?_ ?_
 ·refine Sub.shape [] id (by omega) ?_ ?_ ?_ ?_<;>simp [qK]
 ·rintro i ⟨hi,hv⟩
  simp only [go_sem,seval]
  refine qP (fun hc=>?_) (fun hc=>?_)
  ·simp only [decide_eq_true_eq] at hc
   have hil:i<l.length:=by omega
   have hg:=qI l i hil
   have ht:=jX l 0 i hil
   by_cases he:l.getD i 0=v
   ·have d1:decide (v∈l)=true:=decide_eq_true (he▸yB l i 0 hil)
    rw [he] at hg
    simp only [go_sem,seval,hg,d1]
    repeat refine K ?_
    refine fz ?_; simp [yQ,wJ,wK,wR,-wD9]
   ·have hn:v∉l.take (i+1):=by
     rw [ht,List.mem_append,List.mem_singleton]
     exact fun h=>h.elim hv fun e=>he e.symm
    have d2:decide (l.getD i 0=v)=false:=decide_eq_false he
    generalize l.getD i 0=u at hg d2
    simp only [go_sem,seval,hg,d2,qN (i:=i) (by omega)]
    repeat refine K ?_
    refine qM (i+1) (Sub.shape [] id (by omega) ?_ ?_ ?_ ?_) ⟨hil,hn⟩ (by omega)<;>simp [qK]
  ·simp only [decide_eq_false_iff_not] at hc
   have he:i=l.length:=by omega
   subst he
   rw [List.take_length] at hv
   have d1:decide (v∈l)=false:=decide_eq_false hv
   simp only [go_sem,seval,d1]
   repeat refine K ?_
   refine fz ?_; simp [yQ,wJ,wK,wR,-wD9]
def plF (b:List Bool):Nat→List Int
 | 0=>[]
 | i+1=>plF b i++if b.getD i false then [(i:Int)] else []
theorem qRx (b:List Bool) :∀i,(plF b i).length≤i
 | 0=>Nat.le_refl _
 | i+1=>by
  have:=qRx b i
  rw [plF,List.length_append]
  split
  ·simp; omega
  ·simp; omega
theorem qL8 (b:List Bool) (hl:b.length<2^40):qY Tryz.prog num 493 [.sl .bw 1 (jA b),.bool true] [] (.sl .own 1 (wE (plF b b.length))):=by
 refine EN m493 Tryz.func102 ?_
 unfold m493
 simp only [go_sem,seval]
 repeat refine K ?_
 refine qZ (ι:=Nat) (fun i=>.mk [(0,.sl .bw 1 (jA b)),(1,.bool true),(5,.ns 10 0 (plF b i).length),(6,.int .i64 i)] [(10,1,wE (plF b i))] 11) (fun i=>i≤b.length) (fun i=>b.length-i) 0 (by simp) ?_ ?_
 ·refine Sub.shape [] id (by omega) ?_ ?_ ?_ ?_<;>simp [qK]
  ·exact .inl rfl
  ·rfl
 ·intro i hi
  have hpl:=qRx b i
  simp only [go_sem,seval]
  refine qP (fun hc=>?_) (fun hc=>?_)
  ·simp only [decide_eq_true_eq] at hc
   have hil:i<b.length:=by omega
   have hg:=zR b i hil
   have hst:plF b (i+1)=plF b i++if b.getD i false then [(i:Int)] else []:=rfl
   generalize plF b i=acc at *
   cases hx:b.getD i false
   ·rw [hx] at hst hg
    simp only [Bool.false_eq_true,if_false,List.append_nil] at hst
    simp only [go_sem,seval,hg,show (false==true)=false from by decide,beq_true,qN (i:=i) (by omega)]
    repeat refine K ?_
    refine qM (i+1) ?_ ?_ ?_
    ·rw [hst]
     refine Sub.shape [] id (by omega) ?_ ?_ ?_ ?_<;>simp [qK]
    ·exact hil
    ·omega
   ·rw [hx] at hst hg
    simp only [if_true] at hst
    simp only [go_sem,seval,hg,qN (i:=i) (by omega)]
    repeat refine K ?_
    refine qM (i+1) ?_ ?_ ?_
    ·rw [hst]
     refine Sub.shape [] (fun n=>if n=10 then 12 else n) (by omega) ?_ ?_ ?_ ?_<;>simp [qK]
     all_goals first | exact .inl (eF _ _) | skip
    ·exact hil
    ·omega
  ·simp only [decide_eq_false_iff_not] at hc
   have he:i=b.length:=by omega
   subst he
   simp only [go_sem,seval]
   repeat refine K ?_
   refine ⟨_,Sub.refl _,qU ?_⟩; simp [-wD9]
def nxB (l:List Ins) (S:List (List Bool)) (a r:Nat) (m:Int):Bool:=(S.getD m.toNat []).getD r false&&!decide ((r:Int)∈uR (l.getD a default))
def qHn (l:List Ins) (S:List (List Bool)) (a r i:Nat):Bool:=decide ((r:Int)∈vS (l.getD a default))||((yO l a).take i).any (nxB l S a r)
def kE (l:List Ins) (S:List (List Bool)) (a r:Nat):Bool:=qHn l S a r (yO l a).length
theorem qTk (l:List Ins) (S:List (List Bool)) (a r:Nat) {i:Nat} (h:i<(yO l a).length):qHn l S a r (i+1)=(qHn l S a r i||nxB l S a r ((yO l a).getD i 0)):=by
 unfold qHn
 rw [jX _ 0 i h,List.any_append,Bool.or_assoc]
 simp
theorem qN6 {l:List Ins} {S:List (List Bool)} {a r:Nat}:kE l S a r=true↔(r:Int)∈vS (l.getD a default)∨((r:Int)∉uR (l.getD a default)∧∃m∈yO l a,(S.getD m.toNat []).getD r false=true):=by
 unfold kE qHn nxB
 rw [List.take_length]
 simp only [Bool.or_eq_true,decide_eq_true_eq,List.any_eq_true,Bool.and_eq_true,Bool.not_eq_true',decide_eq_false_iff_not]
 constructor
 ·rintro (h | ⟨m,h1,h2,h3⟩)
  ·exact .inl h
  ·exact .inr ⟨h3,m,h1,h2⟩
 ·rintro (h | ⟨h3,m,h1,h2⟩)
  ·exact .inl h
  ·exact .inr ⟨m,h1,h2,h3⟩
def atB (S:List (List Bool)) (a r:Nat):Bool:=(S.getD a []).getD r false
def qC7 (l:List Ins) (a j:Nat) (q:List (List Bool)×Bool):List (List Bool)×Bool:=(q.1.set a ((q.1.getD a []).set j (atB q.1 a j||kE l q.1 a j)),q.2||(kE l q.1 a j&&!atB q.1 a j))
def lX (l:List Ins) (a:Nat):Nat→List (List Bool)×Bool→List (List Bool)×Bool
 | 0,q=>q
 | j+1,q=>qC7 l a j (lX l a j q)
structure LvB (l:List Ins) (S:List (List Bool)):Prop where
 len:S.length=l.length
 four :∀a,a<l.length→(S.getD a []).length=4
 sound :∀a r:Nat,a<l.length→atB S a r=true→qE2 l a r
def lS (S:List (List Bool)):Nat:=(S.map (List.count true)).sum
theorem qJb {α:Type} (S:List α) (d:α) (i k:Nat) (x:α) (h:i<S.length):(S.set i x).getD k d=if k=i then x else S.getD k d:=by
 simp only [wBr,List.getElem?_set]
 by_cases e:i=k
 ·subst e
  simp [h]
 ·rw [if_neg e,if_neg (fun h=>e h.symm)]
theorem qMj :∀(S:List (List Bool)) (a:Nat) (x:List Bool),a<S.length→lS (S.set a x)+(S.getD a []).count true=lS S+x.count true
 | [],a,x,h=>by simp at h
 | s::S,0,x,h=>by simp [lS]; omega
 | s::S,a+1,x,h=>by
  have:=qMj S a x (by simpa using h)
  simp only [lS,wDv,wBm,List.sum_cons,List.getD_cons_succ] at this⊢
  omega
theorem qJn :∀(b:List Bool) (j:Nat),j<b.length→b.getD j false=false→(b.set j true).count true=b.count true+1
 | [],j,h,_=>by simp at h
 | x::b,0,_,e=>by
  have:x=false:=e
  subst this
  simp
 | x::b,j+1,h,e=>by
  have:=qJn b j (by simpa using h) e
  simp only [wDv,List.count_cons]
  omega
theorem qMi :∀(S:List (List Bool)),(∀s∈S,s.length=4)→lS S≤4*S.length
 | [],_=>by simp [lS]
 | s::S,h=>by
  have h1:=qMi S (fun x hx=>h x (List.mem_cons_of_mem _ hx))
  have h2:=h s (by simp)
  have h3:s.count true≤s.length:=List.count_le_length
  simp only [lS,wBm,List.sum_cons,List.length_cons] at h1⊢
  omega
theorem LvB.top {l:List Ins} {S:List (List Bool)} (h:LvB l S):lS S≤4*l.length:=by
 rw [←h.len]
 refine qMi S fun s hs=>?_
 obtain ⟨i,hi,e⟩:=List.getElem_of_mem hs
 have hg:S.getD i []=s:=by simp [wBr,hi,e]
 rw [←hg]
 exact h.four i (by have:=h.len; omega)
def b4:List Bool:=[false,false,false,false]
theorem qSb {n a:Nat} (h:a<n):(List.replicate n b4).getD a []=b4:=by
 rw [wBr,List.getElem?_replicate,if_pos h]
 rfl
theorem LvB.new (l:List Ins):LvB l (List.replicate l.length b4) where
 len:=by simp
 four a h:=by rw [qSb h]; rfl
 sound a r ha h:=by
  unfold atB at h
  rw [qSb ha] at h
  rcases r with _ | _ | _ | _ | r<;>exact absurd h (by simp [b4])
theorem LvB.now {l:List Ins} {S:List (List Bool)} (h:LvB l S) (hb:wF l 3=true) {a r:Nat} (ha:a<l.length) (hn:kE l S a r=true):qE2 l a r:=by
 refine oN l a r ha ?_
 rcases qN6.1 hn with h1 | ⟨h1,m,h2,h3⟩
 ·exact .inl h1
 ·exact .inr ⟨h1,m,h2,h.sound _ _ (zW hb ha m h2).2 h3⟩
theorem LvB.col {l:List Ins} {q:List (List Bool)×Bool} (h:LvB l q.1) (hb:wF l 3=true) {a j:Nat} (ha:a<l.length) (hj:j<4):LvB l (qC7 l a j q).1:=by
 have hlen:=h.len
 have h4:=h.four a ha
 have hg:=fun k=>qJb q.1 [] a k ((q.1.getD a []).set j (atB q.1 a j||kE l q.1 a j)) (by omega)
 refine ⟨?_,fun k hk=>?_,fun k r hk hr=>?_⟩
 ·simpa [qC7] using hlen
 ·simp only [qC7]
  rw [hg]
  split
  ·rw [List.length_set]; exact h4
  ·exact h.four k hk
 ·unfold atB at hr
  simp only [qC7] at hr
  rw [hg] at hr
  split at hr
  ·rename_i e
   subst e
   rw [qJb _ _ _ _ _ (by omega)] at hr
   split at hr
   ·rename_i e
    subst e
    rcases (Bool.or_eq_true _ _).mp hr with h1 | h1
    ·exact h.sound k r hk h1
    ·exact h.now hb hk h1
   ·exact h.sound k r hk hr
  ·exact h.sound k r hk hr
theorem qX9 {l:List Ins} {q:List (List Bool)×Bool} {a j:Nat} (hn:kE l q.1 a j=true→atB q.1 a j=true) (ha:a<q.1.length) (hj:j<(q.1.getD a []).length):qC7 l a j q=q:=by
 obtain ⟨S,m⟩:=q
 simp only at hn ha hj
 have e1:(atB S a j||kE l S a j)=atB S a j:=by
  cases hx:kE l S a j
  ·simp
  ·rw [hn hx]; rfl
 have e2:(kE l S a j&&!atB S a j)=false:=by
  cases hx:kE l S a j
  ·rfl
  ·rw [hn hx]; rfl
 unfold qC7
 simp only
 rw [e1,e2,Bool.or_false]
 unfold atB
 rw [jP _ _ _ hj,jP _ _ _ ha]
theorem qXa {l:List Ins} {q:List (List Bool)×Bool} {a j:Nat} (hn:kE l q.1 a j=true) (ho:atB q.1 a j=false) (ha:a<q.1.length) (hj:j<(q.1.getD a []).length):lS (qC7 l a j q).1=lS q.1+1∧(qC7 l a j q).2=true:=by
 unfold qC7
 simp only
 rw [hn,ho]
 have h1:=qMj q.1 a ((q.1.getD a []).set j true) ha
 have h2:=qJn (q.1.getD a []) j hj ho
 exact ⟨by simp only [Bool.or_true]; omega,by simp⟩
theorem qBi {l:List Ins} {S:List (List Bool)} (h:LvB l S) (hb:wF l 3=true) {a:Nat} (ha:a<l.length) :∀j,j≤4→LvB l (lX l a j (S,false)).1∧lS S≤lS (lX l a j (S,false)).1∧
  ((lX l a j (S,false)).2=false→(lX l a j (S,false)).1=S∧∀r,r<j→kE l S a r=true→atB S a r=true)∧((lX l a j (S,false)).2=true→lS S<lS (lX l a j (S,false)).1)
 | 0,_=>⟨h,Nat.le_refl _,fun _=>⟨rfl,fun r hr=>by omega⟩,fun e=>absurd e (by simp [lX])⟩
 | j+1,hj=>by
  obtain ⟨i1,i2,i3,i4⟩:=qBi h hb ha j (by omega)
  have e:lX l a (j+1) (S,false)=qC7 l a j (lX l a j (S,false)):=rfl
  rw [e]
  generalize lX l a j (S,false)=q at i1 i2 i3 i4
  have hlen:=i1.len
  have h4:=i1.four a ha
  have hcol:=i1.col hb ha (show j<4 by omega)
  by_cases hn:kE l q.1 a j=true→atB q.1 a j=true
  ·rw [qX9 hn (by omega) (by omega)]
   refine ⟨i1,i2,fun h2=>⟨(i3 h2).1,fun r hr h5=>?_⟩,i4⟩
   by_cases hrj:r=j
   ·subst hrj
    rw [(i3 h2).1] at hn
    exact hn h5
   ·exact (i3 h2).2 r (by omega) h5
  ·have hn1:kE l q.1 a j=true:=Classical.byContradiction fun hx=>hn fun hy=>absurd hy hx
   have hn2:atB q.1 a j=false:=by
    cases hx:atB q.1 a j
    ·rfl
    ·exact absurd (fun _=>hx) hn
   obtain ⟨c1,c2⟩:=qXa hn1 hn2 (by omega) (by omega)
   exact ⟨hcol,by omega,fun e=>absurd (e▸c2) (by simp),fun _=>by omega⟩
theorem LvB.done {l:List Ins} {S:List (List Bool)} (h:LvB l S) (hb:wF l 3=true) (hs :∀a r,a<l.length→r<4→kE l S a r=true→atB S a r=true) {a:Nat} (ha:a<l.length) {r:Nat} (hr:r<4):atB S a r=true↔qE2 l a r:=by
 refine ⟨h.sound a r ha,fun hl=>?_⟩
 have hc:qEh l (fun a r=>a<l.length→0≤r→r<4→atB S a r.toNat=true):=by
  intro b q hb' hq _ q0 q4
  have e:((q.toNat:Nat):Int)=q:=Int.toNat_of_nonneg q0
  refine hs b q.toNat hb' (by omega) (qN6.2 ?_)
  rw [e]
  rcases hq with h1 | ⟨h1,m,h2,h3⟩
  ·exact .inl h1
  ·exact .inr ⟨h1,m,h2,h3 (zW hb hb' m h2).2 q0 q4⟩
 exact hl _ hc ha (by omega) (by omega)
theorem qVs (b:List Bool):plF b 4=[0,1,2,3].filter fun r=>b.getD r.toNat false:=by
 simp only [plF,List.filter_cons,List.filter_nil]
 simp only [show (0:Int).toNat=0 from rfl,show (1:Int).toNat=1 from rfl,show (2:Int).toNat=2 from rfl,show (3:Int).toNat=3 from rfl]
 generalize b.getD 0 false=x
 generalize b.getD 1 false=y
 generalize b.getD 2 false=z
 generalize b.getD 3 false=w
 cases x<;>cases y<;>cases z<;>cases w<;>rfl
theorem LvB.places {l:List Ins} {S:List (List Bool)} (h:LvB l S) (hb:wF l 3=true) (hs :∀a r,a<l.length→r<4→kE l S a r=true→atB S a r=true) {a:Nat} (ha:a<l.length):plF (S.getD a []) (S.getD a []).length=(dO l).getD a []:=by
 rw [h.four a ha,qVs]
 unfold dO
 rw [if_pos hb]
 simp only [wBr,List.getElem?_map,List.getElem?_range ha,Option.map_some,Option.getD_some]
 refine List.filter_congr fun r hr=>?_
 obtain ⟨n,hn,rfl⟩ :∃n:Nat,n<4∧r=(n:Int):=by
  simp at hr
  exact ⟨r.toNat,by omega,by omega⟩
 have:=h.done hb hs ha hn
 unfold atB at this
 simp only [wBr,Int.toNat_natCast] at this⊢
 exact Bool.eq_iff_iff.2 (this.trans (@decide_eq_true_iff _ (Classical.propDecidable _)).symm)
theorem qNp (l:List Ins) (S:List (List Bool)) (a:Nat) (hb:wF l 3=true) (hS:LvB l S) (ha:a<l.length):qY Tryz.prog num 492 [.sl .bw 5 (yV l),.ns 0 0 S.length,.int .i64 a] [(0,some (1,jH .own S),some (1,jH .own (lX l a 4 (S,false)).1))] (.bool (lX l a 4 (S,false)).2):=by
 obtain ⟨hl1,hl2⟩:=zS hb
 have hlenS:=hS.len
 refine EH m492 Tryz.func101 (hh:=by refine mL _ _ _ _ ((sU _).2 trivial) (by decide) ?_<;>simp [qGo]) ?_
 unfold m492
 simp only [go_sem,seval]
 repeat refine K ?_
 refine CA [] (rT l a hb ha) ?_
 try simp only [go_sem,seval]
 repeat refine K ?_
 have hN:=fun m h=>zW hb ha m h
 try simp only [go_sem,seval]
 repeat refine K ?_
 refine qZ (ι:=Nat) (fun j=>.mk [(0,.sl .bw 5 (yV l)),(1,.ns 0 0 S.length),(2,.int .i64 a),(7,.bool (lX l a j (S,false)).2),(8,.ns 10 0 (yO l a).length),(9,.int .i64 j)] [(0,1,jH .own (lX l a j (S,false)).1),(10,1,wE (yO l a))] 11) (fun j=>j≤4) (fun j=>4-j) 0 (by simp) ?_ ?_
 ·refine Sub.shape [] id (by omega) ?_ ?_ ?_ ?_<;>simp [qK]
  all_goals (first | rfl | exact .inl rfl)
 ·intro j hj
  obtain ⟨f1,-,-,-⟩:=qBi hS hb ha j hj
  have hst:lX l a (j+1) (S,false)=qC7 l a j (lX l a j (S,false)):=rfl
  simp only [go_sem,seval]
  refine qP (fun hc=>?_) (fun hc=>?_)
  ·simp only [decide_eq_true_eq] at hc
   have hj4:j<4:=by omega
   generalize lX l a j (S,false)=q at *
   obtain ⟨S1,mo⟩:=q
   simp only at f1⊢
   have hlen:=f1.len
   have hgi:=jQ l a ha
   have hrow :∀m:Nat,m<l.length→(jH .own S1).getD m []=[.sl .own 1 (jA (S1.getD m []))]:=fun m hm=>qDh .own S1 m (by omega)
   have hsame :∀m:Nat,m<l.length→(jH .own S1).set m [.sl .own 1 (jA (S1.getD m []))]=jH .own S1:=fun m hm=>by rw [←hrow m hm]; exact jP _ _ _ (by rw [zH]; omega)
   have hsetg :∀m r,m<l.length→((jH .own S1).set m r).getD m []=r:=fun m r hm=>jR _ _ _ _ (by rw [zH]; omega)
   have ha2:(a:Int)<(l.length:Nat):=by omega
   have p0:qHn l S1 a j 0=decide ((j:Int)∈vS (l.getD a default)):=by simp [qHn]
   have hnx:=fun i=>@qTk l S1 a j i
   have hnb:kE l S1 a j=qHn l S1 a j (yO l a).length:=rfl
   simp only [go_sem,seval,hgi,ha]
   repeat refine K ?_
   refine CA [] (qKm (l.getD a default)) ?_
   try simp only [go_sem,seval]
   repeat refine K ?_
   try simp only [go_sem,seval]
   repeat refine K ?_
   refine CA [] (iM (vS (l.getD a default)) j (by have:=qBm (l.getD a default); omega)) ?_
   try simp only [go_sem,seval]
   repeat refine K ?_
   rw [←p0]
   have hsb:=qMr (l.getD a default)
   try simp only [go_sem,seval]
   repeat refine K ?_
   refine qZ (ι:=Nat) (fun i=>.mk [(0,.sl .bw 5 (yV l)),(1,.ns 0 0 S.length),(2,.int .i64 a),(7,.bool mo),(8,.ns 10 0 (yO l a).length),(9,.int .i64 j),(10,.bool (qHn l S1 a j i)),(11,.int .i64 i)] [(0,1,jH .own S1),(10,1,wE (yO l a))] 11) (fun i=>i≤(yO l a).length) (fun i=>(yO l a).length-i) 0 (by simp) ?_ ?_
   ·refine Sub.shape [] id (by omega) ?_ ?_ ?_ ?_<;>simp [qK]
   ·intro i hi
    have hnl:=eD l a
    simp only [go_sem,seval]
    refine qP (fun hc2=>?_) (fun hc2=>?_)
    ·simp only [decide_eq_true_eq] at hc2
     have hiN:i<(yO l a).length:=by omega
     have hgm:=qI (yO l a) i hiN
     have hn2:=hnx i hiN
     obtain ⟨m0,m1⟩:=hN _ (yB (yO l a) i 0 hiN)
     cases hp:qHn l S1 a j i
     ·rw [hp,Bool.false_or] at hn2
      generalize (yO l a).getD i 0=m at *
      have h4:=f1.four _ m1
      unfold nxB at hn2
      have m2:m.toNat<S1.length:=by omega
      have m3:m<(S1.length:Nat):=by omega
      have hr:=hrow m.toNat m1
      have hsg:=fun r=>hsetg m.toNat r m1
      have hsm:=hsame m.toNat m1
      generalize S1.getD m.toNat []=R at *
      have hgb:=zR R j (by omega)
      have hj2:j<R.length:=by omega
      have hj3:(j:Int)<(R.length:Nat):=by omega
      cases hx:R.getD j false
      ·rw [hx] at hgb hn2
       simp only [go_sem,seval,hgm,hr,hsg,m0,m2,m3,hj2,hj3,hgb,qN (i:=i) (by omega)]
       repeat refine K ?_
       refine qM (i+1) ?_ hiN (by omega)
       rw [hn2]
       refine Sub.trans (Sub.foldAt 0 0 11 rfl (by simp [-gD]<;>omega) rfl (by decide) (by decide) rfl (by simp<;>omega)) ?_
       simp only [fS,fS3,qA,qC,hsm]
       refine Sub.shape [] id (by omega) ?_ ?_ ?_ ?_<;>simp [qK]
      ·rw [hx,Bool.true_and] at hn2
       rw [hx] at hgb
       simp only [go_sem,seval,hgm,hr,hsg,m0,m2,m3,hj2,hj3,hgb,hgi,ha]
       repeat refine K ?_
       refine CA [] (qMm (l.getD a default)) ?_
       try simp only [go_sem,seval]
       repeat refine K ?_
       try simp only [go_sem,seval]
       repeat refine K ?_
       refine CA [] (iM (uR (l.getD a default)) j (by omega)) ?_
       try simp only [go_sem,seval]
       repeat refine K ?_
       try simp only [go_sem,seval,qN (i:=i) (by omega)]
       repeat refine K ?_
       refine qM (i+1) ?_ hiN (by omega)
       rw [hn2]
       refine Sub.trans (Sub.foldAt 0 0 11 rfl (by simp [-gD]<;>omega) rfl (by decide) (by decide) rfl (by simp<;>omega)) ?_
       simp only [fS,fS3,qA,qC,hsm]
       refine Sub.shape [] id (by omega) ?_ ?_ ?_ ?_<;>simp [qK]
     ·rw [hp,Bool.true_or] at hn2
      simp only [go_sem,seval,qN (i:=i) (by omega)]
      repeat refine K ?_
      refine qM (i+1) ?_ hiN (by omega)
      rw [hn2]
      refine Sub.shape [] id (by omega) ?_ ?_ ?_ ?_<;>simp [qK]
    ·simp only [decide_eq_false_iff_not] at hc2
     have he:i=(yO l a).length:=by omega
     subst he
     rw [←hnb]
     clear hnb hnx p0
     have h4:=f1.four _ ha
     have m2:a<S1.length:=by omega
     have m3:(a:Int)<(S1.length:Nat):=by omega
     have hr:=hrow a ha
     have hsg:=fun r=>hsetg a r ha
     have hsm:=hsame a ha
     unfold qC7 atB at hst
     simp only at hst
     generalize kE l S1 a j=nb at *
     generalize hR:S1.getD a []=R at *
     have hgb:=zR R j (by omega)
     have hbs:=qT7 R j false (by omega)
     have hj2:j<R.length:=by omega
     have hj3:(j:Int)<(R.length:Nat):=by omega
     cases hx:R.getD j false<;>rw [hx] at hgb hst hbs<;>cases nb<;>cases mo<;>simp only [Bool.or_true,Bool.or_false,Bool.and_true,Bool.and_false,Bool.true_or,Bool.false_or,Bool.true_and,Bool.false_and,Bool.not_true,Bool.not_false] at hst
     all_goals
      simp only [go_sem,seval,hr,hsg,m2,m3,hj2,hj3,hgb,qN (i:=j) (by omega)]
      repeat refine K ?_
      refine qM (j+1) ?_ hj4 (by omega)
      rw [hst]
      refine Sub.trans (Sub.foldAt 0 0 11 rfl (by simp [-gD]<;>omega) rfl (by decide) (by decide) rfl (by simp<;>omega)) ?_
      simp only [fS,fS3,qA,qC,qGn]
      refine Sub.shape [] id (by omega) ?_ ?_ ?_ ?_<;>simp [qK]
  ·simp only [decide_eq_false_iff_not] at hc
   have he:j=4:=by omega
   subst he
   simp only [go_sem,seval]
   repeat refine K ?_
   refine fz ?_; simp [yQ,wJ,wK,wR,-wD9]
end Go.Sep
