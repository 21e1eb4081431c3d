/- Contracts of functions. -/
import Derived.Test.YtfecojefbnnknaaGreatRxx23
import Derived.Test.YtfecojefbnnknaaGreatRxx24
open List renaming drop_one → wD9, getD_eq_getElem?_getD → wBr, mem_singleton → wC6
namespace Go.Sep
set_option maxHeartbeats 16000000
open Go.Proofs
set_option linter.unusedSimpArgs false
set_option linter.unusedVariables false
set_option maxRecDepth 100000
open Nat renaming reduceAdd → qA, reduceMul → qB, reduceEqDiff → qC, reduceBEq → qD
open Int renaming reduceToNat → qE, reduceEq → qF, reduceLT → qG, reduceLE → qH
open List renaming getD_eq_getElem?_getD → gD
def m169:MFn:=⟨5,[.cell 2 2 true],kr [xb 1 0,xo 2 (.alloc [.nil,.nil])] (.seq (xr [xm 3 2 1,xo 4 (.call 200 [false,false] [.t 3,.c (.fn 214 [])]),xS 2 2 4]) (.ret))⟩
def m214:MFn:=⟨23,[.t 2],kr [xo 2 (.mv (.c (.nil)))] (kr [xv 6 0,xc1 7 248 (.t 6),xv 3 7] (.seq (kr [xv 8 0,xc1 9 270 (.t 8),xe 10 9,xI 11 0] (.blk 0 (.loop (kr [bT 12 .lss 11 10] (.seq (kX 12 0) (.seq (.blk 1 (kr [xD 13 1 9 11,xl 14 13,xv 5 14] (xr [xv 15 3,xv 16 5,xv 17 5,bI 18 .add 17 1,xo 19 (.build [xz,xz,xz,xz,xz] [(0,1,xi 11),(4,1,.t 18)]),xD 20 5 15 16,xS 5 20 19]))) (xr [bI 21 .add 11 1,xv 11 21]))))))) (kR [xv 22 3,xv 2 22])))⟩
def m270:MFn:=⟨60,[.t 2],kr [xo 2 (.mv (.c (.nil)))] (kr [xo 9 (.mkSl [xz] 0 []),xv 3 9] (.seq (kr [xv 10 0,xc2 11 67 (.t 10) (xi 3),xN 12 11] (kF 12 [xv 13 3,xv 2 13])) (kr [xv 14 0,xc1 15 170 (.t 14),xv 4 15] (kr [xv 16 0,xo 17 (.mkSl [xz] 1 [(0,xi 0)]),xc2 18 250 (.t 16) (.t 17),xv 5 18] (.seq (kr [xv 19 0,xe 20 19,xI 21 0] (.blk 0 (.loop (kr [bT 22 .lss 21 20] (.seq (kX 22 0) (.seq (.blk 1 (kr [xv 23 21,xD 24 5 19 21,xm 25 5 24,xo 7 (.alloc [xz,xz,xz,xz,xz]),xv 6 23,xS 5 7 25] (kr [xa 26 0 7,xl 27 26,xc3 28 59 (.t 27) (xi 1) (xi 4),xv 29 28,yv 30 5 29,yv 31 6 29,xg 32 (.iad 1 (.t 30) (.t 31)) 29 true,yl 33 1 32 29,xP 34 29 33,xv 35 34,yv 36 6 35,yI 37 .add 36 1 35,yv 38 0 35,ye 39 38 35,xg 40 (.bin .lss (.t 37) (.t 39)) 35 true,xP 41 35 40,xv 8 41] (.seq (.dreg (.only 0 [] (xv 42 8) (.only 1 [] (xv 43 42) (.take 2 (yv 44 4 43) (.take 3 (yv 45 6 43) (.take 4 (yI 46 .add 45 1 43) (.take 5 (xg 47 (.iad 1 (.t 44) (.t 46)) 43 true) (.take 6 (yl 48 1 47 43) (.only 7 [] (ya 49 1 7 43) (.only 8 [] (yl 50 1 49 43) (.only 9 [6,5,2,4,3] (xg 51 (.call 218 [false,false] [.t 48,.t 50]) 43 true) (.only 10 [9,6,5,2,4,3] (yN 52 51 43) (.only 11 [10,9,6,5,2,4,3] (xP 53 43 52) (.done)))))))))))))) (.cond 53 (xr [xv 54 3,xv 55 6,xo 56 (.mkSl [xz] 1 [(0,.t 55)]),xA 57 1 8 54 56,xv 3 57]) (.skip)))))) (xr [bI 58 .add 21 1,xv 21 58]))))))) (kR [xv 59 3,xv 2 59]))))))⟩
theorem qC0 {l:List Ins} (hb:wF l 3=true):(dO l).length=l.length:=by
 unfold dO
 rw [if_pos hb]
 simp
theorem qJ1 {l:List Ins} (hb:wF l 3=true) {a:Nat} (ha:a<l.length) {r:Int} (hr:0≤r∧r<4):r∈(dO l).getD a []↔qE2 l a r:=by
 unfold dO
 rw [if_pos hb]
 simp only [wBr,List.getElem?_map,List.getElem?_range ha,Option.map_some,Option.getD_some,List.mem_filter]
 constructor
 ·rintro ⟨_,h⟩
  simpa using h
 ·intro h
  refine ⟨?_,by simpa using h⟩
  simp
  omega
theorem qJ0 {l:List Ins} (a:Nat):((dO l).getD a []).length≤4:=by
 by_cases ha:a<(dO l).length
 ·unfold dO at ha⊢
  split at ha
  ·rename_i hb
   rw [if_pos hb]
   have ha':a<l.length:=by simpa using ha
   simp only [wBr,List.getElem?_map,List.getElem?_range ha',Option.map_some,Option.getD_some]
   exact List.length_filter_le _ _
  ·simp at ha
 ·rw [wBr,List.getElem?_eq_none (by omega)]
  simp
noncomputable def xH (l:List Ins) (i:Nat):List Int:=((List.range i).filter (fX l)).map fun (a:Nat)=>(a:Int)
noncomputable def dH (l:List Ins):List Int:=if wF l 3 then xH l l.length else []
theorem sZ (l:List Ins) (i:Nat):xH l (i+1)=xH l i++if fX l i then [(i:Int)] else []:=by
 unfold xH
 rw [List.range_succ,List.filter_append,List.map_append]
 congr 1
 simp only [List.filter_cons,List.filter_nil]
 split<;>rfl
theorem lI (l:List Ins) :∀i,(xH l i).length≤i:=fun i=>by
 unfold xH
 rw [List.length_map]
 exact Nat.le_trans (List.length_filter_le _ _) (by simp)
theorem qOc {l:List Ins} (hb:wF l 3=true) {a:Nat} (ha:a<l.length):fX l a=(qW (l.getD a default).op 1 4&&(xW l).getD a false&&decide (a+1<l.length)&&!decide ((l.getD a default).r∈(dO l).getD (a+1) [])):=by
 obtain ⟨hr',_,_⟩:=qCd hb ha
 have hr:0≤(l.getD a default).r∧(l.getD a default).r<4:=⟨hr'.1,by omega⟩
 rw [Bool.eq_iff_iff]
 unfold fX qP6
 simp only [Bool.and_eq_true,decide_eq_true_eq,qL,Bool.not_eq_true',decide_eq_false_iff_not]
 constructor
 ·rintro ⟨h1,h2,h3,h4⟩
  exact ⟨⟨⟨h2,h1⟩,h3⟩,fun h=>h4 ((qJ1 hb h3 hr).1 h)⟩
 ·rintro ⟨⟨⟨h2,h1⟩,h3⟩,h4⟩
  exact ⟨h1,h2,h3,fun h=>h4 ((qJ1 hb h3 hr).2 h)⟩
theorem rY (l:List Ins) (hl:l.length<2^40):qY Tryz.prog num 270 [.sl .bw 5 (yV l)] [] (.sl .own 1 (wE (dH l))):=by
 refine EN m270 Tryz.func14 ?_
 unfold m270
 simp only [go_sem,seval]
 repeat refine K ?_
 refine CA [] (kK l 3 (by omega) (by omega) (by omega)) ?_
 try simp only [go_sem,seval]
 repeat refine K ?_
 cases hb:wF l 3
 ·have hf:dH l=[]:=by simp [dH,hb]
  rw [hf]
  try simp only [go_sem,seval,hb]
  repeat refine K ?_
  refine ⟨_,Sub.refl _,qU ?_⟩; simp [-wD9]
  rfl
 obtain ⟨hl1,hl2⟩:=zS hb
 have hrk:=qPl l hb
 have hrc:=(nY hb).1
 have hll:=qC0 hb
 have hdl:dH l=xH l l.length:=by simp [dH,hb]
 have hda:=fun a ha=>@qOc l hb a ha
 have hrow:=fun a=>@qJ0 l a
 rw [hdl]
 try simp only [go_sem,seval,hb]
 repeat refine K ?_
 refine CA [] (qHr l hl) ?_
 try simp only [go_sem,seval]
 repeat refine K ?_
 generalize dO l=V at *
 try simp only [go_sem,seval]
 repeat refine K ?_
 have hbw:bwR [[AV.int .i64 0]]=wE [0]:=rfl
 refine CA [] (hrk) ?_
 try simp only [go_sem,seval]
 repeat refine K ?_
 generalize xW l=R at *
 try simp only [go_sem,seval]
 repeat refine K ?_
 refine qZ (ι:=Nat) (fun i=>.mk [(0,.sl .bw 5 (yV l)),(3,.ns 10 0 (xH l i).length),(4,.ns 11 0 l.length),(5,.ns 13 0 l.length),(19,.sl .bw 5 (yV l)),(20,.int .i64 l.length),(21,.int .i64 i)] [(10,1,wE (xH l i)),(11,1,jG .own V),(13,1,jA R)] 14) (fun i=>i≤l.length) (fun i=>l.length-i) 0 (by simp) ?_ ?_
 ·refine Sub.shape [] id (by omega) ?_ ?_ ?_ ?_<;>simp [qK]
  all_goals (first | rfl | exact .inl rfl | exact ⟨rfl,by omega⟩ | omega | trace_state)
 ·intro i hi
  simp only [go_sem,seval]
  refine qP (fun hc=>?_) (fun hc=>?_)
  ·simp only [decide_eq_true_eq] at hc
   have hi':i<l.length:=by omega
   have hg:=jQ l i hi'
   have hgr:=zR R i (by omega)
   have hst:=sZ l i
   have hlen:=lI l i
   have hd:=hda i hi'
   generalize l.getD i default=x at hg hd
   simp only [go_sem,seval,hg]
   repeat refine K ?_
   refine CA [] (bG x.op 1 4) ?_
   try simp only [go_sem,seval]
   repeat refine K ?_
   have hno:fX l i=false→xH l (i+1)=xH l i:=fun h=>by rw [hst,h]; simp
   have hyes:fX l i=true→xH l (i+1)=xH l i++[(i:Int)]:=fun h=>by rw [hst,h]; simp
   clear hst
   cases h1:qW x.op 1 4
   ·rw [h1] at hd
    rw [←hno hd] at *
    try simp only [go_sem,seval,qN (i:=i) (by omega)]
    repeat refine K ?_
    try simp only [go_sem,seval,qN (i:=i) (by omega)]
    repeat refine K ?_
    refine qM (i+1) ?_ hi' (by omega)
    refine Sub.shape [] id (by omega) ?_ ?_ ?_ ?_<;>simp [qK]
   rw [h1] at hd
   cases h2:R.getD i false
   ·rw [h2] at hd hgr
    rw [←hno hd] at *
    try simp only [go_sem,seval,hgr,qN (i:=i) (by omega)]
    repeat refine K ?_
    try simp only [go_sem,seval,hgr,qN (i:=i) (by omega)]
    repeat refine K ?_
    refine qM (i+1) ?_ hi' (by omega)
    refine Sub.shape [] id (by omega) ?_ ?_ ?_ ?_<;>simp [qK]
   rw [h2] at hd hgr
   by_cases h3:i+1<l.length
   ·have d3:((i+1:Nat):Int)<(l.length:Nat):=by omega
    have gV:=mK .own V (i+1) (by omega)
    have gVs :∀r,((jG .own V).set (i+1) r).getD (i+1) []=r:=fun r=>jR _ _ _ _ (by rw [uE]; omega)
    have hV:(jG .own V).set (i+1) [.sl .own 1 (wE (V.getD (i+1) []))]=jG .own V:=by rw [←gV]; exact jP _ _ _ (by rw [uE]; omega)
    have hr4:=hrow (i+1)
    rw [decide_eq_true h3] at hd
    generalize V.getD (i+1) []=v at *
    have hVl:i+1<V.length:=by omega
    try simp only [go_sem,seval,hgr,qN (i:=i) (by omega),d3,gV,gVs,hVl,h3]
    repeat refine K ?_
    try simp only [go_sem,seval,hgr,qN (i:=i) (by omega),d3,gV,gVs,hVl,h3]
    repeat refine K ?_
    refine DA [] (qCp v x.r (by omega)) ?_
    try simp only [go_sem,seval]
    repeat refine K ?_
    by_cases h4:x.r∈v
    ·rw [decide_eq_true h4] at hd
     rw [←hno hd] at *
     have d4:decide (x.r∈v)=true:=decide_eq_true h4
     try simp only [go_sem,seval,d4,qN (i:=i) (by omega)]
     repeat refine K ?_
     refine qM (i+1) ?_ hi' (by omega)
     refine Sub.trans (Sub.foldAt 11 0 15 rfl (by simp [-gD]<;>omega) rfl (by decide) (by decide) rfl (by simp<;>omega)) ?_
     simp only [fS,fS3,qA,qC,hV]
     refine Sub.shape [] id (by omega) ?_ ?_ ?_ ?_<;>simp [qK]
    ·rw [decide_eq_false h4] at hd
     have d4:decide (x.r∈v)=false:=decide_eq_false h4
     try simp only [go_sem,seval,d4,qN (i:=i) (by omega)]
     repeat refine K ?_
     refine qM (i+1) ?_ hi' (by omega)
     rw [hyes hd]
     refine Sub.trans (Sub.foldAt 11 0 15 rfl (by simp [-gD]<;>omega) rfl (by decide) (by decide) rfl (by simp<;>omega)) ?_
     simp only [fS,fS3,qA,qC,hV]
     refine Sub.shape [] (fun n=>if n=10 then 17 else n) (by omega) ?_ ?_ ?_ ?_<;>simp [qK]
     all_goals (first | omega | exact .inl (eF _ _) | trace_state)
   ·rw [decide_eq_false h3] at hd
    have d3 :¬((i+1:Nat):Int)<(l.length:Nat):=by omega
    rw [←hno hd] at *
    try simp only [go_sem,seval,hgr,qN (i:=i) (by omega),d3,h3]
    repeat refine K ?_
    try simp only [go_sem,seval,hgr,qN (i:=i) (by omega),d3,h3]
    repeat refine K ?_
    refine qM (i+1) ?_ hi' (by omega)
    refine Sub.shape [] id (by omega) ?_ ?_ ?_ ?_<;>simp [qK]
  ·simp only [decide_eq_false_iff_not] at hc
   have he:i=l.length:=by omega
   subst he
   simp only [go_sem,seval]
   repeat refine K ?_
   refine ⟨_,Sub.refl _,qU ?_⟩; simp [-wD9]
def trD (l:List Ins) (D:List Int):List Ins:=D.foldl (fun o a=>o.set a.toNat ⟨11,0,0,0,a+1⟩) l
theorem pO :∀(D:List Int) (l:List Ins),(trD l D).length=l.length
 | [],l=>rfl
 | d::D,l=>by
  show (trD (l.set d.toNat _) D).length=_
  rw [pO D,List.length_set]
theorem qEr (l:List Ins) (D:List Int) (d:Int):trD l (D++[d])=(trD l D).set d.toNat ⟨11,0,0,0,d+1⟩:=by simp [trD]
theorem wA0 (l:List Ins) :∀(D:List Int) (_ :∀d∈D,0≤d∧d.toNat<l.length) (a:Nat) (_:a<l.length),(trD l D).getD a default=if (a:Int)∈D then ⟨11,0,0,0,(a:Int)+1⟩ else l.getD a default:=by
 intro D
 suffices h :∀n,n≤D.length→(∀d∈D,0≤d∧d.toNat<l.length)→∀a,a<l.length→(trD l (D.take n)).getD a default=if (a:Int)∈D.take n then ⟨11,0,0,0,(a:Int)+1⟩ else l.getD a default by
  intro hD a ha
  have:=h D.length (Nat.le_refl _) hD a ha
  rwa [List.take_length] at this
 intro n
 induction n with
 | zero=>intro _ _ a ha; simp [trD]
 | succ n ih =>
  intro hn hD a ha
  have hd:=hD _ (yB D n 0 hn)
  rw [jX D 0 n hn,qEr,jL _ _ _ _ _ (by rw [pO]; exact hd.2),ih (by omega) hD a ha]
  by_cases e:a=(D.getD n 0).toNat
  ·rw [if_pos e,if_pos (by rw [List.mem_append]; exact .inr (by rw [wC6]; omega))]
   congr 1
   omega
  ·rw [if_neg e]
   have e2 :¬(a:Int)=D.getD n 0:=fun h=>e (by omega)
   simp only [List.mem_append,wC6,e2,or_false]
theorem pB {l:List Ins} {d:Int} (h:d∈dH l):0≤d∧d.toNat<l.length∧fX l d.toNat=true∧wF l 3=true:=by
 unfold dH at h
 split at h
 ·rename_i hb
  obtain ⟨a,ha,rfl⟩:=List.mem_map.1 h
  obtain ⟨h1,h2⟩:=List.mem_filter.1 ha
  refine ⟨by omega,by rw [Int.toNat_natCast]; exact List.mem_range.1 h1,by rw [Int.toNat_natCast]; exact h2,hb⟩
 ·simp at h
theorem qMa (l:List Ins):trD l (dH l)=vP l:=by
 by_cases hb:wF l 3=true
 ·refine qO6 default (by rw [pO,bR]) fun a ha=>?_
  have ha':a<l.length:=by rwa [pO] at ha
  rw [wA0 l _ (fun d hd=>⟨(pB hd).1,(pB hd).2.1⟩) a ha',qEo hb ha']
  unfold qMb
  by_cases hd:fX l a=true
  ·have:(a:Int)∈dH l:=by
    unfold dH
    rw [if_pos hb]
    exact List.mem_map.2 ⟨a,List.mem_filter.2 ⟨List.mem_range.2 ha',hd⟩,rfl⟩
   rw [if_pos this,if_pos hd]
   rfl
  ·have:(a:Int)∉dH l:=fun h=>hd (by have:=(pB h).2.2.1; rwa [Int.toNat_natCast] at this)
   rw [if_neg this,if_neg hd]
 ·have h1:dH l=[]:=by unfold dH; rw [if_neg hb]
  have h2:vP l=l:=by unfold vP; rw [if_neg hb]
  rw [h1,h2]
  rfl
theorem nE (l:List Ins) (hl:l.length<2^40):qY Tryz.prog num 214 [.sl .bw 5 (yV l)] [] (.sl .own 5 (yV (vP l))):=by
 have hdl:(dH l).length≤l.length:=by
  unfold dH
  split
  ·exact lI l _
  ·simp
 have hdi:=fun d=>@pB l d
 have he:=qMa l
 refine EN m214 Tryz.func17 ?_
 unfold m214
 simp only [go_sem,seval]
 repeat refine K ?_
 refine CA [] (qD7 l (by omega)) ?_
 try simp only [go_sem,seval]
 repeat refine K ?_
 try simp only [go_sem,seval]
 repeat refine K ?_
 refine CA [] (rY l hl) ?_
 try simp only [go_sem,seval]
 repeat refine K ?_
 generalize dH l=D at *
 try simp only [go_sem,seval]
 repeat refine K ?_
 refine qZ (ι:=Nat) (fun i=>.mk [(3,.ns 10 0 l.length),(9,.ns 11 0 D.length),(10,.int .i64 D.length),(11,.int .i64 i)] [(10,5,yV (trD l (D.take i))),(11,1,wE D)] 12) (fun i=>i≤D.length) (fun i=>D.length-i) 0 (by simp) ?_ ?_
 ·refine Sub.shape [] id (by omega) ?_ ?_ ?_ ?_<;>simp [qK]
  all_goals (first | rfl | exact .inl rfl)
 ·intro i hi
  simp only [go_sem,seval]
  refine qP (fun hc=>?_) (fun hc=>?_)
  ·simp only [decide_eq_true_eq] at hc
   have hil:i<D.length:=by omega
   have hg:=qI D i hil
   obtain ⟨d0,d1,_,_⟩:=hdi _ (yB D i 0 hil)
   have htl:=pO (D.take i) l
   have hst:trD l (D.take (i+1))=(trD l (D.take i)).set (D.getD i 0).toNat ⟨11,0,0,0,D.getD i 0+1⟩:=by rw [jX D 0 i hil,qEr]
   have hgo:=jQ (trD l (D.take i)) (D.getD i 0).toNat (by omega)
   have hw:IntKind.i64.wrap (D.getD i 0+1)=D.getD i 0+1:=yL (by omega) (by omega)
   have hd2:D.getD i 0<(l.length:Nat):=by omega
   have hsg:=qJ6 (trD l (D.take i)) (D.getD i 0).toNat ⟨11,0,0,0,D.getD i 0+1⟩
   simp only at hsg
   rw [←hst] at hsg
   generalize D.getD i 0=d at *
   simp only [go_sem,seval,hg,d0,hd2,d1,hw,hgo,htl,hsg,qN (i:=i) (by omega)]
   repeat refine K ?_
   refine qM (i+1) ?_ hil (by omega)
   refine Sub.shape [] id (by omega) ?_ ?_ ?_ ?_<;>simp [qK]
  ·simp only [decide_eq_false_iff_not] at hc
   have hie:i=D.length:=by omega
   subst hie
   rw [List.take_length] at *
   rw [he]
   simp only [go_sem,seval]
   repeat refine K ?_
   refine ⟨_,Sub.refl _,qU ?_⟩; simp [-wD9]
   have htb:=bR l
   exact ⟨by omega,fun h=>absurd htb h⟩
theorem rS (p:wQ) (hp:aW p):qY Tryz.prog num 169 [.agg (jY .bw p)] [] (.agg (jY .own (wX p))):=by
 have eb:=qO9 p hp 214 vP (fun b hb=>nE b (hp.body b hb))
 have he:qJg vP p=wX p:=rfl
 rw [he] at eb
 refine EN m169 Tryz.func8 ?_
 unfold m169
 simp only [go_sem,seval]
 repeat refine K ?_
 refine CA [] (eb) ?_
 try simp only [go_sem,seval]
 repeat refine K ?_
 try simp only [go_sem,seval]
 repeat refine K ?_
 refine ⟨_,Sub.refl _,qU ?_⟩; simp [-wD9]
end Go.Sep
