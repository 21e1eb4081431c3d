/- Contracts of functions. -/
import Derived.Test.YtfecojefbnnknaaGreatRxx13
import Derived.Test.YtfecojefbnnknaaGreatRxx16
import Derived.Test.YtfecojefbnnknaaGreatRxx17
open List renaming getD_eq_getElem?_getD → wBr, mem_singleton → wC6
namespace Go.Sep
set_option maxHeartbeats 16000000
open Go.Proofs
set_option linter.unusedSimpArgs false
set_option linter.unusedVariables false
set_option maxRecDepth 100000
open Nat renaming reduceAdd → qA, reduceMul → qB, reduceEqDiff → qC, reduceBEq → qD
open Int renaming reduceToNat → qE, reduceEq → qF, reduceLT → qG, reduceLE → qH
open List renaming getD_eq_getElem?_getD → gD
def m200:MFn:=⟨31,[.cell 4 2 true],kr [xb 2 0,xo 4 (.alloc [.nil,.nil])] (kr [xm 8 2 2,xc1 9 247 (.t 8),xo 5 (.alloc [.nil,.nil]),xS 2 5 9] (.seq (kr [xm 10 2 2,xc1 11 48 (.t 10),xN 12 11] (kF 12 [xm 13 2 5,xS 2 4 13])) (.seq (kr [xa 14 1 2,xl 15 14,xe 16 15,xI 17 0] (.blk 0 (.loop (kr [bT 18 .lss 17 16] (.seq (kX 18 0) (.seq (.blk 1 (kr [xv 19 17,xD 20 1 15 17,xl 21 20,xv 6 19,xv 7 21] (.dreg (.take 0 (xa 22 1 5) (.take 1 (xl 23 22) (.take 2 (xv 24 6) (.take 3 (xv 25 1) (.only 4 [] (xv 26 7) (.only 5 [3] (xo 27 (.calv (.t 25) [.t 26])) (.only 6 [0,1,2,3] (xD 28 1 23 24) (.only 7 [0,1,2,3] (xS 1 28 27) (.done)))))))))))) (xr [bI 29 .add 17 1,xv 17 29]))))))) (kR [xm 30 2 5,xS 2 4 30]))))⟩
open Classical in
noncomputable def qNw (l:List Ins):KS:=if h:wF l 3=true then Classical.choose (qFs h) else []
theorem qNv (l:List Ins) (h:wF l 3=true):qXw l (qNw l):=by
 unfold qNw
 rw [dif_pos h]
 exact Classical.choose_spec (qFs h)
theorem qJ6 (l:List Ins) (i:Nat) (y:Ins):(yV l).set i [.int .i64 y.op,.int .i64 y.r,.int .i64 y.a,.int .i64 y.b,.int .i64 y.n]=yV (l.set i y):=by simp [yV,gE]
def nI (g:List Ins→List Ins) (l:List (List Ins)) (i:Nat):List (List Ins):=(l.take i).map g++l.drop i
theorem iL (g:List Ins→List Ins) (l:List (List Ins)) (i:Nat) (h:i≤l.length):(nI g l i).length=l.length:=by
 unfold nI
 rw [List.length_append,List.length_map,List.length_take,List.length_drop]
 omega
theorem pZ (g:List Ins→List Ins) (l:List (List Ins)):nI g l 0=l:=by simp [nI]
theorem qNh (g:List Ins→List Ins) (l:List (List Ins)):nI g l l.length=l.map g:=by simp [nI]
theorem qIz (g:List Ins→List Ins) (l:List (List Ins)) (i:Nat) (h:i<l.length):(nI g l i).getD i []=l.getD i []:=by
 have hl:((l.take i).map g).length=i:=by rw [List.length_map,List.length_take]; omega
 unfold nI
 rw [wBr,List.getElem?_append_right (by omega),hl]
 simp [wBr]
theorem qIy (g:List Ins→List Ins) (l:List (List Ins)) (i:Nat) (h:i<l.length):nI g l (i+1)=(nI g l i).set i (g (l.getD i [])):=by
 have hl:((l.take i).map g).length=i:=by rw [List.length_map,List.length_take]; omega
 have hd:l.drop i=l.getD i []::l.drop (i+1):=by
  rw [List.drop_eq_getElem_cons h]
  simp [wBr,h]
 unfold nI
 rw [jX l [] i h,List.map_append,hd,List.set_append_right _ _ (by omega),hl]
 simp
theorem qJw (m:Mode) (l:List (List Ins)) (i:Nat) (b:List Ins):(yT m l).set i [.sl m 5 (yV b)]=yT m (l.set i b):=by simp [yT]
noncomputable def qJg (g:List Ins→List Ins) (p:wQ):wQ:=if yR p then ⟨p.caps,p.bods.map g⟩ else p
theorem wAb {P:Program} {num:Nat→Nat} {fin:AS→Prop} (i:Nat) (deps:List Nat) (dst:Option Nat) (y:Arg) (xs:List Arg) (tr:vZ) (pend:List (Nat×List Nat)) (k:List It) (t:List (Nat×AV)) (h:wT) (nx:Nat) :
  vc P num fin (.draw (.only i deps ⟨dst,.calv y xs,none⟩ tr) pend::k) (.mk t h nx)=qJm P num fin (.calv y xs) (yK deps pend) dst tr k t h nx:=by
 rw [vc]
 rfl
theorem qO9 (p:wQ) (hp:aW p) (F:Nat) (g:List Ins→List Ins) (hF :∀b∈p.bods,qY Tryz.prog num F [.sl .bw 5 (yV b)] [] (.sl .own 5 (yV (g b)))) :
  qY Tryz.prog num 200 [.agg (jY .bw p),.fn F []] [] (.agg (jY .own (qJg g p))):=by
 have hp':=hp
 obtain ⟨h1,h2,h3⟩:=hp
 have lp:=qOe p hp'
 have po:=eN p (by omega) (by omega) (fun b hb=>by have:=h3 b hb; omega)
 refine EN m200 Tryz.func50 ?_
 unfold m200
 simp only [go_sem,seval]
 repeat refine K ?_
 refine CA [] (lp) ?_
 try simp only [go_sem,seval]
 repeat refine K ?_
 try simp only [go_sem,seval]
 repeat refine K ?_
 refine CA [] (po) ?_
 try simp only [go_sem,seval]
 repeat refine K ?_
 cases hpo:yR p
 ·have hf:qJg g p=p:=by simp [qJg,hpo]
  rw [hf]
  try simp only [go_sem,seval]
  repeat refine K ?_
  refine ⟨_,Sub.refl _,qU ?_⟩; simp [-List.drop_one]
 have hf:qJg g p=⟨p.caps,p.bods.map g⟩:=by simp [qJg,hpo]
 rw [hf]
 try simp only [go_sem,seval]
 repeat refine K ?_
 refine qZ (ι:=Nat) (fun i=>.mk [(1,.fn F []),(4,.ptr 11 0 0),(5,.ptr 14 0 0),(15,.sl .bw 1 (yT .bw p.bods)),(16,.int .i64 p.bods.length),(17,.int .i64 i)] [(11,2,[[.nil,.nil]]),(14,2,[[.sl .own 1 (wE p.caps),.sl .own 1 (yT .own (nI g p.bods i))]])] 15) (fun i=>i≤p.bods.length) (fun i=>p.bods.length-i) 0 (by simp) ?_ ?_
 ·refine Sub.trans (Sub.fold1 14 0 12 rfl (by simp [-gD]<;>omega) rfl (by decide) (by decide) rfl) ?_
  simp only [fS,fS3,qA,qC]
  refine Sub.trans (Sub.fold1 14 1 13 rfl (by simp [-gD]<;>omega) rfl (by decide) (by decide) rfl) ?_
  simp only [fS,fS3,qA,qC]
  have e0:=pZ g p.bods
  refine Sub.shape [] id (by omega) ?_ ?_ ?_ ?_<;>simp [qK]
  all_goals (rw [e0])
  all_goals (exact .inl rfl)
 ·rintro i hi
  have hml:=iL g p.bods i hi
  simp only [go_sem,seval]
  refine qP (fun hc=>?_) (fun hc=>?_)
  ·simp only [decide_eq_true_eq] at hc
   have hlt:i<p.bods.length:=by omega
   have hgb:=wB .bw p.bods i hlt
   have hst:=qIy g p.bods i hlt
   have fb:=hF _ (yB p.bods i [] hlt)
   have hgs:(yT .own (nI g p.bods i)).getD i []=[.sl .own 5 (yV (p.bods.getD i []))]:=by rw [wB .own _ i (by omega),qIz g p.bods i hlt]
   generalize p.bods.getD i []=b at hgb hst fb hgs
   simp only [go_sem,seval,hgb,hml,wAb]
   repeat refine K ?_
   refine DAV [] (fb) ?_
   try simp only [go_sem,seval]
   repeat refine K ?_
   generalize g b=fbb at hst
   try simp only [go_sem,seval,hml,hgs,qN (i:=i) (by omega)]
   repeat refine K ?_
   refine qM (i+1) ?_ hlt (by omega)
   have hml2:=iL g p.bods (i+1) hlt
   have hbs:=qJw .own (nI g p.bods i) i fbb
   rw [←hst] at hbs
   refine Sub.trans (Sub.foldAt 15 0 16 rfl (by simp [-gD]<;>omega) rfl (by decide) (by decide) rfl (by simp<;>omega)) ?_
   simp only [fS,fS3,qA,qC,hbs]
   refine Sub.trans (Sub.fold1 14 1 15 rfl (by simp [-gD]<;>omega) rfl (by decide) (by decide) rfl) ?_
   simp only [fS,fS3,qA,qC,hbs,hml2]
   refine Sub.shape [] id (by omega) ?_ ?_ ?_ ?_<;>simp [qK]
  ·simp only [decide_eq_false_iff_not] at hc
   have he:i=p.bods.length:=by omega
   subst he
   simp only [go_sem,seval,qNh]
   repeat refine K ?_
   refine ⟨_,Sub.refl _,qU ?_⟩; simp [-List.drop_one]
def mJ (x:Ins):Bool:=decide (5≤x.op)&&decide (x.op≤9)
def cU (x:Ins) (regs:List Int) (c:jZ):List Int :=
 if x.op=1 then regs.set x.r.toNat x.n
 else if x.op=2∨x.op=3∨x.op=4 then regs.set x.r.toNat (xZ x.op (regs.getD x.a.toNat 0) (regs.getD x.b.toNat 0))
 else if mJ x then (wC ⟨0,regs,0⟩ c x).1.regs
 else regs
def qDt (x:Ins) (regs:List Int) (at_:Int):Int:=if x.op=11 then x.n else if x.op=12 then (if regs.getD x.a.toNat 0=0 then x.n else at_+1) else at_+1
def qDu (x:Ins) (regs:List Int) (chs:List jZ):List jZ:=if mJ x then chs.set x.n.toNat (wC ⟨0,regs,0⟩ (chs.getD x.n.toNat default) x).2.1 else chs
def cB (x:Ins) (regs:List Int) (c:jZ):Bool:=if mJ x then (wC ⟨0,regs,0⟩ c x).2.2 else true
def qDs (i:Nat) (x:Ins) (regs:List Int) (tr:List bP):List bP:=if x.op=10 then tr++[⟨i,regs.getD x.a.toNat 0⟩] else tr
theorem qHz (t:yP) (c:jZ) (x:Ins):(wC t c x).1=⟨t.at_,(wC ⟨0,t.regs,0⟩ c x).1.regs,t.st⟩∧(wC t c x).2=(wC ⟨0,t.regs,0⟩ c x).2:=by
 unfold wC reg wV
 repeat' split
 all_goals exact ⟨rfl,rfl⟩
theorem sY {p:wQ} {s:wA} {i:Nat} (hop:1≤(ins p s i).op∧(ins p s i).op≤13):wN p s i =
  if (ins p s i).op=13 then ⟨s.ths.set i ⟨(thd s i).at_,(thd s i).regs,1⟩,s.chs,s.tr⟩
  else vQ p ⟨s.ths,qDu (ins p s i) (thd s i).regs s.chs,qDs i (ins p s i) (thd s i).regs s.tr⟩ i ⟨(thd s i).at_,cU (ins p s i) (thd s i).regs (chn s (ins p s i).n.toNat),(thd s i).st⟩ (cB (ins p s i) (thd s i).regs (chn s (ins p s i).n.toNat)) (qDt (ins p s i) (thd s i).regs (thd s i).at_):=by
 have hth:s.ths.getD i default=thd s i:=rfl
 have hcs:s.chs.getD (ins p s i).n.toNat default=chn s (ins p s i).n.toNat:=rfl
 unfold wN
 rw [hth,hcs]
 generalize ins p s i=x at *
 generalize hT:thd s i=t at *
 unfold qDu qDs cU cB qDt mJ wV reg
 rw [hcs]
 have hcase:x.op=1∨x.op=2∨x.op=3∨x.op=4∨x.op=10∨x.op=11∨x.op=12∨x.op=13∨(5≤x.op∧x.op≤9):=by omega
 rcases hcase with h | h | h | h | h | h | h | h | h
 all_goals (first
  | (simp [h,-wBr]; done)
  | (
   rw [if_neg (by omega),if_neg (by omega),if_neg (by omega),if_neg (by omega),if_neg (by omega),if_neg (by omega),if_neg (by omega)]
   obtain ⟨e1,e2⟩:=qHz t (chn s x.n.toNat) x
   rw [e1,e2]
   have hb:(decide (5≤x.op)&&decide (x.op≤9))=true:=by simp [h]
   simp only [hb,if_true]
   rw [if_neg (by omega),if_neg (by omega),if_neg (by omega),if_neg (by omega),if_neg (by omega)]))
inductive qSn (p:wQ) (s:wA) (i:Nat):wA→Prop where
 | ended (h:(ins p s i).op=13):qSn p s i ⟨s.ths.set i ⟨(thd s i).at_,(thd s i).regs,1⟩,s.chs,s.tr⟩
 | fault (h:cB (ins p s i) (thd s i).regs (chn s (ins p s i).n.toNat)=false):qSn p s i ⟨s.ths.set i ⟨(thd s i).at_,cU (ins p s i) (thd s i).regs (chn s (ins p s i).n.toNat),2⟩,qDu (ins p s i) (thd s i).regs s.chs,qDs i (ins p s i) (thd s i).regs s.tr⟩
 | next (n:Nat) (h:cB (ins p s i) (thd s i).regs (chn s (ins p s i).n.toNat)=true) (h13:(ins p s i).op≠13) (hn:qDt (ins p s i) (thd s i).regs (thd s i).at_=n) (hl:n<(body p i).length) (hm:(n:Int)∈yO (body p i) (thd s i).at_.toNat) :
   qSn p s i ⟨s.ths.set i ⟨n,cU (ins p s i) (thd s i).regs (chn s (ins p s i).n.toNat),(thd s i).st⟩,qDu (ins p s i) (thd s i).regs s.chs,qDs i (ins p s i) (thd s i).regs s.tr⟩
theorem qD4 {p:wQ} {s:wA} {i:Nat} (h:wG p s=true) (hi:i<s.ths.length):qSn p s i (wN p s i):=by
 have hs:=(jE p s).1 h
 have hA:=qB4 h hi
 have hb:=(oB hs.1).2.2.2.2 _ (yB p.bods i [] hA.hb)
 have hop:=hA.op
 have hat0:=hA.at0
 have hat1:=hA.at1
 rw [sY hop]
 split
 ·rename_i h13
  exact .ended h13
 rename_i h13
 unfold vQ
 cases hok:cB (ins p s i) (thd s i).regs (chn s (ins p s i).n.toNat)
 ·rw [if_pos (.inl rfl)]
  exact .fault hok
 have hlast:(ins p s i).op≠11→(thd s i).at_.toNat+1<(p.bods.getD i []).length:=by
  intro h11
  have hb2:=hb
  unfold wF xK at hb2
  simp only [Bool.and_eq_true,Bool.or_eq_true,decide_eq_true_eq] at hb2
  rcases Nat.lt_or_ge ((thd s i).at_.toNat+1) (p.bods.getD i []).length with hh | hh
  ·exact hh
  ·exfalso
   have hat1':(thd s i).at_.toNat<(p.bods.getD i []).length:=hat1
   have e:(p.bods.getD i []).length-1=(thd s i).at_.toNat:=by omega
   have hl:=hb2.2
   rw [e] at hl
   have:((p.bods.getD i []).getD (thd s i).at_.toNat default)=ins p s i:=rfl
   rw [this] at hl
   omega
 have hat0':0≤(thd s i).at_:=hat0
 have hnx :∃n:Nat,qDt (ins p s i) (thd s i).regs (thd s i).at_=n∧n<(p.bods.getD i []).length∧(n:Int)∈yO (body p i) (thd s i).at_.toNat:=by
  have hx:(body p i).getD (thd s i).at_.toNat default=ins p s i:=rfl
  unfold yO qDt
  simp only [hx]
  rw [if_neg h13]
  by_cases h11:(ins p s i).op=11
  ·obtain ⟨j0,j1⟩:=hA.jm (.inl h11)
   rw [if_pos h11,if_pos h11]
   exact ⟨(ins p s i).n.toNat,by omega,j1,by rw [wC6]; omega⟩
  have hl:=hlast h11
  rw [if_neg h11,if_neg h11]
  by_cases h12:(ins p s i).op=12
  ·obtain ⟨j0,j1⟩:=hA.jm (.inr h12)
   rw [if_pos h12,if_pos h12]
   have hmem :∀n:Int,n=(ins p s i).n∨n=(thd s i).at_+1→n∈(if (ins p s i).n<((thd s i).at_.toNat:Int)+1 then [(ins p s i).n,((thd s i).at_.toNat:Int)+1] else if ((thd s i).at_.toNat:Int)+1<(ins p s i).n then [((thd s i).at_.toNat:Int)+1,(ins p s i).n] else [((thd s i).at_.toNat:Int)+1]):=by
    intro n hn
    split
    ·simp only [List.mem_cons,List.not_mem_nil,or_false]; omega
    split
    ·simp only [List.mem_cons,List.not_mem_nil,or_false]; omega
    ·rw [wC6]; omega
   split
   ·exact ⟨(ins p s i).n.toNat,by omega,j1,hmem _ (.inl (by omega))⟩
   ·exact ⟨(thd s i).at_.toNat+1,by push_cast; omega,hl,hmem _ (.inr (by push_cast; omega))⟩
  ·rw [if_neg h12,if_neg h12]
   exact ⟨(thd s i).at_.toNat+1,by push_cast; omega,hl,by rw [wC6]; push_cast; omega⟩
 obtain ⟨n,h1,h2,h3⟩:=hnx
 rw [if_neg (by rintro (e | e); exact absurd e (by decide); rw [h1] at e; omega),h1]
 exact .next n hok h13 h1 h2 h3
end Go.Sep
