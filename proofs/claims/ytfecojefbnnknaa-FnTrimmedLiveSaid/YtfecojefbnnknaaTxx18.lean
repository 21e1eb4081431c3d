/- Contracts of functions. -/
import Derived.Test.YtfecojefbnnknaaTxx13
import Derived.Test.YtfecojefbnnknaaTxx16
import Derived.Test.YtfecojefbnnknaaTxx17
open List renaming getD_eq_getElem?_getD → qZa, mem_singleton → qZp
namespace Go.Sep
set_option maxHeartbeats 16000000
open Go.Proofs
set_option linter.unusedSimpArgs false
set_option linter.unusedVariables false
set_option maxRecDepth 100000
open Nat renaming reduceAdd → qA, reduceMul → qB, reduceEqDiff → qC, reduceBEq → qD
open Int renaming reduceToNat → qE, reduceEq → qF, reduceLT → qG, reduceLE → qH
open List renaming getD_eq_getElem?_getD → gD
def m200:MFn:=⟨31,[.cell 4 2 true],kr [xb 2 0,xo 4 (.alloc [.nil,.nil])] (kr [xm 8 2 2,xc1 9 247 (.t 8),xo 5 (.alloc [.nil,.nil]),xS 2 5 9] (.seq (kr [xm 10 2 2,xc1 11 48 (.t 10),xN 12 11] (kF 12 [xm 13 2 5,xS 2 4 13])) (.seq (kr [xa 14 1 2,xl 15 14,xe 16 15,xI 17 0] (.blk 0 (.loop (kr [bT 18 .lss 17 16] (.seq (kX 18 0) (.seq (.blk 1 (kr [xv 19 17,xD 20 1 15 17,xl 21 20,xv 6 19,xv 7 21] (.dreg (.take 0 (xa 22 1 5) (.take 1 (xl 23 22) (.take 2 (xv 24 6) (.take 3 (xv 25 1) (.only 4 [] (xv 26 7) (.only 5 [3] (xo 27 (.calv (.t 25) [.t 26])) (.only 6 [0,1,2,3] (xD 28 1 23 24) (.only 7 [0,1,2,3] (xS 1 28 27) (.done)))))))))))) (xr [bI 29 .add 17 1,xv 17 29]))))))) (kR [xm 30 2 5,xS 2 4 30]))))⟩
open Classical in
noncomputable def qLe (l:List Ins):KS:=if h:wJ l 3=true then Classical.choose (qEa h) else []
theorem qLd (l:List Ins) (h:wJ l 3=true):qVi l (qLe l):=by
 unfold qLe
 rw [dif_pos h]
 exact Classical.choose_spec (qEa h)
theorem qRj (l:List Ins) (i:Nat) (y:Ins):(vC l).set i [.int .i64 y.op,.int .i64 y.r,.int .i64 y.a,.int .i64 y.b,.int .i64 y.n]=vC (l.set i y):=by simp [vC,dZ]
def sM (g:List Ins→List Ins) (l:List (List Ins)) (i:Nat):List (List Ins):=(l.take i).map g++l.drop i
theorem qBi (g:List Ins→List Ins) (l:List (List Ins)) (i:Nat) (h:i≤l.length):(sM g l i).length=l.length:=by
 unfold sM
 rw [List.length_append,List.length_map,List.length_take,List.length_drop]
 omega
theorem qR6 (g:List Ins→List Ins) (l:List (List Ins)):sM g l 0=l:=by simp [sM]
theorem qTs (g:List Ins→List Ins) (l:List (List Ins)):sM g l l.length=l.map g:=by simp [sM]
theorem qR8 (g:List Ins→List Ins) (l:List (List Ins)) (i:Nat) (h:i<l.length):(sM g l i).getD i []=l.getD i []:=by
 have hl:((l.take i).map g).length=i:=by rw [List.length_map,List.length_take]; omega
 unfold sM
 rw [qZa,List.getElem?_append_right (by omega),hl]
 simp [qZa]
theorem qR7 (g:List Ins→List Ins) (l:List (List Ins)) (i:Nat) (h:i<l.length):sM g l (i+1)=(sM g l i).set i (g (l.getD i [])):=by
 have hl:((l.take i).map g).length=i:=by rw [List.length_map,List.length_take]; omega
 have hd:l.drop i=l.getD i []::l.drop (i+1):=by
  rw [List.drop_eq_getElem_cons h]
  simp [qZa,h]
 unfold sM
 rw [gJ l [] i h,List.map_append,hd,List.set_append_right _ _ (by omega),hl]
 simp
theorem qS8 (m:Mode) (l:List (List Ins)) (i:Nat) (b:List Ins):(yO m l).set i [.sl m 5 (vC b)]=yO m (l.set i b):=by simp [yO]
noncomputable def qHj (g:List Ins→List Ins) (p:wT):wT:=if jF p then ⟨p.caps,p.bods.map g⟩ else p
theorem qXu {P:Program} {num:Nat→Nat} {fin:AS→Prop} (i:Nat) (deps:List Nat) (dst:Option Nat) (y:Arg) (xs:List Arg) (tr:vT) (pend:List (Nat×List Nat)) (k:List It) (t:List (Nat×AV)) (h:wM) (nx:Nat) :
  vc P num fin (.draw (.only i deps ⟨dst,.calv y xs,none⟩ tr) pend::k) (.mk t h nx)=qHp P num fin (.calv y xs) (yE deps pend) dst tr k t h nx:=by
 rw [vc]
 rfl
theorem qLr (p:wT) (hp:iO p) (F:Nat) (g:List Ins→List Ins) (hF :∀b∈p.bods,wB Try.prog num F [.sl .bw 5 (vC b)] [] (.sl .own 5 (vC (g b)))) :
  wB Try.prog num 200 [.agg (gY .bw p),.fn F []] [] (.agg (gY .own (qHj g p))):=by
 have hp':=hp
 obtain ⟨h1,h2,h3⟩:=hp
 have lp:=qLu p hp'
 have po:=iI p (by omega) (by omega) (fun b hb=>by have:=h3 b hb; omega)
 refine EN m200 Try.func25 ?_
 unfold m200
 simp only [go_sem,seval]
 repeat refine K ?_
 refine CA [] (lp) ?_
 try simp only [go_sem,seval]
 repeat refine K ?_
 try simp only [go_sem,seval]
 repeat refine K ?_
 refine CA [] (po) ?_
 try simp only [go_sem,seval]
 repeat refine K ?_
 cases hpo:jF p
 ·have hf:qHj g p=p:=by simp [qHj,hpo]
  rw [hf]
  try simp only [go_sem,seval]
  repeat refine K ?_
  refine ⟨_,Sub.refl _,wO ?_⟩; simp [-List.drop_one]
 have hf:qHj g p=⟨p.caps,p.bods.map g⟩:=by simp [qHj,hpo]
 rw [hf]
 try simp only [go_sem,seval]
 repeat refine K ?_
 refine wR (ι:=Nat) (fun i=>.mk [(1,.fn F []),(4,.ptr 11 0 0),(5,.ptr 14 0 0),(15,.sl .bw 1 (yO .bw p.bods)),(16,.int .i64 p.bods.length),(17,.int .i64 i)] [(11,2,[[.nil,.nil]]),(14,2,[[.sl .own 1 (wK p.caps),.sl .own 1 (yO .own (sM g p.bods i))]])] 15) (fun i=>i≤p.bods.length) (fun i=>p.bods.length-i) 0 (by simp) ?_ ?_
 ·refine Sub.trans (Sub.fold1 14 0 12 rfl (by simp [-gD]<;>omega) rfl (by decide) (by decide) rfl) ?_
  simp only [fS,fS3,qA,qC]
  refine Sub.trans (Sub.fold1 14 1 13 rfl (by simp [-gD]<;>omega) rfl (by decide) (by decide) rfl) ?_
  simp only [fS,fS3,qA,qC]
  have e0:=qR6 g p.bods
  refine Sub.shape [] id (by omega) ?_ ?_ ?_ ?_<;>simp [qU]
  all_goals (rw [e0])
  all_goals (exact .inl rfl)
 ·rintro i hi
  have hml:=qBi g p.bods i hi
  simp only [go_sem,seval]
  refine qZ (fun hc=>?_) (fun hc=>?_)
  ·simp only [decide_eq_true_eq] at hc
   have hlt:i<p.bods.length:=by omega
   have hgb:=qX .bw p.bods i hlt
   have hst:=qR7 g p.bods i hlt
   have fb:=hF _ (yL p.bods i [] hlt)
   have hgs:(yO .own (sM g p.bods i)).getD i []=[.sl .own 5 (vC (p.bods.getD i []))]:=by rw [qX .own _ i (by omega),qR8 g p.bods i hlt]
   generalize p.bods.getD i []=b at hgb hst fb hgs
   simp only [go_sem,seval,hgb,hml,qXu]
   repeat refine K ?_
   refine DAV [] (fb) ?_
   try simp only [go_sem,seval]
   repeat refine K ?_
   generalize g b=fbb at hst
   try simp only [go_sem,seval,hml,hgs,wD (i:=i) (by omega)]
   repeat refine K ?_
   refine wC (i+1) ?_ hlt (by omega)
   have hml2:=qBi g p.bods (i+1) hlt
   have hbs:=qS8 .own (sM g p.bods i) i fbb
   rw [←hst] at hbs
   refine Sub.trans (Sub.foldAt 15 0 16 rfl (by simp [-gD]<;>omega) rfl (by decide) (by decide) rfl (by simp<;>omega)) ?_
   simp only [fS,fS3,qA,qC,hbs]
   refine Sub.trans (Sub.fold1 14 1 15 rfl (by simp [-gD]<;>omega) rfl (by decide) (by decide) rfl) ?_
   simp only [fS,fS3,qA,qC,hbs,hml2]
   refine Sub.shape [] id (by omega) ?_ ?_ ?_ ?_<;>simp [qU]
  ·simp only [decide_eq_false_iff_not] at hc
   have he:i=p.bods.length:=by omega
   subst he
   simp only [go_sem,seval,qTs]
   repeat refine K ?_
   refine ⟨_,Sub.refl _,wO ?_⟩; simp [-List.drop_one]
def lI (x:Ins):Bool:=decide (5≤x.op)&&decide (x.op≤9)
def cB (x:Ins) (regs:List Int) (c:jN):List Int :=
 if x.op=1 then regs.set x.r.toNat x.n
 else if x.op=2∨x.op=3∨x.op=4 then regs.set x.r.toNat (xC x.op (regs.getD x.a.toNat 0) (regs.getD x.b.toNat 0))
 else if lI x then (qW ⟨0,regs,0⟩ c x).1.regs
 else regs
def qCf (x:Ins) (regs:List Int) (at_:Int):Int:=if x.op=11 then x.n else if x.op=12 then (if regs.getD x.a.toNat 0=0 then x.n else at_+1) else at_+1
def qCg (x:Ins) (regs:List Int) (chs:List jN):List jN:=if lI x then chs.set x.n.toNat (qW ⟨0,regs,0⟩ (chs.getD x.n.toNat default) x).2.1 else chs
def eK (x:Ins) (regs:List Int) (c:jN):Bool:=if lI x then (qW ⟨0,regs,0⟩ c x).2.2 else true
def qCe (i:Nat) (x:Ins) (regs:List Int) (tr:List bS):List bS:=if x.op=10 then tr++[⟨i,regs.getD x.a.toNat 0⟩] else tr
theorem qG5 (t:yJ) (c:jN) (x:Ins):(qW t c x).1=⟨t.at_,(qW ⟨0,t.regs,0⟩ c x).1.regs,t.st⟩∧(qW t c x).2=(qW ⟨0,t.regs,0⟩ c x).2:=by
 unfold qW reg wU
 repeat' split
 all_goals exact ⟨rfl,rfl⟩
theorem pZ {p:wT} {s:qS} {i:Nat} (hop:1≤(ins p s i).op∧(ins p s i).op≤13):wG p s i =
  if (ins p s i).op=13 then ⟨s.ths.set i ⟨(thd s i).at_,(thd s i).regs,1⟩,s.chs,s.tr⟩
  else vJ p ⟨s.ths,qCg (ins p s i) (thd s i).regs s.chs,qCe i (ins p s i) (thd s i).regs s.tr⟩ i ⟨(thd s i).at_,cB (ins p s i) (thd s i).regs (chn s (ins p s i).n.toNat),(thd s i).st⟩ (eK (ins p s i) (thd s i).regs (chn s (ins p s i).n.toNat)) (qCf (ins p s i) (thd s i).regs (thd s i).at_):=by
 have hth:s.ths.getD i default=thd s i:=rfl
 have hcs:s.chs.getD (ins p s i).n.toNat default=chn s (ins p s i).n.toNat:=rfl
 unfold wG
 rw [hth,hcs]
 generalize ins p s i=x at *
 generalize hT:thd s i=t at *
 unfold qCg qCe cB eK qCf lI wU reg
 rw [hcs]
 have hcase:x.op=1∨x.op=2∨x.op=3∨x.op=4∨x.op=10∨x.op=11∨x.op=12∨x.op=13∨(5≤x.op∧x.op≤9):=by omega
 rcases hcase with h | h | h | h | h | h | h | h | h
 all_goals (first
  | (simp [h,-qZa]; done)
  | (
   rw [if_neg (by omega),if_neg (by omega),if_neg (by omega),if_neg (by omega),if_neg (by omega),if_neg (by omega),if_neg (by omega)]
   obtain ⟨e1,e2⟩:=qG5 t (chn s x.n.toNat) x
   rw [e1,e2]
   have hb:(decide (5≤x.op)&&decide (x.op≤9))=true:=by simp [h]
   simp only [hb,if_true]
   rw [if_neg (by omega),if_neg (by omega),if_neg (by omega),if_neg (by omega),if_neg (by omega)]))
inductive qQ1 (p:wT) (s:qS) (i:Nat):qS→Prop where
 | ended (h:(ins p s i).op=13):qQ1 p s i ⟨s.ths.set i ⟨(thd s i).at_,(thd s i).regs,1⟩,s.chs,s.tr⟩
 | fault (h:eK (ins p s i) (thd s i).regs (chn s (ins p s i).n.toNat)=false):qQ1 p s i ⟨s.ths.set i ⟨(thd s i).at_,cB (ins p s i) (thd s i).regs (chn s (ins p s i).n.toNat),2⟩,qCg (ins p s i) (thd s i).regs s.chs,qCe i (ins p s i) (thd s i).regs s.tr⟩
 | next (n:Nat) (h:eK (ins p s i) (thd s i).regs (chn s (ins p s i).n.toNat)=true) (h13:(ins p s i).op≠13) (hn:qCf (ins p s i) (thd s i).regs (thd s i).at_=n) (hl:n<(body p i).length) (hm:(n:Int)∈vM (body p i) (thd s i).at_.toNat) :
   qQ1 p s i ⟨s.ths.set i ⟨n,cB (ins p s i) (thd s i).regs (chn s (ins p s i).n.toNat),(thd s i).st⟩,qCg (ins p s i) (thd s i).regs s.chs,qCe i (ins p s i) (thd s i).regs s.tr⟩
theorem qBr {p:wT} {s:qS} {i:Nat} (h:qY p s=true) (hi:i<s.ths.length):qQ1 p s i (wG p s i):=by
 have hs:=(yW p s).1 h
 have hA:=tQ h hi
 have hb:=(mT hs.1).2.2.2.2 _ (yL p.bods i [] hA.hb)
 have hop:=hA.op
 have hat0:=hA.at0
 have hat1:=hA.at1
 rw [pZ hop]
 split
 ·rename_i h13
  exact .ended h13
 rename_i h13
 unfold vJ
 cases hok:eK (ins p s i) (thd s i).regs (chn s (ins p s i).n.toNat)
 ·rw [if_pos (.inl rfl)]
  exact .fault hok
 have hlast:(ins p s i).op≠11→(thd s i).at_.toNat+1<(p.bods.getD i []).length:=by
  intro h11
  have hb2:=hb
  unfold wJ aD at hb2
  simp only [Bool.and_eq_true,Bool.or_eq_true,decide_eq_true_eq] at hb2
  rcases Nat.lt_or_ge ((thd s i).at_.toNat+1) (p.bods.getD i []).length with hh | hh
  ·exact hh
  ·exfalso
   have hat1':(thd s i).at_.toNat<(p.bods.getD i []).length:=hat1
   have e:(p.bods.getD i []).length-1=(thd s i).at_.toNat:=by omega
   have hl:=hb2.2
   rw [e] at hl
   have:((p.bods.getD i []).getD (thd s i).at_.toNat default)=ins p s i:=rfl
   rw [this] at hl
   omega
 have hat0':0≤(thd s i).at_:=hat0
 have hnx :∃n:Nat,qCf (ins p s i) (thd s i).regs (thd s i).at_=n∧n<(p.bods.getD i []).length∧(n:Int)∈vM (body p i) (thd s i).at_.toNat:=by
  have hx:(body p i).getD (thd s i).at_.toNat default=ins p s i:=rfl
  unfold vM qCf
  simp only [hx]
  rw [if_neg h13]
  by_cases h11:(ins p s i).op=11
  ·obtain ⟨j0,j1⟩:=hA.jm (.inl h11)
   rw [if_pos h11,if_pos h11]
   exact ⟨(ins p s i).n.toNat,by omega,j1,by rw [qZp]; omega⟩
  have hl:=hlast h11
  rw [if_neg h11,if_neg h11]
  by_cases h12:(ins p s i).op=12
  ·obtain ⟨j0,j1⟩:=hA.jm (.inr h12)
   rw [if_pos h12,if_pos h12]
   have hmem :∀n:Int,n=(ins p s i).n∨n=(thd s i).at_+1→n∈(if (ins p s i).n<((thd s i).at_.toNat:Int)+1 then [(ins p s i).n,((thd s i).at_.toNat:Int)+1] else if ((thd s i).at_.toNat:Int)+1<(ins p s i).n then [((thd s i).at_.toNat:Int)+1,(ins p s i).n] else [((thd s i).at_.toNat:Int)+1]):=by
    intro n hn
    split
    ·simp only [List.mem_cons,List.not_mem_nil,or_false]; omega
    split
    ·simp only [List.mem_cons,List.not_mem_nil,or_false]; omega
    ·rw [qZp]; omega
   split
   ·exact ⟨(ins p s i).n.toNat,by omega,j1,hmem _ (.inl (by omega))⟩
   ·exact ⟨(thd s i).at_.toNat+1,by push_cast; omega,hl,hmem _ (.inr (by push_cast; omega))⟩
  ·rw [if_neg h12,if_neg h12]
   exact ⟨(thd s i).at_.toNat+1,by push_cast; omega,hl,by rw [qZp]; push_cast; omega⟩
 obtain ⟨n,h1,h2,h3⟩:=hnx
 rw [if_neg (by rintro (e | e); exact absurd e (by decide); rw [h1] at e; omega),h1]
 exact .next n hok h13 h1 h2 h3
end Go.Sep
