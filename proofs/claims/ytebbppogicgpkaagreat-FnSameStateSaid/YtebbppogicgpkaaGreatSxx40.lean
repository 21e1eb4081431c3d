/- Contracts of functions. -/
import Derived.Test.YtebbppogicgpkaaGreatSxx39
namespace Go.Sep
set_option maxHeartbeats 16000000
open Go.Proofs
set_option linter.unusedSimpArgs false
set_option linter.unusedVariables false
set_option maxRecDepth 100000
open Nat renaming reduceAdd → qA, reduceMul → qB, reduceEqDiff → qC, reduceBEq → qD
open Int renaming reduceToNat → qE, reduceEq → qF, reduceLT → qG, reduceLE → qH
open List renaming getD_eq_getElem?_getD → gD
def m398:MFn:=⟨47,[.t 4],kr [xb 2 0,xF 4] (kr [xm 12 2 2,xv 13 1,xc2 14 407 (.t 12) (.t 13),xv 11 14,xX 15 11 0,xX 16 11 1,xX 17 11 2,xo 6 (.alloc [.nil,.nil,.nil,.nil]),xv 5 15,xS 4 6 16,xv 7 17] (.seq (kr [xv 18 7,xN 19 18] (kF 19 [xF 4])) (.seq (kr [xa 20 0 2,xl 21 20,xe 22 21,xI 23 0] (.blk 0 (.loop (kr [bT 24 .lss 23 22] (.seq (kX 24 0) (.seq (.blk 1 (kr [xv 25 23,xv 8 25] (kr [xa 27 2 6,xm 28 1 27,xa 29 0 2,xl 30 29,xv 31 8,xc3 32 423 (.t 28) (.t 30) (.t 31),xv 26 32,xX 33 26 0,xX 34 26 1,xo 9 (.alloc [.int .i64 0,.nil,.bool false]),xS 3 9 33,xv 10 34] (kr [xv 35 10,xN 36 35,xv 37 36,ya 38 2 6 37,xg 39 (.load 1 true (.t 38)) 37 true,ya 40 0 2 37,yl 41 1 40 37,yv 42 8 37,xg 43 (.call 424 [false,false,false] [.t 39,.t 41,.t 42]) 37 true,yN 44 43 37,xP 45 37 44] (kF 45 [xF 4]))))) (xr [bI 46 .add 23 1,xv 23 46]))))))) (kR [xT 4]))))⟩
def m413:MFn:=⟨29,[.t 4],kr [xb 2 0,xF 4] (kr [xm 11 2 2,xv 12 1,xc2 13 407 (.t 11) (.t 12),xv 10 13,xX 14 10 0,xX 15 10 1,xX 16 10 2,xo 6 (.alloc [.nil,.nil,.nil,.nil]),xv 5 14,xS 4 6 15,xv 7 16] (.seq (kr [xv 17 7,xN 18 17] (kF 18 [xF 4])) (kr [xm 20 2 2,xv 21 5,xc2 22 430 (.t 20) (.t 21),xv 19 22,xX 23 19 0,xX 24 19 1,xo 8 (.alloc [.nil,.nil,.nil]),xS 3 8 23,xv 9 24] (kR [xm 25 2 2,xm 26 4 6,xm 27 3 8,xc3 28 395 (.t 25) (.t 26) (.t 27),xv 4 28]))))⟩
def m430:MFn:=⟨19,[.cell 4 3 true,.t 5],kr [xb 2 0,xo 4 (.alloc [.nil,.nil,.nil]),xo 5 (.mv (.c (.nil)))] (kr [xm 9 2 2,xc1 10 24 (.t 9),xv 8 10,xX 11 8 0,xX 12 8 1,xo 6 (.alloc [.nil,.nil,.nil]),xS 3 6 11,xv 7 12] (kR [xm 13 2 2,xm 14 3 6,xv 15 1,xc3 16 25 (.t 13) (.t 14) (.t 15),xX 17 16 0,xX 18 16 1,xS 3 4 17,xv 5 18]))⟩
theorem qTa (p:wM) (o:List Int) (h:vF p=true):qAt (jY p).1:=mS (eA h)
theorem qIk (p:wM) :∀(l:List Int) (s:wH) (c:List Int),wX p s=true→wX p (l.foldl (xY p) (s,c)).1=true
 | [],s,c,h=>h
 | x::l,s,c,h=>by
  simp only [List.foldl_cons,xY]
  exact qIk p l _ _ (iV x h)
theorem qTb {p:wM} {o:List Int} (h:vF p=true):wX p (qA6 p o).1=true:=by
 unfold qA6 eL
 split
 ·exact qIk p o _ _ (eA h)
 ·exact eA h
theorem qJt (p:wM) (o:List Int) (h:vF p=true) (hl:o.length<2^40):qW Tryz.prog num 430 [.agg (jF .bw p),.sl .bw 1 (wN o)] [] (.tup [.agg (vW .own (qA6 p o).1),.sl .own 1 (wN (qA6 p o).2)]):=by
 have hpp:=qF3 h
 refine EN m430 Tryz.func81 ?_
 unfold m430
 simp only [go_sem,seval]
 refine CA [] (kE p hpp.caps hpp.bods hpp.body') ?_
 try simp only [go_sem,seval]
 refine CA [] (kD p (jY p).1 o hpp (qTa p o h) hl) ?_
 try simp only [go_sem,seval]
 apply wS (by simp)
 ·exact Sub.refl _
 ·simp [-List.drop_one,-gD,qA6,vW]<;>(first | rfl | exact ⟨rfl,rfl⟩ | exact ⟨rfl,rfl,rfl⟩ | skip)
def qB6 (p:wM) (l:List vD):Bool:=(wQ p l).2.2&&same p (wQ p l).2.1 (qA6 p (wQ p l).1).1
def sF (p:wM) (l:List vD):Bool:=(wQ p l).2.2&&(List.range p.caps.length).all (fun n=>(dQ (wQ p l).2.1.mem.cells p.caps (n:Int)).2||aB (wQ p l).2.1.mem.cells p.caps (n:Int))
theorem qFs (p:wM) (l:List vD) (hp:bF p) (hl:l.length<2^40) (hx :∀x∈l,tT x):qW Tryz.prog num 413 [.agg (jF .bw p),.sl .bw 2 (uZ l)] [] (.bool (qB6 p l)):=by
 refine EN m413 Tryz.func24 ?_
 unfold m413
 have hw:=dN p l hp hl hx
 have hz:=(fZ p l).1
 have hr:=@fK p l
 have hm:=fR p l
 unfold qB6
 generalize wQ p l=w at *
 obtain ⟨o,m,b⟩:=w
 simp only at hz hr hm⊢
 simp only [go_sem,seval]
 refine CA [] (hw) ?_
 try simp only [go_sem,seval]
 cases b
 ·try simp only [go_sem,seval]
  refine fz ?_; simp [qZ,qU,qV,qQ,-List.drop_one]
 obtain ⟨h1,_⟩:=hr rfl
 have hj:=qJt p o h1 (by omega)
 have hsr:=mS (qTb (o:=o) h1)
 have hss:=oA p m (qA6 p o).1 hp hm hsr
 generalize qA6 p o=q at *
 obtain ⟨s,c⟩:=q
 simp only at hj hss⊢
 try simp only [go_sem,seval]
 refine CA [] (hj) ?_
 try simp only [go_sem,seval]
 refine CA [] (hss) ?_
 try simp only [go_sem,seval]
 refine fz ?_; simp [qZ,qU,qV,qQ,-List.drop_one]
theorem qDx (p:wM) (l:List vD) (hp:bF p) (hl:l.length<2^40) (hx :∀x∈l,tT x):qW Tryz.prog num 398 [.agg (jF .bw p),.sl .bw 2 (uZ l)] [] (.bool (sF p l)):=by
 refine EN m398 Tryz.func25 ?_
 unfold m398
 have hw:=dN p l hp hl hx
 have hm:=fR p l
 have h1:=hp.caps
 unfold sF
 generalize wQ p l=w at *
 obtain ⟨o,m,b⟩:=w
 simp only at hm⊢
 simp only [go_sem,seval]
 refine CA [] (hw) ?_
 try simp only [go_sem,seval]
 cases b
 ·try simp only [go_sem,seval]
  refine fz ?_; simp [qZ,qU,qV,qQ,-List.drop_one]
 try simp only [go_sem,seval]
 refine qX (ι:=Nat) (fun i=>.mk [(2,.ptr 10 0 0),(6,.ptr 16 0 0),(22,.int .i64 p.caps.length),(23,.int .i64 i)] [(10,2,[jF .bw p]),(16,4,[qR .own m])] 17) (fun i=>i≤p.caps.length∧(List.range i).all (fun n=>(dQ m.mem.cells p.caps (n:Int)).2||aB m.mem.cells p.caps (n:Int))=true) (fun i=>p.caps.length-i) 0 (by simp) ?_ ?_
 ·refine Sub.trans (Sub.fold1 16 0 12 rfl (by simp [-gD]<;>omega) rfl (by decide) (by decide) rfl) ?_
  simp only [fS,fS2,qA,qC]
  refine Sub.trans (Sub.fold1 16 1 13 rfl (by simp [-gD]<;>omega) rfl (by decide) (by decide) rfl) ?_
  simp only [fS,fS2,qA,qC]
  refine Sub.trans (Sub.fold1 16 2 14 rfl (by simp [-gD]<;>omega) rfl (by decide) (by decide) rfl) ?_
  simp only [fS,fS2,qA,qC]
  refine Sub.trans (Sub.fold1 16 3 15 rfl (by simp [-gD]<;>omega) rfl (by decide) (by decide) rfl) ?_
  simp only [fS,fS2,qA,qC]
  refine Sub.shape [] id (by omega) ?_ ?_ ?_ ?_<;>simp [qK]
 ·rintro i ⟨hi,hq⟩
  simp only [go_sem,seval]
  refine qL (fun hc=>?_) (fun hc=>?_)
  ·simp only [decide_eq_true_eq] at hc
   have hil:i<p.caps.length:=by omega
   simp only [go_sem,seval]
   refine CA [] (oY m.mem.cells p.caps i hm.mem h1) ?_
   try simp only [go_sem,seval]
   have hlk:=oX m.mem.cells p.caps i hm.mem h1
   have hst:=fun h=>dV (P:=fun (n:Nat)=>(dQ m.mem.cells p.caps (n:Int)).2||aB m.mem.cells p.caps (n:Int)) hil h
   have hsp:=fun h=>eB (P:=fun (n:Nat)=>(dQ m.mem.cells p.caps (n:Int)).2||aB m.mem.cells p.caps (n:Int)) hq h
   generalize dQ m.mem.cells p.caps i=q at *
   obtain ⟨c,b⟩:=q
   cases b
   ·try simp only [go_sem,seval]
    refine CA [] (hlk) ?_
    try simp only [go_sem,seval]
    cases hL:aB m.mem.cells p.caps i
    ·try simp only [go_sem,seval,hL]
     refine fz ?_; simp [qZ,qU,qV,qQ,-List.drop_one]
     have:=hst (by rw [hL]; rfl)
     simpa using this
    ·try simp only [go_sem,seval,hL,qS (i:=i) (by omega)]
     refine qT (i+1) ?_ ⟨hil,hsp (by rw [hL]; rfl)⟩ (by omega)
     refine Sub.trans (Sub.fold1 16 2 17 rfl (by simp [-gD]<;>omega) rfl (by decide) (by decide) rfl) ?_
     simp only [fS,fS2,qA,qC]
     refine Sub.shape [] id (by omega) ?_ ?_ ?_ ?_<;>simp [qK]
   ·try simp only [go_sem,seval,qS (i:=i) (by omega)]
    refine qT (i+1) ?_ ⟨hil,hsp rfl⟩ (by omega)
    refine Sub.trans (Sub.fold1 16 2 17 rfl (by simp [-gD]<;>omega) rfl (by decide) (by decide) rfl) ?_
    simp only [fS,fS2,qA,qC]
    refine Sub.shape [] id (by omega) ?_ ?_ ?_ ?_<;>simp [qK]
  ·simp only [decide_eq_false_iff_not] at hc
   have he:=pI (P:=fun (n:Nat)=>(dQ m.mem.cells p.caps (n:Int)).2||aB m.mem.cells p.caps (n:Int)) hq hc hi
   simp only [go_sem,seval]
   refine fz ?_; simp [qZ,qU,qV,qQ,-List.drop_one]
   simpa using he
theorem qOx (p:wM) (l:List vD):qB6 p l=(wQ p l).2.2:=by
 unfold qB6
 cases h:(wQ p l).2.2
 ·rfl
 ·rw [(qHe h).1.same]
  rfl
theorem qLx (p:wM) (l:List vD):sF p l=(wQ p l).2.2:=by
 unfold sF
 cases h:(wQ p l).2.2
 ·rfl
 ·have h1:=(qHe h).1
  have:(List.range p.caps.length).all (fun n=>(dQ (wQ p l).2.1.mem.cells p.caps (n:Int)).2||aB (wQ p l).2.1.mem.cells p.caps (n:Int))=true:=by
   rw [pJ]
   intro n hn
   rcases h1.chan hn with hk | ⟨_,hc⟩
   ·rw [hk,Bool.or_true]
   ·rw [hc]
    rfl
  rw [this]
  rfl
end Go.Sep
