/- Contracts of functions. -/
import Derived.Test.YtebbppogicgpkaaGreatSxx0
namespace Go.Sep
set_option maxHeartbeats 16000000
open Go.Proofs
set_option linter.unusedSimpArgs false
set_option linter.unusedVariables false
set_option maxRecDepth 100000
open Nat renaming reduceAdd → qA, reduceMul → qB, reduceEqDiff → qC, reduceBEq → qD
open Int renaming reduceToNat → qE, reduceEq → qF, reduceLT → qG, reduceLE → qH
def m8:MFn:=⟨26,[.t 4],kr [xF 4] (.seq (kr [xv 6 0,xe 7 6,xv 8 1,xe 9 8,bT 10 .neq 7 9] (kF 10 [xF 4])) (.seq (kr [xI 5 0] (.blk 0 (.loop (.seq (kr [xv 11 5,xv 12 0,xe 13 12,bT 14 .lss 11 13] (kX 14 0)) (.seq (.blk 1 (.seq (.dreg (.take 0 (xv 17 0) (.take 1 (xv 18 5) (.take 2 (xD 19 1 17 18) (.take 3 (xl 20 19) (.take 4 (xv 21 1) (.only 5 [] (xv 22 5) (.only 6 [4] (xD 23 1 21 22) (.only 7 [6,4] (xl 24 23) (.only 8 [3,7,2,6,0,1,4] (bT 25 .neq 20 24) (.done))))))))))) (kF 25 [xF 4]))) (xr [xv 15 5,bI 16 .add 15 1,xv 5 16])))))) (kR [xT 4])))⟩
def m35:MFn:=⟨12,[.t 4],kr [xI 4 0] (kr [xv 5 1,xv 6 0,xe 7 6,bT 8 .sub 5 7,xv 1 8] (.seq (kr [xv 9 1,bI 10 .lss 9 0] (kF 10 [xo 4 (.mv (.c (.int .i64 (-1))))])) (kR [xv 11 1,xv 4 11])))⟩
attribute [local go_sem] fV vG qRj qRl qEb qKa qRm qK8 qRk qKe qEa qKf qK9 yC qDk pO Arg.ev wL dE qSq if_false if_true zY put del dL qBh Option.map_some Option.bind_some qY Int.toNat_natCast qRn qK7 qKb dW true_and and_true qA4 qA2 qA3 lM iO Bool.false_eq_true fH cellsOf vC List.isEmpty_nil List.isEmpty_cons fresh List.map_nil List.map_cons List.cons_append List.nil_append dI List.take_zero List.drop_zero List.take_succ_cons List.getD_cons_zero List.length_cons List.length_nil List.drop_succ_cons List.drop_nil List.append_nil List.all_cons List.all_nil jP Bool.and_self Nat.zero_add qKc qKd qK6 qE9 qE8 qE6 qE7 qKg qRi nG qAj pZ qF7 qFe qEq vX vZ eC qEp cZ jG apart List.filter_nil List.filter_cons Option.isSome_some Option.isSome_none List.contains_nil List.contains_cons List.forall_mem_cons List.mem_cons List.not_mem_nil false_implies implies_true forall_const forall_eq_or_imp forall_eq or_false beq_self_eq_true Bool.or_false Bool.false_or Bool.true_or Bool.or_true Bool.not_true Bool.not_false xv xo xg xr xi xz List.set_set nA lG pX pY tF mC qE5 sJ mQ eqC cS lC List.replicate_zero decide_true decide_false pU qA0 List.replicate_succ Int.toNat_zero Int.toNat_one eq_self Bool.and_true Bool.true_and Bool.and_false Bool.false_and List.set_cons_zero List.set_cons_succ List.getD_cons_succ rnm ixm jQ xE yJ vN cond_true cond_false eR eQ fP
attribute [local simp] iI bwT bwC bwL gA eQ wL Arg.ev gP tJ rD qEn aX sA lZ yT okV okL nb nbs nbr bR qY dL bnd vK jT jQ xE ixm rnm apart cZ vX vZ fresh yJ vN dJ qEo dO iT vU del tD aK eR fP shp okB pM pV
theorem qZ2 (n:Nat) (op_:Int) (r_:Int) (a_:Int) (b_:Int) (n_:Int):List.replicate n [.int .i64 op_,.int .i64 r_,.int .i64 a_,.int .i64 b_,.int .i64 n_]=bL (List.replicate n ⟨op_,r_,a_,b_,n_⟩):=by simp [bL,bU]
theorem CAV {P:Program} {num:Nat→Nat} {fin:AS→Prop} {f nx:Nat} {y:Arg} {xs:List Arg} {t:List (Nat×AV)} {h:yD} {fp:FP} {res:AV} {vargs:List AV} {dst:Option Nat} {k:List It} (σ:List (Nat×Nat)) (hc:qW P num f vargs fp res)
  (hk:vc P num fin k (.mk (dE t dst (yJ nx (jQ (rnm σ) res)).1) (zY h (fp.map (fun x=>(rnm σ x.1,x.2))++fresh (yJ nx (jQ (rnm σ) res)).2.1)) (yJ nx (jQ (rnm σ) res)).2.2))
  (hy:y.ev (wL t)=.fn f []:=by first | rfl | (simp; done) | (simp [*]; done))
  (hv:qU (iI (ixm σ) h (xs.map fun _=>false) (xs.map (Arg.ev (wL t)))) vargs:=by first | omega | (simp [qU,qV]; done) | (simp [qU,qV, *]; done))
  (hvo:gP h (fun n =>∃x∈fp,x.2.1≠none∧n=rnm σ x.1∧ixm σ n=x.1) (fun n =>∃x∈fp,n=rnm σ x.1) (xs.map fun _=>false) (xs.map (Arg.ev (wL t))):=by first | omega | (simp [qU,qV]; done) | (simp [qU,qV, *]; done))
  (hnd:(fp.map (fun x=>rnm σ x.1)).Nodup:=by first | (simp [qU,qV]; done) | (simp [qU,qV, *]; done))
  (hpre :∀x∈fp,qY h (rnm σ x.1)=x.2.1∧(x.2.1=none→nx≤rnm σ x.1)∧rnm σ x.1<nx:=by first | (simp [qU,qV]; done) | (simp [qU,qV, *]; done))
  (hnb :∀x∈fp,(∀r,x.2.1=some r→nbr r.2)∧(∀r,x.2.2=some r→nbr r.2):=by first | (simp [qU,qV]; done) | (simp [qU,qV, *]; done))
  (hres:okV (fun k =>∃x∈fp,x.1=k∧x.2.2≠none) res:=by first | (simp [qU,qV]; done) | (simp [qU,qV, *]; done)):rC P num fin (.calv y xs) dst k (.mk t h nx) :=
 hX (wAk σ hc hv hvo hnd hpre hnb hres (Nat.le_refl _) hy) hk
theorem qVp (xs:List Int) (hx:8*xs.length≤2^47):qW Tryz.prog num 5 [.sl .bw 1 (wN xs)] [] (.sl .own 1 (wN xs)):=by
 refine EN m5 Tryz.func112 ?_
 unfold m5
 simp only [go_sem,qA,qB,qC,qD,qE,qF,qG,qH]
 refine ⟨by omega,qX (ι:=Nat) (fun i=>.mk [(0,.sl .bw 1 (wN xs)),(3,.ns 10 0 xs.length),(4,.int .i64 i)] [(10,1,wN (xs.take i++List.replicate (xs.length-i) 0))] 11) (fun i=>i≤xs.length) (fun i=>xs.length-i) 0 (by omega) ?_ ?_⟩
 ·refine Sub.shape [] id (by omega) ?_ ?_ ?_ ?_<;>simp [qK]
 ·intro i hi
  simp only [go_sem,qA,qB,qC,qD,qE,qF,qG,qH]
  refine qL (fun hc=>?_) (fun hc=>?_)
  ·simp only [decide_eq_true_eq] at hc
   have hl:i<xs.length:=by omega
   have hm:(xs.take i++List.replicate (xs.length-i) (0:Int)).length=xs.length:=by simp; omega
   have hs:(xs.take i++List.replicate (xs.length-i) (0:Int)).set i (xs.getD i 0)=xs.take (i+1)++List.replicate (xs.length-(i+1)) 0:=by
    have h1:xs.length-i=(xs.length-(i+1))+1:=by omega
    rw [List.set_append_right _ _ (by simp; omega),List.length_take,Nat.min_eq_left hi,Nat.sub_self,h1,List.replicate_succ,List.set_cons_zero,List.take_succ_eq_append_getElem hl,List.append_assoc]
    congr 1
    simp [List.getD_eq_getElem?_getD,hl]
   have hw:=qS (i:=i) (by omega)
   simp only [go_sem,qA,qB,qC,qD,qE,qF,qG,qH,qI xs i hl,qI _ i (hm▸hl),hm,pU,hs,hw]
   refine ⟨by omega,by omega,by omega,by omega,qT (i+1) (Sub.shape [] id (by omega) ?_ ?_ ?_ ?_) hl (by omega)⟩<;>simp [qK]
  ·simp only [decide_eq_false_iff_not] at hc
   have:i=xs.length:=by omega
   subst this
   simp only [go_sem,qA,qB,qC,qD,qE,qF,qG,qH]
   refine ⟨_,Sub.refl _,?_⟩
   simp [qZ,qU,qV,qQ,-List.drop_one]
theorem qX4 (xs ys:List Int) (hx:xs.length≤2^47):qW Tryz.prog num 8 [.sl .bw 1 (wN xs),.sl .bw 1 (wN ys)] [] (.bool (decide (xs=ys))):=by
 refine EN m8 Tryz.func115 ?_
 unfold m8
 simp only [go_sem,qA,qB,qC,qD,qE,qF,qG,qH]
 refine qL (fun hc=>?_) (fun hc=>?_)
 ·have hne:xs≠ys:=fun he=>by subst he; simp at hc
  simp only [go_sem,qA,qB,qC,qD,qE,qF,qG,qH]
  refine ⟨_,Sub.refl _,?_⟩
  simp [qZ,qU,qV,qQ,-List.drop_one]
  exact hne
 ·have hl:xs.length=ys.length:=by simp at hc; omega
  simp only [go_sem,qA,qB,qC,qD,qE,qF,qG,qH]
  refine qX (ι:=Nat) (fun i=>.mk [(0,.sl .bw 1 (wN xs)),(1,.sl .bw 1 (wN ys)),(5,.int .i64 i)] [] 10) (fun i=>i≤xs.length∧xs.take i=ys.take i) (fun i=>xs.length-i) 0 (by simp) ?_ ?_
  ·refine Sub.shape [] id (by omega) ?_ ?_ ?_ ?_<;>simp [qK]
  ·rintro i ⟨hi,hp⟩
   simp only [go_sem,qA,qB,qC,qD,qE,qF,qG,qH]
   refine qL (fun hc=>?_) (fun hc=>?_)
   ·simp only [decide_eq_true_eq] at hc
    have hil:i<xs.length:=by omega
    have hjl:i<ys.length:=by omega
    simp only [go_sem,qA,qB,qC,qD,qE,qF,qG,qH,qI xs i hil,qI ys i hjl]
    refine ⟨by omega,by omega,by omega,by omega,qL (fun hc=>?_) (fun hc=>?_)⟩
    ·have hne:xs≠ys:=fun he=>by subst he; simp at hc
     simp only [go_sem,qA,qB,qC,qD,qE,qF,qG,qH]
     refine ⟨_,Sub.refl _,?_⟩
     simp [qZ,qU,qV,qQ,-List.drop_one]
     exact hne
    ·have hw:=qS (i:=i) (by omega)
     simp only [go_sem,qA,qB,qC,qD,qE,qF,qG,qH,hw]
     have he:xs.getD i 0=ys.getD i 0:=by simpa using hc
     refine qT (i+1) (Sub.shape [] id (by omega) ?_ ?_ ?_ ?_) ⟨hil,?_⟩ (by omega)
     case refine_5 =>
      rw [List.take_succ_eq_append_getElem hil,List.take_succ_eq_append_getElem hjl,hp]
      have he':xs[i]=ys[i]:=by simpa [List.getD_eq_getElem?_getD,hil,hjl] using he
      rw [he']
     all_goals simp [qK]
   ·simp only [decide_eq_false_iff_not] at hc
    have hi':i=xs.length:=by omega
    have he:xs=ys:=by
     rw [hi',List.take_length,hl,List.take_length] at hp
     exact hp
    simp only [go_sem,qA,qB,qC,qD,qE,qF,qG,qH]
    refine ⟨_,Sub.refl _,?_⟩
    simp [qZ,qU,qV,qQ,-List.drop_one]
    exact he
def szL (k:Nat) (n:Int):Int:=if n-k<0 then -1 else n-k
theorem qVu (xs:List Int) (n:Int) (hx:xs.length<2^63) (h0:0≤n) (h1:n≤2^62):qW Tryz.prog num 35 [.sl .bw 1 (wN xs),.int .i64 n] [] (.int .i64 (szL xs.length n)):=by
 refine EN m35 Tryz.func108 ?_
 unfold m35
 have hw:IntKind.i64.wrap (n-xs.length)=n-xs.length:=wJ (by omega) (by omega)
 simp only [go_sem,seval,hw]
 refine qL (fun hc=>?_) (fun hc=>?_)
 ·simp only [go_sem,seval]
  refine fz ?_; simp [qZ,qU,qV,qQ,-List.drop_one]
  simp only [decide_eq_true_eq] at hc
  simp [szL,hc]
 ·simp only [go_sem,seval]
  refine fz ?_; simp [qZ,qU,qV,qQ,-List.drop_one]
  simp only [decide_eq_false_iff_not] at hc
  simp [szL,hc]
theorem qSj {k:Nat} {n:Int} (h:0≤n):szL k n≤n:=by unfold szL; split<;>omega
end Go.Sep
