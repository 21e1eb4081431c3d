/- Contracts of functions. -/
import Derived.Test.YtebbppogicgpkaaGreatSxx37
namespace Go.Sep
set_option maxHeartbeats 16000000
open Go.Proofs
set_option linter.unusedSimpArgs false
set_option linter.unusedVariables false
set_option maxRecDepth 100000
open Nat renaming reduceAdd → qA, reduceMul → qB, reduceEqDiff → qC, reduceBEq → qD
open Int renaming reduceToNat → qE, reduceEq → qF, reduceLT → qG, reduceLE → qH
def m34:MFn:=⟨26,[.t 4],kr [xF 4] (.seq (kr [xv 6 0,xe 7 6,xv 8 1,xe 9 8,bT 10 .neq 7 9] (kF 10 [xF 4])) (.seq (kr [xv 11 0,xe 12 11,xI 13 0] (.blk 0 (.loop (kr [bT 14 .lss 13 12] (.seq (kX 14 0) (.seq (.blk 1 (kr [xv 15 13,xv 5 15] (.seq (.dreg (.take 0 (xv 16 0) (.take 1 (xv 17 5) (.take 2 (xD 18 1 16 17) (.take 3 (xl 19 18) (.take 4 (xv 20 1) (.only 5 [] (xv 21 5) (.only 6 [4] (xD 22 1 20 21) (.only 7 [6,4] (xl 23 22) (.only 8 [3,7,2,6,0,1,4] (bT 24 .neq 19 23) (.done))))))))))) (kF 24 [xF 4])))) (xr [bI 25 .add 13 1,xv 13 25]))))))) (kR [xT 4])))⟩
theorem iD (xs ys:List Int) (hx:xs.length≤2^47):qW Tryz.prog num 34 [.sl .bw 1 (wN xs),.sl .bw 1 (wN ys)] [] (.bool (decide (xs=ys))):=by
 refine EN m34 Tryz.func88 ?_
 unfold m34
 simp only [go_sem,qA,qB,qC,qD,qE,qF,qG,qH]
 refine qL (fun hc=>?_) (fun hc=>?_)
 ·have hne:xs≠ys:=fun he=>by subst he; simp at hc
  simp only [go_sem,qA,qB,qC,qD,qE,qF,qG,qH]
  refine ⟨_,Sub.refl _,?_⟩
  simp [qZ,qU,qV,qQ,-List.drop_one]
  exact hne
 ·have hl:xs.length=ys.length:=by simp at hc; omega
  simp only [go_sem,qA,qB,qC,qD,qE,qF,qG,qH]
  refine qX (ι:=Nat) (fun i=>.mk [(0,.sl .bw 1 (wN xs)),(1,.sl .bw 1 (wN ys)),(12,.int .i64 xs.length),(13,.int .i64 i)] [] 10) (fun i=>i≤xs.length∧xs.take i=ys.take i) (fun i=>xs.length-i) 0 (by simp) ?_ ?_
  ·refine Sub.shape [] id (by omega) ?_ ?_ ?_ ?_<;>simp [qK]
  ·rintro i ⟨hi,hp⟩
   simp only [go_sem,qA,qB,qC,qD,qE,qF,qG,qH]
   refine qL (fun hc=>?_) (fun hc=>?_)
   ·simp only [decide_eq_true_eq] at hc
    have hil:i<xs.length:=by omega
    have hjl:i<ys.length:=by omega
    simp only [go_sem,qA,qB,qC,qD,qE,qF,qG,qH,qI xs i hil,qI ys i hjl]
    refine ⟨by omega,by omega,by omega,by omega,qL (fun hc=>?_) (fun hc=>?_)⟩
    ·have hne:xs≠ys:=fun he=>by subst he; simp at hc
     simp only [go_sem,qA,qB,qC,qD,qE,qF,qG,qH]
     refine ⟨_,Sub.refl _,?_⟩
     simp [qZ,qU,qV,qQ,-List.drop_one]
     exact hne
    ·have hw:=qS (i:=i) (by omega)
     simp only [go_sem,qA,qB,qC,qD,qE,qF,qG,qH,hw]
     have he:xs.getD i 0=ys.getD i 0:=by simpa using hc
     refine qT (i+1) (Sub.shape [] id (by omega) ?_ ?_ ?_ ?_) ⟨hil,?_⟩ (by omega)
     case refine_5 =>
      rw [List.take_succ_eq_append_getElem hil,List.take_succ_eq_append_getElem hjl,hp]
      have he':xs[i]=ys[i]:=by simpa [List.getD_eq_getElem?_getD,hil,hjl] using he
      rw [he']
     all_goals simp [qK]
   ·simp only [decide_eq_false_iff_not] at hc
    have hi':i=xs.length:=by omega
    have he:xs=ys:=by
     rw [hi',List.take_length,hl,List.take_length] at hp
     exact hp
    simp only [go_sem,qA,qB,qC,qD,qE,qF,qG,qH]
    refine ⟨_,Sub.refl _,?_⟩
    simp [qZ,qU,qV,qQ,-List.drop_one]
    exact he
def m419:MFn:=⟨26,[.t 4],kr [xF 4] (.seq (kr [xv 6 0,xe 7 6,xv 8 1,xe 9 8,bT 10 .neq 7 9] (kF 10 [xF 4])) (.seq (kr [xv 11 0,xe 12 11,xI 13 0] (.blk 0 (.loop (kr [bT 14 .lss 13 12] (.seq (kX 14 0) (.seq (.blk 1 (kr [xv 15 13,xv 5 15] (.seq (.dreg (.take 0 (xv 16 0) (.take 1 (xv 17 5) (.take 2 (xD 18 2 16 17) (.take 3 (xm 19 2 18) (.take 4 (xv 20 1) (.only 5 [] (xv 21 5) (.only 6 [4] (xD 22 2 20 21) (.only 7 [6,4] (xm 23 2 22) (.only 8 [3,7,2,6,0,1,4] (xo 24 (.eqS true [true,true] (.t 19) (.t 23))) (.done))))))))))) (kF 24 [xF 4])))) (xr [bI 25 .add 13 1,xv 13 25]))))))) (kR [xT 4])))⟩
theorem qJ6 {a b:List xJ} (i:Nat) (h1:i<a.length) (h2:i<b.length) (hp:a.take i=b.take i) (he:a.getD i default=b.getD i default):a.take (i+1)=b.take (i+1):=by
 rw [bO a default i h1,bO b default i h2,hp,he]
theorem qQl (x y:xJ):(decide (x.who=y.who)&&decide (x.v=y.v))=decide (x=y):=by
 obtain ⟨x1,x2⟩:=x
 obtain ⟨y1,y2⟩:=y
 by_cases h1:x1=y1<;>by_cases h2:x2=y2<;>simp [h1,h2]
theorem qI1 {α:Type} {a b:List α} {i:Nat} (hp:a.take i=b.take i) (h1:a.length≤i∨b.length≤i) (hl:a.length=b.length):a=b:=by
 rw [←List.take_of_length_le (show a.length≤i by omega),hp,List.take_of_length_le (by omega)]
theorem qBr (a b:List xJ) (h1:a.length<2^40):qW Tryz.prog num 419 [.sl .bw 2 (jK a),.sl .bw 2 (jK b)] [] (.bool (decide (a=b))):=by
 refine EN m419 Tryz.func80 ?_
 unfold m419
 by_cases hl:a.length=b.length
 ·have d0:decide ((a.length:Int)=(b.length:Int))=true:=by simp [hl]
  simp only [go_sem,seval,d0]
  refine qX (ι:=Nat) (fun i=>.mk [(0,.sl .bw 2 (jK a)),(1,.sl .bw 2 (jK b)),(12,.int .i64 a.length),(13,.int .i64 i)] [] 10) (fun i=>i≤a.length∧a.take i=b.take i) (fun i=>a.length-i) 0 (by simp) ?_ ?_
  ·refine Sub.shape [] id (by omega) ?_ ?_ ?_ ?_<;>simp [qK]
  ·rintro i ⟨hi,hp⟩
   simp only [go_sem,seval]
   refine qL (fun hc=>?_) (fun hc=>?_)
   ·simp only [decide_eq_true_eq] at hc
    have g1:i<a.length:=by omega
    have g2:i<b.length:=by omega
    simp only [go_sem,seval,cF a i g1,cF b i g2,qQl]
    repeat refine K ?_
    by_cases he:a.getD i default=b.getD i default
    ·have d3:(!decide (a.getD i default=b.getD i default))=false:=by rw [decide_eq_true he]; rfl
     try simp only [go_sem,seval,d3,qS (i:=i) (by omega)]
     refine qT (i+1) (Sub.shape [] id (by omega) ?_ ?_ ?_ ?_) ⟨g1,qJ6 i g1 g2 hp he⟩ (by omega)<;>simp [qK]
    ·have hne :¬a=b:=fun e=>he (by rw [e])
     have d3:(!decide (a.getD i default=b.getD i default))=true:=by rw [decide_eq_false he]; rfl
     try simp only [go_sem,seval,d3]
     refine fz ?_; simp [qZ,qU,qV,qQ,-List.drop_one]
     all_goals simp [hne]
   ·simp only [decide_eq_false_iff_not] at hc
    have hab:a=b:=qI1 hp (.inl (by omega)) hl
    simp only [go_sem,seval]
    refine fz ?_; simp [qZ,qU,qV,qQ,-List.drop_one]
    all_goals simp [hab]
 ·have d0:decide ((a.length:Int)=(b.length:Int))=false:=by simp; omega
  have hne :¬a=b:=fun e=>hl (by rw [e])
  simp only [go_sem,seval,d0]
  refine fz ?_; simp [qZ,qU,qV,qQ,-List.drop_one]
  all_goals simp [hne]
end Go.Sep
