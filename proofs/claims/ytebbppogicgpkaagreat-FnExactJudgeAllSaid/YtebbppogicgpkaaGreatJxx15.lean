/- Contracts of functions. -/
import Derived.Test.YtebbppogicgpkaaGreatJxx0
open List renaming take_succ_eq_append_getElem → qYi
namespace Go.Sep
set_option maxHeartbeats 16000000
open Go.Proofs
set_option linter.unusedSimpArgs false
set_option linter.unusedVariables false
set_option maxRecDepth 100000
open Nat renaming reduceAdd → qA, reduceMul → qB, reduceEqDiff → qC, reduceBEq → qD
open Int renaming reduceToNat → qE, reduceEq → qF, reduceLT → qG, reduceLE → qH
def m34:MFn:=⟨26,[.t 4],kr [xF 4] (.seq (kr [xv 6 0,xe 7 6,xv 8 1,xe 9 8,bT 10 .neq 7 9] (kF 10 [xF 4])) (.seq (kr [xv 11 0,xe 12 11,xI 13 0] (.blk 0 (.loop (kr [bT 14 .lss 13 12] (.seq (kX 14 0) (.seq (.blk 1 (kr [xv 15 13,xv 5 15] (.seq (.dreg (.take 0 (xv 16 0) (.take 1 (xv 17 5) (.take 2 (xD 18 1 16 17) (.take 3 (xl 19 18) (.take 4 (xv 20 1) (.only 5 [] (xv 21 5) (.only 6 [4] (xD 22 1 20 21) (.only 7 [6,4] (xl 23 22) (.only 8 [3,7,2,6,0,1,4] (bT 24 .neq 19 23) (.done))))))))))) (kF 24 [xF 4])))) (xr [bI 25 .add 13 1,xv 13 25]))))))) (kR [xT 4])))⟩
theorem fV (xs ys:List Int) (hx:xs.length≤2^47):qU Tryz.prog num 34 [.sl .bw 1 (wQ xs),.sl .bw 1 (wQ ys)] [] (.bool (decide (xs=ys))):=by
 refine EN m34 Tryz.func88 ?_
 unfold m34
 simp only [go_sem,qA,qB,qC,qD,qE,qF,qG,qH]
 refine qM (fun hc=>?_) (fun hc=>?_)
 ·have hne:xs≠ys:=fun he=>by subst he; simp at hc
  simp only [go_sem,qA,qB,qC,qD,qE,qF,qG,qH]
  refine ⟨_,Sub.refl _,?_⟩
  simp [qX,qQ,qR,qL,-List.drop_one]
  exact hne
 ·have hl:xs.length=ys.length:=by simp at hc; omega
  simp only [go_sem,qA,qB,qC,qD,qE,qF,qG,qH]
  refine wB (ι:=Nat) (fun i=>.mk [(0,.sl .bw 1 (wQ xs)),(1,.sl .bw 1 (wQ ys)),(12,.int .i64 xs.length),(13,.int .i64 i)] [] 10) (fun i=>i≤xs.length∧xs.take i=ys.take i) (fun i=>xs.length-i) 0 (by simp) ?_ ?_
  ·refine Sub.shape [] id (by omega) ?_ ?_ ?_ ?_<;>simp [qN]
  ·rintro i ⟨hi,hp⟩
   simp only [go_sem,qA,qB,qC,qD,qE,qF,qG,qH]
   refine qM (fun hc=>?_) (fun hc=>?_)
   ·simp only [decide_eq_true_eq] at hc
    have hil:i<xs.length:=by omega
    have hjl:i<ys.length:=by omega
    simp only [go_sem,qA,qB,qC,qD,qE,qF,qG,qH,qI xs i hil,qI ys i hjl]
    refine ⟨by omega,by omega,by omega,by omega,qM (fun hc=>?_) (fun hc=>?_)⟩
    ·have hne:xs≠ys:=fun he=>by subst he; simp at hc
     simp only [go_sem,qA,qB,qC,qD,qE,qF,qG,qH]
     refine ⟨_,Sub.refl _,?_⟩
     simp [qX,qQ,qR,qL,-List.drop_one]
     exact hne
    ·have hw:=qW (i:=i) (by omega)
     simp only [go_sem,qA,qB,qC,qD,qE,qF,qG,qH,hw]
     have he:xs.getD i 0=ys.getD i 0:=by simpa using hc
     refine qV (i+1) (Sub.shape [] id (by omega) ?_ ?_ ?_ ?_) ⟨hil,?_⟩ (by omega)
     case refine_5 =>
      rw [qYi hil,qYi hjl,hp]
      have he':xs[i]=ys[i]:=by simpa [List.getD_eq_getElem?_getD,hil,hjl] using he
      rw [he']
     all_goals simp [qN]
   ·simp only [decide_eq_false_iff_not] at hc
    have hi':i=xs.length:=by omega
    have he:xs=ys:=by
     rw [hi',List.take_length,hl,List.take_length] at hp
     exact hp
    simp only [go_sem,qA,qB,qC,qD,qE,qF,qG,qH]
    refine ⟨_,Sub.refl _,?_⟩
    simp [qX,qQ,qR,qL,-List.drop_one]
    exact he
end Go.Sep
