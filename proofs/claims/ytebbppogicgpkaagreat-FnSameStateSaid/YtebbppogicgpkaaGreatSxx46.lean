/- Contracts of functions. -/
import Derived.Test.YtebbppogicgpkaaGreatSxx44
namespace Go.Sep
set_option maxHeartbeats 16000000
open Go.Proofs
set_option linter.unusedSimpArgs false
set_option linter.unusedVariables false
set_option maxRecDepth 100000
def m23:MFn:=⟨26,[.t 4],kr [xF 4] (.seq (kr [xv 6 0,xe 7 6,xv 8 1,xe 9 8,bT 10 .neq 7 9] (kF 10 [xF 4])) (.seq (kr [xI 5 0] (.blk 0 (.loop (.seq (kr [xv 11 5,xv 12 0,xe 13 12,bT 14 .lss 11 13] (kX 14 0)) (.seq (.blk 1 (.seq (.dreg (.take 0 (xv 17 0) (.take 1 (xv 18 5) (.take 2 (xD 19 1 17 18) (.take 3 (xl 20 19) (.take 4 (xv 21 1) (.only 5 [] (xv 22 5) (.only 6 [4] (xD 23 1 21 22) (.only 7 [6,4] (xl 24 23) (.only 8 [3,7,2,6,0,1,4] (bT 25 .neq 20 24) (.done))))))))))) (kF 25 [xF 4]))) (xr [xv 15 5,bI 16 .add 15 1,xv 5 16])))))) (kR [xT 4])))⟩
theorem cC (xs ys:List Int) (hx:xs.length≤2^47):qW Tryz.prog num 23 [.sl .bw 1 (wN xs),.sl .bw 1 (wN ys)] [] (.bool (decide (xs=ys))):=by
 refine EN m23 Tryz.func18 ?_
 unfold m23
 simp only [go_sem,seval]
 repeat refine K ?_
 refine qL (fun hc=>?_) (fun hc=>?_)
 ·have hne:xs≠ys:=fun he=>by subst he; simp at hc
  simp only [go_sem,seval]
  repeat refine K ?_
  refine fz ?_; simp [qZ,qU,qV,qQ,-List.drop_one]
  exact hne
 ·have hl:xs.length=ys.length:=by simp at hc; omega
  simp only [go_sem,seval]
  repeat refine K ?_
  refine qX (ι:=Nat) (fun i=>.mk [(0,.sl .bw 1 (wN xs)),(1,.sl .bw 1 (wN ys)),(5,.int .i64 i)] [] 10) (fun i=>i≤xs.length∧xs.take i=ys.take i) (fun i=>xs.length-i) 0 (by simp) ?_ ?_
  ·refine Sub.shape [] id (by omega) ?_ ?_ ?_ ?_<;>simp [qK]
  ·rintro i ⟨hi,hp⟩
   simp only [go_sem,seval]
   repeat refine K ?_
   refine qL (fun hc=>?_) (fun hc=>?_)
   ·simp only [decide_eq_true_eq] at hc
    have hil:i<xs.length:=by omega
    have hjl:i<ys.length:=by omega
    simp only [go_sem,seval,qI xs i hil,qI ys i hjl]
    repeat refine K ?_
    by_cases he:xs.getD i 0=ys.getD i 0
    ·simp only [go_sem,seval,he,qS (i:=i) (by omega)]
     repeat refine K ?_
     refine qT (i+1) (Sub.shape [] id (by omega) ?_ ?_ ?_ ?_) ?_ ?_
     any_goals (first | omega | (simp [qK]; done))
     refine ⟨hil,?_⟩
     rw [List.take_succ_eq_append_getElem hil,List.take_succ_eq_append_getElem hjl,hp]
     have he':xs[i]=ys[i]:=by simpa [List.getD_eq_getElem?_getD,hil,hjl] using he
     rw [he']
    ·simp only [go_sem,seval,he]
     repeat refine K ?_
     refine fz ?_; simp [qZ,qU,qV,qQ,-List.drop_one]
     intro h
     subst h
     exact he rfl
   ·simp only [decide_eq_false_iff_not] at hc
    have he:xs=ys:=by
     have h1:i=xs.length:=by omega
     rw [h1,List.take_length,hl,List.take_length] at hp
     exact hp
    simp only [go_sem,seval]
    repeat refine K ?_
    refine fz ?_; simp [qZ,qU,qV,qQ,-List.drop_one]
    exact he
end Go.Sep
