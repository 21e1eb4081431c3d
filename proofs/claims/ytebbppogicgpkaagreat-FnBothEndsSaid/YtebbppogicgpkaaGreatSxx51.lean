/- Contracts of functions. -/
import Derived.Test.YtebbppogicgpkaaGreatSxx47
namespace Go.Sep
set_option maxHeartbeats 16000000
open Go.Proofs
set_option linter.unusedSimpArgs false
set_option linter.unusedVariables false
set_option maxRecDepth 100000
def m160:MFn:=⟨26,[.t 4],kr [xF 4] (.seq (kr [xv 6 0,xe 7 6,xv 8 1,xe 9 8,bT 10 .neq 7 9] (kF 10 [xF 4])) (.seq (kr [xI 5 0] (.blk 0 (.loop (.seq (kr [xv 11 5,xv 12 0,xe 13 12,bT 14 .lss 11 13] (kX 14 0)) (.seq (.blk 1 (.seq (.dreg (.take 0 (xv 17 0) (.take 1 (xv 18 5) (.take 2 (xD 19 2 17 18) (.take 3 (xm 20 2 19) (.take 4 (xv 21 1) (.only 5 [] (xv 22 5) (.only 6 [4] (xD 23 2 21 22) (.only 7 [6,4] (xm 24 2 23) (.only 8 [3,7,2,6,0,1,4] (xo 25 (.eqS true [true,true] (.t 20) (.t 24))) (.done))))))))))) (kF 25 [xF 4]))) (xr [xv 15 5,bI 16 .add 15 1,xv 5 16])))))) (kR [xT 4])))⟩
theorem qWj {a b:List xJ} (i:Nat) (ha:i<a.length) (hb:i<b.length) (h:a.take i=b.take i) (he:a.getD i default=b.getD i default):a.take (i+1)=b.take (i+1):=by
 rw [bO a default i ha,bO b default i hb,h,he]
theorem qD3 (a b:List xJ) (ha:a.length<2^47):qW Tryz.prog num 160 [.sl .bw 2 (jK a),.sl .bw 2 (jK b)] [] (.bool (decide (a=b))):=by
 refine EN m160 Tryz.func28 ?_
 unfold m160
 by_cases hl:a.length=b.length
 ·have d0:(!decide ((a.length:Int)=(b.length:Int)))=false:=by simp [hl]
  simp only [go_sem,seval,d0]
  repeat refine K ?_
  refine qX (ι:=Nat) (fun i=>.mk [(0,.sl .bw 2 (jK a)),(1,.sl .bw 2 (jK b)),(5,.int .i64 i)] [] 10) (fun i=>i≤a.length∧a.take i=b.take i) (fun i=>a.length-i) 0 (by simp) ?_ ?_
  ·refine Sub.shape [] id (by omega) ?_ ?_ ?_ ?_<;>simp [qK]
  ·rintro i ⟨hi,hp⟩
   simp only [go_sem,seval]
   refine qL (fun hc=>?_) (fun hc=>?_)
   ·simp only [decide_eq_true_eq] at hc
    have hil:i<a.length:=by omega
    have g1:=cF a i hil
    have g2:=cF b i (by omega)
    have ht:=qWj i hil (by omega) hp
    have hdec:(decide ((a.getD i default).who=(b.getD i default).who)&&decide ((a.getD i default).v=(b.getD i default).v))=decide (a.getD i default=b.getD i default):=by
     generalize a.getD i default=x
     generalize b.getD i default=y
     obtain ⟨x1,x2⟩:=x
     obtain ⟨y1,y2⟩:=y
     by_cases h1:x1=y1<;>by_cases h2:x2=y2<;>simp [h1,h2]
    simp only [go_sem,seval,g1,g2,hdec,qS (i:=i) (by omega)]
    repeat refine K ?_
    by_cases he:a.getD i default=b.getD i default
    ·have h2:=ht he
     have d3:(!decide (a.getD i default=b.getD i default))=false:=by rw [decide_eq_true he]; rfl
     try simp only [go_sem,seval,d3,qS (i:=i) (by omega)]
     repeat refine K ?_
     refine qT (i+1) (Sub.shape [] id (by omega) ?_ ?_ ?_ ?_) ⟨hil,h2⟩ (by omega)<;>simp [qK]
    ·have hne :¬a=b:=fun e=>he (by rw [e])
     have d3:(!decide (a.getD i default=b.getD i default))=true:=by rw [decide_eq_false he]; rfl
     try simp only [go_sem,seval,d3]
     repeat refine K ?_
     refine fz ?_; simp [qZ,qU,qV,qQ,-List.drop_one]
     all_goals simp [hne]
   ·simp only [decide_eq_false_iff_not] at hc
    have hab:a=b:=by
     have h1:a.take i=a:=List.take_of_length_le (by omega)
     have h2:b.take i=b:=List.take_of_length_le (by omega)
     rw [←h1,hp,h2]
    simp only [go_sem,seval]
    repeat refine K ?_
    refine fz ?_; simp [qZ,qU,qV,qQ,-List.drop_one]
    all_goals simp [hab]
 ·have d0:(!decide ((a.length:Int)=(b.length:Int)))=true:=by simp; omega
  have hne :¬a=b:=fun e=>hl (by rw [e])
  simp only [go_sem,seval,d0]
  repeat refine K ?_
  refine fz ?_; simp [qZ,qU,qV,qQ,-List.drop_one]
  all_goals simp [hne]
end Go.Sep
