/- Contracts of functions. -/
import Derived.Test.YtebbppogicgpkaaGreatQxx10
import Derived.Test.YtebbppogicgpkaaGreatQxx32
namespace Go.Sep
set_option maxHeartbeats 16000000
open Go.Proofs
set_option linter.unusedSimpArgs false
set_option linter.unusedVariables false
set_option maxRecDepth 100000
def m424:MFn:=⟨22,[.t 6],kr [xb 3 0,xF 6] (kr [xv 8 1,xv 9 2,xc2 10 206 (.t 8) (.t 9),xv 7 10] (kR [xv 11 7,bI 12 .geq 11 0,xv 13 12,xg 14 (.load 1 true (.t 3)) 13 true,xg 15 (.call 286 [false] [.t 14]) 13 true,xP 16 13 15,xv 17 16,yv 18 7 17,xg 19 (.call 436 [false,false] [.t 3,.t 18]) 17 true,yI 20 .neq 19 0 17,xP 21 17 20,xv 6 21]))⟩
def m436:MFn:=⟨20,[.t 4],kr [xI 4 0] (kr [xv 6 0,xk 7 6,xa 8 0 7,xl 9 8,xv 10 1,xD 11 1 9 10,xl 12 11,xv 5 12] (kR [xv 13 5,xv 14 5,xe 15 14,bI 16 .sub 15 1,xD 17 2 13 16,xa 18 0 17,xl 19 18,xv 4 19]))⟩
theorem implLast_ok (cs:List (List Write)) (c:Nat) (hm:MmOk cs) (hc:c<24):CallOk Tryz.prog num 436 [.fptr .bw (memoryC .bw ⟨cs⟩) 0,.int .i64 c] [] (.int .i64 (lastW cs c)):=by
 refine EN m436 Tryz.func79 ?_
 unfold m436
 have hcl:c<cs.length:=by rw [hm.len]; exact hc
 have hcg:=cels_getD .bw cs c hcl
 obtain ⟨h1,h2⟩:=hm.cell c hc
 have hwg:=writes_getD .bw (cs.getD c []) ((cs.getD c []).length-1) (by omega)
 have hv:((cs.getD c []).getD ((cs.getD c []).length-1) default).v=lastW cs c:=rfl
 rw [hv] at hwg
 generalize cs.getD c []=l at *
 have w1:IntKind.i64.wrap ((l.length:Int)-1)=((l.length-1:Nat):Int):=by rw [wrap64 (by omega) (by omega)]; omega
 simp only [go_sem,seval,hcg,w1,hwg]
 repeat refine K ?_
 refine fz ?_; simp [FinS,nilL,nilV,oneOr,-List.drop_one]
theorem implLocked_ok (cs:List (List Write)) (caps:List Int) (n:Int) (hs:SmallC cs) (hl:caps.length<2^40):CallOk Tryz.prog num 424 [.agg (memoryC .bw ⟨cs⟩),.sl .bw 1 (ints caps),.int .i64 n] [] (.bool (lockedM cs caps n)):=by
 refine EN m424 Tryz.func22 ?_
 unfold m424
 simp only [go_sem,seval]
 repeat refine K ?_
 refine CA [] (implBase_ok caps n hl) ?_
 try simp only [go_sem,seval]
 repeat refine K ?_
 by_cases hb:base caps n<0
 ·have hb' :¬0≤base caps n:=by omega
  try simp only [go_sem,seval,hb']
  repeat refine K ?_
  refine fz ?_; simp [FinS,nilL,nilV,oneOr,-List.drop_one]
  all_goals simp [lockedM,hb']
 have hb':0≤base caps n:=by omega
 try simp only [go_sem,seval,hb']
 repeat refine K ?_
 refine CA [] (implMemoryOk_ok cs hs) ?_
 try simp only [go_sem,seval]
 repeat refine K ?_
 cases hk:memoryOk cs
 ·try simp only [go_sem,seval,hk,hb']
  repeat refine K ?_
  refine fz ?_; simp [FinS,nilL,nilV,oneOr,-List.drop_one]
  all_goals simp [lockedM,hk]
 obtain ⟨n0,n1,_,b0,b1,b2⟩:=base_range hb
 rw [within_iff] at b2
 obtain ⟨b,hbb⟩:=Int.eq_ofNat_of_zero_le b0
 try simp only [go_sem,seval,hk,hb',hbb]
 repeat refine K ?_
 refine CA [] (implLast_ok cs b ((memoryOk_iff cs).1 hk) (by omega)) ?_
 try simp only [go_sem,seval]
 repeat refine K ?_
 try simp only [go_sem,seval]
 repeat refine K ?_
 refine fz ?_; simp [FinS,nilL,nilV,oneOr,-List.drop_one]
 all_goals simp [lockedM,hk,hbb]
end Go.Sep
