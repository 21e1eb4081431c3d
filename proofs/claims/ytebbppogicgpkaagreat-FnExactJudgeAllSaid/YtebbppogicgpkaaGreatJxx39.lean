/- Contracts of functions. -/
import Derived.Test.YtebbppogicgpkaaGreatJxx28
import Derived.Test.YtebbppogicgpkaaGreatJxx38
namespace Go.Sep
set_option maxHeartbeats 16000000
open Go.Proofs
set_option linter.unusedSimpArgs false
set_option linter.unusedVariables false
set_option maxRecDepth 100000
def m461:MFn:=⟨45,[.t 4],kr [xb 2 0,xF 4] (kr [xI 5 1048576] (kr [xm 10 2 2,xv 11 5,xc2 12 27 (.t 10) (.t 11),xv 5 12] (.seq (kr [xv 13 5,bI 14 .lss 13 0] (kF 14 [xT 4])) (kr [xv 15 1,xv 16 5,xc2 17 384 (.t 15) (.t 16),xv 5 17] (.seq (kr [xv 18 5,bI 19 .lss 18 0] (kF 19 [xT 4])) (kr [xm 20 2 2,xc1 21 28 (.t 20),xv 22 1,xc1 23 385 (.t 22),xc2 24 462 (.t 21) (.t 23),xv 6 24] (kr [xm 25 2 2,xc1 26 28 (.t 25),xo 7 (.alloc [.nil,.nil]),xS 2 7 26] (kr [xv 27 1,xc1 28 385 (.t 27),xv 8 28] (kr [xm 29 2 7,xv 30 8,xc2 31 460 (.t 29) (.t 30),xv 9 31] (.seq (kr [xv 32 9,xv 33 6,xo 34 (.eqB true (.t 32) (.t 33))] (kF 34 [xF 4])) (.seq (.seq (.dreg (.take 0 (xm 35 2 7) (.only 1 [] (xm 36 2 2) (.only 2 [] (xc1 37 28 (.t 36)) (.only 3 [0] (xc2 38 30 (.t 35) (.t 37)) (.only 4 [3,0] (xN 39 38) (.done))))))) (kF 39 [xF 4])) (.seq (kr [xv 40 8,xv 41 1,xc1 42 385 (.t 41),xc2 43 388 (.t 40) (.t 42),xN 44 43] (kF 44 [xF 4])) (kR [xT 4])))))))))))))⟩
theorem qRx (p:wU) (l:List uF) (h1:p.caps.length<2^63∧p.bods.length<2^63∧∀b∈p.bods,b.length<2^63) (hl0:l.length<2^63∧∀x∈l,tW x):qU Tryz.prog num 461 [.agg (yT .bw p),.sl .bw 2 (dR l)] [] (.bool true):=by
 refine EN m461 Tryz.func13 ?_
 unfold m461
 simp only [go_sem,seval]
 refine CA [] (qQu p 1048576 h1.1 h1.2.1 h1.2.2 (by omega) (by omega)) ?_
 try simp only [go_sem,seval]
 rw [qQv p _ (by omega)]
 have l1:=qO1 (k:=qJ2 p) (n:=1048576) (by omega)
 refine qM (fun hc=>?_) (fun hc=>?_)
 ·simp only [go_sem,seval]
  refine fz ?_; simp [qX,qQ,qR,qL,-List.drop_one]
 simp only [decide_eq_false_iff_not] at hc
 have hp:=qSz (p:=p) (n:=1048576) (by have:=qSs hc (by omega); omega)
 generalize szL (qJ2 p) 1048576=n2 at *
 simp only [go_sem,seval]
 refine CA [] (qNz l n2 hl0.1 (by omega) (by omega)) ?_
 try simp only [go_sem,seval]
 refine qM (fun hc3=>?_) (fun hc3=>?_)
 ·simp only [go_sem,seval]
  refine fz ?_; simp [qX,qQ,qR,qL,-List.drop_one]
 simp only [decide_eq_false_iff_not] at hc3
 have hl:l.length≤1048576:=by have:=qSs hc3 (by omega); omega
 clear hc hc3 h1 l1
 obtain ⟨p1,p2,p3,p4⟩:=hp
 have q1 :∀b∈p.bods,40*b.length≤2^47:=fun b hb=>by have:=p3 b hb; omega
 have q2 :∀b∈p.bods,b.length≤2^47:=fun b hb=>by have:=p3 b hb; omega
 have hpp:vY p:=⟨by omega,by omega,fun b hb=>by have:=p3 b hb; omega⟩
 have tp:=qQp p (by omega) (by omega) q1
 have tk:=qNx l (by omega)
 have cs:=qEy p l hpp (by omega) hl0.2
 have ci:=qF4 p l hpp (by omega) hl0.2
 generalize sE p l=w at *
 have ep:=qRy p p (by omega) (by omega) q2
 have ek:=qOu l l (by omega)
 have eb:(w==w)=true:=by simp
 simp only [go_sem,seval]
 refine CA [] (tp) ?_
 try simp only [go_sem,seval]
 refine CA [] (tk) ?_
 try simp only [go_sem,seval]
 refine CA [] (cs) ?_
 try simp only [go_sem,seval]
 refine CA [] (tp) ?_
 try simp only [go_sem,seval]
 refine CA [] (tk) ?_
 try simp only [go_sem,seval]
 refine CA [] (ci) ?_
 try simp only [go_sem,seval]
 repeat refine K ?_
 refine DA [] (tp) ?_
 try simp only [go_sem,seval]
 refine DA [] (ep) ?_
 try simp only [go_sem,seval]
 refine CA [] (tk) ?_
 try simp only [go_sem,seval]
 refine CA [] (ek) ?_
 try simp only [go_sem,seval]
 refine fz ?_; simp [qX,qQ,qR,qL,-List.drop_one]
end Go.Sep
