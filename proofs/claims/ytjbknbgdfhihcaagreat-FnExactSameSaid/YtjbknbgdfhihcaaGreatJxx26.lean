/- Contracts of functions. -/
import Derived.Test.YtjbknbgdfhihcaaGreatJxx11
import Derived.Test.YtjbknbgdfhihcaaGreatJxx14
namespace Go.Sep
set_option maxHeartbeats 16000000
open Go.Proofs
set_option linter.unusedSimpArgs false
set_option linter.unusedVariables false
set_option maxRecDepth 100000
def m393:MFn:=⟨63,[.t 6],kr [xb 3 0,xb 4 1,xb 5 2,xF 6] (kr [xI 7 1048576] (kr [xm 13 2 3,xv 14 7,xc2 15 27 (.t 13) (.t 14),xv 7 15] (.seq (kr [xv 16 7,bI 17 .lss 16 0] (kF 17 [xT 6])) (kr [xm 18 4 4,xv 19 7,xc2 20 172 (.t 18) (.t 19),xv 7 20] (.seq (kr [xv 21 7,bI 22 .lss 21 0] (kF 22 [xT 6])) (kr [xm 23 3 5,xv 24 7,xc2 25 139 (.t 23) (.t 24),xv 7 25] (.seq (kr [xv 26 7,bI 27 .lss 26 0] (kF 27 [xT 6])) (.seq (.dreg (.take 0 (xm 28 2 3) (.take 2 (xm 30 4 4) (.take 4 (xm 32 3 5) (.only 1 [0] (xc1 29 28 (.t 28)) (.only 3 [1,2,0] (xc1 31 173 (.t 30)) (.only 5 [3,4,1,2,0] (xc1 33 138 (.t 32)) (.only 6 [1,3,5,0,2,4] (xc3 34 394 (.t 29) (.t 31) (.t 33)) (.only 7 [0,2,4] (xv 8 34) (.done)))))))))) (kr [xm 35 2 3,xc1 36 28 (.t 35),xo 9 (.alloc [.nil,.nil]),xS 2 9 36] (kr [xm 37 4 4,xc1 38 173 (.t 37),xo 10 (.alloc [.nil,.nil,.nil,.nil]),xS 4 10 38] (kr [xm 39 3 5,xc1 40 138 (.t 39),xo 11 (.alloc [.nil,.nil,.nil]),xS 3 11 40] (kr [xm 41 2 9,xm 42 4 10,xm 43 3 11,xc3 44 395 (.t 41) (.t 42) (.t 43),xv 12 44] (.seq (kr [xv 45 12,xv 46 8,xo 47 (.eqB true (.t 45) (.t 46))] (kF 47 [xF 6])) (.seq (.seq (.dreg (.take 0 (xm 48 2 9) (.only 1 [] (xm 49 2 3) (.only 2 [] (xc1 50 28 (.t 49)) (.only 3 [0] (xc2 51 30 (.t 48) (.t 50)) (.only 4 [3,0] (xN 52 51) (.done))))))) (kF 52 [xF 6])) (.seq (.seq (.dreg (.take 0 (xm 53 4 10) (.only 1 [] (xm 54 4 4) (.only 2 [] (xc1 55 173 (.t 54)) (.only 3 [0] (xc2 56 176 (.t 53) (.t 55)) (.only 4 [3,0] (xN 57 56) (.done))))))) (kF 57 [xF 6])) (.seq (.seq (.dreg (.take 0 (xm 58 3 11) (.only 1 [] (xm 59 3 5) (.only 2 [] (xc1 60 138 (.t 59)) (.only 3 [0] (xc2 61 140 (.t 58) (.t 60)) (.only 4 [3,0] (xN 62 61) (.done))))))) (kF 62 [xF 6])) (kR [xT 6])))))))))))))))))⟩
theorem exactSame_ok (p:Prog) (m:Machine) (s:Source) (h1:p.caps.length<2^63∧p.bods.length<2^63∧∀b∈p.bods,b.length<2^63) (hm0:LongM m) (h2:s.ths.length<2^63∧s.chs.length<2^63∧s.tr.length<2^63∧(∀t∈s.ths,t.regs.length<2^63)∧(∀c∈s.chs,c.list.length<2^63)) :
  CallOk Tryz.prog num 393 [.agg (progC .bw p),.agg (machineC .bw m),.agg (sourceC .bw s)] [] (.bool true):=by
 refine EN m393 Tryz.func5 ?_
 unfold m393
 simp only [go_sem,seval]
 repeat refine K ?_
 refine CA [] (szProg_ok p 1048576 h1.1 h1.2.1 h1.2.2 (by omega) (by omega)) ?_
 try simp only [go_sem,seval]
 repeat refine K ?_
 rw [szProg_eq p _ (by omega)]
 have l1:=szL_le (k:=wProg p) (n:=1048576) (by omega)
 refine qA1 (fun hc=>?_) (fun hc=>?_)
 ·simp only [go_sem,seval]
  repeat refine K ?_
  refine fz ?_; simp [FinS,nilL,nilV,oneOr,-List.drop_one]
 simp only [decide_eq_false_iff_not] at hc
 have hp:=prgSz_of (p:=p) (n:=1048576) (by have:=szL_ge hc (by omega); omega)
 generalize szL (wProg p) 1048576=n1 at *
 simp only [go_sem,seval]
 repeat refine K ?_
 refine CA [] (szMachine_ok m n1 hm0 (by omega) (by omega)) ?_
 try simp only [go_sem,seval]
 repeat refine K ?_
 have l2:=szL_le (k:=zMachine m) (n:=n1) (by omega)
 refine qA1 (fun hc2=>?_) (fun hc2=>?_)
 ·simp only [go_sem,seval]
  repeat refine K ?_
  refine fz ?_; simp [FinS,nilL,nilV,oneOr,-List.drop_one]
 simp only [decide_eq_false_iff_not] at hc2
 have hm:=smallM_of (m:=m) (n:=1048576) (by have:=szL_ge hc2 (by omega); omega) (by omega)
 generalize szL (zMachine m) n1=n2 at *
 simp only [go_sem,seval]
 repeat refine K ?_
 refine CA [] (szSource_ok s n2 h2.1 h2.2.1 h2.2.2.1 h2.2.2.2.1 h2.2.2.2.2 (by omega) (by omega)) ?_
 try simp only [go_sem,seval]
 repeat refine K ?_
 refine qA1 (fun hc3=>?_) (fun hc3=>?_)
 ·simp only [go_sem,seval]
  repeat refine K ?_
  refine fz ?_; simp [FinS,nilL,nilV,oneOr,-List.drop_one]
 simp only [decide_eq_false_iff_not] at hc3
 have hss:=srcSz_of (s:=s) (n:=1048576) (by have:=szL_ge hc3 (by omega); omega)
 clear hc hc2 hc3 h1 h2 hm0 l1 l2
 obtain ⟨p1,p2,p3,p4⟩:=hp
 have q1 :∀b∈p.bods,40*b.length≤2^47:=fun b hb=>by have:=p3 b hb; omega
 have q2 :∀b∈p.bods,b.length≤2^47:=fun b hb=>by have:=p3 b hb; omega
 have hpp:SmallP p:=⟨by omega,by omega,fun b hb=>by have:=p3 b hb; omega⟩
 have hsm:=hss.small (by omega)
 have tp:=toProg_ok p (by omega) (by omega) q1
 have tm:=toMachine_ok m hm
 have ts:=toSource_ok s (by have:=hsm.ths; omega) (by have:=hsm.chs; omega) (by have:=hsm.tr; omega) (fun t ht=>by have:=hsm.regs t ht; omega) (fun c hc=>by have:=hsm.list c hc; omega)
 have cs:=specSame_ok p m s hpp hm hsm
 have ci:=implSame_ok p m s hpp hm hsm
 have ep:=eqProg_ok p p (by omega) (by omega) q2
 have em:=eqMachine_ok m m hm
 have es:=eqSource_ok s s (by have:=hsm.ths; omega) (by have:=hsm.chs; omega) (by have:=hsm.tr; omega) (fun t ht=>by have:=hsm.regs t ht; omega) (fun c hc=>by have:=hsm.list c hc; omega)
 generalize same p m s=w at cs ci
 have eb:(w==w)=true:=by simp
 simp only [go_sem,seval]
 repeat refine K ?_
 refine DA [] (tp) ?_
 try simp only [go_sem,seval]
 repeat refine K ?_
 refine DA [] (tm) ?_
 try simp only [go_sem,seval]
 repeat refine K ?_
 refine DA [] (ts) ?_
 try simp only [go_sem,seval]
 repeat refine K ?_
 refine DA [] (cs) ?_
 try simp only [go_sem,seval]
 repeat refine K ?_
 try simp only [go_sem,seval]
 repeat refine K ?_
 refine CA [] (tp) ?_
 try simp only [go_sem,seval]
 repeat refine K ?_
 try simp only [go_sem,seval]
 repeat refine K ?_
 refine CA [] (tm) ?_
 try simp only [go_sem,seval]
 repeat refine K ?_
 try simp only [go_sem,seval]
 repeat refine K ?_
 refine CA [] (ts) ?_
 try simp only [go_sem,seval]
 repeat refine K ?_
 try simp only [go_sem,seval]
 repeat refine K ?_
 refine CA [] (ci) ?_
 try simp only [go_sem,seval]
 repeat refine K ?_
 try simp only [go_sem,seval,eb]
 repeat refine K ?_
 refine DA [] (tp) ?_
 try simp only [go_sem,seval]
 repeat refine K ?_
 refine DA [] (ep) ?_
 try simp only [go_sem,seval]
 repeat refine K ?_
 try simp only [go_sem,seval]
 repeat refine K ?_
 refine DA [] (tm) ?_
 try simp only [go_sem,seval]
 repeat refine K ?_
 refine DA [] (em) ?_
 try simp only [go_sem,seval]
 repeat refine K ?_
 try simp only [go_sem,seval]
 repeat refine K ?_
 refine DA [] (ts) ?_
 try simp only [go_sem,seval]
 repeat refine K ?_
 refine DA [] (es) ?_
 try simp only [go_sem,seval]
 repeat refine K ?_
 try simp only [go_sem,seval]
 repeat refine K ?_
 refine fz ?_; simp [FinS,nilL,nilV,oneOr,-List.drop_one]
end Go.Sep
