/- Contracts of functions. -/
import Derived.Test.YtebbppogicgpkaaGreatBxx16
import Derived.Test.YtebbppogicgpkaaGreatBxx18
namespace Go.Sep
set_option maxHeartbeats 16000000
open Go.Proofs
set_option linter.unusedSimpArgs false
set_option linter.unusedVariables false
set_option maxRecDepth 100000
open Nat renaming reduceAdd → qA, reduceMul → qB, reduceEqDiff → qC, reduceBEq → qD
open Int renaming reduceToNat → qE, reduceEq → qF, reduceLT → qG, reduceLE → qH
open List renaming getD_eq_getElem?_getD → gD
def m375:MFn:=⟨52,[.t 10,.t 11],kr [xb 5 0,xI 10 0,xo 11 (.mv (.c (.nil)))] (kr [xa 15 0 5,xl 16 15,xv 17 2,xD 18 1 16 17,xl 19 18,xv 12 19] (.seq (.dreg (.take 0 (xv 20 12) (.take 1 (xe 21 20) (.take 2 (bI 22 .sub 21 1) (.take 3 (xv 23 3) (.take 6 (xv 26 1) (.take 7 (xv 27 2) (.take 8 (xD 28 1 26 27) (.take 9 (xl 29 28) (.only 4 [3] (xc2 24 98 (.t 23) (xi 0)) (.only 5 [2,4,1,3,0] (bT 25 .sub 22 24) (.only 10 [4,5,9,3,2,8,1,6,7,0] (xc2 30 98 (.t 25) (.t 29)) (.only 11 [0,1,2,3,6,7,8,9] (xv 13 30) (.done)))))))))))))) (kr [xo 31 (.mkSl [xz] 0 []),xv 32 1,xA 33 1 8 31 32,xv 14 33] (kr [xv 34 14,xv 35 2,xv 36 13,xD 37 1 34 35,xS 1 37 36] (.seq (kr [xv 38 4] (.cond 38 (xr [xv 39 14,xv 40 12,xv 41 13,xD 42 2 40 41,xa 43 1 42,xl 44 43,xc2 45 381 (.t 39) (.t 44),xv 14 45]) (.skip))) (kR [xv 46 12,xv 47 13,xD 48 2 46 47,xa 49 0 48,xl 50 49,xv 51 14,xv 10 50,xv 11 51]))))))⟩
def m376:MFn:=⟨56,[.cell 10 1 true,.t 11],kr [xb 5 0,xo 10 (.alloc [.nil]),xo 11 (.mv (.c (.nil)))] (kr [xo 14 (.mkSl [xz] 0 []),xv 15 1,xA 16 1 8 14 15,xv 12 16] (kr [xv 17 12,xv 18 2,xa 19 0 5,xl 20 19,xv 21 2,xD 22 1 20 21,xl 23 22,xe 24 23,xD 25 1 17 18,xS 1 25 24] (kr [xv 26 3,xo 27 (.mkS [xz] 8 (xi 24) (xi 24)),xo 28 (.build [.int .i64 0,.nil] [(0,1,.t 26),(1,1,.t 27)]),xo 13 (.alloc [.int .i64 0,.nil]),xS 2 13 28] (.seq (.dreg (.take 0 (xa 29 1 13) (.take 1 (xl 30 29) (.take 2 (xv 31 2) (.take 3 (xv 32 12) (.only 4 [] (xv 33 2) (.only 5 [3] (xD 34 1 32 33) (.only 6 [5,3] (xl 35 34) (.only 7 [0,1,2,3] (xD 36 1 30 31) (.only 8 [0,1,2,3] (xS 1 36 35) (.done))))))))))) (.seq (kr [xv 37 4] (.cond 37 (xr [xo 38 (.mkSl [xz] 0 []),xv 39 12,xA 40 1 8 38 39,xa 41 1 13,xS 1 41 40]) (.skip))) (.seq (.dreg (.take 0 (xa 42 0 5) (.take 1 (xl 43 42) (.take 2 (xv 44 2) (.take 3 (xa 45 0 5) (.take 4 (xl 46 45) (.take 5 (xv 47 2) (.take 6 (xD 48 1 46 47) (.take 7 (xl 49 48) (.only 8 [] (xm 50 2 13) (.only 9 [] (xo 51 (.mkSl [.int .i64 0,.nil] 1 [(0,.t 50)])) (.only 10 [7,6,4,5,3] (xA 52 2 32 49 51) (.only 11 [0,1,2,3,4,5,6,7] (xD 53 1 43 44) (.only 12 [0,1,2,3,4,5,6,7] (xS 1 53 52) (.done))))))))))))))) (kR [xm 54 1 5,xv 55 12,xS 1 10 54,xv 11 55])))))))⟩
theorem qDg (cs:List (List wO)) (view:List Int) (cell:Nat) (late:Int) (hold:Bool) (hm:oR cs) (hv:VOk cs view) (hc:cell<24) (hl:-(2^63)≤late∧late<2^63) :
  qU Tryz.prog num 375 [.agg (vP .bw ⟨cs⟩),.sl .bw 1 (wT view),.int .i64 cell,.int .i64 late,.bool hold] [] (.tup [.int .i64 (load cs view cell late hold).1,.sl .own 1 (wT (load cs view cell late hold).2)]):=by
 refine EN m375 Tryz.func183 ?_
 unfold m375
 have hcl:cell<cs.length:=by rw [hm.len]; exact hc
 have hvl:=hv.1
 have hvc:cell<view.length:=by omega
 have hlc:=hm.cell cell hc
 have hv2:=hv.2 cell hc
 have hat:=qR7 (late:=late) hv hc
 have hcg:=vY .bw cs cell hcl
 generalize hcd:cs.getD cell []=c at *
 have hwl :∀i,i<c.length→(c.getD i default).view.length=24:=fun i hi=>(hm.view cell hc _ (by rw [hcd]; exact wY c i default hi)).1
 have w1:IntKind.i64.wrap ((c.length:Int)-1)=c.length-1:=wF (by omega) (by omega)
 have w2:IntKind.i64.wrap ((c.length:Int)-1-max late 0)=c.length-1-max late 0:=wF (by omega) (by omega)
 simp only [go_sem,seval,hcg,w1,w2,qI view cell hvc]
 repeat refine K ?_
 refine DA [] (tP late 0) ?_
 try simp only [go_sem,seval]
 try simp only [go_sem,seval,hcg,w1,w2,qI view cell hvc]
 refine DA [] (tP ((c.length:Int)-1-max late 0) (view.getD cell 0)) ?_
 try simp only [go_sem,seval]
 repeat refine K ?_
 have he:max ((c.length:Int)-1-max late 0) (view.getD cell 0)=qGq cs view cell late:=by unfold qGq; rw [hcd]
 generalize hla:qGq cs view cell late=at_ at *
 obtain ⟨a,rfl⟩:=Int.eq_ofNat_of_zero_le hat.1
 have ha:a<c.length:=by omega
 have hwg:=iU .bw c a ha
 have hwa:=hwl a ha
 have hld:load cs view cell late hold=((c.getD a default).v,if hold then join (view.set cell a) (c.getD a default).view else view.set cell a):=by
  rw [qR6,hcd,hla]
  rfl
 rw [hld]
 try simp only [go_sem,seval,he,hcg,hwg,qI view cell hvc]
 repeat refine K ?_
 cases hold
 ·simp only [go_sem,seval,hcg,hwg]
  repeat refine K ?_
  refine ⟨_,Sub.refl _,yR (by simp) ?_⟩; simp [-List.drop_one]
 simp only [go_sem,seval,hcg,hwg]
 repeat refine K ?_
 have hj:=qMo (view.set cell a) (c.getD a default).view (by simp; omega)
 have htk :∀x:Int,(view.set cell x).take view.length=view.set cell x:=fun x=>List.take_of_length_le (by simp)
 clear hvl hwa
 refine CA [] (hj) ?_
 try simp only [go_sem,seval]
 repeat refine K ?_
 try simp only [go_sem,seval,hcg,hwg]
 refine ⟨_,Sub.refl _,yR (by simp) ?_⟩; simp [-List.drop_one]
theorem qPh (cs:List (List wO)) (view:List Int) (cell:Nat) (v:Int) (go:Bool) (hm:oR cs) (hv:VOk cs view) (hc:cell<24) :
  qU Tryz.prog num 376 [.agg [.ns 0 0 cs.length],.sl .bw 1 (wT view),.int .i64 cell,.int .i64 v,.bool go] [(0,some (1,jO .own cs),none)] (.tup [.agg (vP .own ⟨(store cs view cell v go).1⟩),.sl .own 1 (wT (store cs view cell v go).2)]):=by
 refine EH m376 Tryz.func184 ?_
 unfold m376
 have hcl:cell<cs.length:=by rw [hm.len]; exact hc
 have hvl:=hv.1
 have hvc:cell<view.length:=by omega
 have hlc:=hm.cell cell hc
 have hcg:=vY .own cs cell hcl
 have hst:store cs view cell v go=(cs.set cell (cs.getD cell []++[⟨v,if go then view.set cell ((cs.getD cell []).length:Int) else z24.set cell ((cs.getD cell []).length:Int)⟩]),view.set cell ((cs.getD cell []).length:Int)):=rfl
 rw [hst]
 have gt :∀r,((jO .own cs).set cell r).getD cell []=r:=fun r=>wJ _ _ _ _ (by rw [yG]; exact hcl)
 generalize hcd:cs.getD cell []=c at *
 have gv:(view.set cell (c.length:Int)).getD cell 0=c.length:=wJ _ _ _ _ hvc
 have g24:cell<z24.length:=by rw [iM]; exact hc
 have hvs:cell<(view.set cell (c.length:Int)).length:=by simpa using hvc
 have hi:=qI (view.set cell (c.length:Int)) cell hvs
 have hi2:=qI view cell hvc
 have hi3:=qI z24 cell g24
 have htk :∀x:Int,(view.set cell x).take view.length=view.set cell x:=fun x=>List.take_of_length_le (by simp)
 simp only [go_sem,seval,hcg,gt,hi,hi2,rR,iM,hi3,gv]
 repeat refine K ?_
 cases go
 ·simp only [go_sem,seval,hcg,gt,hi,rR,iM,hi3,gv]
  repeat refine K ?_
  apply wA (by simp)
  ·refine Sub.trans (Sub.foldLast 18 1 15 rfl (by simp [-gD]<;>omega) rfl (by decide) (by decide) rfl) ?_
   simp only [fS,fS2,qA,qC,mP,iM]
   refine Sub.trans (Sub.foldAt 0 0 18 rfl (by simp [-gD]<;>omega) rfl (by decide) (by decide) rfl (by simp<;>omega)) ?_
   simp only [fS,fS2,qA,qC,uE]
   exact Sub.refl _
  ·simp [-List.drop_one,-gD,bF]<;>(first | rfl | exact ⟨rfl,rfl⟩ | exact ⟨rfl,rfl,rfl⟩ | skip)
 simp only [go_sem,seval,hcg,gt,hi,htk,rR,iM,hi3,gv]
 repeat refine K ?_
 apply wA (by simp)
 ·refine Sub.trans (Sub.foldLast 20 1 18 rfl (by simp [-gD]<;>omega) rfl (by decide) (by decide) rfl) ?_
  simp only [fS,fS2,qA,qC,mP]
  refine Sub.trans (Sub.foldAt 0 0 20 rfl (by simp [-gD]<;>omega) rfl (by decide) (by decide) rfl (by simp<;>omega)) ?_
  simp only [fS,fS2,qA,qC,uE]
  exact Sub.refl _
 ·simp [-List.drop_one,-gD,bF]<;>(first | rfl | exact ⟨rfl,rfl⟩ | exact ⟨rfl,rfl,rfl⟩ | skip)
theorem mZ (cs:List (List wO)) (view:List Int) (cell:Nat) (v:Int) (go:Bool) (hm:oR cs) (hv:VOk cs view) (hc:cell<24) :
  qU Tryz.prog num 376 [.agg [.ns 0 0 cs.length],.sl .bw 1 (wT view),.int .i64 cell,.int .i64 v,.bool go] [(0,some (1,(jO .own cs).set cell [.ns 1 0 (cs.getD cell []).length]),none),(1,some (2,jH .own (cs.getD cell [])),none)] (.tup [.agg (vP .own ⟨(store cs view cell v go).1⟩),.sl .own 1 (wT (store cs view cell v go).2)]):=by
 have hR:okR qXo ((jO .own cs).set cell [.ns 1 0 (cs.getD cell []).length]):=oM _ _ _ (by simp [okL,okV,qXo])
 have hB:jW (· < 10) ((jO .own cs).set cell [.ns 1 0 (cs.getD cell []).length]):=qW6 (fun n hn=>by rcases hn with rfl | rfl | rfl<;>decide) hR
 refine EH m376 Tryz.func184 (hh:=aF _ _ _ _ (aF _ _ _ _ ((qDk _).2 trivial) (by decide) (by simp [vH])) (by decide) hB) ?_
 clear hR hB
 unfold m376
 have hcl:cell<cs.length:=by rw [hm.len]; exact hc
 have hvl:=hv.1
 have hvc:cell<view.length:=by omega
 have hlc:=hm.cell cell hc
 have hcg:=vY .own cs cell hcl
 have hst:store cs view cell v go=(cs.set cell (cs.getD cell []++[⟨v,if go then view.set cell ((cs.getD cell []).length:Int) else z24.set cell ((cs.getD cell []).length:Int)⟩]),view.set cell ((cs.getD cell []).length:Int)):=rfl
 rw [hst]
 have gt :∀r,((jO .own cs).set cell r).getD cell []=r:=fun r=>wJ _ _ _ _ (by rw [yG]; exact hcl)
 generalize hcd:cs.getD cell []=c at *
 have gv:(view.set cell (c.length:Int)).getD cell 0=c.length:=wJ _ _ _ _ hvc
 have g24:cell<z24.length:=by rw [iM]; exact hc
 have hvs:cell<(view.set cell (c.length:Int)).length:=by simpa using hvc
 have hi:=qI (view.set cell (c.length:Int)) cell hvs
 have hi2:=qI view cell hvc
 have hi3:=qI z24 cell g24
 have htk :∀x:Int,(view.set cell x).take view.length=view.set cell x:=fun x=>List.take_of_length_le (by simp)
 simp only [go_sem,seval,hcg,gt,hi,hi2,rR,iM,hi3,gv]
 repeat refine K ?_
 cases go
 ·simp only [go_sem,seval,hcg,gt,hi,rR,iM,hi3,gv]
  repeat refine K ?_
  apply wA (by simp)
  ·refine Sub.trans (Sub.foldLast 17 1 14 rfl (by simp [-gD]<;>omega) rfl (by decide) (by decide) rfl) ?_
   simp only [fS,fS2,qA,qC,mP,iM]
   refine Sub.trans (Sub.foldAt 0 0 17 rfl (by simp [-gD]<;>omega) rfl (by decide) (by decide) rfl (by simp<;>omega)) ?_
   simp only [fS,fS2,qA,qC,uE]
   exact Sub.refl _
  ·simp [-List.drop_one,-gD,bF]<;>(first | rfl | exact ⟨rfl,rfl⟩ | exact ⟨rfl,rfl,rfl⟩ | skip)
 simp only [go_sem,seval,hcg,gt,hi,htk,rR,iM,hi3,gv]
 repeat refine K ?_
 apply wA (by simp)
 ·refine Sub.trans (Sub.foldLast 19 1 17 rfl (by simp [-gD]<;>omega) rfl (by decide) (by decide) rfl) ?_
  simp only [fS,fS2,qA,qC,mP]
  refine Sub.trans (Sub.foldAt 0 0 19 rfl (by simp [-gD]<;>omega) rfl (by decide) (by decide) rfl (by simp<;>omega)) ?_
  simp only [fS,fS2,qA,qC,uE]
  exact Sub.refl _
 ·simp [-List.drop_one,-gD,bF]<;>(first | rfl | exact ⟨rfl,rfl⟩ | exact ⟨rfl,rfl,rfl⟩ | skip)
attribute [go_sem] mL qWm qWl
attribute [simp] mL qWm qWl
theorem dS {s:yC} {n:Int} (h:yT s n=true):0≤s.r∧s.r≤7∧0≤s.b∧s.b≤7∧1≤s.op∧s.op≤13∧((0≤s.a∧s.a≤7)∨((s.op=5∨s.op=6∨s.op=7)∧s.a=-1)):=by
 unfold yT at h
 simp only [Bool.and_eq_true,qK,Bool.or_eq_true,decide_eq_true_eq] at h
 obtain ⟨⟨⟨h1,h2⟩,h3⟩,h4⟩:=h
 have:1≤s.op∧s.op≤13:=by
  repeat' split at h4
  all_goals (first | omega | simp at h4)
 omega
theorem aV {m:qO} {i:Nat} {late:Int} {k:bC} {s:yC} (hk:qJ m i=k) (hs:qX m i=s) (hi:i<m.cores.length) (h0:k.st=0) (h9 :¬(s.op=9∧(m.tr.length:Int)=4000))
  (hroom:(uN s.op&&!decide (s.op=5)&&qL (wL k s) 0 23&&decide ((4000:Int)≤(m.mem.cells.getD (wL k s).toNat []).length))=false):yJ m ⟨i,late⟩=(mdo m i late,0):=by
 have hw:qL (i:Int) 0 ((m.cores.length:Int)-1)=true:=by rw [qK]; omega
 have hc:aM m (i:Int)=0:=by
  unfold aM
  rw [if_pos hw]
  simp only [Int.toNat_natCast,hk,hs]
  rw [if_neg (by rintro (h | h); exact h h0; exact h9 h),hroom]
  rfl
 unfold yJ
 simp only [hc,if_true,Int.toNat_natCast]
theorem qAt {m:qO} {i:Nat} {late:Int} {k:bC} {s:yC} (hk:qJ m i=k) (hs:qX m i=s) (hi:i<m.cores.length) (h:(k.st≠0∨(s.op=9∧(m.tr.length:Int)=4000))∨(uN s.op&&!decide (s.op=5)&&qL (wL k s) 0 23&&decide ((4000:Int)≤(m.mem.cells.getD (wL k s).toNat []).length))=true):yJ m ⟨i,late⟩=(m,3):=by
 have hw:qL (i:Int) 0 ((m.cores.length:Int)-1)=true:=by rw [qK]; omega
 have hc:aM m (i:Int)=3:=by
  unfold aM
  rw [if_pos hw]
  simp only [Int.toNat_natCast,hk,hs]
  split
  ·rfl
  ·rename_i h1
   rcases h with h | h
   ·exact absurd h h1
   ·rw [h]
    rfl
 unfold yJ
 rw [hc]
 rfl
theorem hD {m:qO} {i:Nat} {k:bC} {uT:Int} (h:((m.codes.getD i []).length:Int)≤uT):lD m i k uT=vT m i ⟨k.at_,k.regs,k.view,2⟩:=by
 unfold lD
 rw [if_pos h]
theorem cF {m:qO} {i:Nat} {k:bC} {uT:Int} (h :¬((m.codes.getD i []).length:Int)≤uT):lD m i k uT=vT m i ⟨uT,k.regs,k.view,k.st⟩:=by
 unfold lD
 rw [if_neg h]
theorem yK (m:qO) (i:Nat) (k:bC):wG .own (vT m i k)=[.sl .own 1 (codes .own m.codes),.sl .own 4 (cores .own (m.cores.set i k)),.sl .own 1 (jO .own m.mem.cells),.sl .own 2 (jL m.tr)]:=rfl
def qXv (rs:List qA3) (fp:FP) (res:AV):AS→Prop
 | .bad=>True
 | .mk t h nx=>qHw (rs.map fun r=>(dT t h r).2)∧(∃vs,qQ (rs.map fun r=>(dT t h r).1) vs∧res=qN vs)∧∀x∈fp,qW h x.1=qW (vV fp) x.1
def qWz (rs:List qA3) (fp:FP) (res:AV) (s:AS):Prop :=∃s1,Sub s s1∧qXv rs fp res s1
theorem qL7 {P:Program} {num:Nat→Nat} {fn:Func} {rs:List qA3} {e:Env} {Lf0:Nat→List Nat} {fp:FP} {res:AV} {nt:Nat} {a:Act} {w:World} {s:AS} (hr:cN P fn.results.toList rs=true) (hw0:e.w0=e.w)
  (hk0:Ok e (tD Lf0 (vR fp)) (qW (vR fp)) Lf0)
  (hfin:qXv rs fp res s) (hs:St {num:=e.num,w0:=e.w,Fr:=e.Fr,Bo:=e.Bo,L0:=tD Lf0 (vR fp),φ0:=e.φ,nt:=nt} s a w) :
  a.defers=[]∧∃v,(results fn a.tmps).run P w=.ok v w∧qTn e Lf0 fp res v w:=by
 cases s with
 | bad=>exact hs.elim
 | mk t h nx =>
  obtain ⟨_,hdef,hb,hbt,φ,Lf,hl⟩:=hs
  obtain ⟨f1,⟨vs,f3,f4⟩,f5⟩:=hfin
  refine ⟨hdef,?_⟩
  let B:mO:={num:=e.num,w0:=e.w,Fr:=e.Fr,Bo:=e.Bo,L0:=tD Lf0 (vR fp),φ0:=e.φ,nt:=nt}
  have hl':rQ B t h nx a w φ Lf:=hl
  obtain ⟨us,r1,r2⟩:=mU hl'.ok hl'.tm fn.results.toList rs hr f1
  obtain ⟨L,hL⟩ :∃L:List Nat,L=[]:=⟨[],rfl⟩
  have g3:RVs (B.env w φ) vs us L:=by rw [hL]; exact pI f3 r2
  have hlen:us.length=vs.length:=jK g3
  have hrun:(results fn a.tmps).run P w=.ok (if us.length=1 then us.getD 0 undef else .tuple us.toArray) w:=by
   rw [qFv]
   simp only [Sem.run_bind]
   rw [Array.mapM_eq_mapM_toList,Sem.run_map]
   have r1':(fn.results.toList.mapM (qAn a.tmps)).run P w=.ok us w:=r1
   rw [r1']
   simp only [Result.andThen_ok,Sem.run_pure]
   by_cases h1:us.length=1
   ·rw [if_pos h1,dif_pos (by simpa using h1)]
    congr 1
    cases us with
    | nil=>simp at h1
    | cons u us=>rfl
   ·rw [if_neg h1,dif_neg (by simpa using h1)]
  refine ⟨_,hrun,?_⟩
  let F:Nat→Prop:=fun n=>n∈fp.map (·.1)
  classical
  let e'':Env:=B.env w (fun n=>if F n∧qW (vV fp) n≠none then φ n else .dead)
  have hke:xY (B.env w φ) e'' (fun _=>True) (L++[]) :=
   {num:=rfl,fr:=fun m b hb=>by cases m<;>exact hb,cells:=fun b _ o=>rfl,φ:=fun n _=>by
     by_cases hn:F n∧qW (vV fp) n≠none
     ·left; show (if F n∧qW (vV fp) n≠none then φ n else uG.dead)=φ n; rw [if_pos hn]
     ·right; show (if F n∧qW (vV fp) n≠none then φ n else uG.dead)=uG.dead; rw [if_neg hn],own:=fun b _=>rfl}
  have hke' :∀M:List Nat,xY (B.env w φ) e'' (fun _=>True) M:=fun M=>{hke with own:=fun b _=>rfl}
  have hres:RV e'' res (if us.length=1 then us.getD 0 undef else .tuple us.toArray) L:=by
   refine lH res (hke' L) (sZ _) ?_
   rw [f4]
   by_cases h1:us.length=1
   ·rw [if_pos h1]
    cases vs with
    | nil=>rw [hlen] at h1; simp at h1
    | cons v vs =>
     cases vs with
     | nil =>
      simp only [RVs] at g3
      obtain ⟨u,us',L1,L2,rfl,k1,⟨rfl,rfl⟩,rfl⟩:=g3
      simpa [qN] using k1
     | cons v' vs=>rw [hlen] at h1; simp at h1
   ·rw [if_neg h1]
    have:qN vs=.tup vs:=by
     cases vs with
     | nil=>rfl
     | cons v vs =>
      cases vs with
      | nil=>exact absurd (hlen.trans rfl) h1
      | cons v' vs=>rfl
    rw [this]
    simp only [RV]
    exact ⟨us,rfl,g3⟩
  have hleft :∀nm,F nm→qW (vV fp) nm≠none→qW h nm=qW (vV fp) nm:=by
   intro nm hn _
   obtain ⟨x,hx,rfl⟩:=List.mem_map.1 hn
   exact f5 x hx
  have hblk :∀nm,qW h nm≠none→∀b∈Lf nm,b<w.heap.size∧(e.w.heap.size≤b∨∃m,F m∧qW (vR fp) m≠none∧b∈Lf0 m):=by
   intro nm hn b hb
   refine ⟨(hl'.ok.rh.blk nm hn b hb).1,?_⟩
   rcases hl'.ok.own0 nm hn b hb with h1 | h1
   ·obtain ⟨m,h2,h3⟩:=lZ h1
    exact .inr ⟨m,eE h2,h2,h3⟩
   ·exact .inl h1
  have hdead0 :∀nm,¬F nm→e.φ nm=.dead:=by
   intro nm hn
   refine hk0.rh.dead nm ?_
   cases hh:qW (vR fp) nm with
   | none=>rfl
   | some r=>exact absurd (eE (by simp [hh])) hn
  refine ⟨e'',Lf,L,rfl,?_,hres,by rw [hL]; exact List.nodup_nil,?_,?_⟩
  ·exact {
    num:=rfl
    w0:=hw0.symm
    Fr:=rfl
    Bo:=rfl
    io:=hl'.ok.io0
    size:=hl'.ok.size0
    keep:=fun b h1 h2=>by
     refine hl'.ok.keep0 b h1 (fun hm=>?_)
     obtain ⟨m,h3,h4⟩:=lZ hm
     exact h2 m (eE h3) h3 h4
    φ:=fun nm hn=>by
     rw [hdead0 nm hn]
     show (if F nm∧qW (vV fp) nm≠none then φ nm else uG.dead)=uG.dead
     rw [if_neg (fun hh=>hn hh.1)]
    φF:=fun nm hn hp=>by
     show (if F nm∧qW (vV fp) nm≠none then φ nm else uG.dead)=e.φ nm∨(if F nm∧qW (vV fp) nm≠none then φ nm else uG.dead)=uG.dead
     split
     ·refine (hl'.φ0 nm ?_).2
      intro hd
      have hd':e.φ nm=.dead:=hd
      cases hh:qW (vR fp) nm with
      | none=>exact hp hh
      | some r =>
       have:=hk0.rh.row nm r hh
       unfold gQ zP at this
       rw [hd'] at this
       exact this
     ·exact .inr rfl
    rest:=fun nm hn=>by
     have h1:qW (vR fp) nm=none:=by
      cases hh:qW (vR fp) nm with
      | none=>rfl
      | some r=>exact absurd (eE (by simp [hh])) hn
     have h2:qW (vV fp) nm=none:=by
      cases hh:qW (vV fp) nm with
      | none=>rfl
      | some r=>exact absurd (qD1 (by simp [hh])) hn
     rw [h1,h2]
    row:=fun nm row hn hp=>by
     have h1:=hleft nm hn (by simp [hp])
     have h2:=hl'.ok.rh.row nm row (by rw [h1,hp])
     refine h2.keep (hke' _) ?_ (oN _)
     show (if F nm∧qW (vV fp) nm≠none then φ nm else uG.dead)=φ nm
     rw [if_pos ⟨hn,by simp [hp]⟩]
    nodup:=fun nm hn hp=>hl'.ok.rh.nodup nm (by rw [hleft nm hn hp]; exact hp)
    blk:=fun nm hn hp b hb=>hblk nm (by rw [hleft nm hn hp]; exact hp) b hb
    dis:=fun n m hn hm hp hq hne b hb=>hl'.ok.rh.dis n m (by rw [hleft n hn hp]; exact hp) (by rw [hleft m hm hq]; exact hq) hne b hb
    dead:=fun nm hn hp=>by
     show (if F nm∧qW (vV fp) nm≠none then φ nm else uG.dead)=uG.dead
     rw [if_neg (fun hh=>hh.2 hp)]}
  ·intro b hb
   rw [hL] at hb
   simp at hb
  ·intro b hb
   rw [hL] at hb
   simp at hb
theorem qV1 {P:Program} {num:Nat→Nat} {f:Nat} {fn:Func} {c:Code} {m:MFn} {args:List AV} {fp:FP} {res:AV} (hf:P.funcs[num f]?=some fn) (hnm:(fn.name == "runtime.NumGoroutine")=false) (hbd:fn.body=some c) (hc:mN P num fn.ntmps m.body c=true)
  (hr:cN P fn.results.toList m.results=true) (hn:args.length≤fn.ntmps) (hb:vN (· < 10) args) (hh:HB (vR fp) 10)
  (hv:vc P num (qWz m.results fp res) [.code m.body] (.mk (kP 0 args) (vR fp) 10)):qU P num f args fp res:=by
 refine ⟨⟨fn,hf,hnm,by rw [hbd]; rfl⟩,?_⟩
 intro e Lf cs hnum hw0 hk hargs
 subst hnum
 have hlen:=jK hargs
 let B:mO:={num:=e.num,w0:=e.w,Fr:=e.Fr,Bo:=e.Bo,L0:=tD Lf (vR fp),φ0:=e.φ,nt:=fn.ntmps}
 let a0:Act:={tmps:=cs.toArray++Array.replicate (fn.ntmps-cs.toArray.size) undef,defers:=[]}
 have he:B.env e.w e.φ=e:=by
  cases e
  simp only at hw0
  subst hw0
  rfl
 have hst:St B (.mk (kP 0 args) (vR fp) 10) a0 e.w:=by
  refine ⟨?_,rfl,hh,?_,e.φ,Lf,?_,?_,?_,Nat.le_refl _⟩
  ·show (cs.toArray++Array.replicate (fn.ntmps-cs.toArray.size) undef).size=fn.ntmps
   simp
   omega
  ·intro n
   rw [fY,if_pos (Nat.zero_le _)]
   exact lP hb _
  ·rw [he]; exact hk
  ·intro n
   rw [he,fY,if_pos (Nat.zero_le _),Nat.sub_zero]
   show RV e (args.getD n .any) ((cs.toArray++Array.replicate (fn.ntmps-cs.toArray.size) undef).getD n undef) []
   by_cases hn':n<args.length
   ·obtain ⟨v,h1,h2⟩:=fK hargs n hn'
    rw [kE hn',Array.getD_eq_getD_getElem?,Array.getElem?_append_left (by simpa [hlen] using hn')]
    simp only [List.getElem?_toArray,h1,Option.getD_some]
    exact h2
   ·have:args.getD n .any=.any:=by
     rw [List.getD_eq_getElem?_getD,List.getElem?_eq_none (by omega)]; rfl
    rw [this]
    simp [RV]
  ·intro n hne
   have hne':e.φ n≠.dead:=hne
   refine ⟨?_,.inl rfl⟩
   cases hl:qW (vR fp) n with
   | none=>exact absurd (hk.rh.dead n hl) hne'
   | some r=>exact (hh n r hl).1
 have:=qMe (R:=fun a w=>a.defers=[]∧∃v,(results fn a.tmps).run P w=.ok v w∧qTn e Lf fp res v w) (B:=B) rfl (fun s a w ⟨s1,h1,h2⟩ hs=>qL7 (num:=e.num) hr hw0 hk h2 (h1 _ _ _ hs)) _ _ (Nat.le_refl _) _ hv a0 e.w hst
 simp only [sem] at this
 refine calls_of_wp hf hbd (wp_mono (this c hc) ?_)
 rintro ex a w ⟨hex,h1,v,h2,h3⟩
 rcases hex with rfl | rfl<;>exact ⟨h1,v,h2,h3⟩
theorem mD {rs:List qA3} {fp:FP} {vs:List AV} {s:AS} {t:List (Nat×AV)} {h:wW} {nx:Nat} (h0:vs.length≠1) (hs:Sub s (.mk t h nx)) (h1:qHw (rs.map fun r=>(dT t h r).2)∧qQ (rs.map fun r=>(dT t h r).1) vs∧∀x∈fp,qW h x.1=qW (vV fp) x.1):qWz rs fp (.tup vs) s:=by
 refine ⟨_,hs,h1.1,⟨vs,h1.2.1,?_⟩,h1.2.2⟩
 cases vs with
 | nil=>rfl
 | cons v vs =>
  cases vs with
  | nil=>exact absurd rfl h0
  | cons v' vs=>rfl
end Go.Sep
