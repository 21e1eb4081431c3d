/- Contracts of functions. -/
import Derived.Test.YtebbppogicgpkaaGreatJxx23
open Bool renaming and_eq_true → qWu
open Int renaming eq_ofNat_of_zero_le → qYv, toNat_natCast → qYs
open List renaming drop_one → qYj, set_set → qYy
namespace Go.Sep
set_option maxHeartbeats 16000000
open Go.Proofs
set_option linter.unusedSimpArgs false
set_option linter.unusedVariables false
set_option maxRecDepth 100000
open Nat renaming reduceAdd → qA, reduceMul → qB, reduceEqDiff → qC, reduceBEq → qD
open Int renaming reduceToNat → qE, reduceEq → qF, reduceLT → qG, reduceLE → qH
open List renaming getD_eq_getElem?_getD → gD
def m365:MFn:=⟨139,[.cell 6 4 true,.t 7,.t 8],kr [xb 3 0,xb 4 1,xb 5 2,xo 6 (.alloc [.nil,.nil,.nil,.nil]),xF 7,xF 8] (kr [xa 14 1 3,xl 15 14,xa 16 0 4,xl 17 16,xD 18 4 15 17,xm 19 4 18,xo 9 (.alloc [.int .i64 0,.nil,.nil,.int .i64 0]),xS 4 9 19] (kr [xa 20 4 5,xl 21 20,xv 10 21] (.seq (kr [xa 22 0 5,xl 23 22,bI 24 .neq 23 8,xv 25 24,ya 26 2 5 25,yl 27 1 26 25,yI 28 .geq 27 0 25,xP 29 25 28] (.cond 29 (.dreg (.take 0 (xa 30 4 5) (.take 1 (xl 31 30) (.take 2 (xa 32 1 9) (.take 3 (xl 33 32) (.only 4 [] (xa 34 2 5) (.only 5 [] (xl 35 34) (.only 6 [3,2] (xD 36 1 33 35) (.only 7 [6,3,2] (xl 37 36) (.only 8 [1,7,0,6,3,2] (bT 38 .add 31 37) (.only 9 [0,1,2,3] (xv 10 38) (.done)))))))))))) (.skip))) (.seq (kr [xv 39 10,xc3 40 64 (.t 39) (xi 0) (xi 23),xN 41 40] (kF 41 [xm 42 4 3,xS 4 6 42,xF 7,xF 8])) (.seq (kr [xa 43 0 5,xl 44 43,bI 45 .neq 44 5,xv 46 45,ya 47 2 3 46,ya 48 0 47 46,yl 49 1 48 46,yv 50 10 46,xg 51 (.iad 1 (.t 49) (.t 50)) 46 true,yl 52 1 51 46,ye 53 52 46,yI 54 .eql 53 4000 46,xP 55 46 54] (kF 55 [xm 56 4 3,xS 4 6 56,xT 7,xT 8])) (.seq (kr [xa 57 0 5,xl 58 57] (.blk 0 (kr [bI 80 .eql 58 5,xv 79 80] (.cond 79 (.dreg (.take 0 (xa 82 1 9) (.take 1 (xl 83 82) (.take 2 (xa 84 1 5) (.take 3 (xl 85 84) (.take 4 (xa 86 2 3) (.take 5 (xm 87 1 86) (.take 6 (xa 88 2 9) (.take 7 (xl 89 88) (.take 8 (xv 90 10) (.only 9 [] (xa 91 1 4) (.only 10 [] (xl 92 91) (.only 11 [5,7,8,4,6] (xo 93 (.call 375 [false,false,false,false,false] [.t 87,.t 89,.t 90,.t 92,.c (.bool false)])) (.only 12 [11,5,7,8,4,6] (xv 81 93) (.take 13 (xX 94 81 0) (.take 14 (xX 95 81 1) (.only 15 [0,1,2,3,4,5,6,7,8,13] (xD 96 1 83 85) (.only 16 [0,1,2,3,4,5,6,7,8,13] (xS 1 96 94) (.only 17 [0,1,2,3,4,5,6,7,8,13,14] (xa 97 2 9) (.only 18 [0,1,2,3,4,5,6,7,8,13,14] (xS 1 97 95) (.done))))))))))))))))))))) (kr [bI 99 .eql 58 8,xv 98 99] (.cond 98 (kr [xa 101 2 3,xm 102 1 101,xa 103 2 9,xl 104 103,xv 105 10,xo 106 (.call 375 [false,false,false,false,false] [.t 102,.t 104,.t 105,xi 0,.c (.bool true)]),xv 100 106,xX 107 100 0,xX 108 100 1,xv 11 107,xv 12 108] (kr [xa 109 1 9,xl 110 109,xa 111 3 5,xl 112 111,xD 113 1 110 112,xl 114 113,xv 13 114] (kr [xa 115 1 9,xl 116 115,xa 117 1 5,xl 118 117,xv 119 11,xD 120 1 116 118,xS 1 120 119] (xr [xa 122 2 3,xm 123 1 122,xv 124 12,xv 125 10,xv 126 13,xo 127 (.call 376 [true,false,false,false,false] [.t 123,.t 124,.t 125,.t 126,.c (.bool true)]),xv 121 127,xX 128 121 0,xX 129 121 1,xa 130 2 3,xS 1 130 128,xa 131 2 9,xS 1 131 129])))) (.dreg (.take 0 (xa 60 2 3) (.take 1 (xm 61 1 60) (.take 2 (xa 62 2 9) (.take 3 (xl 63 62) (.take 4 (xv 64 10) (.take 5 (xa 65 1 9) (.take 6 (xl 66 65) (.take 7 (xa 67 3 5) (.take 8 (xl 68 67) (.take 9 (xD 69 1 66 68) (.take 10 (xl 70 69) (.only 11 [] (xa 71 0 5) (.only 12 [] (xl 72 71) (.only 13 [] (bI 73 .eql 72 7) (.only 14 [1,3,4,10,0,2,9,6,8,5,7] (xo 74 (.call 376 [true,false,false,false,false] [.t 61,.t 63,.t 64,.t 70,.t 73])) (.only 15 [14,1,3,4,10,0,2,9,6,8,5,7] (xv 59 74) (.take 16 (xX 75 59 0) (.take 17 (xX 76 59 1) (.only 18 [0,1,2,3,4,5,6,7,8,9,10,16] (xa 77 2 3) (.only 19 [0,1,2,3,4,5,6,7,8,9,10,16] (xS 1 77 75) (.only 20 [0,1,2,3,4,5,6,7,8,9,10,16,17] (xa 78 2 9) (.only 21 [0,1,2,3,4,5,6,7,8,9,10,16,17] (xS 1 78 76) (.done)))))))))))))))))))))))))))))) (kr [xa 132 1 3,xl 133 132,xa 134 0 4,xl 135 134,xm 136 4 9,xD 137 4 133 135,xS 4 137 136] (kR [xm 138 4 3,xS 4 6 138,xT 7,xF 8]))))))))⟩
theorem c365:mK Tryz.prog num Tryz.f138.ntmps m365.body ((Tryz.f138.body).getD .skip)=true:=by kernel_rfl
@[simp] def mJ (m:wA):AV:=.agg [.ns 0 0 m.codes.length,.ns 1 0 m.cores.length,.ns 2 0 m.mem.cells.length,.ns 3 0 m.tr.length]
@[simp] def qF2 (m:wA):FP:=[(0,some (1,codes .own m.codes),none),(1,some (4,cores .own m.cores),none),(2,some (1,jR .own m.mem.cells),none),(3,some (2,jW m.tr),none)]
@[simp] def qIl (m:wA):FP:=[(0,some (1,codes .own m.codes),some (1,codes .own m.codes)),(1,some (4,cores .own m.cores),some (4,cores .own m.cores)),(2,some (1,jR .own m.mem.cells),some (1,jR .own m.mem.cells)),(3,some (2,jW m.tr),some (2,jW m.tr))]
theorem qL3 (m:wA):HB (vU (qF2 m)) 10:=by
 refine vW _ _ _ _ (vW _ _ _ _ (vW _ _ _ _ (vW _ _ _ _ ((mC _).2 trivial) (by decide) ?_) (by decide) ?_) (by decide) ?_) (by decide) ?_<;>simp [yZ]
theorem qQ8 (m:wA):HB (vU (qIl m)) 10:=qL3 m
def qGt (m:wA) (i:Nat) (s:yH) (late:Int):wA×Bool :=
 if qO (wK (qJ m i) s) 0 23 then
  (⟨m.codes,m.cores.set i (jK m.mem.cells (qJ m i) s (wK (qJ m i) s).toNat late).2,⟨(jK m.mem.cells (qJ m i) s (wK (qJ m i) s).toNat late).1⟩,m.tr⟩,true)
 else (m,false)
def pN (m:wA) (i:Nat) (s:yH):Bool:=!decide (s.op=5)&&qO (wK (qJ m i) s) 0 23&&decide (((m.mem.cells.getD (wK (qJ m i) s).toNat []).length:Int)=4000)
theorem qN0 (m:wA) (i:Nat) (late:Int) (s:yH) (hm:lF m.mem.cells) (hi:i<m.cores.length) (hr:(qJ m i).regs.length=8) (hv:VOk m.mem.cells (qJ m i).view) (hl:-(2^63)≤late∧late<2^63) (r0:0≤s.r) (r1:s.r≤7) (b0:0≤s.b) (b1:s.b≤7) (a1:s.a≤7) (hop:s.op=5∨s.op=6∨s.op=7∨s.op=8) (hf:pN m i s=false) :
  qU Tryz.prog num 365 [mJ m,.agg (fG ⟨i,late⟩),.agg (bU s)] (qF2 m) (.tup [.agg (qY .own (qGt m i s late).1),.bool (qGt m i s late).2,.bool false]):=by
 unfold qGt
 unfold pN at hf
 refine EH m365 Tryz.func138 (hh:=qL3 m) ?_
 unfold m365
 have hcg:=jZ .own m.cores i hi
 have gt :∀r,((cores .own m.cores).set i r).getD i []=r:=fun r=>wF _ _ _ _ (by rw [jT]; exact hi)
 have hcself:(cores .own m.cores).set i [.int .i64 (qJ m i).at_,.sl .own 1 (wQ (qJ m i).regs),.sl .own 1 (wQ (qJ m i).view),.int .i64 (qJ m i).st]=cores .own m.cores:=by rw [show qJ m i=m.cores.getD i default from rfl,←hcg,wP _ _ _ (by rw [jT]; exact hi)]
 have hk:m.cores.getD i default=qJ m i:=rfl
 rw [hk] at hcg
 generalize qJ m i=k at *
 have rr:s.r.toNat<k.regs.length:=by omega
 have rb:s.b.toNat<k.regs.length:=by omega
 have hwr:k.regs.length=k.regs.length:=rfl
 have hself:m.cores.set i ⟨k.at_,k.regs,k.view,k.st⟩=m.cores:=by rw [←hk]; exact wP _ _ _ hi
 have hcell :∀c:Nat,wK k s=c→qO (c:Int) 0 23=true→c<m.mem.cells.length:=fun c _ hw=>by
  rw [qP] at hw
  rw [hm.len]
  omega
 have hrl:8≤k.regs.length:=by omega
 clear hr
 rcases hop with h5 | h5 | h5 | h5
 ·by_cases ha0:0≤s.a
  ·have ra:s.a.toNat<k.regs.length:=by omega
   have hce:wK k s=IntKind.i64.wrap (s.n+k.regs.getD s.a.toNat 0):=by
    unfold wK
    rw [if_pos ⟨by omega,ha0⟩]
    rfl
   simp only [go_sem,seval,h5,ha0,mJ,qF2,qI k.regs s.a.toNat ra,hcg,gt,qI k.regs s.r.toNat rr,qI k.regs s.b.toNat rb]
   repeat refine K ?_
   rw [←hce]
   refine CA [] (yM (wK k s) 0 23) ?_
   try simp only [go_sem,seval]
   cases hin:qO (wK k s) 0 23
   ·try simp only [go_sem,seval,hin,h5,hcg,gt,qI k.regs s.r.toNat rr,qI k.regs s.b.toNat rb]
    apply wG (by simp)
    ·repeat' ((first | refine FB 1 1 ?_ | refine FB 1 2 ?_ | refine FB 2 0 ?_ | fail); simp only [fS,fS2,fS2,qA,qC,qK,vO,qYy,hcself])
     exact Sub.refl _
    ·simp [-qYj,-gD,qY,qK,hin]<;>(first | rfl | exact ⟨rfl,rfl⟩ | exact ⟨rfl,rfl,rfl⟩ | skip)
   obtain ⟨c,hcc⟩:=qYv (qP.1 hin).1
   rw [hcc] at hin hf
   have hcl:=hcell c hcc hin
   have hc24:c<24:=by rw [hm.len] at hcl; exact hcl
   have hmg:=vD .own m.mem.cells c hcl
   have gm :∀r,((jR .own m.mem.cells).set c r).getD c []=r:=fun r=>wF _ _ _ _ (by rw [yE]; exact hcl)
   have hmself:(jR .own m.mem.cells).set c [.sl .own 2 (vX .own (m.mem.cells.getD c []))]=jR .own m.mem.cells:=by rw [←hmg,wP _ _ _ (by rw [yE]; exact hcl)]
   rw [hcc]
   try simp only [go_sem,seval,hcc,hin,h5,hcg,gt,qI k.regs s.r.toNat rr,qI k.regs s.b.toNat rb,hmg,gm]
   repeat refine K ?_
   have hac:jK m.mem.cells k s c late=(m.mem.cells,{k with regs:=k.regs.set s.r.toNat (load m.mem.cells k.view c late false).1,view:=(load m.mem.cells k.view c late false).2}):=by
    unfold jK
    rw [if_pos h5]
   rw [hac]
   refine DA [] (qDl m.mem.cells k.view c late false hm hv hc24 hl) ?_
   try simp only [go_sem,seval]
   repeat refine K ?_
   try simp only [go_sem,seval,h5,hcg,gt,qI k.regs s.r.toNat rr,qI k.regs s.b.toNat rb,hmg,gm]
   repeat refine K ?_
   apply wG (by simp)
   ·repeat' ((first | refine FB 1 1 ?_ | refine FB 1 2 ?_ | refine FB 2 0 ?_ | fail); simp only [fS,fS2,fS2,qA,qC,qK,vO,qYy,hcself,hmself])
    exact Sub.refl _
   ·simp [-qYj,-gD,qY,qK,hin]<;>(first | rfl | exact ⟨rfl,rfl⟩ | exact ⟨rfl,rfl,rfl⟩ | skip)
  ·have hce:wK k s=s.n:=by
    unfold wK
    rw [if_neg (by rintro ⟨_,h⟩; exact ha0 h)]
   simp only [go_sem,seval,h5,ha0,mJ,qF2,hcg,gt,qI k.regs s.r.toNat rr,qI k.regs s.b.toNat rb]
   repeat refine K ?_
   rw [←hce]
   refine CA [] (yM (wK k s) 0 23) ?_
   try simp only [go_sem,seval]
   cases hin:qO (wK k s) 0 23
   ·try simp only [go_sem,seval,hin,h5,hcg,gt,qI k.regs s.r.toNat rr,qI k.regs s.b.toNat rb]
    apply wG (by simp)
    ·repeat' ((first | refine FB 1 1 ?_ | refine FB 1 2 ?_ | refine FB 2 0 ?_ | fail); simp only [fS,fS2,fS2,qA,qC,qK,vO,qYy,hcself])
     exact Sub.refl _
    ·simp [-qYj,-gD,qY,qK,hin]<;>(first | rfl | exact ⟨rfl,rfl⟩ | exact ⟨rfl,rfl,rfl⟩ | skip)
   obtain ⟨c,hcc⟩:=qYv (qP.1 hin).1
   rw [hcc] at hin hf
   have hcl:=hcell c hcc hin
   have hc24:c<24:=by rw [hm.len] at hcl; exact hcl
   have hmg:=vD .own m.mem.cells c hcl
   have gm :∀r,((jR .own m.mem.cells).set c r).getD c []=r:=fun r=>wF _ _ _ _ (by rw [yE]; exact hcl)
   have hmself:(jR .own m.mem.cells).set c [.sl .own 2 (vX .own (m.mem.cells.getD c []))]=jR .own m.mem.cells:=by rw [←hmg,wP _ _ _ (by rw [yE]; exact hcl)]
   rw [hcc]
   try simp only [go_sem,seval,hcc,hin,h5,hcg,gt,qI k.regs s.r.toNat rr,qI k.regs s.b.toNat rb,hmg,gm]
   repeat refine K ?_
   have hac:jK m.mem.cells k s c late=(m.mem.cells,{k with regs:=k.regs.set s.r.toNat (load m.mem.cells k.view c late false).1,view:=(load m.mem.cells k.view c late false).2}):=by
    unfold jK
    rw [if_pos h5]
   rw [hac]
   refine DA [] (qDl m.mem.cells k.view c late false hm hv hc24 hl) ?_
   try simp only [go_sem,seval]
   repeat refine K ?_
   try simp only [go_sem,seval,h5,hcg,gt,qI k.regs s.r.toNat rr,qI k.regs s.b.toNat rb,hmg,gm]
   repeat refine K ?_
   apply wG (by simp)
   ·repeat' ((first | refine FB 1 1 ?_ | refine FB 1 2 ?_ | refine FB 2 0 ?_ | fail); simp only [fS,fS2,fS2,qA,qC,qK,vO,qYy,hcself,hmself])
    exact Sub.refl _
   ·simp [-qYj,-gD,qY,qK,hin]<;>(first | rfl | exact ⟨rfl,rfl⟩ | exact ⟨rfl,rfl,rfl⟩ | skip)
 ·by_cases ha0:0≤s.a
  ·have ra:s.a.toNat<k.regs.length:=by omega
   have hce:wK k s=IntKind.i64.wrap (s.n+k.regs.getD s.a.toNat 0):=by
    unfold wK
    rw [if_pos ⟨by omega,ha0⟩]
    rfl
   simp only [go_sem,seval,h5,ha0,mJ,qF2,qI k.regs s.a.toNat ra,hcg,gt,qI k.regs s.r.toNat rr,qI k.regs s.b.toNat rb]
   repeat refine K ?_
   rw [←hce]
   refine CA [] (yM (wK k s) 0 23) ?_
   try simp only [go_sem,seval]
   cases hin:qO (wK k s) 0 23
   ·try simp only [go_sem,seval,hin,h5,hcg,gt,qI k.regs s.r.toNat rr,qI k.regs s.b.toNat rb]
    apply wG (by simp)
    ·repeat' ((first | refine FB 1 1 ?_ | refine FB 1 2 ?_ | refine FB 2 0 ?_ | fail); simp only [fS,fS2,fS2,qA,qC,qK,vO,qYy,hcself])
     exact Sub.refl _
    ·simp [-qYj,-gD,qY,qK,hin]<;>(first | rfl | exact ⟨rfl,rfl⟩ | exact ⟨rfl,rfl,rfl⟩ | skip)
   obtain ⟨c,hcc⟩:=qYv (qP.1 hin).1
   rw [hcc] at hin hf
   have hcl:=hcell c hcc hin
   have hc24:c<24:=by rw [hm.len] at hcl; exact hcl
   have hmg:=vD .own m.mem.cells c hcl
   have gm :∀r,((jR .own m.mem.cells).set c r).getD c []=r:=fun r=>wF _ _ _ _ (by rw [yE]; exact hcl)
   have hmself:(jR .own m.mem.cells).set c [.sl .own 2 (vX .own (m.mem.cells.getD c []))]=jR .own m.mem.cells:=by rw [←hmg,wP _ _ _ (by rw [yE]; exact hcl)]
   rw [hcc]
   have hnf :¬((m.mem.cells.getD c []).length:Int)=4000:=by
    rw [hin,qYs] at hf
    intro e
    rw [e] at hf
    simp [h5] at hf
   try simp only [go_sem,seval,hcc,hin,h5,hcg,gt,qI k.regs s.r.toNat rr,qI k.regs s.b.toNat rb,hmg,gm]
   repeat refine K ?_
   try simp only [go_sem,seval,hnf,h5,hcg,gt,qI k.regs s.r.toNat rr,qI k.regs s.b.toNat rb,hmg,gm]
   repeat refine K ?_
   have hac:jK m.mem.cells k s c late=((store m.mem.cells k.view c (k.regs.getD s.b.toNat 0) (decide (s.op=7))).1,{k with view:=(store m.mem.cells k.view c (k.regs.getD s.b.toNat 0) (decide (s.op=7))).2}):=by
    unfold jK
    rw [if_neg (by omega),if_neg (by omega)]
    rfl
   rw [hac]
   have hRc :∀l:Nat,okR (fun k=>0=k∨1=k) ((jR .own m.mem.cells).set c [.ns 1 0 l]):=fun l=>oP _ _ _ (by simp [okL,okV])
   refine DAN [(0,2),(1,17)] (mU m.mem.cells k.view c (k.regs.getD s.b.toNat 0) (decide (s.op=7)) hm hv hc24) ?_
   try simp only [go_sem,seval]
   repeat refine K ?_
   try simp only [go_sem,seval,h5,hcg,gt,qI k.regs s.r.toNat rr,qI k.regs s.b.toNat rb,hmg,gm]
   repeat refine K ?_
   apply wG (by simp)
   ·repeat' ((first | refine FB 1 1 ?_ | refine FB 1 2 ?_ | refine FB 2 0 ?_ | fail); simp only [fS,fS2,fS2,qA,qC,qK,vO,qYy,hcself,hmself])
    exact Sub.refl _
   ·simp [-qYj,-gD,qY,qK,hin]<;>(first | rfl | exact ⟨rfl,rfl⟩ | exact ⟨rfl,rfl,rfl⟩ | skip)
  ·have hce:wK k s=s.n:=by
    unfold wK
    rw [if_neg (by rintro ⟨_,h⟩; exact ha0 h)]
   simp only [go_sem,seval,h5,ha0,mJ,qF2,hcg,gt,qI k.regs s.r.toNat rr,qI k.regs s.b.toNat rb]
   repeat refine K ?_
   rw [←hce]
   refine CA [] (yM (wK k s) 0 23) ?_
   try simp only [go_sem,seval]
   cases hin:qO (wK k s) 0 23
   ·try simp only [go_sem,seval,hin,h5,hcg,gt,qI k.regs s.r.toNat rr,qI k.regs s.b.toNat rb]
    apply wG (by simp)
    ·repeat' ((first | refine FB 1 1 ?_ | refine FB 1 2 ?_ | refine FB 2 0 ?_ | fail); simp only [fS,fS2,fS2,qA,qC,qK,vO,qYy,hcself])
     exact Sub.refl _
    ·simp [-qYj,-gD,qY,qK,hin]<;>(first | rfl | exact ⟨rfl,rfl⟩ | exact ⟨rfl,rfl,rfl⟩ | skip)
   obtain ⟨c,hcc⟩:=qYv (qP.1 hin).1
   rw [hcc] at hin hf
   have hcl:=hcell c hcc hin
   have hc24:c<24:=by rw [hm.len] at hcl; exact hcl
   have hmg:=vD .own m.mem.cells c hcl
   have gm :∀r,((jR .own m.mem.cells).set c r).getD c []=r:=fun r=>wF _ _ _ _ (by rw [yE]; exact hcl)
   have hmself:(jR .own m.mem.cells).set c [.sl .own 2 (vX .own (m.mem.cells.getD c []))]=jR .own m.mem.cells:=by rw [←hmg,wP _ _ _ (by rw [yE]; exact hcl)]
   rw [hcc]
   have hnf :¬((m.mem.cells.getD c []).length:Int)=4000:=by
    rw [hin,qYs] at hf
    intro e
    rw [e] at hf
    simp [h5] at hf
   try simp only [go_sem,seval,hcc,hin,h5,hcg,gt,qI k.regs s.r.toNat rr,qI k.regs s.b.toNat rb,hmg,gm]
   repeat refine K ?_
   try simp only [go_sem,seval,hnf,h5,hcg,gt,qI k.regs s.r.toNat rr,qI k.regs s.b.toNat rb,hmg,gm]
   repeat refine K ?_
   have hac:jK m.mem.cells k s c late=((store m.mem.cells k.view c (k.regs.getD s.b.toNat 0) (decide (s.op=7))).1,{k with view:=(store m.mem.cells k.view c (k.regs.getD s.b.toNat 0) (decide (s.op=7))).2}):=by
    unfold jK
    rw [if_neg (by omega),if_neg (by omega)]
    rfl
   rw [hac]
   have hRc :∀l:Nat,okR (fun k=>0=k∨1=k) ((jR .own m.mem.cells).set c [.ns 1 0 l]):=fun l=>oP _ _ _ (by simp [okL,okV])
   refine DAN [(0,2),(1,17)] (mU m.mem.cells k.view c (k.regs.getD s.b.toNat 0) (decide (s.op=7)) hm hv hc24) ?_
   try simp only [go_sem,seval]
   repeat refine K ?_
   try simp only [go_sem,seval,h5,hcg,gt,qI k.regs s.r.toNat rr,qI k.regs s.b.toNat rb,hmg,gm]
   repeat refine K ?_
   apply wG (by simp)
   ·repeat' ((first | refine FB 1 1 ?_ | refine FB 1 2 ?_ | refine FB 2 0 ?_ | fail); simp only [fS,fS2,fS2,qA,qC,qK,vO,qYy,hcself,hmself])
    exact Sub.refl _
   ·simp [-qYj,-gD,qY,qK,hin]<;>(first | rfl | exact ⟨rfl,rfl⟩ | exact ⟨rfl,rfl,rfl⟩ | skip)
 ·by_cases ha0:0≤s.a
  ·have ra:s.a.toNat<k.regs.length:=by omega
   have hce:wK k s=IntKind.i64.wrap (s.n+k.regs.getD s.a.toNat 0):=by
    unfold wK
    rw [if_pos ⟨by omega,ha0⟩]
    rfl
   simp only [go_sem,seval,h5,ha0,mJ,qF2,qI k.regs s.a.toNat ra,hcg,gt,qI k.regs s.r.toNat rr,qI k.regs s.b.toNat rb]
   repeat refine K ?_
   rw [←hce]
   refine CA [] (yM (wK k s) 0 23) ?_
   try simp only [go_sem,seval]
   cases hin:qO (wK k s) 0 23
   ·try simp only [go_sem,seval,hin,h5,hcg,gt,qI k.regs s.r.toNat rr,qI k.regs s.b.toNat rb]
    apply wG (by simp)
    ·repeat' ((first | refine FB 1 1 ?_ | refine FB 1 2 ?_ | refine FB 2 0 ?_ | fail); simp only [fS,fS2,fS2,qA,qC,qK,vO,qYy,hcself])
     exact Sub.refl _
    ·simp [-qYj,-gD,qY,qK,hin]<;>(first | rfl | exact ⟨rfl,rfl⟩ | exact ⟨rfl,rfl,rfl⟩ | skip)
   obtain ⟨c,hcc⟩:=qYv (qP.1 hin).1
   rw [hcc] at hin hf
   have hcl:=hcell c hcc hin
   have hc24:c<24:=by rw [hm.len] at hcl; exact hcl
   have hmg:=vD .own m.mem.cells c hcl
   have gm :∀r,((jR .own m.mem.cells).set c r).getD c []=r:=fun r=>wF _ _ _ _ (by rw [yE]; exact hcl)
   have hmself:(jR .own m.mem.cells).set c [.sl .own 2 (vX .own (m.mem.cells.getD c []))]=jR .own m.mem.cells:=by rw [←hmg,wP _ _ _ (by rw [yE]; exact hcl)]
   rw [hcc]
   have hnf :¬((m.mem.cells.getD c []).length:Int)=4000:=by
    rw [hin,qYs] at hf
    intro e
    rw [e] at hf
    simp [h5] at hf
   try simp only [go_sem,seval,hcc,hin,h5,hcg,gt,qI k.regs s.r.toNat rr,qI k.regs s.b.toNat rb,hmg,gm]
   repeat refine K ?_
   try simp only [go_sem,seval,hnf,h5,hcg,gt,qI k.regs s.r.toNat rr,qI k.regs s.b.toNat rb,hmg,gm]
   repeat refine K ?_
   have hac:jK m.mem.cells k s c late=((store m.mem.cells k.view c (k.regs.getD s.b.toNat 0) (decide (s.op=7))).1,{k with view:=(store m.mem.cells k.view c (k.regs.getD s.b.toNat 0) (decide (s.op=7))).2}):=by
    unfold jK
    rw [if_neg (by omega),if_neg (by omega)]
    rfl
   rw [hac]
   have hRc :∀l:Nat,okR (fun k=>0=k∨1=k) ((jR .own m.mem.cells).set c [.ns 1 0 l]):=fun l=>oP _ _ _ (by simp [okL,okV])
   refine DAN [(0,2),(1,17)] (mU m.mem.cells k.view c (k.regs.getD s.b.toNat 0) (decide (s.op=7)) hm hv hc24) ?_
   try simp only [go_sem,seval]
   repeat refine K ?_
   try simp only [go_sem,seval,h5,hcg,gt,qI k.regs s.r.toNat rr,qI k.regs s.b.toNat rb,hmg,gm]
   repeat refine K ?_
   apply wG (by simp)
   ·repeat' ((first | refine FB 1 1 ?_ | refine FB 1 2 ?_ | refine FB 2 0 ?_ | fail); simp only [fS,fS2,fS2,qA,qC,qK,vO,qYy,hcself,hmself])
    exact Sub.refl _
   ·simp [-qYj,-gD,qY,qK,hin]<;>(first | rfl | exact ⟨rfl,rfl⟩ | exact ⟨rfl,rfl,rfl⟩ | skip)
  ·have hce:wK k s=s.n:=by
    unfold wK
    rw [if_neg (by rintro ⟨_,h⟩; exact ha0 h)]
   simp only [go_sem,seval,h5,ha0,mJ,qF2,hcg,gt,qI k.regs s.r.toNat rr,qI k.regs s.b.toNat rb]
   repeat refine K ?_
   rw [←hce]
   refine CA [] (yM (wK k s) 0 23) ?_
   try simp only [go_sem,seval]
   cases hin:qO (wK k s) 0 23
   ·try simp only [go_sem,seval,hin,h5,hcg,gt,qI k.regs s.r.toNat rr,qI k.regs s.b.toNat rb]
    apply wG (by simp)
    ·repeat' ((first | refine FB 1 1 ?_ | refine FB 1 2 ?_ | refine FB 2 0 ?_ | fail); simp only [fS,fS2,fS2,qA,qC,qK,vO,qYy,hcself])
     exact Sub.refl _
    ·simp [-qYj,-gD,qY,qK,hin]<;>(first | rfl | exact ⟨rfl,rfl⟩ | exact ⟨rfl,rfl,rfl⟩ | skip)
   obtain ⟨c,hcc⟩:=qYv (qP.1 hin).1
   rw [hcc] at hin hf
   have hcl:=hcell c hcc hin
   have hc24:c<24:=by rw [hm.len] at hcl; exact hcl
   have hmg:=vD .own m.mem.cells c hcl
   have gm :∀r,((jR .own m.mem.cells).set c r).getD c []=r:=fun r=>wF _ _ _ _ (by rw [yE]; exact hcl)
   have hmself:(jR .own m.mem.cells).set c [.sl .own 2 (vX .own (m.mem.cells.getD c []))]=jR .own m.mem.cells:=by rw [←hmg,wP _ _ _ (by rw [yE]; exact hcl)]
   rw [hcc]
   have hnf :¬((m.mem.cells.getD c []).length:Int)=4000:=by
    rw [hin,qYs] at hf
    intro e
    rw [e] at hf
    simp [h5] at hf
   try simp only [go_sem,seval,hcc,hin,h5,hcg,gt,qI k.regs s.r.toNat rr,qI k.regs s.b.toNat rb,hmg,gm]
   repeat refine K ?_
   try simp only [go_sem,seval,hnf,h5,hcg,gt,qI k.regs s.r.toNat rr,qI k.regs s.b.toNat rb,hmg,gm]
   repeat refine K ?_
   have hac:jK m.mem.cells k s c late=((store m.mem.cells k.view c (k.regs.getD s.b.toNat 0) (decide (s.op=7))).1,{k with view:=(store m.mem.cells k.view c (k.regs.getD s.b.toNat 0) (decide (s.op=7))).2}):=by
    unfold jK
    rw [if_neg (by omega),if_neg (by omega)]
    rfl
   rw [hac]
   have hRc :∀l:Nat,okR (fun k=>0=k∨1=k) ((jR .own m.mem.cells).set c [.ns 1 0 l]):=fun l=>oP _ _ _ (by simp [okL,okV])
   refine DAN [(0,2),(1,17)] (mU m.mem.cells k.view c (k.regs.getD s.b.toNat 0) (decide (s.op=7)) hm hv hc24) ?_
   try simp only [go_sem,seval]
   repeat refine K ?_
   try simp only [go_sem,seval,h5,hcg,gt,qI k.regs s.r.toNat rr,qI k.regs s.b.toNat rb,hmg,gm]
   repeat refine K ?_
   apply wG (by simp)
   ·repeat' ((first | refine FB 1 1 ?_ | refine FB 1 2 ?_ | refine FB 2 0 ?_ | fail); simp only [fS,fS2,fS2,qA,qC,qK,vO,qYy,hcself,hmself])
    exact Sub.refl _
   ·simp [-qYj,-gD,qY,qK,hin]<;>(first | rfl | exact ⟨rfl,rfl⟩ | exact ⟨rfl,rfl,rfl⟩ | skip)
 ·have hce:wK k s=s.n:=by
   unfold wK
   rw [if_neg (by rintro ⟨h,_⟩; exact h h5)]
  simp only [go_sem,seval,h5,mJ,qF2,hcg,gt,qI k.regs s.r.toNat rr,qI k.regs s.b.toNat rb]
  repeat refine K ?_
  rw [←hce]
  refine CA [] (yM (wK k s) 0 23) ?_
  try simp only [go_sem,seval]
  cases hin:qO (wK k s) 0 23
  ·try simp only [go_sem,seval,hin,h5,hcg,gt,qI k.regs s.r.toNat rr,qI k.regs s.b.toNat rb]
   apply wG (by simp)
   ·repeat' ((first | refine FB 1 1 ?_ | refine FB 1 2 ?_ | refine FB 2 0 ?_ | fail); simp only [fS,fS2,fS2,qA,qC,qK,vO,qYy,hcself])
    exact Sub.refl _
   ·simp [-qYj,-gD,qY,qK,hin]<;>(first | rfl | exact ⟨rfl,rfl⟩ | exact ⟨rfl,rfl,rfl⟩ | skip)
  obtain ⟨c,hcc⟩:=qYv (qP.1 hin).1
  rw [hcc] at hin hf
  have hcl:=hcell c hcc hin
  have hc24:c<24:=by rw [hm.len] at hcl; exact hcl
  have hmg:=vD .own m.mem.cells c hcl
  have gm :∀r,((jR .own m.mem.cells).set c r).getD c []=r:=fun r=>wF _ _ _ _ (by rw [yE]; exact hcl)
  have hmself:(jR .own m.mem.cells).set c [.sl .own 2 (vX .own (m.mem.cells.getD c []))]=jR .own m.mem.cells:=by rw [←hmg,wP _ _ _ (by rw [yE]; exact hcl)]
  rw [hcc]
  have hnf :¬((m.mem.cells.getD c []).length:Int)=4000:=by
   rw [hin,qYs] at hf
   intro e
   rw [e] at hf
   simp [h5] at hf
  try simp only [go_sem,seval,hcc,hin,h5,hcg,gt,qI k.regs s.r.toNat rr,qI k.regs s.b.toNat rb,hmg,gm]
  repeat refine K ?_
  try simp only [go_sem,seval,hnf,h5,hcg,gt,qI k.regs s.r.toNat rr,qI k.regs s.b.toNat rb,hmg,gm]
  have hac:jK m.mem.cells k s c late=((store m.mem.cells (load m.mem.cells k.view c 0 true).2 c (k.regs.getD s.b.toNat 0) true).1,{k with regs:=k.regs.set s.r.toNat (load m.mem.cells k.view c 0 true).1,view:=(store m.mem.cells (load m.mem.cells k.view c 0 true).2 c (k.regs.getD s.b.toNat 0) true).2}):=by
   unfold jK
   rw [if_neg (by omega),if_pos h5]
   rfl
  rw [hac]
  apply uU
  ·refine Sub.trans (Sub.foldAt 2 0 17 rfl (by simp [-gD]<;>omega) rfl (by decide) (by decide) rfl (by simp<;>omega)) ?_
   simp only [fS,fS2,qA,qC,hmself]
   exact Sub.refl _
  refine CA [] (qDl m.mem.cells k.view c 0 true hm hv hc24 (by omega)) ?_
  try simp only [go_sem,seval]
  repeat refine K ?_
  try simp only [go_sem,seval,h5,hcg,gt,qI k.regs s.r.toNat rr,qI k.regs s.b.toNat rb,hmg,gm]
  repeat refine K ?_
  have hv5:VOk m.mem.cells (load m.mem.cells k.view c 0 true).2:=qFf hm hv hc24
  refine CA [(0,2)] (qOo m.mem.cells (load m.mem.cells k.view c 0 true).2 c (k.regs.getD s.b.toNat 0) true hm hv5 hc24) ?_
  try simp only [go_sem,seval]
  repeat refine K ?_
  try simp only [go_sem,seval,h5,hcg,gt,qI k.regs s.r.toNat rr,qI k.regs s.b.toNat rb,hmg,gm]
  repeat refine K ?_
  apply wG (by simp)
  ·repeat' ((first | refine FB 1 1 ?_ | refine FB 1 2 ?_ | refine FB 2 0 ?_ | fail); simp only [fS,fS2,fS2,qA,qC,qK,vO,qYy,hcself,hmself])
   exact Sub.refl _
  ·simp [-qYj,-gD,qY,qK,hin]<;>(first | rfl | exact ⟨rfl,rfl⟩ | exact ⟨rfl,rfl,rfl⟩ | skip)
theorem qF3 (m:wA) (i:Nat) (late:Int) (s:yH) (hm:lF m.mem.cells) (hi:i<m.cores.length) (hr:(qJ m i).regs.length=8) (hv:VOk m.mem.cells (qJ m i).view) (hl:-(2^63)≤late∧late<2^63) (r0:0≤s.r) (r1:s.r≤7) (b0:0≤s.b) (b1:s.b≤7) (a1:s.a≤7) (hop:s.op=5∨s.op=6∨s.op=7∨s.op=8) (hf:pN m i s=true) :
  qU Tryz.prog num 365 [mJ m,.agg (fG ⟨i,late⟩),.agg (bU s)] (qIl m) (.tup [mJ m,.bool true,.bool true]):=by
 unfold pN at hf
 refine qTq (m:=m365) (f:=365) (fn:=Tryz.f138) Tryz.func138 (by kernel_rfl) rfl c365 rfl (by simp [Tryz.f138]) (by simp [vI,bnd,eM,qDg,tF,qKz,yZ]) (qQ8 m) ?_
 unfold m365
 have hcg:=jZ .own m.cores i hi
 have gt :∀r,((cores .own m.cores).set i r).getD i []=r:=fun r=>wF _ _ _ _ (by rw [jT]; exact hi)
 have hcself:(cores .own m.cores).set i [.int .i64 (qJ m i).at_,.sl .own 1 (wQ (qJ m i).regs),.sl .own 1 (wQ (qJ m i).view),.int .i64 (qJ m i).st]=cores .own m.cores:=by rw [show qJ m i=m.cores.getD i default from rfl,←hcg,wP _ _ _ (by rw [jT]; exact hi)]
 have hk:m.cores.getD i default=qJ m i:=rfl
 rw [hk] at hcg
 generalize qJ m i=k at *
 have rr:s.r.toNat<k.regs.length:=by omega
 have rb:s.b.toNat<k.regs.length:=by omega
 have hwr:k.regs.length=k.regs.length:=rfl
 have hself:m.cores.set i ⟨k.at_,k.regs,k.view,k.st⟩=m.cores:=by rw [←hk]; exact wP _ _ _ hi
 have hcell :∀c:Nat,wK k s=c→qO (c:Int) 0 23=true→c<m.mem.cells.length:=fun c _ hw=>by
  rw [qP] at hw
  rw [hm.len]
  omega
 have hrl:8≤k.regs.length:=by omega
 clear hr
 rcases hop with h5 | h5 | h5 | h5
 ·simp [h5] at hf
 ·by_cases ha0:0≤s.a
  ·have ra:s.a.toNat<k.regs.length:=by omega
   have hce:wK k s=IntKind.i64.wrap (s.n+k.regs.getD s.a.toNat 0):=by
    unfold wK
    rw [if_pos ⟨by omega,ha0⟩]
    rfl
   simp only [go_sem,seval,h5,ha0,mJ,qIl,qI k.regs s.a.toNat ra,hcg,gt,qI k.regs s.r.toNat rr,qI k.regs s.b.toNat rb]
   repeat refine K ?_
   rw [←hce]
   refine CA [] (yM (wK k s) 0 23) ?_
   try simp only [go_sem,seval]
   have hin:qO (wK k s) 0 23=true:=by
    simp only [qWu] at hf
    exact hf.1.2
   obtain ⟨c,hcc⟩:=qYv (qP.1 hin).1
   rw [hcc] at hin hf
   have hcl:=hcell c hcc hin
   have hmg:=vD .own m.mem.cells c hcl
   have gm :∀r,((jR .own m.mem.cells).set c r).getD c []=r:=fun r=>wF _ _ _ _ (by rw [yE]; exact hcl)
   have hmself:(jR .own m.mem.cells).set c [.sl .own 2 (vX .own (m.mem.cells.getD c []))]=jR .own m.mem.cells:=by rw [←hmg,wP _ _ _ (by rw [yE]; exact hcl)]
   have hnf:((m.mem.cells.getD c []).length:Int)=4000:=by
    rw [qYs] at hf
    simp only [qWu,decide_eq_true_eq] at hf
    exact hf.2
   rw [hcc]
   try simp only [go_sem,seval,hcc,hin,h5,hcg,gt,qI k.regs s.r.toNat rr,qI k.regs s.b.toNat rb,hmg,gm]
   repeat refine K ?_
   try simp only [go_sem,seval,hnf,h5,hcg,gt,qI k.regs s.r.toNat rr,qI k.regs s.b.toNat rb,hmg,gm]
   apply mE (by simp)
   ·repeat' ((first | refine FB 1 1 ?_ | refine FB 1 2 ?_ | refine FB 2 0 ?_ | fail); simp only [fS,fS2,fS2,qA,qC,qK,vO,qYy,hcself,hmself,hnf])
    exact Sub.refl _
   ·simp [-qYj,-gD,hin]<;>(first | rfl | exact ⟨rfl,rfl⟩ | exact ⟨rfl,rfl,rfl⟩ | skip)
  ·have hce:wK k s=s.n:=by
    unfold wK
    rw [if_neg (by rintro ⟨_,h⟩; exact ha0 h)]
   simp only [go_sem,seval,h5,ha0,mJ,qIl,hcg,gt,qI k.regs s.r.toNat rr,qI k.regs s.b.toNat rb]
   repeat refine K ?_
   rw [←hce]
   refine CA [] (yM (wK k s) 0 23) ?_
   try simp only [go_sem,seval]
   have hin:qO (wK k s) 0 23=true:=by
    simp only [qWu] at hf
    exact hf.1.2
   obtain ⟨c,hcc⟩:=qYv (qP.1 hin).1
   rw [hcc] at hin hf
   have hcl:=hcell c hcc hin
   have hmg:=vD .own m.mem.cells c hcl
   have gm :∀r,((jR .own m.mem.cells).set c r).getD c []=r:=fun r=>wF _ _ _ _ (by rw [yE]; exact hcl)
   have hmself:(jR .own m.mem.cells).set c [.sl .own 2 (vX .own (m.mem.cells.getD c []))]=jR .own m.mem.cells:=by rw [←hmg,wP _ _ _ (by rw [yE]; exact hcl)]
   have hnf:((m.mem.cells.getD c []).length:Int)=4000:=by
    rw [qYs] at hf
    simp only [qWu,decide_eq_true_eq] at hf
    exact hf.2
   rw [hcc]
   try simp only [go_sem,seval,hcc,hin,h5,hcg,gt,qI k.regs s.r.toNat rr,qI k.regs s.b.toNat rb,hmg,gm]
   repeat refine K ?_
   try simp only [go_sem,seval,hnf,h5,hcg,gt,qI k.regs s.r.toNat rr,qI k.regs s.b.toNat rb,hmg,gm]
   apply mE (by simp)
   ·repeat' ((first | refine FB 1 1 ?_ | refine FB 1 2 ?_ | refine FB 2 0 ?_ | fail); simp only [fS,fS2,fS2,qA,qC,qK,vO,qYy,hcself,hmself,hnf])
    exact Sub.refl _
   ·simp [-qYj,-gD,hin]<;>(first | rfl | exact ⟨rfl,rfl⟩ | exact ⟨rfl,rfl,rfl⟩ | skip)
 ·by_cases ha0:0≤s.a
  ·have ra:s.a.toNat<k.regs.length:=by omega
   have hce:wK k s=IntKind.i64.wrap (s.n+k.regs.getD s.a.toNat 0):=by
    unfold wK
    rw [if_pos ⟨by omega,ha0⟩]
    rfl
   simp only [go_sem,seval,h5,ha0,mJ,qIl,qI k.regs s.a.toNat ra,hcg,gt,qI k.regs s.r.toNat rr,qI k.regs s.b.toNat rb]
   repeat refine K ?_
   rw [←hce]
   refine CA [] (yM (wK k s) 0 23) ?_
   try simp only [go_sem,seval]
   have hin:qO (wK k s) 0 23=true:=by
    simp only [qWu] at hf
    exact hf.1.2
   obtain ⟨c,hcc⟩:=qYv (qP.1 hin).1
   rw [hcc] at hin hf
   have hcl:=hcell c hcc hin
   have hmg:=vD .own m.mem.cells c hcl
   have gm :∀r,((jR .own m.mem.cells).set c r).getD c []=r:=fun r=>wF _ _ _ _ (by rw [yE]; exact hcl)
   have hmself:(jR .own m.mem.cells).set c [.sl .own 2 (vX .own (m.mem.cells.getD c []))]=jR .own m.mem.cells:=by rw [←hmg,wP _ _ _ (by rw [yE]; exact hcl)]
   have hnf:((m.mem.cells.getD c []).length:Int)=4000:=by
    rw [qYs] at hf
    simp only [qWu,decide_eq_true_eq] at hf
    exact hf.2
   rw [hcc]
   try simp only [go_sem,seval,hcc,hin,h5,hcg,gt,qI k.regs s.r.toNat rr,qI k.regs s.b.toNat rb,hmg,gm]
   repeat refine K ?_
   try simp only [go_sem,seval,hnf,h5,hcg,gt,qI k.regs s.r.toNat rr,qI k.regs s.b.toNat rb,hmg,gm]
   apply mE (by simp)
   ·repeat' ((first | refine FB 1 1 ?_ | refine FB 1 2 ?_ | refine FB 2 0 ?_ | fail); simp only [fS,fS2,fS2,qA,qC,qK,vO,qYy,hcself,hmself,hnf])
    exact Sub.refl _
   ·simp [-qYj,-gD,hin]<;>(first | rfl | exact ⟨rfl,rfl⟩ | exact ⟨rfl,rfl,rfl⟩ | skip)
  ·have hce:wK k s=s.n:=by
    unfold wK
    rw [if_neg (by rintro ⟨_,h⟩; exact ha0 h)]
   simp only [go_sem,seval,h5,ha0,mJ,qIl,hcg,gt,qI k.regs s.r.toNat rr,qI k.regs s.b.toNat rb]
   repeat refine K ?_
   rw [←hce]
   refine CA [] (yM (wK k s) 0 23) ?_
   try simp only [go_sem,seval]
   have hin:qO (wK k s) 0 23=true:=by
    simp only [qWu] at hf
    exact hf.1.2
   obtain ⟨c,hcc⟩:=qYv (qP.1 hin).1
   rw [hcc] at hin hf
   have hcl:=hcell c hcc hin
   have hmg:=vD .own m.mem.cells c hcl
   have gm :∀r,((jR .own m.mem.cells).set c r).getD c []=r:=fun r=>wF _ _ _ _ (by rw [yE]; exact hcl)
   have hmself:(jR .own m.mem.cells).set c [.sl .own 2 (vX .own (m.mem.cells.getD c []))]=jR .own m.mem.cells:=by rw [←hmg,wP _ _ _ (by rw [yE]; exact hcl)]
   have hnf:((m.mem.cells.getD c []).length:Int)=4000:=by
    rw [qYs] at hf
    simp only [qWu,decide_eq_true_eq] at hf
    exact hf.2
   rw [hcc]
   try simp only [go_sem,seval,hcc,hin,h5,hcg,gt,qI k.regs s.r.toNat rr,qI k.regs s.b.toNat rb,hmg,gm]
   repeat refine K ?_
   try simp only [go_sem,seval,hnf,h5,hcg,gt,qI k.regs s.r.toNat rr,qI k.regs s.b.toNat rb,hmg,gm]
   apply mE (by simp)
   ·repeat' ((first | refine FB 1 1 ?_ | refine FB 1 2 ?_ | refine FB 2 0 ?_ | fail); simp only [fS,fS2,fS2,qA,qC,qK,vO,qYy,hcself,hmself,hnf])
    exact Sub.refl _
   ·simp [-qYj,-gD,hin]<;>(first | rfl | exact ⟨rfl,rfl⟩ | exact ⟨rfl,rfl,rfl⟩ | skip)
 ·have hce:wK k s=s.n:=by
   unfold wK
   rw [if_neg (by rintro ⟨h,_⟩; exact h h5)]
  simp only [go_sem,seval,h5,mJ,qIl,hcg,gt,qI k.regs s.r.toNat rr,qI k.regs s.b.toNat rb]
  repeat refine K ?_
  rw [←hce]
  refine CA [] (yM (wK k s) 0 23) ?_
  try simp only [go_sem,seval]
  have hin:qO (wK k s) 0 23=true:=by
   simp only [qWu] at hf
   exact hf.1.2
  obtain ⟨c,hcc⟩:=qYv (qP.1 hin).1
  rw [hcc] at hin hf
  have hcl:=hcell c hcc hin
  have hmg:=vD .own m.mem.cells c hcl
  have gm :∀r,((jR .own m.mem.cells).set c r).getD c []=r:=fun r=>wF _ _ _ _ (by rw [yE]; exact hcl)
  have hmself:(jR .own m.mem.cells).set c [.sl .own 2 (vX .own (m.mem.cells.getD c []))]=jR .own m.mem.cells:=by rw [←hmg,wP _ _ _ (by rw [yE]; exact hcl)]
  have hnf:((m.mem.cells.getD c []).length:Int)=4000:=by
   rw [qYs] at hf
   simp only [qWu,decide_eq_true_eq] at hf
   exact hf.2
  rw [hcc]
  try simp only [go_sem,seval,hcc,hin,h5,hcg,gt,qI k.regs s.r.toNat rr,qI k.regs s.b.toNat rb,hmg,gm]
  repeat refine K ?_
  try simp only [go_sem,seval,hnf,h5,hcg,gt,qI k.regs s.r.toNat rr,qI k.regs s.b.toNat rb,hmg,gm]
  apply mE (by simp)
  ·repeat' ((first | refine FB 1 1 ?_ | refine FB 1 2 ?_ | refine FB 2 0 ?_ | fail); simp only [fS,fS2,fS2,qA,qC,qK,vO,qYy,hcself,hmself,hnf])
   exact Sub.refl _
  ·simp [-qYj,-gD,hin]<;>(first | rfl | exact ⟨rfl,rfl⟩ | exact ⟨rfl,rfl,rfl⟩ | skip)
end Go.Sep
