/- Contracts of functions. -/
import Derived.Test.YtebbppogicgpkaaOxx14
namespace Go.Sep
set_option maxHeartbeats 16000000
open Go.Proofs
set_option linter.unusedSimpArgs false
set_option linter.unusedVariables false
set_option maxRecDepth 100000
open Nat renaming reduceAdd → qA, reduceMul → qB, reduceEqDiff → qC, reduceBEq → qD
open Int renaming reduceToNat → qE, reduceEq → qF, reduceLT → qG, reduceLE → qH
open List renaming getD_eq_getElem?_getD → gD
def m367:MFn:=⟨30,[.t 4,.t 5],kr [xb 3 1,xI 4 0,xF 5] (kr [xa 7 4 3,xl 8 7,xv 6 8] (.seq (kr [xa 9 0 3,xl 10 9,bI 11 .neq 10 8,xv 12 11,ya 13 2 3 12,yl 14 1 13 12,yI 15 .geq 14 0 12,xP 16 12 15] (.cond 16 (.dreg (.take 0 (xv 17 6) (.take 1 (xv 18 0) (.take 2 (xk 19 18) (.take 3 (xa 20 1 19) (.take 4 (xl 21 20) (.only 5 [] (xa 22 2 3) (.only 6 [] (xl 23 22) (.only 7 [4,3,2,1] (xD 24 1 21 23) (.only 8 [7,4,3,2,1] (xl 25 24) (.only 9 [0,8,7,4,3,2,1] (bT 26 .add 17 25) (.only 10 [0,1,2,3,4] (xv 6 26) (.done))))))))))))) (.skip))) (kR [xv 27 6,xv 28 6,xc1 29 311 (.t 28),xv 4 27,xv 5 29])))⟩
def m369:MFn:=⟨105,[],kr [xb 7 2] (kr [xa 14 0 7,xl 15 14] (.blk 0 (kr [bI 40 .eql 15 5,xv 39 40] (.cond 39 (.seq (.dreg (.take 0 (xv 42 0) (.take 1 (xk 43 42) (.take 2 (xa 44 2 43) (.take 3 (xv 45 1) (.take 4 (xk 46 45) (.take 5 (xa 47 2 46) (.take 6 (xl 48 47) (.take 7 (xv 49 3) (.only 8 [] (xv 50 4) (.only 9 [2,6,7,1,5,0,4,3] (xo 51 (.call 377 [true,true,false,false,false] [.t 44,.t 48,.t 49,.t 50,.c (.bool false)])) (.only 10 [9,2,6,7,1,5,0,4,3] (xv 41 51) (.take 11 (xX 52 41 0) (.take 12 (xX 53 41 1) (.only 13 [0,1,2,3,4,5,6,7,11] (xv 10 52) (.only 14 [0,1,2,3,4,5,6,7,11,12] (xv 11 53) (.done))))))))))))))))) (.dreg (.take 0 (xv 54 1) (.take 1 (xk 55 54) (.take 2 (xa 56 1 55) (.take 3 (xl 57 56) (.take 4 (xa 58 1 7) (.take 5 (xl 59 58) (.take 6 (xv 60 1) (.take 7 (xv 61 10) (.take 8 (xv 62 11) (.only 9 [0,1,2,3,4,5,7] (xD 63 1 57 59) (.only 10 [0,1,2,3,4,5,7] (xS 1 63 61) (.only 11 [0,1,2,3,4,5,6,7,8] (xk 64 60) (.only 12 [0,1,2,3,4,5,6,7,8] (xa 65 2 64) (.only 13 [0,1,2,3,4,5,6,7,8] (xS 1 65 62) (.done))))))))))))))))) (kr [bI 67 .eql 15 8,xv 66 67] (.cond 66 (.seq (.dreg (.take 0 (xv 69 0) (.take 1 (xk 70 69) (.take 2 (xa 71 2 70) (.take 3 (xv 72 1) (.take 4 (xk 73 72) (.take 5 (xa 74 2 73) (.take 6 (xl 75 74) (.only 7 [] (xv 76 3) (.only 8 [2,6,1,5,0,4,3] (xo 77 (.call 377 [true,true,false,false,false] [.t 71,.t 75,.t 76,xi 0,.c (.bool true)])) (.only 9 [8,2,6,1,5,0,4,3] (xv 68 77) (.take 10 (xX 78 68 0) (.take 11 (xX 79 68 1) (.only 12 [0,1,2,3,4,5,6,10] (xv 12 78) (.only 13 [0,1,2,3,4,5,6,10,11] (xv 13 79) (.done)))))))))))))))) (.seq (.dreg (.take 0 (xv 80 1) (.take 1 (xv 81 0) (.take 2 (xk 82 81) (.take 3 (xa 83 2 82) (.take 4 (xv 84 13) (.take 5 (xv 85 3) (.take 6 (xv 86 1) (.take 7 (xk 87 86) (.take 8 (xa 88 1 87) (.take 9 (xl 89 88) (.only 10 [] (xa 90 3 7) (.only 11 [] (xl 91 90) (.only 12 [9,8,7,6] (xD 92 1 89 91) (.only 13 [12,9,8,7,6] (xl 93 92) (.only 14 [3,4,5,13,2,12,1,9,8,7,6] (xo 94 (.call 378 [true,true,false,false,false] [.t 83,.t 84,.t 85,.t 93,.c (.bool true)])) (.only 15 [0,1,2,3,4,5,6,7,8,9] (xk 95 80) (.only 16 [0,1,2,3,4,5,6,7,8,9] (xa 96 2 95) (.only 17 [0,1,2,3,4,5,6,7,8,9] (xS 1 96 94) (.done)))))))))))))))))))) (.dreg (.take 0 (xv 97 1) (.take 1 (xk 98 97) (.take 2 (xa 99 1 98) (.take 3 (xl 100 99) (.take 4 (xa 101 1 7) (.take 5 (xl 102 101) (.only 6 [] (xv 103 12) (.only 7 [0,1,2,3,4,5] (xD 104 1 100 102) (.only 8 [0,1,2,3,4,5] (xS 1 104 103) (.done))))))))))))) (.dreg (.take 0 (xv 16 1) (.take 1 (xv 17 0) (.take 2 (xk 18 17) (.take 3 (xa 19 2 18) (.take 4 (xv 20 1) (.take 5 (xk 21 20) (.take 6 (xa 22 2 21) (.take 7 (xl 23 22) (.take 8 (xv 24 3) (.take 9 (xv 25 1) (.take 10 (xk 26 25) (.take 11 (xa 27 1 26) (.take 12 (xl 28 27) (.take 13 (xa 29 3 7) (.take 14 (xl 30 29) (.take 15 (xD 31 1 28 30) (.take 16 (xl 32 31) (.only 17 [] (xa 33 0 7) (.only 18 [] (xl 34 33) (.only 19 [] (bI 35 .eql 34 7) (.only 20 [3,7,8,16,2,6,15,1,5,12,14,4,11,13,10,9] (xo 36 (.call 378 [true,true,false,false,false] [.t 19,.t 23,.t 24,.t 32,.t 35])) (.only 21 [0,1,2,3,4,5,6,7,8,9,10,11,12,13,14,15,16] (xk 37 16) (.only 22 [0,1,2,3,4,5,6,7,8,9,10,11,12,13,14,15,16] (xa 38 2 37) (.only 23 [0,1,2,3,4,5,6,7,8,9,10,11,12,13,14,15,16] (xS 1 38 36) (.done))))))))))))))))))))))))))))))))⟩
attribute [go_sem] aQ qEf qEe
attribute [simp] aQ qEf qEe
theorem qDe {P:Program} {num:Nat→Nat} {fin:AS→Prop} (s:AS):vc P num fin [] s=fin s:=by rw [vc]
theorem cT (m:qK) (i:Nat) (s:wX) (cell:Nat) (late:Int) (hm:pZ m.mem.cells) (hi:i<m.cores.length) (hr:(qJ m i).regs.length=8) (hv:VOk m.mem.cells (qJ m i).view) (hc:cell<24) (hl:-(2^63)≤late∧late<2^63)
  (r0:0≤s.r) (r1:s.r.toNat<8) (b0:0≤s.b) (b1:s.b.toNat<8) :
  wD Try.prog num 369 [.ptr 0 0 0,.ptr 1 i 0,.agg (fB s),.int .i64 cell,.int .i64 late]
   [(0,some (4,[[.sl .own 1 (codes .own m.codes),.ns 1 0 m.cores.length,.sl .own 1 (jT .own m.mem.cells),.sl .own 2 (yW m.tr)]]),some (4,[[.sl .own 1 (codes .own m.codes),.ns 1 0 m.cores.length,.sl .own 1 (jT .own (vA m.mem.cells (qJ m i) s cell late).1),.sl .own 2 (yW m.tr)]])),
    (1,some (4,cores .own m.cores),some (4,cores .own (m.cores.set i (vA m.mem.cells (qJ m i) s cell late).2)))] (.tup []):=by
 refine EH m369 Try.func39 (hh:=gW _ _ _ _ (gW _ _ _ _ ((rW _).2 trivial) (by decide) (by simp [yS])) (by decide) (by simp [yS,yV,jJ,bnd])) ?_
 unfold m369
 have hcg:=uI .own m.cores i hi
 have gt :∀r,((cores .own m.cores).set i r).getD i []=r:=fun r=>yR _ _ _ _ (by rw [bE]; exact hi)
 have hk:m.cores.getD i default=qJ m i:=rfl
 rw [hk] at hcg
 generalize qJ m i=k at *
 have rr:s.r.toNat<k.regs.length:=by omega
 have rb:s.b.toNat<k.regs.length:=by omega
 have hR:okR qPz ((cores .own m.cores).set i [.int .i64 k.at_,.sl .own 1 (wT k.regs),.ns 2 0 k.view.length,.int .i64 k.st]):=pR _ _ _ (by simp [okL,okV,nb,qPz])
 have hR2:okR (fun k=>0=k∨1=k∨2=k) ((cores .own m.cores).set i [.int .i64 k.at_,.sl .own 1 (wT k.regs),.ns 2 0 k.view.length,.int .i64 k.st]):=tG (fun n hn=>by rcases hn with rfl | rfl | rfl<;>simp) hR
 have hR4:okR qOm ((cores .own m.cores).set i [.int .i64 k.at_,.ns 3 0 k.regs.length,.ns 2 0 k.view.length,.int .i64 k.st]):=pR _ _ _ (by simp [okL,okV,nb,qOm])
 have hR4b:okR (fun k=>0=k∨1=k∨2=k∨3=k) ((cores .own m.cores).set i [.int .i64 k.at_,.ns 3 0 k.regs.length,.ns 2 0 k.view.length,.int .i64 k.st]):=tG (fun n hn=>by rcases hn with rfl | rfl | rfl | rfl<;>simp) hR4
 have hR5:okR qOl ((cores .own m.cores).set i [.int .i64 k.at_,.ns 3 0 k.regs.length,.ns 4 0 k.view.length,.int .i64 k.st]):=pR _ _ _ (by simp [okL,okV,nb,qOl])
 have hR5b:okR (fun k=>0=k∨1=k∨2=k∨3=k∨4=k) ((cores .own m.cores).set i [.int .i64 k.at_,.ns 3 0 k.regs.length,.ns 4 0 k.view.length,.int .i64 k.st]):=tG (fun n hn=>by rcases hn with rfl | rfl | rfl | rfl | rfl<;>simp) hR5
 have hv5:VOk m.mem.cells (load m.mem.cells k.view cell 0 true).2:=qJ9 hm hv hc
 clear hr
 by_cases h5:s.op=5
 ·have ha:vA m.mem.cells k s cell late=(m.mem.cells,{k with regs:=k.regs.set s.r.toNat (load m.mem.cells k.view cell late false).1,view:=(load m.mem.cells k.view cell late false).2}):=by
   unfold vA
   rw [if_pos h5]
  rw [ha]
  simp only [go_sem,seval,h5,hcg,gt,qI k.regs s.r.toNat rr]
  repeat refine K ?_
  refine DAN [(0,0),(1,1),(2,11)] (qC6 m.codes m.cores.length m.mem.cells m.tr _ hR k.view cell late false hm hv hc hl) ?_
  try simp only [go_sem,seval]
  repeat refine K ?_
  try simp only [go_sem,seval,h5,hcg,gt,qI k.regs s.r.toNat rr]
  repeat refine K ?_
  rw [qDe]
  apply jV (by decide)
  ·refine Sub.trans (Sub.foldAt 1 1 13 rfl (by simp [-gD]<;>omega) rfl (by decide) (by decide) rfl (by simp<;>omega)) ?_
   simp only [fS,fS2,qA,qC,qR]
   refine Sub.trans (Sub.foldAt 1 2 12 rfl (by simp [-gD]<;>omega) rfl (by decide) (by decide) rfl (by simp<;>omega)) ?_
   simp only [fS,fS2,qA,qC,qR]
   exact Sub.refl _
  ·simp [-List.drop_one,-gD,qR]<;>(first | rfl | exact ⟨rfl,rfl⟩ | exact ⟨rfl,rfl,rfl⟩ | skip)
 by_cases h8:s.op=8
 ·have ha:vA m.mem.cells k s cell late=((store m.mem.cells (load m.mem.cells k.view cell 0 true).2 cell (k.regs.getD s.b.toNat 0) true).1,{k with regs:=k.regs.set s.r.toNat (load m.mem.cells k.view cell 0 true).1,view:=(store m.mem.cells (load m.mem.cells k.view cell 0 true).2 cell (k.regs.getD s.b.toNat 0) true).2}):=by
   unfold vA
   rw [if_neg h5,if_pos h8]
   rfl
  rw [ha]
  simp only [go_sem,seval,h5,h8,hcg,gt]
  repeat refine K ?_
  refine DAN [(0,0),(1,1),(2,11)] (qC6 m.codes m.cores.length m.mem.cells m.tr _ hR k.view cell 0 true hm hv hc (by omega)) ?_
  try simp only [go_sem,seval]
  repeat refine K ?_
  try simp only [go_sem,seval,h5,h8,hcg,gt,qI k.regs s.b.toNat rb]
  repeat refine K ?_
  generalize hld:load m.mem.cells k.view cell 0 true=ld at *
  refine DAN [(0,0),(1,1),(2,12),(3,13),(4,11)] (qGf m.codes m.cores.length m.mem.cells m.tr _ hR5 ld.2 k.regs k.view cell (k.regs.getD s.b.toNat 0) true hm hv5 hc) ?_
  try simp only [go_sem,seval]
  try simp only [go_sem,seval,h5,h8,hcg,gt,qI k.regs s.r.toNat rr]
  repeat refine K ?_
  rw [qDe]
  apply jV (by decide)
  ·refine Sub.trans (Sub.foldAt 1 1 13 rfl (by simp [-gD]<;>omega) rfl (by decide) (by decide) rfl (by simp<;>omega)) ?_
   simp only [fS,fS2,qA,qC,qR]
   refine Sub.trans (Sub.foldAt 1 2 14 rfl (by simp [-gD]<;>omega) rfl (by decide) (by decide) rfl (by simp<;>omega)) ?_
   simp only [fS,fS2,qA,qC,qR]
   exact Sub.refl _
  ·simp [-List.drop_one,-gD,qR]<;>(first | rfl | exact ⟨rfl,rfl⟩ | exact ⟨rfl,rfl,rfl⟩ | skip)
 have ha:vA m.mem.cells k s cell late=((store m.mem.cells k.view cell (k.regs.getD s.b.toNat 0) (decide (s.op=7))).1,{k with view:=(store m.mem.cells k.view cell (k.regs.getD s.b.toNat 0) (decide (s.op=7))).2}):=by
  unfold vA
  rw [if_neg h5,if_neg h8]
  rfl
 rw [ha]
 simp only [go_sem,seval,h5,h8,hcg,gt,qI k.regs s.b.toNat rb]
 repeat refine K ?_
 refine DAN [(0,0),(1,1),(2,11),(3,12)] (qGg m.codes m.cores.length m.mem.cells m.tr _ hR4 k.view k.regs cell (k.regs.getD s.b.toNat 0) (decide (s.op=7)) hm hv hc) ?_
 try simp only [go_sem,seval]
 try simp only [go_sem,seval,h5,h8,hcg,gt]
 repeat refine K ?_
 rw [qDe]
 apply jV (by decide)
 ·refine Sub.trans (Sub.foldAt 1 1 12 rfl (by simp [-gD]<;>omega) rfl (by decide) (by decide) rfl (by simp<;>omega)) ?_
  simp only [fS,fS2,qA,qC,qR]
  refine Sub.trans (Sub.foldAt 1 2 13 rfl (by simp [-gD]<;>omega) rfl (by decide) (by decide) rfl (by simp<;>omega)) ?_
  simp only [fS,fS2,qA,qC,qR]
  exact Sub.refl _
 ·simp [-List.drop_one,-gD,qR]<;>(first | rfl | exact ⟨rfl,rfl⟩ | exact ⟨rfl,rfl,rfl⟩ | skip)
theorem pS (k:vK) (s:wX) (ha:s.op≠8→0≤s.a→s.a.toNat<k.regs.length):wD Try.prog num 367 [.fptr .bw (nF .bw k) 0,.agg (fB s)] [] (.tup [.int .i64 (jF k s),.bool (qL (jF k s) 0 23)]):=by
 refine EN m367 Try.func37 ?_
 unfold m367
 by_cases h8:s.op=8
 ·have hc:jF k s=s.n:=by
   unfold jF
   rw [if_neg (by rintro ⟨h,_⟩; exact h h8)]
  rw [hc]
  simp only [go_sem,seval,h8]
  refine CA [] (cI s.n) ?_
  try simp only [go_sem,seval]
  refine ⟨_,Sub.refl _,jM (by simp) ?_⟩; simp [-List.drop_one]
 by_cases ha0:0≤s.a
 ·have hc:jF k s=IntKind.i64.wrap (s.n+k.regs.getD s.a.toNat 0):=by
   unfold jF
   rw [if_pos ⟨h8,ha0⟩]
   rfl
  have ra:=ha h8 ha0
  rw [hc]
  simp only [go_sem,seval,h8,ha0,qI k.regs s.a.toNat ra]
  repeat refine K ?_
  refine CA [] (cI (IntKind.i64.wrap (s.n+k.regs.getD s.a.toNat 0))) ?_
  try simp only [go_sem,seval]
  refine ⟨_,Sub.refl _,jM (by simp) ?_⟩; simp [-List.drop_one]
 ·have hc:jF k s=s.n:=by
   unfold jF
   rw [if_neg (by rintro ⟨_,h⟩; exact ha0 h)]
  rw [hc]
  simp only [go_sem,seval,h8,ha0]
  refine CA [] (cI s.n) ?_
  try simp only [go_sem,seval]
  refine ⟨_,Sub.refl _,jM (by simp) ?_⟩; simp [-List.drop_one]
theorem zY {s:wX} {n:Int} (h:eP s n=true):0≤s.r∧s.r≤7∧0≤s.b∧s.b≤7∧1≤s.op∧s.op≤13∧((0≤s.a∧s.a≤7)∨((s.op=5∨s.op=6∨s.op=7)∧s.a=-1)):=by
 unfold eP at h
 simp only [Bool.and_eq_true,qM,Bool.or_eq_true,decide_eq_true_eq] at h
 obtain ⟨⟨⟨h1,h2⟩,h3⟩,h4⟩:=h
 have:1≤s.op∧s.op≤13:=by
  repeat' split at h4
  all_goals (first | omega | simp at h4)
 omega
theorem bH {m:qK} {i:Nat} {late:Int} {k:vK} {s:wX} (hk:qJ m i=k) (hs:qQ m i=s) (hi:i<m.cores.length) (h0:k.st=0) (h9 :¬(s.op=9∧(m.tr.length:Int)=4000))
  (hroom:(vB s.op&&!decide (s.op=5)&&qL (jF k s) 0 23&&decide ((4000:Int)≤(m.mem.cells.getD (jF k s).toNat []).length))=false):wS m ⟨i,late⟩=(mdo m i late,0):=by
 have hw:qL (i:Int) 0 ((m.cores.length:Int)-1)=true:=by rw [qM]; omega
 have hc:xL m (i:Int)=0:=by
  unfold xL
  rw [if_pos hw]
  simp only [Int.toNat_natCast,hk,hs]
  rw [if_neg (by rintro (h | h); exact h h0; exact h9 h),hroom]
  rfl
 unfold wS
 simp only [hc,if_true,Int.toNat_natCast]
theorem iI {m:qK} {i:Nat} {late:Int} {k:vK} {s:wX} (hk:qJ m i=k) (hs:qQ m i=s) (hi:i<m.cores.length) (h:(k.st≠0∨(s.op=9∧(m.tr.length:Int)=4000))∨(vB s.op&&!decide (s.op=5)&&qL (jF k s) 0 23&&decide ((4000:Int)≤(m.mem.cells.getD (jF k s).toNat []).length))=true):wS m ⟨i,late⟩=(m,3):=by
 have hw:qL (i:Int) 0 ((m.cores.length:Int)-1)=true:=by rw [qM]; omega
 have hc:xL m (i:Int)=3:=by
  unfold xL
  rw [if_pos hw]
  simp only [Int.toNat_natCast,hk,hs]
  split
  ·rfl
  ·rename_i h1
   rcases h with h | h
   ·exact absurd h h1
   ·rw [h]
    rfl
 unfold wS
 rw [hc]
 rfl
theorem zU {m:qK} {i:Nat} {k:vK} {vX:Int} (h:((m.codes.getD i []).length:Int)≤vX):fW m i k vX=jG m i ⟨k.at_,k.regs,k.view,2⟩:=by
 unfold fW
 rw [if_pos h]
theorem dC {m:qK} {i:Nat} {k:vK} {vX:Int} (h :¬((m.codes.getD i []).length:Int)≤vX):fW m i k vX=jG m i ⟨vX,k.regs,k.view,k.st⟩:=by
 unfold fW
 rw [if_neg h]
theorem wE (m:qK) (i:Nat) (k:vK):qS .own (jG m i k)=[.sl .own 1 (codes .own m.codes),.sl .own 4 (cores .own (m.cores.set i k)),.sl .own 1 (jT .own m.mem.cells),.sl .own 2 (yW m.tr)]:=rfl
end Go.Sep
