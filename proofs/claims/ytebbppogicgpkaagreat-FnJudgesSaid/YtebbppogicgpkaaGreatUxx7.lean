/- Contracts of functions. -/
import Derived.Test.YtebbppogicgpkaaGreatUxx4
import Derived.Test.YtebbppogicgpkaaGreatUxx5
open Int renaming toNat_natCast → qZh
open List renaming drop_one → qZ8
namespace Go.Sep
set_option maxHeartbeats 16000000
open Go.Proofs
set_option linter.unusedSimpArgs false
set_option linter.unusedVariables false
set_option maxRecDepth 100000
open Nat renaming reduceAdd → qA, reduceMul → qB, reduceEqDiff → qC, reduceBEq → qD
open Int renaming reduceToNat → qE, reduceEq → qF, reduceLT → qG, reduceLE → qH
open List renaming getD_eq_getElem?_getD → gD
def m66:MFn:=⟨164,[.cell 6 3 true,.t 7],kr [xb 3 0,xb 4 1,xo 6 (.alloc [.nil,.nil,.nil]),xI 7 0] (kr [xa 14 0 4,xl 15 14,xv 16 2,xD 17 3 15 16,xa 18 0 17,xl 19 18,xv 8 19] (kr [xa 20 1 3,xl 21 20,xv 22 2,xD 23 1 21 22,xl 24 23,xv 25 8,xD 26 5 24 25,xm 27 5 26,xo 9 (.alloc [xz,xz,xz,xz,xz]),xS 5 9 27] (kr [xa 28 0 4,xl 29 28,xv 30 2,xD 31 3 29 30,xa 32 1 31,xl 33 32,xv 10 33] (kr [xv 34 8,bI 35 .add 34 1,xv 11 35] (.seq (kr [xa 36 0 9,xl 37 36] (.blk 0 (kr [bI 59 .eql 37 1,xv 58 59] (.cond 58 (xr [xv 60 10,xa 61 1 9,xl 62 61,xa 63 4 9,xl 64 63,xD 65 1 60 62,xS 1 65 64]) (kr [bI 67 .eql 37 2,xv 66 67] (.cond 66 (.dreg (.take 0 (xv 68 10) (.take 1 (xa 69 1 9) (.take 2 (xl 70 69) (.take 3 (xv 71 10) (.take 4 (xa 72 2 9) (.take 5 (xl 73 72) (.take 6 (xD 74 1 71 73) (.take 7 (xl 75 74) (.take 8 (xv 76 10) (.only 9 [] (xa 77 3 9) (.only 10 [] (xl 78 77) (.only 11 [8] (xD 79 1 76 78) (.only 12 [11,8] (xl 80 79) (.only 13 [7,12,6,11,3,5,8,4] (bT 81 .add 75 80) (.only 14 [0,1,2,3,4,5,6,7,8] (xD 82 1 68 70) (.only 15 [0,1,2,3,4,5,6,7,8] (xS 1 82 81) (.done)))))))))))))))))) (kr [bI 84 .eql 37 3,xv 83 84] (.cond 83 (.dreg (.take 0 (xv 85 10) (.take 1 (xa 86 1 9) (.take 2 (xl 87 86) (.take 3 (xv 88 10) (.take 4 (xa 89 2 9) (.take 5 (xl 90 89) (.take 6 (xD 91 1 88 90) (.take 7 (xl 92 91) (.take 8 (xv 93 10) (.only 9 [] (xa 94 3 9) (.only 10 [] (xl 95 94) (.only 11 [8] (xD 96 1 93 95) (.only 12 [11,8] (xl 97 96) (.only 13 [7,12,6,11,3,5,8,4] (bT 98 .sub 92 97) (.only 14 [0,1,2,3,4,5,6,7,8] (xD 99 1 85 87) (.only 15 [0,1,2,3,4,5,6,7,8] (xS 1 99 98) (.done)))))))))))))))))) (kr [bI 101 .eql 37 4,xv 100 101] (.cond 100 (.dreg (.take 0 (xv 102 10) (.take 1 (xa 103 1 9) (.take 2 (xl 104 103) (.take 3 (xv 105 10) (.take 4 (xa 106 2 9) (.take 5 (xl 107 106) (.take 6 (xD 108 1 105 107) (.take 7 (xl 109 108) (.take 8 (xv 110 10) (.only 9 [] (xa 111 3 9) (.only 10 [] (xl 112 111) (.only 11 [8] (xD 113 1 110 112) (.only 12 [11,8] (xl 114 113) (.only 13 [7,12,6,11,3,5,8,4] (bT 115 .lss 109 114) (.only 14 [13,7,12,6,11,3,5,8,4] (xc1 116 85 (.t 115)) (.only 15 [0,1,2,3,4,5,6,7,8] (xD 117 1 102 104) (.only 16 [0,1,2,3,4,5,6,7,8] (xS 1 117 116) (.done))))))))))))))))))) (kr [bI 119 .eql 37 10,xv 118 119] (.cond 118 (.seq (kr [xa 120 2 4,xl 121 120,xe 122 121,bI 123 .eql 122 4000] (kF 123 [xm 124 3 4,xS 3 6 124,xI 7 3])) (.dreg (.take 0 (xa 125 2 4) (.take 1 (xl 126 125) (.take 2 (xv 127 2) (.take 3 (xv 128 10) (.only 4 [] (xa 129 2 9) (.only 5 [] (xl 130 129) (.only 6 [3] (xD 131 1 128 130) (.only 7 [6,3] (xl 132 131) (.only 8 [2,7,6,3] (xo 133 (.build [xz,xz] [(0,1,.t 127),(1,1,.t 132)])) (.only 9 [8,2,7,6,3] (xo 134 (.mkSl [xz,xz] 1 [(0,.t 133)])) (.only 10 [1,9,0,8,2,7,6,3] (xA 135 2 16 126 134) (.only 11 [0,1,2,3] (xa 136 2 4) (.only 12 [0,1,2,3] (xS 1 136 135) (.done)))))))))))))))) (kr [bI 138 .eql 37 11,xv 137 138] (.cond 137 (xr [xa 139 4 9,xl 140 139,xv 11 140]) (kr [bI 142 .eql 37 12,xv 141 142] (.cond 141 (kr [xv 143 10,xa 144 2 9,xl 145 144,xD 146 1 143 145,xl 147 146,bI 148 .eql 147 0] (.cond 148 (xr [xa 149 4 9,xl 150 149,xv 11 150]) (.skip))) (kr [bI 152 .eql 37 13,xv 151 152] (.cond 151 (kr [xa 153 0 4,xl 154 153,xv 155 2,xD 156 3 154 155,xa 157 2 156,⟨none,.store 1 (.t 157) (xi 1),none⟩] (kR [xm 158 3 4,xS 3 6 158,xI 7 0])) (kr [xm 39 3 4,xv 40 2,xm 41 5 9,xo 42 (.call 86 [true,false,false] [.t 39,.t 40,.t 41]),xv 38 42,xX 43 38 0,xX 44 38 1,xo 12 (.alloc [.nil,.nil,.nil]),xS 3 12 43,xv 13 44] (.seq (kr [xv 45 13] (.blk 1 (kr [bI 47 .eql 45 1,xv 46 47] (.cond 46 (kR [xm 48 3 12,xS 3 6 48,xI 7 4]) (kr [bI 50 .eql 45 2,xv 49 50] (.cond 49 (kr [xa 51 0 12,xl 52 51,xv 53 2,xD 54 3 52 53,xa 55 2 54,⟨none,.store 1 (.t 55) (xi 2),none⟩] (kR [xm 56 3 12,xS 3 6 56,xI 7 0])) (.skip))))))) (xr [xm 57 3 12,xS 3 4 57]))))))))))))))))))))) (kR [xm 159 2 3,xm 160 3 4,xv 161 2,xv 162 11,xo 163 (.call 87 [false,true,false,false] [.t 159,.t 160,.t 161,.t 162]),xS 3 6 163,xI 7 0]))))))⟩
def m86:MFn:=⟨115,[.cell 6 3 true,.t 7],kr [xb 3 0,xb 5 2,xo 6 (.alloc [.nil,.nil,.nil]),xI 7 0] (kr [xa 12 0 3,xl 13 12,xv 14 1,xD 15 3 13 14,xa 16 1 15,xl 17 16,xv 8 17] (kr [xa 18 1 3,xl 19 18,xa 20 4 5,xl 21 20,xD 22 3 19 21,xm 23 3 22,xo 9 (.alloc [.int .i64 0,.nil,.bool false]),xS 3 9 23] (kr [xI 10 0,xI 11 0] (.seq (kr [xa 24 0 5,xl 25 24] (.blk 0 (kr [bI 46 .eql 25 5,xv 45 46] (.cond 45 (.dreg (.take 0 (xm 48 3 9) (.take 1 (xv 49 8) (.only 2 [] (xa 50 2 5) (.only 3 [] (xl 51 50) (.only 4 [1] (xD 52 1 49 51) (.only 5 [4,1] (xl 53 52) (.only 6 [0,5,4,1] (xc2 54 93 (.t 48) (.t 53)) (.only 7 [6,0,5,4,1] (xv 47 54) (.take 8 (xX 55 47 0) (.take 9 (xX 56 47 1) (.only 10 [0,1,8] (xS 3 9 55) (.only 11 [0,1,8,9] (xv 11 56) (.done)))))))))))))) (kr [bI 58 .eql 25 7,xv 57 58] (.cond 57 (.seq (.dreg (.take 0 (xm 60 3 9) (.take 1 (xv 61 8) (.only 2 [] (xa 62 2 5) (.only 3 [] (xl 63 62) (.only 4 [1] (xD 64 1 61 63) (.only 5 [4,1] (xl 65 64) (.only 6 [0,5,4,1] (xc2 66 93 (.t 60) (.t 65)) (.only 7 [6,0,5,4,1] (xv 59 66) (.take 8 (xX 67 59 0) (.take 9 (xX 68 59 1) (.only 10 [0,1,8] (xS 3 9 67) (.only 11 [0,1,8,9] (xv 11 68) (.done)))))))))))))) (kr [xv 69 11,bI 70 .neq 69 2] (.cond 70 (.seq (.dreg (.take 0 (xv 71 8) (.take 1 (xa 72 1 5) (.take 2 (xl 73 72) (.only 3 [] (xv 74 11) (.only 4 [] (bI 75 .eql 74 0) (.only 5 [] (xc1 76 85 (.t 75)) (.only 6 [0,1,2] (xD 77 1 71 73) (.only 7 [0,1,2] (xS 1 77 76) (.done)))))))))) (xr [xI 11 0])) (.skip)))) (kr [bI 79 .eql 25 9,xv 78 79] (.cond 78 (xr [xm 81 3 9,xc1 82 94 (.t 81),xv 80 82,xX 83 80 0,xX 84 80 1,xS 3 9 83,xv 11 84]) (kr [bI 86 .eql 25 6,xv 85 86] (.cond 85 (kr [xm 88 3 9,xc1 89 95 (.t 88),xv 87 89,xX 90 87 0,xX 91 87 1,xX 92 87 2,xS 3 9 90,xv 10 91,xv 11 92] (kr [xv 93 11,bI 94 .neq 93 1] (.cond 94 (kr [xv 95 8,xa 96 1 5,xl 97 96,xv 98 10,xD 99 1 95 97,xS 1 99 98] (.seq (.dreg (.take 0 (xv 100 8) (.take 1 (xa 101 3 5) (.take 2 (xl 102 101) (.only 3 [] (xv 103 11) (.only 4 [] (bI 104 .eql 103 0) (.only 5 [] (xc1 105 85 (.t 104)) (.only 6 [0,1,2] (xD 106 1 100 102) (.only 7 [0,1,2] (xS 1 106 105) (.done)))))))))) (xr [xI 11 0]))) (.skip)))) (kr [xm 27 3 9,xc1 28 95 (.t 27),xv 26 28,xX 29 26 0,xX 30 26 1,xX 31 26 2,xS 3 9 29,xv 10 30,xv 11 31] (kr [xv 32 8,xa 33 1 5,xl 34 33,xv 35 10,xD 36 1 32 34,xS 1 36 35] (.seq (.dreg (.take 0 (xv 37 8) (.take 1 (xa 38 3 5) (.take 2 (xl 39 38) (.take 4 (xv 41 11) (.only 3 [] (xo 40 (.mkSl [xz] 4 [(0,xi 1),(1,xi 0),(2,xi 0),(3,xi 2)])) (.only 5 [4] (xD 42 1 40 41) (.only 6 [5,4] (xl 43 42) (.only 7 [0,1,2,4] (xD 44 1 37 39) (.only 8 [0,1,2,4] (xS 1 44 43) (.done))))))))))) (xr [xI 11 0])))))))))))))) (kr [xa 107 1 3,xl 108 107,xa 109 4 5,xl 110 109,xm 111 3 9,xD 112 3 108 110,xS 3 112 111] (kR [xm 113 3 3,xv 114 11,xS 3 6 113,xv 7 114]))))))⟩
def m87:MFn:=⟨32,[.cell 8 3 true],kr [xb 4 0,xb 5 1,xo 8 (.alloc [.nil,.nil,.nil])] (.seq (kr [xv 9 3,xa 10 1 4,xl 11 10,xv 12 2,xD 13 1 11 12,xl 14 13,xe 15 14,bI 16 .sub 15 1,xc3 17 64 (.t 9) (xi 0) (.t 16),xN 18 17] (.cond 18 (kr [xa 19 0 5,xl 20 19,xv 21 2,xD 22 3 20 21,xa 23 2 22,⟨none,.store 1 (.t 23) (xi 2),none⟩] (kR [xm 24 3 5,xS 3 8 24])) (.skip))) (kr [xa 25 0 5,xl 26 25,xv 27 2,xv 28 3,xD 29 3 26 27,xa 30 0 29,xS 1 30 28] (kR [xm 31 3 5,xS 3 8 31])))⟩
@[simp] def qS3 (s:wL):AV:=.agg [.ns 0 0 s.ths.length,.ns 1 0 s.chs.length,.ns 2 0 s.tr.length]
@[simp] def aT (s:wL):FP:=[(0,some (3,yT .own s.ths),none),(1,some (3,yJ .own s.chs),none),(2,some (2,jZ s.tr),none)]
def sC (p:wV) (s:wL) (i:Nat) (at_:Int):wL :=
 if qL at_ 0 ((p.bods.getD i []).length-1)=false then ⟨s.ths.set i ⟨(s.ths.getD i default).at_,(s.ths.getD i default).regs,2⟩,s.chs,s.tr⟩
 else ⟨s.ths.set i ⟨at_,(s.ths.getD i default).regs,(s.ths.getD i default).st⟩,s.chs,s.tr⟩
theorem qLr (s:wL):HB (vW (aT s)) 10:=by
 refine vY _ _ _ _ (vY _ _ _ _ (vY _ _ _ _ ((mP _).2 trivial) (by decide) ?_) (by decide) ?_) (by decide) ?_<;>simp
theorem lM (p:wV) (s:wL) (i:Nat) (at_:Int) (hi:i<s.ths.length) (hb:i<p.bods.length) (hl:(p.bods.getD i []).length<2^40) :
  qU Tryz.prog num 87 [.agg (jA .bw p),qS3 s,.int .i64 i,.int .i64 at_] (aT s) (.agg (yM .own (sC p s i at_))):=by
 refine EH m87 Tryz.func235 (hh:=qLr s) ?_
 unfold m87
 have hw1:IntKind.i64.wrap (((p.bods.getD i []).length:Int)-1)=((p.bods.getD i []).length:Int)-1:=wK (by omega) (by omega)
 have gt :∀r,((yT .own s.ths).set i r).getD i []=r:=fun r=>wH _ _ _ _ (by rw [gB]; exact hi)
 simp only [go_sem,seval,aT,qS3,qZ .bw p.bods i hb,qZh,hw1]
 repeat refine K ?_
 refine CA [] (yO at_ 0 ((p.bods.getD i []).length-1)) ?_
 try simp only [go_sem,seval]
 cases hw:qL at_ 0 ((p.bods.getD i []).length-1)
 ·simp only [go_sem,seval,hw,qT .own s.ths i hi,qZh,gt]
  repeat refine K ?_
  apply wF
  ·exact Sub.refl _
  ·simp [-qZ8,-gD,qQ,sC,hw,aT]<;>(first | rfl | exact ⟨rfl,rfl⟩ | exact ⟨rfl,rfl,rfl⟩ | skip)
 ·simp only [go_sem,seval,hw,qT .own s.ths i hi,qZh,gt]
  repeat refine K ?_
  apply wF
  ·exact Sub.refl _
  ·simp [-qZ8,-gD,qQ,sC,hw,aT]<;>(first | rfl | exact ⟨rfl,rfl⟩ | exact ⟨rfl,rfl,rfl⟩ | skip)
def jY (t:vA) (c:bS) (x:Ins):vA×bS×Int :=
 if x.op=5 then (t,(yD c (reg t x.a)).1,(yD c (reg t x.a)).2)
 else if x.op=7 then
  if (yD c (reg t x.a)).2=2 then (t,(yD c (reg t x.a)).1,2) else (wX t x.r (uM (decide ((yD c (reg t x.a)).2=0))),(yD c (reg t x.a)).1,0)
 else if x.op=9 then (t,(vF c).1,(vF c).2)
 else if x.op=6 then
  if (wM c).2.2=1 then (t,(wM c).1,1) else (wX (wX t x.r (wM c).2.1) x.b (uM (decide ((wM c).2.2=0))),(wM c).1,0)
 else (wX (wX t x.r (wM c).2.1) x.b ([1,0,0,2].getD (wM c).2.2.toNat 0),(wM c).1,0)
theorem qJy (c:bS):0≤(wM c).2.2∧(wM c).2.2<4:=by
 unfold wM
 split
 ·simp
 ·split
  ·simp
  ·split<;>simp
theorem qSu (s:wL) (i:Nat) (x:Ins) (hi:i<s.ths.length) (n0:0≤x.n) (hj:x.n.toNat<s.chs.length) (hr:(s.ths.getD i default).regs.length=4) (hc:(s.chs.getD x.n.toNat default).list.length<2^40)
  (r0:0≤x.r) (r1:x.r.toNat<4) (a0:0≤x.a) (a1:x.a.toNat<4) (b0:0≤x.b) (b1:x.b.toNat<4) :
  qU Tryz.prog num 86 [qS3 s,.int .i64 i,.agg (gT x)] (aT s) (.tup [.agg (yM .own ⟨s.ths.set i (jY (s.ths.getD i default) (s.chs.getD x.n.toNat default) x).1,s.chs.set x.n.toNat (jY (s.ths.getD i default) (s.chs.getD x.n.toNat default) x).2.1,s.tr⟩),
   .int .i64 (jY (s.ths.getD i default) (s.chs.getD x.n.toNat default) x).2.2]):=by
 refine EH m86 Tryz.func234 (hh:=qLr s) ?_
 unfold m86
 have gt :∀r,((yT .own s.ths).set i r).getD i []=r:=fun r=>wH _ _ _ _ (by rw [gB]; exact hi)
 have gc :∀r,((yJ .own s.chs).set x.n.toNat r).getD x.n.toNat []=r:=fun r=>wH _ _ _ _ (by rw [iB]; exact hj)
 have ra:x.a.toNat<(s.ths.getD i default).regs.length:=by omega
 have rr:x.r.toNat<(s.ths.getD i default).regs.length:=by omega
 have rb:x.b.toNat<(s.ths.getD i default).regs.length:=by omega
 have rbs :∀v,x.b.toNat<((s.ths.getD i default).regs.set x.r.toNat v).length:=fun v=>by rw [List.length_set]; exact rb
 simp only [go_sem,seval,aT,qS3,qT .own s.ths i hi,uW .own s.chs x.n.toNat hj,gt,gc,qZh,qI (s.ths.getD i default).regs x.a.toNat ra]
 repeat refine K ?_
 by_cases h5:x.op=5
 ·simp only [go_sem,seval,h5,gt,gc,qZh,qI (s.ths.getD i default).regs x.a.toNat ra,qI (s.ths.getD i default).regs x.r.toNat rr]
  repeat refine K ?_
  refine DA [] (rX (s.chs.getD x.n.toNat default) ((s.ths.getD i default).regs.getD x.a.toNat 0) (by omega)) ?_
  try simp only [go_sem,seval]
  repeat refine K ?_
  try simp only [go_sem,seval,h5,gt,gc,qZh,qI (s.ths.getD i default).regs x.a.toNat ra,qI (s.ths.getD i default).regs x.r.toNat rr]
  repeat refine K ?_
  apply wG (by simp)
  ·refine Sub.trans (Sub.foldAt 0 1 13 rfl (by simp [-gD]<;>omega) rfl (by decide) (by decide) rfl (by simp<;>omega)) ?_
   simp only [fS,qA,qC]
   refine Sub.trans (Sub.foldAt 1 1 16 rfl (by simp [-gD]<;>omega) rfl (by decide) (by decide) rfl (by simp<;>omega)) ?_
   simp only [fS,qA,qC]
   exact Sub.refl _
  ·simp [-qZ8,-gD,qQ,jG,jY,reg,wX,h5]<;>(first | rfl | exact ⟨rfl,rfl⟩ | exact ⟨rfl,rfl,rfl⟩ | skip)
 by_cases h7:x.op=7
 ·simp only [go_sem,seval,h7,gt,gc,qZh,qI (s.ths.getD i default).regs x.a.toNat ra,qI (s.ths.getD i default).regs x.r.toNat rr]
  repeat refine K ?_
  refine DA [] (rX (s.chs.getD x.n.toNat default) ((s.ths.getD i default).regs.getD x.a.toNat 0) (by omega)) ?_
  try simp only [go_sem,seval]
  by_cases hk:(yD (s.chs.getD x.n.toNat default) ((s.ths.getD i default).regs.getD x.a.toNat 0)).2=2
  ·simp only [go_sem,seval,h7,hk,gt,gc,qZh,qI (s.ths.getD i default).regs x.a.toNat ra,qI (s.ths.getD i default).regs x.r.toNat rr]
   repeat refine K ?_
   apply wG (by simp)
   ·refine Sub.trans (Sub.foldAt 0 1 13 rfl (by simp [-gD]<;>omega) rfl (by decide) (by decide) rfl (by simp<;>omega)) ?_
    simp only [fS,qA,qC]
    refine Sub.trans (Sub.foldAt 1 1 16 rfl (by simp [-gD]<;>omega) rfl (by decide) (by decide) rfl (by simp<;>omega)) ?_
    simp only [fS,qA,qC]
    exact Sub.refl _
   ·simp [-qZ8,-gD,qQ,jG,jY,reg,wX,h7,hk]<;>(first | rfl | exact ⟨rfl,rfl⟩ | exact ⟨rfl,rfl,rfl⟩ | skip)
  ·simp only [go_sem,seval,h7,hk,gt,gc,qZh,qI (s.ths.getD i default).regs x.a.toNat ra,qI (s.ths.getD i default).regs x.r.toNat rr]
   repeat refine K ?_
   refine DA [] (kJ (decide ((yD (s.chs.getD x.n.toNat default) ((s.ths.getD i default).regs.getD x.a.toNat 0)).2=0))) ?_
   try simp only [go_sem,seval]
   repeat refine K ?_
   try simp only [go_sem,seval,h7,hk,gt,gc,qZh,qI (s.ths.getD i default).regs x.a.toNat ra,qI (s.ths.getD i default).regs x.r.toNat rr]
   repeat refine K ?_
   apply wG (by simp)
   ·refine Sub.trans (Sub.foldAt 0 1 13 rfl (by simp [-gD]<;>omega) rfl (by decide) (by decide) rfl (by simp<;>omega)) ?_
    simp only [fS,qA,qC]
    refine Sub.trans (Sub.foldAt 1 1 16 rfl (by simp [-gD]<;>omega) rfl (by decide) (by decide) rfl (by simp<;>omega)) ?_
    simp only [fS,qA,qC]
    exact Sub.refl _
   ·simp [-qZ8,-gD,qQ,jG,jY,reg,wX,h7,hk]<;>(first | rfl | exact ⟨rfl,rfl⟩ | exact ⟨rfl,rfl,rfl⟩ | skip)
 by_cases h9:x.op=9
 ·simp only [go_sem,seval,h9,gt,gc,qZh,qI (s.ths.getD i default).regs x.a.toNat ra,qI (s.ths.getD i default).regs x.r.toNat rr]
  refine CA [] (qDp (s.chs.getD x.n.toNat default) (by omega)) ?_
  try simp only [go_sem,seval]
  repeat refine K ?_
  try simp only [go_sem,seval,h9,gt,gc,qZh,qI (s.ths.getD i default).regs x.a.toNat ra,qI (s.ths.getD i default).regs x.r.toNat rr]
  repeat refine K ?_
  apply wG (by simp)
  ·refine Sub.trans (Sub.foldAt 0 1 13 rfl (by simp [-gD]<;>omega) rfl (by decide) (by decide) rfl (by simp<;>omega)) ?_
   simp only [fS,qA,qC]
   refine Sub.trans (Sub.foldAt 1 1 16 rfl (by simp [-gD]<;>omega) rfl (by decide) (by decide) rfl (by simp<;>omega)) ?_
   simp only [fS,qA,qC]
   exact Sub.refl _
  ·simp [-qZ8,-gD,qQ,jG,jY,reg,wX,h9]<;>(first | rfl | exact ⟨rfl,rfl⟩ | exact ⟨rfl,rfl,rfl⟩ | skip)
 by_cases h6:x.op=6
 ·simp only [go_sem,seval,h6,gt,gc,qZh,qI (s.ths.getD i default).regs x.a.toNat ra,qI (s.ths.getD i default).regs x.r.toNat rr]
  refine CA [] (rW (s.chs.getD x.n.toNat default) (by omega)) ?_
  try simp only [go_sem,seval]
  by_cases hk:(wM (s.chs.getD x.n.toNat default)).2.2=1
  ·simp only [go_sem,seval,h6,hk,gt,gc,qZh,qI (s.ths.getD i default).regs x.a.toNat ra,qI (s.ths.getD i default).regs x.r.toNat rr]
   repeat refine K ?_
   apply wG (by simp)
   ·refine Sub.trans (Sub.foldAt 0 1 13 rfl (by simp [-gD]<;>omega) rfl (by decide) (by decide) rfl (by simp<;>omega)) ?_
    simp only [fS,qA,qC]
    refine Sub.trans (Sub.foldAt 1 1 16 rfl (by simp [-gD]<;>omega) rfl (by decide) (by decide) rfl (by simp<;>omega)) ?_
    simp only [fS,qA,qC]
    exact Sub.refl _
   ·simp [-qZ8,-gD,qQ,jG,jY,reg,wX,h6,hk]<;>(first | rfl | exact ⟨rfl,rfl⟩ | exact ⟨rfl,rfl,rfl⟩ | skip)
  ·simp only [go_sem,seval,h6,hk,gt,gc,qZh,qI (s.ths.getD i default).regs x.a.toNat ra,qI (s.ths.getD i default).regs x.r.toNat rr]
   repeat refine K ?_
   refine DA [] (kJ (decide ((wM (s.chs.getD x.n.toNat default)).2.2=0))) ?_
   try simp only [go_sem,seval]
   repeat refine K ?_
   try simp only [go_sem,seval,h6,hk,gt,gc,qZh,qI (s.ths.getD i default).regs x.a.toNat ra,qI (s.ths.getD i default).regs x.r.toNat rr,qI _ x.b.toNat (rbs _)]
   repeat refine K ?_
   apply wG (by simp)
   ·refine Sub.trans (Sub.foldAt 0 1 13 rfl (by simp [-gD]<;>omega) rfl (by decide) (by decide) rfl (by simp<;>omega)) ?_
    simp only [fS,qA,qC]
    refine Sub.trans (Sub.foldAt 1 1 16 rfl (by simp [-gD]<;>omega) rfl (by decide) (by decide) rfl (by simp<;>omega)) ?_
    simp only [fS,qA,qC]
    exact Sub.refl _
   ·simp [-qZ8,-gD,qQ,jG,jY,reg,wX,h6,hk]<;>(first | rfl | exact ⟨rfl,rfl⟩ | exact ⟨rfl,rfl,rfl⟩ | skip)
 simp only [go_sem,seval,h5,h6,h7,h9,gt,gc,qZh,qI (s.ths.getD i default).regs x.a.toNat ra,qI (s.ths.getD i default).regs x.r.toNat rr]
 refine CA [] (rW (s.chs.getD x.n.toNat default) (by omega)) ?_
 try simp only [go_sem,seval]
 repeat refine K ?_
 obtain ⟨c0,c1⟩:=qJy (s.chs.getD x.n.toNat default)
 have hk:(wM (s.chs.getD x.n.toNat default)).2.2.toNat<4:=by omega
 have hl4:wS [1,0,0,2]=[[AV.int .i64 1],[.int .i64 0],[.int .i64 0],[.int .i64 2]]:=rfl
 have hg:([[AV.int .i64 1],[.int .i64 0],[.int .i64 0],[.int .i64 2]]:List (List AV)).getD (wM (s.chs.getD x.n.toNat default)).2.2.toNat []=[.int .i64 ([1,0,0,2].getD (wM (s.chs.getD x.n.toNat default)).2.2.toNat 0)]:=by
  rw [←hl4]
  exact qI _ _ hk
 try simp only [go_sem,seval,h5,h6,h7,h9,gt,gc,qZh,qI (s.ths.getD i default).regs x.a.toNat ra,qI (s.ths.getD i default).regs x.r.toNat rr,qI _ x.b.toNat (rbs _),hg]
 repeat refine K ?_
 apply wG (by simp)
 ·refine Sub.trans (Sub.foldAt 0 1 13 rfl (by simp [-gD]<;>omega) rfl (by decide) (by decide) rfl (by simp<;>omega)) ?_
  simp only [fS,qA,qC]
  refine Sub.trans (Sub.foldAt 1 1 16 rfl (by simp [-gD]<;>omega) rfl (by decide) (by decide) rfl (by simp<;>omega)) ?_
  simp only [fS,qA,qC]
  exact Sub.refl _
 ·simp [-qZ8,-gD,qQ,jG,jY,reg,wX,h5,h6,h7,h9]<;>(first | rfl | exact ⟨rfl,rfl⟩ | exact ⟨rfl,rfl,rfl⟩ | skip)
def jP (p:wV) (s:wL) (i:Nat):wL×Int :=
 if (ins p s i).op=1 then (sC p ⟨s.ths.set i (wX (s.ths.getD i default) (ins p s i).r (ins p s i).n),s.chs,s.tr⟩ i ((s.ths.getD i default).at_+1),0)
 else if (ins p s i).op=2∨(ins p s i).op=3∨(ins p s i).op=4 then
  (sC p ⟨s.ths.set i (wX (s.ths.getD i default) (ins p s i).r (gF (ins p s i).op (reg (s.ths.getD i default) (ins p s i).a) (reg (s.ths.getD i default) (ins p s i).b))),s.chs,s.tr⟩ i ((s.ths.getD i default).at_+1),0)
 else if (ins p s i).op=10 then if (s.tr.length:Int)=4000 then (s,3) else (sC p ⟨s.ths,s.chs,s.tr++[⟨i,reg (s.ths.getD i default) (ins p s i).a⟩]⟩ i ((s.ths.getD i default).at_+1),0)
 else if (ins p s i).op=11 then (sC p s i (ins p s i).n,0)
 else if (ins p s i).op=12 then (sC p s i (if reg (s.ths.getD i default) (ins p s i).a=0 then (ins p s i).n else (s.ths.getD i default).at_+1),0)
 else if (ins p s i).op=13 then (⟨s.ths.set i ⟨(s.ths.getD i default).at_,(s.ths.getD i default).regs,1⟩,s.chs,s.tr⟩,0)
 else if (jY (s.ths.getD i default) (s.chs.getD (ins p s i).n.toNat default) (ins p s i)).2.2=1 then
  (⟨s.ths.set i (jY (s.ths.getD i default) (s.chs.getD (ins p s i).n.toNat default) (ins p s i)).1,s.chs.set (ins p s i).n.toNat (jY (s.ths.getD i default) (s.chs.getD (ins p s i).n.toNat default) (ins p s i)).2.1,s.tr⟩,4)
 else if (jY (s.ths.getD i default) (s.chs.getD (ins p s i).n.toNat default) (ins p s i)).2.2=2 then
  (⟨s.ths.set i ⟨(jY (s.ths.getD i default) (s.chs.getD (ins p s i).n.toNat default) (ins p s i)).1.at_,(jY (s.ths.getD i default) (s.chs.getD (ins p s i).n.toNat default) (ins p s i)).1.regs,2⟩,s.chs.set (ins p s i).n.toNat (jY (s.ths.getD i default) (s.chs.getD (ins p s i).n.toNat default) (ins p s i)).2.1,s.tr⟩,0)
 else (sC p ⟨s.ths.set i (jY (s.ths.getD i default) (s.chs.getD (ins p s i).n.toNat default) (ins p s i)).1,s.chs.set (ins p s i).n.toNat (jY (s.ths.getD i default) (s.chs.getD (ins p s i).n.toNat default) (ins p s i)).2.1,s.tr⟩ i ((s.ths.getD i default).at_+1),0)
theorem qEe (p:wV) (s:wL) (i:Nat) (hp:uD p) (hs:iF s) (h:wO p s=true) (hi:i<s.ths.length) (htr:s.tr.length≤4000):qU Tryz.prog num 66 [.agg (jA .bw p),qS3 s,.int .i64 i] (aT s) (.tup [.agg (yM .own (jP p s i).1),.int .i64 (jP p s i).2]):=by
 have w1:=hi
 obtain ⟨hs1,hs2,hs3,hs4,hs5⟩:=hs
 refine EH m66 Tryz.func219 (hh:=qLr s) ?_
 unfold m66
 have ha:=qLa h hi
 have e1:=ha.at0
 have e2:=ha.at1
 have e3:=ha.hb
 have e4:=ha.regs
 have e5:=ha.len
 have r0:=ha.r0
 have r1:=ha.r1
 have a0:=ha.a0
 have a1:=ha.a1
 have b0:=ha.b0
 have b1:=ha.b1
 have hx:(p.bods.getD i []).getD (s.ths.getD i default).at_.toNat default=ins p s i:=rfl
 have gt :∀r,((yT .own s.ths).set i r).getD i []=r:=fun r=>wH _ _ _ _ (by rw [gB]; exact w1)
 have ra:(ins p s i).a.toNat<(s.ths.getD i default).regs.length:=by omega
 have rr:(ins p s i).r.toNat<(s.ths.getD i default).regs.length:=by omega
 have rb:(ins p s i).b.toNat<(s.ths.getD i default).regs.length:=by omega
 have hw1:IntKind.i64.wrap ((s.ths.getD i default).at_+1)=(s.ths.getD i default).at_+1:=wK (by omega) (by omega)
 simp only [go_sem,seval,aT,qS3,gt,qT .own s.ths i w1,qZ .bw p.bods i ha.hb,qZh,hw1,gM (p.bods.getD i []) (s.ths.getD i default).at_.toNat ha.at1,hx]
 repeat refine K ?_
 have hself:s.ths.set i ⟨(s.ths.getD i default).at_,(s.ths.getD i default).regs,(s.ths.getD i default).st⟩=s.ths:=wR s.ths i default w1
 by_cases h1:(ins p s i).op=1
 ·simp only [go_sem,seval,h1,aT,gt,qT .own s.ths i w1,qZ .bw p.bods i ha.hb,qZh,qI (s.ths.getD i default).regs (ins p s i).r.toNat rr,qI (s.ths.getD i default).regs (ins p s i).a.toNat ra,qI (s.ths.getD i default).regs (ins p s i).b.toNat rb,hw1]
  repeat refine K ?_
  apply uX
  ·refine Sub.trans (Sub.foldAt 0 1 14 rfl (by simp [-gD]<;>omega) rfl (by decide) (by decide) rfl (by simp<;>omega)) ?_
   simp only [fS,qA,qC,qQ]
   exact Sub.refl _
  refine CA [(0,0),(1,1),(2,2)] (lM p ⟨s.ths.set i ⟨(s.ths.getD i default).at_,(s.ths.getD i default).regs.set (ins p s i).r.toNat (ins p s i).n,(s.ths.getD i default).st⟩,s.chs,s.tr⟩ i ((s.ths.getD i default).at_+1) (by simp; exact w1) e3 (by omega)) ?_
  try simp only [go_sem,seval]
  try simp only [go_sem,seval,h1,aT,gt,qT .own s.ths i w1,qZ .bw p.bods i ha.hb,qZh,qI (s.ths.getD i default).regs (ins p s i).r.toNat rr,qI (s.ths.getD i default).regs (ins p s i).a.toNat ra,qI (s.ths.getD i default).regs (ins p s i).b.toNat rb,hw1]
  apply wG (by simp)
  ·exact Sub.refl _
  ·simp [-qZ8,-gD,qQ,jG,jP,wX,reg,gF,h1]<;>(first | rfl | exact ⟨rfl,rfl⟩ | exact ⟨rfl,rfl,rfl⟩ | skip)
 by_cases h2:(ins p s i).op=2
 ·simp only [go_sem,seval,h2,aT,gt,qT .own s.ths i w1,qZ .bw p.bods i ha.hb,qZh,qI (s.ths.getD i default).regs (ins p s i).r.toNat rr,qI (s.ths.getD i default).regs (ins p s i).a.toNat ra,qI (s.ths.getD i default).regs (ins p s i).b.toNat rb,hw1]
  repeat refine K ?_
  apply uX
  ·refine Sub.trans (Sub.foldAt 0 1 14 rfl (by simp [-gD]<;>omega) rfl (by decide) (by decide) rfl (by simp<;>omega)) ?_
   simp only [fS,qA,qC,qQ]
   exact Sub.refl _
  refine CA [(0,0),(1,1),(2,2)] (lM p ⟨s.ths.set i ⟨(s.ths.getD i default).at_,(s.ths.getD i default).regs.set (ins p s i).r.toNat (IntKind.i64.wrap ((s.ths.getD i default).regs.getD (ins p s i).a.toNat 0+(s.ths.getD i default).regs.getD (ins p s i).b.toNat 0)),(s.ths.getD i default).st⟩,s.chs,s.tr⟩ i ((s.ths.getD i default).at_+1) (by simp; exact w1) e3 (by omega)) ?_
  try simp only [go_sem,seval]
  try simp only [go_sem,seval,h2,aT,gt,qT .own s.ths i w1,qZ .bw p.bods i ha.hb,qZh,qI (s.ths.getD i default).regs (ins p s i).r.toNat rr,qI (s.ths.getD i default).regs (ins p s i).a.toNat ra,qI (s.ths.getD i default).regs (ins p s i).b.toNat rb,hw1]
  apply wG (by simp)
  ·exact Sub.refl _
  ·simp [-qZ8,-gD,qQ,jG,jP,wX,reg,gF,h2]<;>(first | rfl | exact ⟨rfl,rfl⟩ | exact ⟨rfl,rfl,rfl⟩ | skip)
 by_cases h3:(ins p s i).op=3
 ·simp only [go_sem,seval,h3,aT,gt,qT .own s.ths i w1,qZ .bw p.bods i ha.hb,qZh,qI (s.ths.getD i default).regs (ins p s i).r.toNat rr,qI (s.ths.getD i default).regs (ins p s i).a.toNat ra,qI (s.ths.getD i default).regs (ins p s i).b.toNat rb,hw1]
  repeat refine K ?_
  apply uX
  ·refine Sub.trans (Sub.foldAt 0 1 14 rfl (by simp [-gD]<;>omega) rfl (by decide) (by decide) rfl (by simp<;>omega)) ?_
   simp only [fS,qA,qC,qQ]
   exact Sub.refl _
  refine CA [(0,0),(1,1),(2,2)] (lM p ⟨s.ths.set i ⟨(s.ths.getD i default).at_,(s.ths.getD i default).regs.set (ins p s i).r.toNat (IntKind.i64.wrap ((s.ths.getD i default).regs.getD (ins p s i).a.toNat 0-(s.ths.getD i default).regs.getD (ins p s i).b.toNat 0)),(s.ths.getD i default).st⟩,s.chs,s.tr⟩ i ((s.ths.getD i default).at_+1) (by simp; exact w1) e3 (by omega)) ?_
  try simp only [go_sem,seval]
  try simp only [go_sem,seval,h3,aT,gt,qT .own s.ths i w1,qZ .bw p.bods i ha.hb,qZh,qI (s.ths.getD i default).regs (ins p s i).r.toNat rr,qI (s.ths.getD i default).regs (ins p s i).a.toNat ra,qI (s.ths.getD i default).regs (ins p s i).b.toNat rb,hw1]
  apply wG (by simp)
  ·exact Sub.refl _
  ·simp [-qZ8,-gD,qQ,jG,jP,wX,reg,gF,h3]<;>(first | rfl | exact ⟨rfl,rfl⟩ | exact ⟨rfl,rfl,rfl⟩ | skip)
 by_cases h4:(ins p s i).op=4
 ·simp only [go_sem,seval,h4,aT,gt,qT .own s.ths i w1,qZ .bw p.bods i ha.hb,qZh,qI (s.ths.getD i default).regs (ins p s i).r.toNat rr,qI (s.ths.getD i default).regs (ins p s i).a.toNat ra,qI (s.ths.getD i default).regs (ins p s i).b.toNat rb,hw1]
  repeat refine K ?_
  refine DA [] (kJ (decide ((s.ths.getD i default).regs.getD (ins p s i).a.toNat 0<(s.ths.getD i default).regs.getD (ins p s i).b.toNat 0))) ?_
  try simp only [go_sem,seval]
  repeat refine K ?_
  try simp only [go_sem,seval,h4,aT,gt,qT .own s.ths i w1,qZ .bw p.bods i ha.hb,qZh,qI (s.ths.getD i default).regs (ins p s i).r.toNat rr,qI (s.ths.getD i default).regs (ins p s i).a.toNat ra,qI (s.ths.getD i default).regs (ins p s i).b.toNat rb,hw1]
  repeat refine K ?_
  apply uX
  ·refine Sub.trans (Sub.foldAt 0 1 14 rfl (by simp [-gD]<;>omega) rfl (by decide) (by decide) rfl (by simp<;>omega)) ?_
   simp only [fS,qA,qC,qQ]
   exact Sub.refl _
  refine CA [(0,0),(1,1),(2,2)] (lM p ⟨s.ths.set i ⟨(s.ths.getD i default).at_,(s.ths.getD i default).regs.set (ins p s i).r.toNat (uM (decide ((s.ths.getD i default).regs.getD (ins p s i).a.toNat 0<(s.ths.getD i default).regs.getD (ins p s i).b.toNat 0))),(s.ths.getD i default).st⟩,s.chs,s.tr⟩ i ((s.ths.getD i default).at_+1) (by simp; exact w1) e3 (by omega)) ?_
  try simp only [go_sem,seval]
  try simp only [go_sem,seval,h4,aT,gt,qT .own s.ths i w1,qZ .bw p.bods i ha.hb,qZh,qI (s.ths.getD i default).regs (ins p s i).r.toNat rr,qI (s.ths.getD i default).regs (ins p s i).a.toNat ra,qI (s.ths.getD i default).regs (ins p s i).b.toNat rb,hw1]
  apply wG (by simp)
  ·exact Sub.refl _
  ·simp [-qZ8,-gD,qQ,jG,jP,wX,reg,gF,h4]<;>(first | rfl | exact ⟨rfl,rfl⟩ | exact ⟨rfl,rfl,rfl⟩ | skip)
 by_cases h10:(ins p s i).op=10
 ·simp only [go_sem,seval,h10,aT,gt,qT .own s.ths i w1,qZ .bw p.bods i ha.hb,qZh,qI (s.ths.getD i default).regs (ins p s i).r.toNat rr,qI (s.ths.getD i default).regs (ins p s i).a.toNat ra,qI (s.ths.getD i default).regs (ins p s i).b.toNat rb,hw1]
  by_cases hn:(s.tr.length:Int)=4000
  ·simp only [go_sem,seval,h10,hn,aT,gt,qT .own s.ths i w1,qZ .bw p.bods i ha.hb,qZh,qI (s.ths.getD i default).regs (ins p s i).r.toNat rr,qI (s.ths.getD i default).regs (ins p s i).a.toNat ra,qI (s.ths.getD i default).regs (ins p s i).b.toNat rb,hw1]
   apply wG (by simp)
   ·refine Sub.trans (Sub.foldAt 0 1 14 rfl (by simp [-gD]<;>omega) rfl (by decide) (by decide) rfl (by simp<;>omega)) ?_
    simp only [fS,qA,qC,qQ]
    exact Sub.refl _
   ·simp [-qZ8,-gD,qQ,jG,jP,wX,reg,gF,h10,hn,hself]<;>(first | rfl | exact ⟨rfl,rfl⟩ | exact ⟨rfl,rfl,rfl⟩ | skip)
  ·simp only [go_sem,seval,h10,hn,aT,gt,qT .own s.ths i w1,qZ .bw p.bods i ha.hb,qZh,qI (s.ths.getD i default).regs (ins p s i).r.toNat rr,qI (s.ths.getD i default).regs (ins p s i).a.toNat ra,qI (s.ths.getD i default).regs (ins p s i).b.toNat rb,hw1]
   repeat refine K ?_
   apply uX
   ·refine Sub.trans (Sub.foldAt 0 1 14 rfl (by simp [-gD]<;>omega) rfl (by decide) (by decide) rfl (by simp<;>omega)) ?_
    simp only [fS,qA,qC,qQ,hself,yQ,wT]
    exact Sub.refl _
   refine CA [(0,0),(1,1),(2,16)] (lM p ⟨s.ths,s.chs,s.tr++[⟨i,(s.ths.getD i default).regs.getD (ins p s i).a.toNat 0⟩]⟩ i ((s.ths.getD i default).at_+1) w1 e3 (by omega)) ?_
   try simp only [go_sem,seval]
   try simp only [go_sem,seval,h10,hn,aT,gt,qT .own s.ths i w1,qZ .bw p.bods i ha.hb,qZh,qI (s.ths.getD i default).regs (ins p s i).r.toNat rr,qI (s.ths.getD i default).regs (ins p s i).a.toNat ra,qI (s.ths.getD i default).regs (ins p s i).b.toNat rb,hw1]
   apply wG (by simp)
   ·exact Sub.refl _
   ·simp [-qZ8,-gD,qQ,jG,jP,wX,reg,gF,h10,hn]<;>(first | rfl | exact ⟨rfl,rfl⟩ | exact ⟨rfl,rfl,rfl⟩ | skip)
 by_cases h11:(ins p s i).op=11
 ·simp only [go_sem,seval,h11,aT,gt,qT .own s.ths i w1,qZ .bw p.bods i ha.hb,qZh,qI (s.ths.getD i default).regs (ins p s i).r.toNat rr,qI (s.ths.getD i default).regs (ins p s i).a.toNat ra,qI (s.ths.getD i default).regs (ins p s i).b.toNat rb,hw1]
  apply uX
  ·refine Sub.trans (Sub.foldAt 0 1 14 rfl (by simp [-gD]<;>omega) rfl (by decide) (by decide) rfl (by simp<;>omega)) ?_
   simp only [fS,qA,qC,qQ,hself]
   exact Sub.refl _
  refine CA [(0,0),(1,1),(2,2)] (lM p s i ((ins p s i).n) w1 e3 (by omega)) ?_
  try simp only [go_sem,seval]
  try simp only [go_sem,seval,h11,aT,gt,qT .own s.ths i w1,qZ .bw p.bods i ha.hb,qZh,qI (s.ths.getD i default).regs (ins p s i).r.toNat rr,qI (s.ths.getD i default).regs (ins p s i).a.toNat ra,qI (s.ths.getD i default).regs (ins p s i).b.toNat rb,hw1]
  apply wG (by simp)
  ·exact Sub.refl _
  ·simp [-qZ8,-gD,qQ,jG,jP,wX,reg,gF,h11]<;>(first | rfl | exact ⟨rfl,rfl⟩ | exact ⟨rfl,rfl,rfl⟩ | skip)
 by_cases h12:(ins p s i).op=12
 ·simp only [go_sem,seval,h12,aT,gt,qT .own s.ths i w1,qZ .bw p.bods i ha.hb,qZh,qI (s.ths.getD i default).regs (ins p s i).r.toNat rr,qI (s.ths.getD i default).regs (ins p s i).a.toNat ra,qI (s.ths.getD i default).regs (ins p s i).b.toNat rb,hw1]
  repeat refine K ?_
  by_cases hz:(s.ths.getD i default).regs.getD (ins p s i).a.toNat 0=0
  ·simp only [go_sem,seval,h12,hz,aT,gt,qT .own s.ths i w1,qZ .bw p.bods i ha.hb,qZh,qI (s.ths.getD i default).regs (ins p s i).r.toNat rr,qI (s.ths.getD i default).regs (ins p s i).a.toNat ra,qI (s.ths.getD i default).regs (ins p s i).b.toNat rb,hw1]
   apply uX
   ·refine Sub.trans (Sub.foldAt 0 1 14 rfl (by simp [-gD]<;>omega) rfl (by decide) (by decide) rfl (by simp<;>omega)) ?_
    simp only [fS,qA,qC,qQ,hself]
    exact Sub.refl _
   refine CA [(0,0),(1,1),(2,2)] (lM p s i ((ins p s i).n) w1 e3 (by omega)) ?_
   try simp only [go_sem,seval]
   try simp only [go_sem,seval,h12,hz,aT,gt,qT .own s.ths i w1,qZ .bw p.bods i ha.hb,qZh,qI (s.ths.getD i default).regs (ins p s i).r.toNat rr,qI (s.ths.getD i default).regs (ins p s i).a.toNat ra,qI (s.ths.getD i default).regs (ins p s i).b.toNat rb,hw1]
   apply wG (by simp)
   ·exact Sub.refl _
   ·simp [-qZ8,-gD,qQ,jG,jP,wX,reg,gF,h12,hz]<;>(first | rfl | exact ⟨rfl,rfl⟩ | exact ⟨rfl,rfl,rfl⟩ | skip)
  ·simp only [go_sem,seval,h12,hz,aT,gt,qT .own s.ths i w1,qZ .bw p.bods i ha.hb,qZh,qI (s.ths.getD i default).regs (ins p s i).r.toNat rr,qI (s.ths.getD i default).regs (ins p s i).a.toNat ra,qI (s.ths.getD i default).regs (ins p s i).b.toNat rb,hw1]
   apply uX
   ·refine Sub.trans (Sub.foldAt 0 1 14 rfl (by simp [-gD]<;>omega) rfl (by decide) (by decide) rfl (by simp<;>omega)) ?_
    simp only [fS,qA,qC,qQ,hself]
    exact Sub.refl _
   refine CA [(0,0),(1,1),(2,2)] (lM p s i ((s.ths.getD i default).at_+1) w1 e3 (by omega)) ?_
   try simp only [go_sem,seval]
   try simp only [go_sem,seval,h12,hz,aT,gt,qT .own s.ths i w1,qZ .bw p.bods i ha.hb,qZh,qI (s.ths.getD i default).regs (ins p s i).r.toNat rr,qI (s.ths.getD i default).regs (ins p s i).a.toNat ra,qI (s.ths.getD i default).regs (ins p s i).b.toNat rb,hw1]
   apply wG (by simp)
   ·exact Sub.refl _
   ·simp [-qZ8,-gD,qQ,jG,jP,wX,reg,gF,h12,hz]<;>(first | rfl | exact ⟨rfl,rfl⟩ | exact ⟨rfl,rfl,rfl⟩ | skip)
 by_cases h13:(ins p s i).op=13
 ·simp only [go_sem,seval,h13,aT,gt,qT .own s.ths i w1,qZ .bw p.bods i ha.hb,qZh,qI (s.ths.getD i default).regs (ins p s i).r.toNat rr,qI (s.ths.getD i default).regs (ins p s i).a.toNat ra,qI (s.ths.getD i default).regs (ins p s i).b.toNat rb,hw1]
  repeat refine K ?_
  apply wG (by simp)
  ·refine Sub.trans (Sub.foldAt 0 1 14 rfl (by simp [-gD]<;>omega) rfl (by decide) (by decide) rfl (by simp<;>omega)) ?_
   simp only [fS,qA,qC,qQ]
   exact Sub.refl _
  ·simp [-qZ8,-gD,qQ,jG,jP,wX,reg,gF,h13]<;>(first | rfl | exact ⟨rfl,rfl⟩ | exact ⟨rfl,rfl,rfl⟩ | skip)
 obtain ⟨n0,n1⟩:=ha.ch (by have:=ha.op; omega) (by have:=ha.op; omega)
 simp only [go_sem,seval,h1,h2,h3,h4,h10,h11,h12,h13,aT,gt,qT .own s.ths i w1,qZ .bw p.bods i ha.hb,qZh,qI (s.ths.getD i default).regs (ins p s i).r.toNat rr,qI (s.ths.getD i default).regs (ins p s i).a.toNat ra,qI (s.ths.getD i default).regs (ins p s i).b.toNat rb,hw1]
 apply uX
 ·refine Sub.trans (Sub.foldAt 0 1 14 rfl (by simp [-gD]<;>omega) rfl (by decide) (by decide) rfl (by simp<;>omega)) ?_
  simp only [fS,qA,qC,qQ,hself]
  exact Sub.refl _
 refine CA [(0,0),(1,1),(2,2)] (qSu s i (ins p s i) w1 n0 n1 e4 (hs5 _ (yB s.chs _ default n1)) r0 r1 a0 a1 b0 b1) ?_
 try simp only [go_sem,seval]
 have g3:i<(s.ths.set i (jY (s.ths.getD i default) (s.chs.getD (ins p s i).n.toNat default) (ins p s i)).1).length:=by rw [List.length_set]; exact w1
 have g4 :∀t:vA,(s.ths.set i t).getD i default=t:=fun t=>wH _ _ _ _ w1
 try simp only [go_sem,seval,h1,h2,h3,h4,h10,h11,h12,h13,aT,gt,qT .own s.ths i w1,qZ .bw p.bods i ha.hb,qZh,qI (s.ths.getD i default).regs (ins p s i).r.toNat rr,qI (s.ths.getD i default).regs (ins p s i).a.toNat ra,qI (s.ths.getD i default).regs (ins p s i).b.toNat rb,hw1]
 by_cases k1:(jY (s.ths.getD i default) (s.chs.getD (ins p s i).n.toNat default) (ins p s i)).2.2=1
 ·simp only [go_sem,seval,k1,aT,gt,qT .own s.ths i w1,qZ .bw p.bods i ha.hb,qZh,qI (s.ths.getD i default).regs (ins p s i).r.toNat rr,qI (s.ths.getD i default).regs (ins p s i).a.toNat ra,qI (s.ths.getD i default).regs (ins p s i).b.toNat rb,hw1]
  apply wG (by simp)
  ·exact Sub.refl _
  ·simp [-qZ8,-gD,qQ,jG,jP,wX,reg,gF,h1,h2,h3,h4,h10,h11,h12,h13,k1]<;>(first | rfl | exact ⟨rfl,rfl⟩ | exact ⟨rfl,rfl,rfl⟩ | skip)
 by_cases k2:(jY (s.ths.getD i default) (s.chs.getD (ins p s i).n.toNat default) (ins p s i)).2.2=2
 ·simp only [go_sem,seval,k2,aT,gt,qT .own s.ths i w1,qZ .bw p.bods i ha.hb,qZh,qI (s.ths.getD i default).regs (ins p s i).r.toNat rr,qI (s.ths.getD i default).regs (ins p s i).a.toNat ra,qI (s.ths.getD i default).regs (ins p s i).b.toNat rb,hw1,qT .own _ i g3,g4]
  repeat refine K ?_
  apply wG (by simp)
  ·exact Sub.refl _
  ·simp [-qZ8,-gD,qQ,jG,jP,wX,reg,gF,h1,h2,h3,h4,h10,h11,h12,h13,k2]<;>(first | rfl | exact ⟨rfl,rfl⟩ | exact ⟨rfl,rfl,rfl⟩ | skip)
 simp only [go_sem,seval,k1,k2,aT,gt,qT .own s.ths i w1,qZ .bw p.bods i ha.hb,qZh,qI (s.ths.getD i default).regs (ins p s i).r.toNat rr,qI (s.ths.getD i default).regs (ins p s i).a.toNat ra,qI (s.ths.getD i default).regs (ins p s i).b.toNat rb,hw1]
 refine CA [(0,15),(1,16),(2,17)] (lM p ⟨s.ths.set i (jY (s.ths.getD i default) (s.chs.getD (ins p s i).n.toNat default) (ins p s i)).1,s.chs.set (ins p s i).n.toNat (jY (s.ths.getD i default) (s.chs.getD (ins p s i).n.toNat default) (ins p s i)).2.1,s.tr⟩ i ((s.ths.getD i default).at_+1) (by simp; exact w1) e3 (by omega)) ?_
 try simp only [go_sem,seval]
 try simp only [go_sem,seval,h1,h2,h3,h4,h10,h11,h12,h13,k1,k2,aT,gt,qT .own s.ths i w1,qZ .bw p.bods i ha.hb,qZh,qI (s.ths.getD i default).regs (ins p s i).r.toNat rr,qI (s.ths.getD i default).regs (ins p s i).a.toNat ra,qI (s.ths.getD i default).regs (ins p s i).b.toNat rb,hw1]
 apply wG (by simp)
 ·exact Sub.refl _
 ·simp [-qZ8,-gD,qQ,jG,jP,wX,reg,gF,h1,h2,h3,h4,h10,h11,h12,h13,k1,k2]<;>(first | rfl | exact ⟨rfl,rfl⟩ | exact ⟨rfl,rfl,rfl⟩ | skip)
end Go.Sep
