/- Contracts of functions. -/
import Derived.Test.YtfecojefbnnknaaGreatRxx3
import Derived.Test.YtfecojefbnnknaaGreatRxx4
open Int renaming toNat_natCast → wDg
open List renaming drop_one → wD9
namespace Go.Sep
set_option maxHeartbeats 16000000
open Go.Proofs
set_option linter.unusedSimpArgs false
set_option linter.unusedVariables false
set_option maxRecDepth 100000
open Nat renaming reduceAdd → qA, reduceMul → qB, reduceEqDiff → qC, reduceBEq → qD
open Int renaming reduceToNat → qE, reduceEq → qF, reduceLT → qG, reduceLE → qH
open List renaming getD_eq_getElem?_getD → gD
def m43:MFn:=⟨156,[.t 6],kr [xb 3 0,xI 6 0] (kr [xm 12 2 3,xv 13 1,xv 14 2,xc3 15 41 (.t 12) (.t 13) (.t 14),xv 7 15] (.seq (kr [xv 16 7,bI 17 .neq 16 0] (kF 17 [xv 18 7,xv 6 18])) (kr [xv 19 1,xk 20 19,xa 21 0 20,xl 22 21,xv 23 2,xD 24 3 22 23,xv 8 24] (.seq (.dreg (.take 0 (xa 25 1 3) (.take 1 (xl 26 25) (.take 2 (xv 27 2) (.take 3 (xD 28 1 26 27) (.take 4 (xl 29 28) (.take 5 (xv 30 8) (.take 6 (xk 31 30) (.take 7 (xa 32 0 31) (.take 8 (xl 33 32) (.take 9 (xD 34 5 29 33) (.take 10 (xm 35 5 34) (.only 11 [] (xo 9 (.alloc [xz,xz,xz,xz,xz])) (.only 12 [0,1,2,3,4,5,6,7,8,9,10] (xS 5 9 35) (.done))))))))))))))) (kr [xv 36 8,xk 37 36,xa 38 0 37,xl 39 38,bI 40 .add 39 1,xv 10 40] (kr [xT 11] (.seq (kr [xa 41 0 9,xl 42 41] (.blk 0 (kr [bI 54 .eql 42 1,xv 53 54] (.cond 53 (.dreg (.take 0 (xv 55 8) (.take 1 (xk 56 55) (.take 2 (xa 57 1 56) (.take 3 (xl 58 57) (.take 4 (xa 59 1 9) (.take 5 (xl 60 59) (.only 6 [] (xa 61 4 9) (.only 7 [] (xl 62 61) (.only 8 [0,1,2,3,4,5] (xD 63 1 58 60) (.only 9 [0,1,2,3,4,5] (xS 1 63 62) (.done)))))))))))) (.seq (kr [bI 65 .eql 42 2,xv 64 65] (.cond 64 (.skip) (kr [bI 66 .eql 42 3,xv 64 66] (.cond 64 (.skip) (xr [bI 67 .eql 42 4,xv 64 67]))))) (.cond 64 (.dreg (.take 0 (xv 68 8) (.take 1 (xk 69 68) (.take 2 (xa 70 1 69) (.take 3 (xl 71 70) (.take 4 (xa 72 1 9) (.take 5 (xl 73 72) (.take 6 (xa 74 0 9) (.take 7 (xl 75 74) (.take 8 (xv 76 8) (.take 9 (xk 77 76) (.take 10 (xa 78 1 77) (.take 11 (xl 79 78) (.take 12 (xa 80 2 9) (.take 13 (xl 81 80) (.take 14 (xD 82 1 79 81) (.take 15 (xl 83 82) (.take 16 (xv 84 8) (.take 17 (xk 85 84) (.take 18 (xa 86 1 85) (.take 19 (xl 87 86) (.only 20 [] (xa 88 3 9) (.only 21 [] (xl 89 88) (.only 22 [19,18,17,16] (xD 90 1 87 89) (.only 23 [22,19,18,17,16] (xl 91 90) (.only 24 [7,15,23,6,14,22,11,13,19,10,12,18,9,17,8,16] (xc3 92 60 (.t 75) (.t 83) (.t 91)) (.only 25 [0,1,2,3,4,5,6,7,8,9,10,11,12,13,14,15,16,17,18,19] (xD 93 1 71 73) (.only 26 [0,1,2,3,4,5,6,7,8,9,10,11,12,13,14,15,16,17,18,19] (xS 1 93 92) (.done))))))))))))))))))))))))))))) (kr [bI 95 .eql 42 10,xv 94 95] (.cond 94 (.dreg (.take 0 (xv 96 1) (.take 1 (xv 97 1) (.take 2 (xk 98 97) (.take 3 (xa 99 2 98) (.take 4 (xl 100 99) (.take 5 (xv 101 2) (.take 6 (xv 102 8) (.take 7 (xk 103 102) (.take 8 (xa 104 1 103) (.take 9 (xl 105 104) (.only 10 [] (xa 106 2 9) (.only 11 [] (xl 107 106) (.only 12 [9,8,7,6] (xD 108 1 105 107) (.only 13 [12,9,8,7,6] (xl 109 108) (.only 14 [5,13,12,9,8,7,6] (xo 110 (.build [xz,xz] [(0,1,.t 101),(1,1,.t 109)])) (.only 15 [14,5,13,12,9,8,7,6] (xo 111 (.mkSl [xz,xz] 1 [(0,.t 110)])) (.only 16 [4,15,3,14,2,5,13,1,12,9,8,7,6] (xA 112 2 16 100 111) (.only 17 [0,1,2,3,4,5,6,7,8,9] (xk 113 96) (.only 18 [0,1,2,3,4,5,6,7,8,9] (xa 114 2 113) (.only 19 [0,1,2,3,4,5,6,7,8,9] (xS 1 114 112) (.done)))))))))))))))))))))) (kr [bI 116 .eql 42 11,xv 115 116] (.cond 115 (xr [xa 117 4 9,xl 118 117,xv 10 118]) (kr [bI 120 .eql 42 12,xv 119 120] (.cond 119 (.seq (.dreg (.take 0 (xv 121 8) (.take 1 (xk 122 121) (.take 2 (xa 123 1 122) (.take 3 (xl 124 123) (.only 4 [] (xa 125 2 9) (.only 5 [] (xl 126 125) (.only 6 [3,2,1,0] (xD 127 1 124 126) (.only 7 [6,3,2,1,0] (xl 128 127) (.only 8 [7,6,3,2,1,0] (bI 129 .eql 128 0) (.done))))))))))) (.cond 129 (xr [xa 130 4 9,xl 131 130,xv 10 131]) (.skip))) (kr [bI 133 .eql 42 13,xv 132 133] (.cond 132 (kr [xv 134 8,xk 135 134,xa 136 2 135,⟨none,.store 1 (.t 136) (xi 1),none⟩] (kR [xI 6 0])) (.dreg (.take 0 (xv 43 8) (.take 1 (xv 44 1) (.take 2 (xk 45 44) (.take 3 (xa 46 1 45) (.take 4 (xl 47 46) (.take 5 (xa 48 4 9) (.take 6 (xl 49 48) (.take 7 (xD 50 3 47 49) (.only 8 [] (xm 51 5 9) (.only 9 [0,7,4,6,3,5,2,1] (xo 52 (.call 61 [true,true,false] [.t 43,.t 50,.t 51])) (.only 10 [0,1,2,3,4,5,6,7] (xv 11 52) (.done))))))))))))))))))))))))))) (.seq (kr [xv 137 11,xN 138 137,xv 139 138,zv 140 10 139,za 141 1 3 139,zl 142 1 141 139,zv 143 2 139,xg 144 (.iad 1 (.t 142) (.t 143)) 139 false,zl 145 1 144 139,ze 146 145 139,xg 147 (.bin .geq (.t 140) (.t 146)) 139 false,xQ 148 139 147] (.cond 148 (kr [xv 149 8,xk 150 149,xa 151 2 150,⟨none,.store 1 (.t 151) (xi 2),none⟩] (kR [xI 6 0])) (.skip))) (kr [xv 152 8,xv 153 10,xk 154 152,xa 155 0 154,xS 1 155 153] (kR [xI 6 0]))))))))))⟩
def vQ (p:wQ) (s:wA) (i:Nat) (t:yP) (ok:Bool) (next:Int):wA :=
 if ok=false∨((p.bods.getD i []).length:Int)≤next then ⟨s.ths.set i ⟨t.at_,t.regs,2⟩,s.chs,s.tr⟩ else ⟨s.ths.set i ⟨next,t.regs,t.st⟩,s.chs,s.tr⟩
def wN (p:wQ) (s:wA) (i:Nat):wA :=
 if (ins p s i).op=1 then vQ p s i (wV (s.ths.getD i default) (ins p s i).r (ins p s i).n) true ((s.ths.getD i default).at_+1)
 else if (ins p s i).op=2∨(ins p s i).op=3∨(ins p s i).op=4 then
  vQ p s i (wV (s.ths.getD i default) (ins p s i).r (xZ (ins p s i).op (reg (s.ths.getD i default) (ins p s i).a) (reg (s.ths.getD i default) (ins p s i).b))) true ((s.ths.getD i default).at_+1)
 else if (ins p s i).op=10 then vQ p ⟨s.ths,s.chs,s.tr++[⟨i,reg (s.ths.getD i default) (ins p s i).a⟩]⟩ i (s.ths.getD i default) true ((s.ths.getD i default).at_+1)
 else if (ins p s i).op=11 then vQ p s i (s.ths.getD i default) true (ins p s i).n
 else if (ins p s i).op=12 then vQ p s i (s.ths.getD i default) true (if reg (s.ths.getD i default) (ins p s i).a=0 then (ins p s i).n else (s.ths.getD i default).at_+1)
 else if (ins p s i).op=13 then ⟨s.ths.set i ⟨(s.ths.getD i default).at_,(s.ths.getD i default).regs,1⟩,s.chs,s.tr⟩
 else vQ p ⟨s.ths,s.chs.set (ins p s i).n.toNat (wC (s.ths.getD i default) (s.chs.getD (ins p s i).n.toNat default) (ins p s i)).2.1,s.tr⟩ i
  (wC (s.ths.getD i default) (s.chs.getD (ins p s i).n.toNat default) (ins p s i)).1 (wC (s.ths.getD i default) (s.chs.getD (ins p s i).n.toNat default) (ins p s i)).2.2 ((s.ths.getD i default).at_+1)
def qX (p:wQ) (s:wA) (who:Int):wA×Int:=if wU p s who=0 then (wN p s who.toNat,0) else (s,wU p s who)
theorem qEe {p:wQ} {s:wA} {who:Int} (h:wU p s who=0):0≤who∧who.toNat<s.ths.length:=by
 unfold wU at h
 split at h
 ·simp at h
 ·rename_i hw
  simp only [Bool.not_eq_false,qL] at hw
  omega
theorem qHh (p:wQ) (s:wA) (who:Int) (hp:aW p) (hs:qK1 s) (h:wG p s=true) (htr:s.tr.length≤4000):qY Tryz.prog num 43 [.agg (jY .bw p),.ptr 0 0 0,.int .i64 who] [(0,some (3,[uD .own s]),some (3,[uD .own (qX p s who).1]))] (.int .i64 (qX p s who).2):=by
 have hsc:=hs
 obtain ⟨hs1,hs2,hs3,hs4,hs5⟩:=hs
 refine EH m43 Tryz.func68 ?_
 unfold m43
 simp only [go_sem,seval]
 refine CA [] (qHi p s who hp hsc h) ?_
 try simp only [go_sem,seval]
 by_cases hcode:wU p s who=0
 case neg =>
  simp only [go_sem,seval,hcode]
  refine fz ?_; simp [yQ,wJ,wK,wR,-wD9]
  simp [qX,hcode]
 obtain ⟨w0,w1⟩:=qEe hcode
 obtain ⟨i,rfl⟩:=Int.eq_ofNat_of_zero_le w0
 rw [wDg] at w1
 have ha:=qB4 h (i:=i) w1
 have e1:=ha.at0
 have e2:=ha.at1
 have e3:=ha.hb
 have e4:=ha.regs
 have e5:=ha.len
 have r0:=ha.r0
 have r1:=ha.r1
 have a0:=ha.a0
 have a1:=ha.a1
 have b0:=ha.b0
 have b1:=ha.b1
 have hx:(p.bods.getD i []).getD (s.ths.getD i default).at_.toNat default=ins p s i:=rfl
 have gt :∀r,((yH .own s.ths).set i r).getD i []=r:=fun r=>jR _ _ _ _ (by rw [dU]; exact w1)
 have ra:(ins p s i).a.toNat<(s.ths.getD i default).regs.length:=by omega
 have rr:(ins p s i).r.toNat<(s.ths.getD i default).regs.length:=by omega
 have rb:(ins p s i).b.toNat<(s.ths.getD i default).regs.length:=by omega
 have hw1:IntKind.i64.wrap ((s.ths.getD i default).at_+1)=(s.ths.getD i default).at_+1:=yL (by omega) (by omega)
 simp only [go_sem,seval,hcode,gt,qV .own s.ths i w1,wB .bw p.bods i ha.hb,wDg,qI (s.ths.getD i default).regs (ins p s i).r.toNat rr,qI (s.ths.getD i default).regs (ins p s i).a.toNat ra,qI (s.ths.getD i default).regs (ins p s i).b.toNat rb,hw1,jQ (p.bods.getD i []) (s.ths.getD i default).at_.toNat ha.at1,hx]
 repeat refine K ?_
 by_cases h1:(ins p s i).op=1
 ·simp only [go_sem,seval,h1,gt,qV .own s.ths i w1,wB .bw p.bods i ha.hb,wDg,qI (s.ths.getD i default).regs (ins p s i).r.toNat rr,qI (s.ths.getD i default).regs (ins p s i).a.toNat ra,qI (s.ths.getD i default).regs (ins p s i).b.toNat rb,hw1]
  repeat refine K ?_
  by_cases hn:((p.bods.getD i []).length:Int)≤(s.ths.getD i default).at_+1
  ·simp only [go_sem,seval,hn,gt,qV .own s.ths i w1,wB .bw p.bods i ha.hb,wDg,qI (s.ths.getD i default).regs (ins p s i).r.toNat rr,qI (s.ths.getD i default).regs (ins p s i).a.toNat ra,qI (s.ths.getD i default).regs (ins p s i).b.toNat rb,hw1]
   repeat refine K ?_
   apply wI
   ·refine Sub.trans (Sub.foldAt 11 1 13 rfl (by simp [-gD]<;>omega) rfl (by decide) (by decide) rfl (by simp<;>omega)) ?_
    simp only [fS,qA,qC,qO]
    refine Sub.trans (Sub.fold1 0 0 11 rfl (by simp [-gD]<;>omega) rfl (by decide) (by decide) rfl) ?_
    simp only [fS,qA,qC,qO]
    exact Sub.refl _
   ·simp [-wD9,-gD,qO,qX,wN,vQ,wV,reg,hcode,hn,h1]<;>(first | rfl | exact ⟨rfl,rfl⟩ | exact ⟨rfl,rfl,rfl⟩ | skip)
  ·simp only [go_sem,seval,hn,gt,qV .own s.ths i w1,wB .bw p.bods i ha.hb,wDg,qI (s.ths.getD i default).regs (ins p s i).r.toNat rr,qI (s.ths.getD i default).regs (ins p s i).a.toNat ra,qI (s.ths.getD i default).regs (ins p s i).b.toNat rb,hw1]
   repeat refine K ?_
   apply wI
   ·refine Sub.trans (Sub.foldAt 11 1 13 rfl (by simp [-gD]<;>omega) rfl (by decide) (by decide) rfl (by simp<;>omega)) ?_
    simp only [fS,qA,qC,qO]
    refine Sub.trans (Sub.fold1 0 0 11 rfl (by simp [-gD]<;>omega) rfl (by decide) (by decide) rfl) ?_
    simp only [fS,qA,qC,qO]
    exact Sub.refl _
   ·simp [-wD9,-gD,qO,qX,wN,vQ,wV,reg,hcode,hn,h1]<;>(first | rfl | exact ⟨rfl,rfl⟩ | exact ⟨rfl,rfl,rfl⟩ | skip)
 by_cases h2:(ins p s i).op=2
 ·simp only [go_sem,seval,h2,gt,qV .own s.ths i w1,wB .bw p.bods i ha.hb,wDg,qI (s.ths.getD i default).regs (ins p s i).r.toNat rr,qI (s.ths.getD i default).regs (ins p s i).a.toNat ra,qI (s.ths.getD i default).regs (ins p s i).b.toNat rb,hw1]
  repeat refine K ?_
  refine DA [] (tC 2 ((s.ths.getD i default).regs.getD (ins p s i).a.toNat 0) ((s.ths.getD i default).regs.getD (ins p s i).b.toNat 0)) ?_
  try simp only [go_sem,seval]
  repeat refine K ?_
  simp only [go_sem,seval,h2,gt,qV .own s.ths i w1,wB .bw p.bods i ha.hb,wDg,qI (s.ths.getD i default).regs (ins p s i).r.toNat rr,qI (s.ths.getD i default).regs (ins p s i).a.toNat ra,qI (s.ths.getD i default).regs (ins p s i).b.toNat rb,hw1]
  repeat refine K ?_
  by_cases hn:((p.bods.getD i []).length:Int)≤(s.ths.getD i default).at_+1
  ·simp only [go_sem,seval,hn,gt,qV .own s.ths i w1,wB .bw p.bods i ha.hb,wDg,qI (s.ths.getD i default).regs (ins p s i).r.toNat rr,qI (s.ths.getD i default).regs (ins p s i).a.toNat ra,qI (s.ths.getD i default).regs (ins p s i).b.toNat rb,hw1]
   repeat refine K ?_
   apply wI
   ·refine Sub.trans (Sub.foldAt 11 1 13 rfl (by simp [-gD]<;>omega) rfl (by decide) (by decide) rfl (by simp<;>omega)) ?_
    simp only [fS,qA,qC,qO]
    refine Sub.trans (Sub.fold1 0 0 11 rfl (by simp [-gD]<;>omega) rfl (by decide) (by decide) rfl) ?_
    simp only [fS,qA,qC,qO]
    exact Sub.refl _
   ·simp [-wD9,-gD,qO,qX,wN,vQ,wV,reg,hcode,hn,h2]<;>(first | rfl | exact ⟨rfl,rfl⟩ | exact ⟨rfl,rfl,rfl⟩ | skip)
  ·simp only [go_sem,seval,hn,gt,qV .own s.ths i w1,wB .bw p.bods i ha.hb,wDg,qI (s.ths.getD i default).regs (ins p s i).r.toNat rr,qI (s.ths.getD i default).regs (ins p s i).a.toNat ra,qI (s.ths.getD i default).regs (ins p s i).b.toNat rb,hw1]
   repeat refine K ?_
   apply wI
   ·refine Sub.trans (Sub.foldAt 11 1 13 rfl (by simp [-gD]<;>omega) rfl (by decide) (by decide) rfl (by simp<;>omega)) ?_
    simp only [fS,qA,qC,qO]
    refine Sub.trans (Sub.fold1 0 0 11 rfl (by simp [-gD]<;>omega) rfl (by decide) (by decide) rfl) ?_
    simp only [fS,qA,qC,qO]
    exact Sub.refl _
   ·simp [-wD9,-gD,qO,qX,wN,vQ,wV,reg,hcode,hn,h2]<;>(first | rfl | exact ⟨rfl,rfl⟩ | exact ⟨rfl,rfl,rfl⟩ | skip)
 by_cases h3:(ins p s i).op=3
 ·simp only [go_sem,seval,h3,gt,qV .own s.ths i w1,wB .bw p.bods i ha.hb,wDg,qI (s.ths.getD i default).regs (ins p s i).r.toNat rr,qI (s.ths.getD i default).regs (ins p s i).a.toNat ra,qI (s.ths.getD i default).regs (ins p s i).b.toNat rb,hw1]
  repeat refine K ?_
  refine DA [] (tC 3 ((s.ths.getD i default).regs.getD (ins p s i).a.toNat 0) ((s.ths.getD i default).regs.getD (ins p s i).b.toNat 0)) ?_
  try simp only [go_sem,seval]
  repeat refine K ?_
  simp only [go_sem,seval,h3,gt,qV .own s.ths i w1,wB .bw p.bods i ha.hb,wDg,qI (s.ths.getD i default).regs (ins p s i).r.toNat rr,qI (s.ths.getD i default).regs (ins p s i).a.toNat ra,qI (s.ths.getD i default).regs (ins p s i).b.toNat rb,hw1]
  repeat refine K ?_
  by_cases hn:((p.bods.getD i []).length:Int)≤(s.ths.getD i default).at_+1
  ·simp only [go_sem,seval,hn,gt,qV .own s.ths i w1,wB .bw p.bods i ha.hb,wDg,qI (s.ths.getD i default).regs (ins p s i).r.toNat rr,qI (s.ths.getD i default).regs (ins p s i).a.toNat ra,qI (s.ths.getD i default).regs (ins p s i).b.toNat rb,hw1]
   repeat refine K ?_
   apply wI
   ·refine Sub.trans (Sub.foldAt 11 1 13 rfl (by simp [-gD]<;>omega) rfl (by decide) (by decide) rfl (by simp<;>omega)) ?_
    simp only [fS,qA,qC,qO]
    refine Sub.trans (Sub.fold1 0 0 11 rfl (by simp [-gD]<;>omega) rfl (by decide) (by decide) rfl) ?_
    simp only [fS,qA,qC,qO]
    exact Sub.refl _
   ·simp [-wD9,-gD,qO,qX,wN,vQ,wV,reg,hcode,hn,h3]<;>(first | rfl | exact ⟨rfl,rfl⟩ | exact ⟨rfl,rfl,rfl⟩ | skip)
  ·simp only [go_sem,seval,hn,gt,qV .own s.ths i w1,wB .bw p.bods i ha.hb,wDg,qI (s.ths.getD i default).regs (ins p s i).r.toNat rr,qI (s.ths.getD i default).regs (ins p s i).a.toNat ra,qI (s.ths.getD i default).regs (ins p s i).b.toNat rb,hw1]
   repeat refine K ?_
   apply wI
   ·refine Sub.trans (Sub.foldAt 11 1 13 rfl (by simp [-gD]<;>omega) rfl (by decide) (by decide) rfl (by simp<;>omega)) ?_
    simp only [fS,qA,qC,qO]
    refine Sub.trans (Sub.fold1 0 0 11 rfl (by simp [-gD]<;>omega) rfl (by decide) (by decide) rfl) ?_
    simp only [fS,qA,qC,qO]
    exact Sub.refl _
   ·simp [-wD9,-gD,qO,qX,wN,vQ,wV,reg,hcode,hn,h3]<;>(first | rfl | exact ⟨rfl,rfl⟩ | exact ⟨rfl,rfl,rfl⟩ | skip)
 by_cases h4:(ins p s i).op=4
 ·simp only [go_sem,seval,h4,gt,qV .own s.ths i w1,wB .bw p.bods i ha.hb,wDg,qI (s.ths.getD i default).regs (ins p s i).r.toNat rr,qI (s.ths.getD i default).regs (ins p s i).a.toNat ra,qI (s.ths.getD i default).regs (ins p s i).b.toNat rb,hw1]
  repeat refine K ?_
  refine DA [] (tC 4 ((s.ths.getD i default).regs.getD (ins p s i).a.toNat 0) ((s.ths.getD i default).regs.getD (ins p s i).b.toNat 0)) ?_
  try simp only [go_sem,seval]
  repeat refine K ?_
  simp only [go_sem,seval,h4,gt,qV .own s.ths i w1,wB .bw p.bods i ha.hb,wDg,qI (s.ths.getD i default).regs (ins p s i).r.toNat rr,qI (s.ths.getD i default).regs (ins p s i).a.toNat ra,qI (s.ths.getD i default).regs (ins p s i).b.toNat rb,hw1]
  repeat refine K ?_
  by_cases hn:((p.bods.getD i []).length:Int)≤(s.ths.getD i default).at_+1
  ·simp only [go_sem,seval,hn,gt,qV .own s.ths i w1,wB .bw p.bods i ha.hb,wDg,qI (s.ths.getD i default).regs (ins p s i).r.toNat rr,qI (s.ths.getD i default).regs (ins p s i).a.toNat ra,qI (s.ths.getD i default).regs (ins p s i).b.toNat rb,hw1]
   repeat refine K ?_
   apply wI
   ·refine Sub.trans (Sub.foldAt 11 1 13 rfl (by simp [-gD]<;>omega) rfl (by decide) (by decide) rfl (by simp<;>omega)) ?_
    simp only [fS,qA,qC,qO]
    refine Sub.trans (Sub.fold1 0 0 11 rfl (by simp [-gD]<;>omega) rfl (by decide) (by decide) rfl) ?_
    simp only [fS,qA,qC,qO]
    exact Sub.refl _
   ·simp [-wD9,-gD,qO,qX,wN,vQ,wV,reg,hcode,hn,h4]<;>(first | rfl | exact ⟨rfl,rfl⟩ | exact ⟨rfl,rfl,rfl⟩ | skip)
  ·simp only [go_sem,seval,hn,gt,qV .own s.ths i w1,wB .bw p.bods i ha.hb,wDg,qI (s.ths.getD i default).regs (ins p s i).r.toNat rr,qI (s.ths.getD i default).regs (ins p s i).a.toNat ra,qI (s.ths.getD i default).regs (ins p s i).b.toNat rb,hw1]
   repeat refine K ?_
   apply wI
   ·refine Sub.trans (Sub.foldAt 11 1 13 rfl (by simp [-gD]<;>omega) rfl (by decide) (by decide) rfl (by simp<;>omega)) ?_
    simp only [fS,qA,qC,qO]
    refine Sub.trans (Sub.fold1 0 0 11 rfl (by simp [-gD]<;>omega) rfl (by decide) (by decide) rfl) ?_
    simp only [fS,qA,qC,qO]
    exact Sub.refl _
   ·simp [-wD9,-gD,qO,qX,wN,vQ,wV,reg,hcode,hn,h4]<;>(first | rfl | exact ⟨rfl,rfl⟩ | exact ⟨rfl,rfl,rfl⟩ | skip)
 by_cases h10:(ins p s i).op=10
 ·simp only [go_sem,seval,h10,gt,qV .own s.ths i w1,wB .bw p.bods i ha.hb,wDg,qI (s.ths.getD i default).regs (ins p s i).r.toNat rr,qI (s.ths.getD i default).regs (ins p s i).a.toNat ra,qI (s.ths.getD i default).regs (ins p s i).b.toNat rb,hw1]
  repeat refine K ?_
  by_cases hn:((p.bods.getD i []).length:Int)≤(s.ths.getD i default).at_+1
  ·simp only [go_sem,seval,hn,gt,qV .own s.ths i w1,wB .bw p.bods i ha.hb,wDg,qI (s.ths.getD i default).regs (ins p s i).r.toNat rr,qI (s.ths.getD i default).regs (ins p s i).a.toNat ra,qI (s.ths.getD i default).regs (ins p s i).b.toNat rb,hw1]
   repeat refine K ?_
   apply wI
   ·refine Sub.trans (Sub.foldAt 11 1 14 rfl (by simp [-gD]<;>omega) rfl (by decide) (by decide) rfl (by simp<;>omega)) ?_
    simp only [fS,qA,qC,qO]
    refine Sub.trans (Sub.fold1 0 0 11 rfl (by simp [-gD]<;>omega) rfl (by decide) (by decide) rfl) ?_
    simp only [fS,qA,qC,qO]
    refine Sub.trans (Sub.fold1 0 2 16 rfl (by simp [-gD]<;>omega) rfl (by decide) (by decide) rfl) ?_
    simp only [fS,qA,qC,qO]
    exact Sub.refl _
   ·simp [-wD9,-gD,qO,qX,wN,vQ,wV,reg,hcode,hn,h10,qIu,mD]<;>(first | rfl | exact ⟨rfl,rfl⟩ | exact ⟨rfl,rfl,rfl⟩ | skip)
  ·simp only [go_sem,seval,hn,gt,qV .own s.ths i w1,wB .bw p.bods i ha.hb,wDg,qI (s.ths.getD i default).regs (ins p s i).r.toNat rr,qI (s.ths.getD i default).regs (ins p s i).a.toNat ra,qI (s.ths.getD i default).regs (ins p s i).b.toNat rb,hw1]
   repeat refine K ?_
   apply wI
   ·refine Sub.trans (Sub.foldAt 11 1 14 rfl (by simp [-gD]<;>omega) rfl (by decide) (by decide) rfl (by simp<;>omega)) ?_
    simp only [fS,qA,qC,qO]
    refine Sub.trans (Sub.fold1 0 0 11 rfl (by simp [-gD]<;>omega) rfl (by decide) (by decide) rfl) ?_
    simp only [fS,qA,qC,qO]
    refine Sub.trans (Sub.fold1 0 2 16 rfl (by simp [-gD]<;>omega) rfl (by decide) (by decide) rfl) ?_
    simp only [fS,qA,qC,qO]
    exact Sub.refl _
   ·simp [-wD9,-gD,qO,qX,wN,vQ,wV,reg,hcode,hn,h10,qIu,mD]<;>(first | rfl | exact ⟨rfl,rfl⟩ | exact ⟨rfl,rfl,rfl⟩ | skip)
 by_cases h11:(ins p s i).op=11
 ·simp only [go_sem,seval,h11,gt,qV .own s.ths i w1,wB .bw p.bods i ha.hb,wDg,qI (s.ths.getD i default).regs (ins p s i).r.toNat rr,qI (s.ths.getD i default).regs (ins p s i).a.toNat ra,qI (s.ths.getD i default).regs (ins p s i).b.toNat rb,hw1]
  repeat refine K ?_
  by_cases hn:((p.bods.getD i []).length:Int)≤(ins p s i).n
  ·simp only [go_sem,seval,hn,gt,qV .own s.ths i w1,wB .bw p.bods i ha.hb,wDg,qI (s.ths.getD i default).regs (ins p s i).r.toNat rr,qI (s.ths.getD i default).regs (ins p s i).a.toNat ra,qI (s.ths.getD i default).regs (ins p s i).b.toNat rb,hw1]
   repeat refine K ?_
   apply wI
   ·refine Sub.trans (Sub.fold1 0 0 11 rfl (by simp [-gD]<;>omega) rfl (by decide) (by decide) rfl) ?_
    simp only [fS,qA,qC,qO]
    exact Sub.refl _
   ·simp [-wD9,-gD,qO,qX,wN,vQ,wV,reg,hcode,hn,h11]<;>(first | rfl | exact ⟨rfl,rfl⟩ | exact ⟨rfl,rfl,rfl⟩ | skip)
  ·simp only [go_sem,seval,hn,gt,qV .own s.ths i w1,wB .bw p.bods i ha.hb,wDg,qI (s.ths.getD i default).regs (ins p s i).r.toNat rr,qI (s.ths.getD i default).regs (ins p s i).a.toNat ra,qI (s.ths.getD i default).regs (ins p s i).b.toNat rb,hw1]
   repeat refine K ?_
   apply wI
   ·refine Sub.trans (Sub.fold1 0 0 11 rfl (by simp [-gD]<;>omega) rfl (by decide) (by decide) rfl) ?_
    simp only [fS,qA,qC,qO]
    exact Sub.refl _
   ·simp [-wD9,-gD,qO,qX,wN,vQ,wV,reg,hcode,hn,h11]<;>(first | rfl | exact ⟨rfl,rfl⟩ | exact ⟨rfl,rfl,rfl⟩ | skip)
 by_cases h12:(ins p s i).op=12
 ·simp only [go_sem,seval,h12,gt,qV .own s.ths i w1,wB .bw p.bods i ha.hb,wDg,qI (s.ths.getD i default).regs (ins p s i).r.toNat rr,qI (s.ths.getD i default).regs (ins p s i).a.toNat ra,qI (s.ths.getD i default).regs (ins p s i).b.toNat rb,hw1]
  repeat refine K ?_
  by_cases hz:(s.ths.getD i default).regs.getD (ins p s i).a.toNat 0=0
  ·simp only [go_sem,seval,h12,hz,gt,qV .own s.ths i w1,wB .bw p.bods i ha.hb,wDg,qI (s.ths.getD i default).regs (ins p s i).r.toNat rr,qI (s.ths.getD i default).regs (ins p s i).a.toNat ra,qI (s.ths.getD i default).regs (ins p s i).b.toNat rb,hw1]
   repeat refine K ?_
   by_cases hn:((p.bods.getD i []).length:Int)≤(ins p s i).n
   ·simp only [go_sem,seval,hn,gt,qV .own s.ths i w1,wB .bw p.bods i ha.hb,wDg,qI (s.ths.getD i default).regs (ins p s i).r.toNat rr,qI (s.ths.getD i default).regs (ins p s i).a.toNat ra,qI (s.ths.getD i default).regs (ins p s i).b.toNat rb,hw1]
    repeat refine K ?_
    apply wI
    ·refine Sub.trans (Sub.foldAt 11 1 13 rfl (by simp [-gD]<;>omega) rfl (by decide) (by decide) rfl (by simp<;>omega)) ?_
     simp only [fS,qA,qC,qO]
     refine Sub.trans (Sub.fold1 0 0 11 rfl (by simp [-gD]<;>omega) rfl (by decide) (by decide) rfl) ?_
     simp only [fS,qA,qC,qO]
     exact Sub.refl _
    ·simp [-wD9,-gD,qO,qX,wN,vQ,wV,reg,hcode,hn,h12,hz]<;>(first | rfl | exact ⟨rfl,rfl⟩ | exact ⟨rfl,rfl,rfl⟩ | skip)
   ·simp only [go_sem,seval,hn,gt,qV .own s.ths i w1,wB .bw p.bods i ha.hb,wDg,qI (s.ths.getD i default).regs (ins p s i).r.toNat rr,qI (s.ths.getD i default).regs (ins p s i).a.toNat ra,qI (s.ths.getD i default).regs (ins p s i).b.toNat rb,hw1]
    repeat refine K ?_
    apply wI
    ·refine Sub.trans (Sub.foldAt 11 1 13 rfl (by simp [-gD]<;>omega) rfl (by decide) (by decide) rfl (by simp<;>omega)) ?_
     simp only [fS,qA,qC,qO]
     refine Sub.trans (Sub.fold1 0 0 11 rfl (by simp [-gD]<;>omega) rfl (by decide) (by decide) rfl) ?_
     simp only [fS,qA,qC,qO]
     exact Sub.refl _
    ·simp [-wD9,-gD,qO,qX,wN,vQ,wV,reg,hcode,hn,h12,hz]<;>(first | rfl | exact ⟨rfl,rfl⟩ | exact ⟨rfl,rfl,rfl⟩ | skip)
  ·simp only [go_sem,seval,h12,hz,gt,qV .own s.ths i w1,wB .bw p.bods i ha.hb,wDg,qI (s.ths.getD i default).regs (ins p s i).r.toNat rr,qI (s.ths.getD i default).regs (ins p s i).a.toNat ra,qI (s.ths.getD i default).regs (ins p s i).b.toNat rb,hw1]
   repeat refine K ?_
   by_cases hn:((p.bods.getD i []).length:Int)≤(s.ths.getD i default).at_+1
   ·simp only [go_sem,seval,hn,gt,qV .own s.ths i w1,wB .bw p.bods i ha.hb,wDg,qI (s.ths.getD i default).regs (ins p s i).r.toNat rr,qI (s.ths.getD i default).regs (ins p s i).a.toNat ra,qI (s.ths.getD i default).regs (ins p s i).b.toNat rb,hw1]
    repeat refine K ?_
    apply wI
    ·refine Sub.trans (Sub.foldAt 11 1 13 rfl (by simp [-gD]<;>omega) rfl (by decide) (by decide) rfl (by simp<;>omega)) ?_
     simp only [fS,qA,qC,qO]
     refine Sub.trans (Sub.fold1 0 0 11 rfl (by simp [-gD]<;>omega) rfl (by decide) (by decide) rfl) ?_
     simp only [fS,qA,qC,qO]
     exact Sub.refl _
    ·simp [-wD9,-gD,qO,qX,wN,vQ,wV,reg,hcode,hn,h12,hz]<;>(first | rfl | exact ⟨rfl,rfl⟩ | exact ⟨rfl,rfl,rfl⟩ | skip)
   ·simp only [go_sem,seval,hn,gt,qV .own s.ths i w1,wB .bw p.bods i ha.hb,wDg,qI (s.ths.getD i default).regs (ins p s i).r.toNat rr,qI (s.ths.getD i default).regs (ins p s i).a.toNat ra,qI (s.ths.getD i default).regs (ins p s i).b.toNat rb,hw1]
    repeat refine K ?_
    apply wI
    ·refine Sub.trans (Sub.foldAt 11 1 13 rfl (by simp [-gD]<;>omega) rfl (by decide) (by decide) rfl (by simp<;>omega)) ?_
     simp only [fS,qA,qC,qO]
     refine Sub.trans (Sub.fold1 0 0 11 rfl (by simp [-gD]<;>omega) rfl (by decide) (by decide) rfl) ?_
     simp only [fS,qA,qC,qO]
     exact Sub.refl _
    ·simp [-wD9,-gD,qO,qX,wN,vQ,wV,reg,hcode,hn,h12,hz]<;>(first | rfl | exact ⟨rfl,rfl⟩ | exact ⟨rfl,rfl,rfl⟩ | skip)
 by_cases h13:(ins p s i).op=13
 ·simp only [go_sem,seval,h13,gt,qV .own s.ths i w1,wB .bw p.bods i ha.hb,wDg,qI (s.ths.getD i default).regs (ins p s i).r.toNat rr,qI (s.ths.getD i default).regs (ins p s i).a.toNat ra,qI (s.ths.getD i default).regs (ins p s i).b.toNat rb,hw1]
  repeat refine K ?_
  apply wI
  ·refine Sub.trans (Sub.fold1 0 0 11 rfl (by simp [-gD]<;>omega) rfl (by decide) (by decide) rfl) ?_
   simp only [fS,qA,qC,qO]
   exact Sub.refl _
  ·simp [-wD9,-gD,qO,qX,wN,vQ,wV,reg,hcode,h13]<;>(first | rfl | exact ⟨rfl,rfl⟩ | exact ⟨rfl,rfl,rfl⟩ | skip)
 obtain ⟨n0,n1⟩:=ha.ch (by have:=ha.op; omega) (by have:=ha.op; omega)
 simp only [go_sem,seval,h1,h2,h3,h4,h10,h11,h12,h13,gt,qV .own s.ths i w1,wB .bw p.bods i ha.hb,wDg,qI (s.ths.getD i default).regs (ins p s i).r.toNat rr,qI (s.ths.getD i default).regs (ins p s i).a.toNat ra,qI (s.ths.getD i default).regs (ins p s i).b.toNat rb,hw1]
 repeat refine K ?_
 refine DA [(0,11),(1,13)] (qOi s.ths i s.chs (ins p s i).n.toNat (ins p s i) w1 n1 e4 (hs5 _ (yB s.chs _ default n1)) r0 r1 a0 a1 b0 b1) ?_
 try simp only [go_sem,seval]
 have g3:i<(s.ths.set i (wC (s.ths.getD i default) (s.chs.getD (ins p s i).n.toNat default) (ins p s i)).1).length:=by rw [List.length_set]; exact w1
 have g4 :∀t:yP,(s.ths.set i t).getD i default=t:=fun t=>jR _ _ _ _ w1
 have g5 :∀(t:yP) r,((yH .own (s.ths.set i t)).set i r).getD i []=r:=fun t r=>jR _ _ _ _ (by rw [dU,List.length_set]; exact w1)
 cases hok:(wC (s.ths.getD i default) (s.chs.getD (ins p s i).n.toNat default) (ins p s i)).2.2
 ·simp only [go_sem,seval,hok,gt,qV .own s.ths i w1,wB .bw p.bods i ha.hb,wDg,qI (s.ths.getD i default).regs (ins p s i).r.toNat rr,qI (s.ths.getD i default).regs (ins p s i).a.toNat ra,qI (s.ths.getD i default).regs (ins p s i).b.toNat rb,hw1,qV .own _ i g3,g4]
  repeat refine K ?_
  apply wI
  ·refine Sub.trans (Sub.fold1 0 0 11 rfl (by simp [-gD]<;>omega) rfl (by decide) (by decide) rfl) ?_
   simp only [fS,qA,qC,qO]
   refine Sub.trans (Sub.fold1 0 1 13 rfl (by simp [-gD]<;>omega) rfl (by decide) (by decide) rfl) ?_
   simp only [fS,qA,qC]
   exact Sub.refl _
  ·simp [-wD9,-gD,qO,qX,wN,vQ,hcode,hok,h1,h2,h3,h4,h10,h11,h12,h13]<;>(first | rfl | exact ⟨rfl,rfl⟩ | exact ⟨rfl,rfl,rfl⟩ | skip)
 ·simp only [go_sem,seval,hok,gt,qV .own s.ths i w1,wB .bw p.bods i ha.hb,wDg,qI (s.ths.getD i default).regs (ins p s i).r.toNat rr,qI (s.ths.getD i default).regs (ins p s i).a.toNat ra,qI (s.ths.getD i default).regs (ins p s i).b.toNat rb,hw1,qV .own _ i g3,g4]
  repeat refine K ?_
  by_cases hn:((p.bods.getD i []).length:Int)≤(s.ths.getD i default).at_+1
  ·simp only [go_sem,seval,hn,gt,qV .own s.ths i w1,wB .bw p.bods i ha.hb,wDg,qI (s.ths.getD i default).regs (ins p s i).r.toNat rr,qI (s.ths.getD i default).regs (ins p s i).a.toNat ra,qI (s.ths.getD i default).regs (ins p s i).b.toNat rb,hw1,qV .own _ i g3,g4]
   repeat refine K ?_
   apply wI
   ·refine Sub.trans (Sub.fold1 0 0 11 rfl (by simp [-gD]<;>omega) rfl (by decide) (by decide) rfl) ?_
    simp only [fS,qA,qC,qO]
    refine Sub.trans (Sub.fold1 0 1 13 rfl (by simp [-gD]<;>omega) rfl (by decide) (by decide) rfl) ?_
    simp only [fS,qA,qC]
    exact Sub.refl _
   ·simp [-wD9,-gD,qO,qX,wN,vQ,hcode,hok,hn,h1,h2,h3,h4,h10,h11,h12,h13]<;>(first | rfl | exact ⟨rfl,rfl⟩ | exact ⟨rfl,rfl,rfl⟩ | skip)
  ·simp only [go_sem,seval,hn,gt,qV .own s.ths i w1,wB .bw p.bods i ha.hb,wDg,qI (s.ths.getD i default).regs (ins p s i).r.toNat rr,qI (s.ths.getD i default).regs (ins p s i).a.toNat ra,qI (s.ths.getD i default).regs (ins p s i).b.toNat rb,hw1,qV .own _ i g3,g4]
   repeat refine K ?_
   apply wI
   ·refine Sub.trans (Sub.fold1 0 0 11 rfl (by simp [-gD]<;>omega) rfl (by decide) (by decide) rfl) ?_
    simp only [fS,qA,qC,qO]
    refine Sub.trans (Sub.fold1 0 1 13 rfl (by simp [-gD]<;>omega) rfl (by decide) (by decide) rfl) ?_
    simp only [fS,qA,qC]
    exact Sub.refl _
   ·simp [-wD9,-gD,qO,qX,wN,vQ,hcode,hok,hn,h1,h2,h3,h4,h10,h11,h12,h13]<;>(first | rfl | exact ⟨rfl,rfl⟩ | exact ⟨rfl,rfl,rfl⟩ | skip)
end Go.Sep
