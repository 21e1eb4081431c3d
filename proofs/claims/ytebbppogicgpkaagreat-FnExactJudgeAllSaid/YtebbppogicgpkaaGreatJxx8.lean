/- Contracts of functions. -/
import Derived.Test.YtebbppogicgpkaaGreatJxx6
import Derived.Test.YtebbppogicgpkaaGreatJxx7
open Bool renaming and_eq_true → qWu
open List renaming drop_one → qYj, getD_eq_getElem?_getD → qWw
namespace Go.Sep
set_option maxHeartbeats 16000000
open Go.Proofs
set_option linter.unusedSimpArgs false
set_option linter.unusedVariables false
set_option maxRecDepth 100000
open List renaming getD_eq_getElem?_getD → gD
def m46:MFn:=⟨48,[.cell 6 3 true,.t 7],kr [xb 3 0,xb 4 1,xo 6 (.alloc [.nil,.nil,.nil]),xI 7 0] (.seq (kr [xm 10 2 3,xm 11 3 4,xc2 12 63 (.t 10) (.t 11),xN 13 12] (kF 13 [xo 14 (.build [.nil,.nil,.nil] []),xS 3 6 14,xI 7 1])) (.seq (kr [xv 15 2,xa 16 0 4,xl 17 16,xe 18 17,bI 19 .sub 18 1,xc3 20 64 (.t 15) (xi 0) (.t 19),xN 21 20] (kF 21 [xm 22 3 4,xc1 23 65 (.t 22),xS 3 6 23,xI 7 2])) (.seq (kr [xa 24 0 4,xl 25 24,xv 26 2,xD 27 3 25 26,xa 28 2 27,xl 29 28,bI 30 .neq 29 0] (kF 30 [xm 31 3 4,xc1 32 65 (.t 31),xS 3 6 32,xI 7 3])) (.seq (.dreg (.take 0 (xm 34 2 3) (.take 1 (xm 35 3 4) (.take 3 (xv 37 2) (.both 2 [1] (xc1 36 65 (.t 35)) (.both 4 [0,2,3,1] (xo 38 (.call 66 [false,true,false] [.t 34,.t 36,.t 37])) (.take 5 (xv 33 38) (.take 6 (xX 39 33 0) (.take 7 (xX 40 33 1) (.only 8 [] (xo 8 (.alloc [.nil,.nil,.nil])) (.only 9 [0,1,3,5,6] (xS 3 8 39) (.only 10 [0,1,3,5,6,7] (xv 9 40) (.done))))))) 8 [] (xo 8 (.alloc [.nil,.nil,.nil])) (.only 4 [0,2,3,1] (xo 38 (.call 66 [false,true,false] [.t 34,.t 36,.t 37])) (.only 5 [4,0,2,3,1] (xv 33 38) (.take 6 (xX 39 33 0) (.take 7 (xX 40 33 1) (.only 9 [0,1,3,6] (xS 3 8 39) (.only 10 [0,1,3,6,7] (xv 9 40) (.done)))))))) 8 [] (xo 8 (.alloc [.nil,.nil,.nil])) (.only 2 [1] (xc1 36 65 (.t 35)) (.only 4 [0,2,3,1] (xo 38 (.call 66 [false,true,false] [.t 34,.t 36,.t 37])) (.only 5 [4,0,2,3,1] (xv 33 38) (.take 6 (xX 39 33 0) (.take 7 (xX 40 33 1) (.only 9 [0,1,3,6] (xS 3 8 39) (.only 10 [0,1,3,6,7] (xv 9 40) (.done))))))))))))) (.seq (kr [xv 41 9,bI 42 .neq 41 0] (kF 42 [xm 43 3 4,xc1 44 65 (.t 43),xv 45 9,xS 3 6 44,xv 7 45])) (kR [xm 46 3 8,xv 47 9,xS 3 6 46,xv 7 47]))))))⟩
theorem fB (c:bR) (v:Int) (h:vH c=true):yC c v=if c.closed then (c,2) else if (c.list.length:Int)=c.cap then (c,1) else ({c with list:=c.list++[v]},0):=by
 unfold yC
 cases hc:c.closed<;>simp [-qWw,h]
theorem tO (p:wU) (s:wI) (i:Nat) (t:jX) (uZ:Int) (hi:i<s.ths.length) (h0:0≤uZ):rH p ⟨s.ths.set i t,s.chs,s.tr⟩ i uZ=aV p s i t true uZ:=by
 unfold rH aV
 have hg:(s.ths.set i t).getD i default=t:=wF _ _ _ _ hi
 simp only [hg,List.set_set]
 by_cases hn:((p.bods.getD i []).length:Int)≤uZ
 ·have:qO uZ 0 ((p.bods.getD i []).length-1)=false:=by rw [iB]; simp [-qWw]; omega
  rw [if_pos this,if_pos (.inr hn)]
 ·have:qO uZ 0 ((p.bods.getD i []).length-1)=true:=by rw [iB]; simp [-qWw]; omega
  rw [if_neg (by rw [this]; simp),if_neg (by simp [-qWw]; omega)]
def fU (p:wU) (s:wI) (i:Nat):wI×Int:=if (s.ths.getD i default).st≠0 then (s,3) else if (jL p s i).2=0 then jL p s i else (s,(jL p s i).2)
theorem qK4 {p:wU} {s:wI} (h:wL p s=true) {j:Nat} (hj:j<s.chs.length):vH (s.chs.getD j default)=true:=by
 simp only [wL,qWu] at h
 have:=List.all_eq_true.1 h.2 j (List.mem_range.2 hj)
 simp only [qWu] at this
 exact this.1
theorem qB2 {c:bR} (h:vH c=true):1≤c.cap∧(c.list.length:Int)≤c.cap:=by
 simp only [vH,qWu,qP,decide_eq_true_eq] at h
 omega
theorem qHb (p:wU) (s:wI) (i:Nat) (t:jX) (uZ:Int):aV p s i t false uZ=⟨s.ths.set i ⟨t.at_,t.regs,2⟩,s.chs,s.tr⟩:=by
 unfold aV
 rw [if_pos (.inl rfl)]
theorem qLy (p:wU) (s:wI) (i:Nat) (h:wL p s=true) (hi:i<s.ths.length):fU p s i=wN p s i:=by
 have ha:=qK9 h hi
 have hw:qO (i:Int) 0 (s.ths.length-1)=true:=by rw [qP]; omega
 have hself:s.ths.set i (s.ths.getD i default)=s.ths:=wP s.ths i default hi
 have e1:=ha.at0
 unfold fU wN jF
 simp only [hw,Bool.true_eq_false,if_false,Int.toNat_natCast]
 by_cases hst:(s.ths.getD i default).st=0
 case neg=>simp [-qWw,hst]
 simp only [hst,ne_eq,not_true_eq_false,if_false,false_or]
 have hop:=ha.op
 by_cases h1:(ins p s i).op=1
 ·have:=tO p s i (wW (s.ths.getD i default) (ins p s i).r (ins p s i).n) ((s.ths.getD i default).at_+1) hi (by omega)
  simp [-qWw,jL,yX,h1,this]
 by_cases h2:(ins p s i).op=2∨(ins p s i).op=3∨(ins p s i).op=4
 ·have:=tO p s i (wW (s.ths.getD i default) (ins p s i).r (gE (ins p s i).op (reg (s.ths.getD i default) (ins p s i).a) (reg (s.ths.getD i default) (ins p s i).b))) ((s.ths.getD i default).at_+1) hi (by omega)
  have h10 :¬(ins p s i).op=10:=by omega
  have h5 :¬(ins p s i).op=5:=by omega
  have h6 :¬(ins p s i).op=6:=by omega
  simp only [jL,yX,h1,h2,h10,h5,h6,this,if_true,if_false,false_and,not_false_eq_true,and_self]
 by_cases h10:(ins p s i).op=10
 ·by_cases hn:(s.tr.length:Int)=4000
  ·simp [-qWw,jL,h10,hn]
  ·have:=tO p ⟨s.ths,s.chs,s.tr++[⟨i,reg (s.ths.getD i default) (ins p s i).a⟩]⟩ i (s.ths.getD i default) ((s.ths.getD i default).at_+1) hi (by omega)
   simp only [hself] at this
   simp [-qWw,jL,yX,h10,hn,this]
 by_cases h11:(ins p s i).op=11
 ·have:=tO p s i (s.ths.getD i default) (ins p s i).n hi (ha.jm (.inl h11)).1
  simp only [hself] at this
  simp [-qWw,jL,yX,h11,this]
 by_cases h12:(ins p s i).op=12
 ·have:=tO p s i (s.ths.getD i default) (if reg (s.ths.getD i default) (ins p s i).a=0 then (ins p s i).n else (s.ths.getD i default).at_+1) hi (by have:=(ha.jm (.inr h12)).1; split<;>omega)
  simp only [hself] at this
  simp [-qWw,jL,yX,h12,this]
 by_cases h13:(ins p s i).op=13
 ·simp [-qWw,jL,yX,h13]
 obtain ⟨n0,n1⟩:=ha.ch (by omega) (by omega)
 have hc:=qK4 h n1
 obtain ⟨c1,c2⟩:=qB2 hc
 have h21 :¬(ins p s i).op=2:=fun e=>h2 (.inl e)
 have h22 :¬(ins p s i).op=3:=fun e=>h2 (.inr (.inl e))
 have h23 :¬(ins p s i).op=4:=fun e=>h2 (.inr (.inr e))
 have key :∀(t:jX) (c:bR),rH p ⟨s.ths.set i t,s.chs.set (ins p s i).n.toNat c,s.tr⟩ i ((s.ths.getD i default).at_+1)=aV p ⟨s.ths,s.chs.set (ins p s i).n.toNat c,s.tr⟩ i t true ((s.ths.getD i default).at_+1):=fun t c=>tO p ⟨s.ths,s.chs.set (ins p s i).n.toNat c,s.tr⟩ i t _ hi (by omega)
 obtain ⟨c,hC⟩ :∃c,s.chs.getD (ins p s i).n.toNat default=c:=⟨_,rfl⟩
 rw [hC] at hc c1 c2
 by_cases h5:(ins p s i).op=5
 ·cases hcl:c.closed
  ·by_cases hf:(c.list.length:Int)=c.cap
   ·simp [-qWw,jL,jV,hC,h5,fB c _ hc,hcl,hf]
   ·simp [-qWw,jL,yX,jV,wV,hC,h5,fB c _ hc,hcl,hf,key]
  ·simp [-qWw,jL,yX,jV,wV,hC,h5,fB c _ hc,hcl,qHb]
 by_cases h7:(ins p s i).op=7
 ·cases hcl:c.closed
  ·by_cases hf:(c.list.length:Int)=c.cap
   ·simp [-qWw,jL,yX,jV,wV,hC,h7,fB c _ hc,hcl,hf,key]
   ·simp [-qWw,jL,yX,jV,wV,hC,h7,fB c _ hc,hcl,hf,key]
  ·simp [-qWw,jL,yX,jV,wV,hC,h7,fB c _ hc,hcl,qHb]
 by_cases h9:(ins p s i).op=9
 ·cases hcl:c.closed
  ·simp [-qWw,jL,yX,jV,wV,vC,hC,h9,hc,hcl,key]
  ·simp [-qWw,jL,yX,jV,wV,vC,hC,h9,hc,hcl,qHb]
 by_cases h6:(ins p s i).op=6
 ·by_cases hl:0<c.list.length
  ·have hl' :¬c.list=[]:=by intro e; rw [e] at hl; simp at hl
   simp [-qWw,jL,yX,jV,wV,wJ,hC,h6,hc,hl,hl',key]
  ·have hl':c.list=[]:=List.length_eq_zero_iff.1 (by omega)
   cases hcl:c.closed
   ·simp [-qWw,jL,yX,jV,wV,wJ,hC,h6,hc,hl,hl',hcl]
   ·simp [-qWw,jL,yX,jV,wV,wJ,hC,h6,hc,hl,hl',hcl,key]
 have h8:(ins p s i).op=8:=by omega
 by_cases hl:0<c.list.length
 ·have hl' :¬c.list=[]:=by intro e; rw [e] at hl; simp at hl
  simp [-qWw,jL,yX,jV,wV,wJ,hC,h8,hc,hl,hl',key,uK]
  rfl
 ·have hl':c.list=[]:=List.length_eq_zero_iff.1 (by omega)
  cases hcl:c.closed
  ·simp [-qWw,jL,yX,jV,wV,wJ,hC,h8,hc,hl,hl',hcl,key,uK]
   rfl
  ·simp [-qWw,jL,yX,jV,wV,wJ,hC,h8,hc,hl,hl',hcl,key,uK,wW]
   rfl
def vS (p:wU) (s:wI) (who:Int):wI×Int:=if wL p s then wN p s who else (⟨[],[],[]⟩,1)
theorem fI {p:wU} {s:wI} (h:wL p s=true):s.tr.length≤4000:=by
 simp only [wL,bG,qWu,decide_eq_true_eq] at h
 omega
theorem mM (p:wU) (s:wI) (who:Int) (hp:vY p) (hs:hZ s):qU Tryz.prog num 46 [.agg (yT .bw p),.agg (yL .bw s),.int .i64 who] [] (.tup [.agg (yL .own (vS p s who).1),.int .i64 (vS p s who).2]):=by
 have hs1:=hs.ths
 refine EN m46 Tryz.func197 ?_
 unfold m46
 have hw1:IntKind.i64.wrap ((s.ths.length:Int)-1)=(s.ths.length:Int)-1:=wM (by omega) (by omega)
 simp only [go_sem,seval,hw1]
 refine CA [] (kL p s hp hs) ?_
 try simp only [go_sem,seval]
 cases h:wL p s
 ·simp only [go_sem,seval,h]
  refine ⟨_,Sub.refl _,yO (by simp) ?_⟩; simp [-qYj]
  simp [vS,h]
 simp only [go_sem,seval,h,hw1]
 refine CA [] (yM who 0 (s.ths.length-1)) ?_
 try simp only [go_sem,seval]
 cases hw:qO who 0 (s.ths.length-1)
 ·simp only [go_sem,seval,hw]
  refine CA [] (fJ s hs) ?_
  try simp only [go_sem,seval]
  apply wG (by simp)
  ·exact Sub.refl _
  ·simp [-qYj,-gD,vS,h,wN,jF,hw]<;>(first | rfl | exact ⟨rfl,rfl⟩ | exact ⟨rfl,rfl,rfl⟩ | skip)
 have hw':=hw
 rw [qP] at hw'
 obtain ⟨i,rfl⟩:=Int.eq_ofNat_of_zero_le hw'.1
 have hi:i<s.ths.length:=by omega
 have heq:=qLy p s i h hi
 simp only [go_sem,seval,hw,qT .bw s.ths i hi,Int.toNat_natCast]
 repeat refine K ?_
 by_cases hst:(s.ths.getD i default).st=0
 case neg =>
  simp only [go_sem,seval,hst]
  refine CA [] (fJ s hs) ?_
  try simp only [go_sem,seval]
  apply wG (by simp)
  ·exact Sub.refl _
  ·simp [-qYj,-gD,vS,h,←heq,fU,hst]<;>(first | rfl | exact ⟨rfl,rfl⟩ | exact ⟨rfl,rfl,rfl⟩ | skip)
 simp only [go_sem,seval,hst]
 repeat refine K ?_
 refine ⟨?_,?_⟩
 ·refine DA [] (fJ s hs) ?_
  try simp only [go_sem,seval]
  refine ⟨?_,?_⟩
  ·refine DA [(0,13),(1,14),(2,15)] (qDm p s i hp hs h hi (fI h)) ?_
   try simp only [go_sem,seval]
   try simp only [go_sem,seval,aL]
   by_cases hk:(jL p s i).2=0
   ·try simp only [go_sem,seval,hk]
    apply wG (by simp)
    ·exact Sub.refl _
    ·simp [-qYj,-gD,vS,h,←heq,fU,hst,hk]<;>(first | rfl | exact ⟨rfl,rfl⟩ | exact ⟨rfl,rfl,rfl⟩ | skip)
   ·try simp only [go_sem,seval,hk]
    refine CA [] (fJ s hs) ?_
    try simp only [go_sem,seval]
    apply wG (by simp)
    ·exact Sub.refl _
    ·simp [-qYj,-gD,vS,h,←heq,fU,hst,hk]<;>(first | rfl | exact ⟨rfl,rfl⟩ | exact ⟨rfl,rfl,rfl⟩ | skip)
  ·repeat refine K ?_
   refine DA [(0,13),(1,14),(2,15)] (qDm p s i hp hs h hi (fI h)) ?_
   try simp only [go_sem,seval]
   try simp only [go_sem,seval,aL]
   by_cases hk:(jL p s i).2=0
   ·try simp only [go_sem,seval,hk]
    apply wG (by simp)
    ·exact Sub.refl _
    ·simp [-qYj,-gD,vS,h,←heq,fU,hst,hk]<;>(first | rfl | exact ⟨rfl,rfl⟩ | exact ⟨rfl,rfl,rfl⟩ | skip)
   ·try simp only [go_sem,seval,hk]
    refine CA [] (fJ s hs) ?_
    try simp only [go_sem,seval]
    apply wG (by simp)
    ·exact Sub.refl _
    ·simp [-qYj,-gD,vS,h,←heq,fU,hst,hk]<;>(first | rfl | exact ⟨rfl,rfl⟩ | exact ⟨rfl,rfl,rfl⟩ | skip)
 ·repeat refine K ?_
  refine DA [] (fJ s hs) ?_
  try simp only [go_sem,seval]
  refine DA [(0,14),(1,15),(2,16)] (qDm p s i hp hs h hi (fI h)) ?_
  try simp only [go_sem,seval]
  try simp only [go_sem,seval,aL]
  by_cases hk:(jL p s i).2=0
  ·try simp only [go_sem,seval,hk]
   apply wG (by simp)
   ·exact Sub.refl _
   ·simp [-qYj,-gD,vS,h,←heq,fU,hst,hk]<;>(first | rfl | exact ⟨rfl,rfl⟩ | exact ⟨rfl,rfl,rfl⟩ | skip)
  ·try simp only [go_sem,seval,hk]
   refine CA [] (fJ s hs) ?_
   try simp only [go_sem,seval]
   apply wG (by simp)
   ·exact Sub.refl _
   ·simp [-qYj,-gD,vS,h,←heq,fU,hst,hk]<;>(first | rfl | exact ⟨rfl,rfl⟩ | exact ⟨rfl,rfl,rfl⟩ | skip)
end Go.Sep
