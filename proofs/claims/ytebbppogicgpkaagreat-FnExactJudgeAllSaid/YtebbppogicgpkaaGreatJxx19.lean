/- Contracts of functions. -/
import Derived.Test.YtebbppogicgpkaaGreatJxx15
import Derived.Test.YtebbppogicgpkaaGreatJxx16
import Derived.Test.YtebbppogicgpkaaGreatJxx18
open List renaming drop_one → qYj, getD_eq_getElem?_getD → qWw, getElem?_take → qYu
namespace Go.Sep
set_option maxHeartbeats 16000000
open Go.Proofs
set_option linter.unusedSimpArgs false
set_option linter.unusedVariables false
set_option maxRecDepth 100000
def m174:MFn:=⟨97,[.t 8],kr [xb 4 0,xb 5 1,xb 6 2,xF 8] (.seq (kr [xv 14 3,xa 15 1 5,xl 16 15,xe 17 16,bI 18 .sub 17 1,xc3 19 64 (.t 14) (xi 0) (.t 18),xN 20 19,xv 21 20,zv 22 3 21,za 23 0 6 21,zl 24 1 23 21,ze 25 24 21,xg 26 (.bin .geq (.t 22) (.t 25)) 21 false,xQ 27 21 26] (kF 27 [xF 8])) (.seq (.dreg (.take 0 (xa 28 1 5) (.take 1 (xl 29 28) (.take 2 (xv 30 3) (.take 3 (xD 31 4 29 30) (.take 4 (xm 32 4 31) (.take 5 (xa 33 0 6) (.take 6 (xl 34 33) (.take 7 (xv 35 3) (.take 8 (xD 36 3 34 35) (.take 9 (xm 37 3 36) (.both 10 [] (xo 9 (.alloc [.int .i64 0,.nil,.nil,.int .i64 0])) (.only 11 [] (xo 10 (.alloc [.int .i64 0,.nil,.int .i64 0])) (.only 12 [0,1,2,3,4] (xS 4 9 32) (.only 13 [0,1,2,3,4,5,6,7,8,9] (xS 3 10 37) (.done)))) 11 [] (xo 10 (.alloc [.int .i64 0,.nil,.int .i64 0])) (.only 10 [] (xo 9 (.alloc [.int .i64 0,.nil,.nil,.int .i64 0])) (.only 12 [0,1,2,3,4] (xS 4 9 32) (.only 13 [0,1,2,3,4,5,6,7,8,9] (xS 3 10 37) (.done)))))))))))))))) (kr [xm 39 2 4,xv 40 3,xa 41 0 9,xl 42 41,xc3 43 224 (.t 39) (.t 40) (.t 42),xv 38 43,xX 44 38 0,xX 45 38 1,xv 11 44,xv 12 45] (.seq (kr [xv 46 11,bI 47 .lss 46 0,xv 48 47,za 49 1 9 48,zl 50 1 49 48,ze 51 50 48,zI 52 .lss 51 4 48,xQ 53 48 52,xv 54 53,za 55 1 10 54,zl 56 1 55 54,ze 57 56 54,zI 58 .lss 57 4 54,xQ 59 54 58] (kF 59 [xF 8])) (.seq (kr [xa 60 3 9,xl 61 60,bI 62 .neq 61 0] (kF 62 [xa 63 3 9,xl 64 63,xa 65 2 10,xl 66 65,bT 67 .eql 64 66,xv 8 67])) (.seq (kr [xm 68 2 4,xm 69 4 5,xv 70 3,xc3 71 225 (.t 68) (.t 69) (.t 70),xN 72 71] (kF 72 [xT 8])) (.seq (kr [xI 13 0] (.blk 0 (.loop (.seq (kr [xv 73 13,bI 74 .lss 73 4] (kX 74 0)) (.seq (.blk 1 (.seq (.dreg (.take 0 (xa 77 1 9) (.take 1 (xl 78 77) (.take 2 (xv 79 13) (.take 3 (xD 80 1 78 79) (.take 4 (xl 81 80) (.take 5 (xa 82 1 10) (.take 6 (xl 83 82) (.only 7 [] (xv 84 13) (.only 8 [6,5] (xD 85 1 83 84) (.only 9 [8,6,5] (xl 86 85) (.only 10 [4,9,3,8,1,2,6,0,5] (bT 87 .neq 81 86) (.done))))))))))))) (kF 87 [xF 8]))) (xr [xv 75 13,bI 76 .add 75 1,xv 13 76])))))) (kR [xa 88 2 10,xl 89 88,bI 90 .eql 89 0,xv 91 90,ya 92 0 10 91,yl 93 1 92 91,yv 94 11 91,xg 95 (.bin .eql (.t 93) (.t 94)) 91 true,xP 96 91 95,xv 8 96]))))))))⟩
def m175:MFn:=⟨85,[.t 8],kr [xb 4 0,xb 5 1,xb 6 2,xF 8] (.seq (kr [xv 13 3,xc2 14 229 (.t 5) (.t 13),xN 15 14,xv 16 15,zv 17 3 16,za 18 0 6 16,zl 19 1 18 16,ze 20 19 16,xg 21 (.bin .geq (.t 17) (.t 20)) 16 false,xQ 22 16 21] (kF 22 [xF 8])) (.seq (.dreg (.take 0 (xa 23 1 5) (.take 1 (xl 24 23) (.take 2 (xv 25 3) (.take 3 (xD 26 4 24 25) (.take 4 (xm 27 4 26) (.take 5 (xa 28 0 6) (.take 6 (xl 29 28) (.take 7 (xv 30 3) (.take 8 (xD 31 3 29 30) (.take 9 (xm 32 3 31) (.both 10 [] (xo 9 (.alloc [.int .i64 0,.nil,.nil,.int .i64 0])) (.only 11 [] (xo 10 (.alloc [.int .i64 0,.nil,.int .i64 0])) (.only 12 [0,1,2,3,4] (xS 4 9 27) (.only 13 [0,1,2,3,4,5,6,7,8,9] (xS 3 10 32) (.done)))) 11 [] (xo 10 (.alloc [.int .i64 0,.nil,.int .i64 0])) (.only 10 [] (xo 9 (.alloc [.int .i64 0,.nil,.nil,.int .i64 0])) (.only 12 [0,1,2,3,4] (xS 4 9 27) (.only 13 [0,1,2,3,4,5,6,7,8,9] (xS 3 10 32) (.done)))))))))))))))) (kr [xm 34 2 4,xv 35 3,xa 36 0 9,xl 37 36,xc3 38 230 (.t 34) (.t 35) (.t 37),xv 33 38,xX 39 33 0,xX 40 33 1,xv 11 39,xv 12 40] (.seq (.blk 0 (kr [xv 42 11,bI 43 .lss 42 0,xv 44 43,za 45 1 9 44,zl 46 1 45 44,ze 47 46 44,zI 48 .lss 47 4 44,xQ 49 44 48,xv 50 49,za 51 1 10 50,zl 52 1 51 50,ze 53 52 50,zI 54 .lss 53 4 50,xQ 55 50 54,xv 41 55] (.cond 41 (kR [xF 8]) (kr [xa 57 3 9,xl 58 57,bI 59 .neq 58 0,xv 56 59] (.cond 56 (kR [xa 60 2 10,xl 61 60,xa 62 3 9,xl 63 62,bT 64 .eql 61 63,xv 8 64]) (kr [xv 66 12,xv 65 66] (.cond 65 (.seq (.dreg (.only 0 [] (xa 67 2 10) (.only 1 [] (xl 68 67) (.only 2 [] (bI 69 .eql 68 0) (.only 3 [] (xv 70 69) (.take 4 (ya 71 0 10 70) (.take 5 (yl 72 1 71 70) (.only 6 [] (yv 73 11 70) (.only 7 [5,4] (xg 74 (.bin .eql (.t 72) (.t 73)) 70 true) (.only 8 [7,5,4] (xP 75 70 74) (.only 9 [8,7,5,4] (xv 76 75) (.take 10 (ya 77 1 9 76) (.take 11 (yl 78 1 77 76) (.take 12 (xg 79 (.cut 1 (.t 78) none (some (xi 4))) 76 true) (.only 13 [9,8,7,5,4] (ya 80 1 10 76) (.only 14 [9,8,7,5,4] (yl 81 1 80 76) (.only 15 [9,8,7,5,4] (xg 82 (.cut 1 (.t 81) none (some (xi 4))) 76 true) (.only 16 [9,12,8,11,7,10,5,4] (xg 83 (.call 34 [false,false] [.t 79,.t 82]) 76 true) (.only 17 [9,16,8,12,7,11,5,10,4] (xP 84 76 83) (.only 18 [4,5,10,11,12] (xv 8 84) (.done))))))))))))))))))))) (.ret)) (.skip)))))))) (kR [xT 8])))))⟩
def m225:MFn:=⟨38,[.t 6],kr [xb 3 0,xb 4 1,xF 6] (.seq (kr [xv 9 2,xa 10 1 4,xl 11 10,xe 12 11,bI 13 .sub 12 1,xc3 14 64 (.t 9) (xi 0) (.t 13),xN 15 14,xv 16 15,za 17 1 4 16,zl 18 1 17 16,zv 19 2 16,xg 20 (.iad 4 (.t 18) (.t 19)) 16 false,za 21 3 20 16,zl 22 1 21 16,zI 23 .neq 22 0 16,xQ 24 16 23] (kF 24 [xF 6])) (.seq (.dreg (.take 0 (xm 26 2 3) (.take 1 (xv 27 2) (.take 2 (xa 28 1 4) (.take 3 (xl 29 28) (.only 4 [] (xv 30 2) (.only 5 [3,2] (xD 31 4 29 30) (.only 6 [5,3,2] (xa 32 0 31) (.only 7 [6,5,3,2] (xl 33 32) (.only 8 [0,1,7,6,5,3,2] (xc3 34 224 (.t 26) (.t 27) (.t 33)) (.only 9 [8,0,1,7,6,5,3,2] (xv 25 34) (.take 10 (xX 35 25 0) (.take 11 (xX 36 25 1) (.only 12 [0,1,2,3,10] (xv 7 35) (.only 13 [0,1,2,3,10,11] (xv 8 36) (.done)))))))))))))))) (kR [xv 37 8,xv 6 37])))⟩
def m229:MFn:=⟨13,[.t 4],kr [xF 4] (kR [xv 5 1,xv 6 0,xk 7 6,xa 8 1 7,xl 9 8,xe 10 9,bI 11 .sub 10 1,xc3 12 59 (.t 5) (xi 0) (.t 11),xv 4 12])⟩
theorem qDo (m:wA) (who:Int) (hl:m.cores.length<2^40):qU Tryz.prog num 229 [.fptr .bw (qY .bw m) 0,.int .i64 who] [] (.bool (qO who 0 (m.cores.length-1))):=by
 have w1:IntKind.i64.wrap ((m.cores.length:Int)-1)=m.cores.length-1:=wM (by omega) (by omega)
 refine EN m229 Tryz.func124 ?_
 unfold m229
 simp only [go_sem,seval,w1]
 refine CA [] (yD who 0 (m.cores.length-1)) ?_
 try simp only [go_sem,seval]
 refine fz ?_; simp [qX,qQ,qR,qL,-qYj]
def pY (p:wU) (m:wA) (who:Int):Bool:=qO who 0 (m.cores.length-1)&&decide ((m.cores.getD who.toNat default).st=0)&&(vK p who (m.cores.getD who.toNat default).at_).2
def vG (p:wU) (m:wA) (s:wI) (who:Int):Bool :=
 if qO who 0 (m.cores.length-1)&&decide (who<s.ths.length) then
  let k:=m.cores.getD who.toNat default
  let t:=s.ths.getD who.toNat default
  let pl:=vK p who k.at_
  if pl.1<0∨k.regs.length<4∨t.regs.length<4 then false
  else if k.st≠0 then decide (t.st=k.st)
  else if pl.2 then decide (t.st=0)&&decide (t.at_=pl.1)&&decide (k.regs.take 4=t.regs.take 4)
  else true
 else false
theorem qFx (p:wU) (m:wA) (who:Int) (hp:vY p) (hl:m.cores.length<2^40):qU Tryz.prog num 225 [.agg (yT .bw p),.agg (qY .bw m),.int .i64 who] [] (.bool (pY p m who)):=by
 have w1:IntKind.i64.wrap ((m.cores.length:Int)-1)=m.cores.length-1:=wM (by omega) (by omega)
 refine EN m225 Tryz.func127 ?_
 unfold m225
 simp only [go_sem,seval,w1]
 refine CA [] (yM who 0 (m.cores.length-1)) ?_
 try simp only [go_sem,seval]
 cases hw:qO who 0 (m.cores.length-1)
 ·try simp only [go_sem,seval,hw]
  refine fz ?_; simp [qX,qQ,qR,qL,-qYj]
  simp [pY,hw]
 have hw':=qP.1 hw
 have hk:who.toNat<m.cores.length:=by omega
 have hcg:=jZ .bw m.cores who.toNat hk
 try simp only [go_sem,seval,hw,hcg]
 repeat refine K ?_
 by_cases hst:(m.cores.getD who.toNat default).st=0
 ·try simp only [go_sem,seval,hst,hcg]
  repeat refine K ?_
  refine DA [] (lS p who (m.cores.getD who.toNat default).at_ hp) ?_
  try simp only [go_sem,seval]
  refine fz ?_; simp [qX,qQ,qR,qL,-qYj]
  have hq:pY p m who=(vK p who (m.cores.getD who.toNat default).at_).2:=by
   unfold pY
   rw [hw,hst]
   rfl
  rw [hq]
  simp
 ·try simp only [go_sem,seval,hst,hcg]
  refine fz ?_; simp [qX,qQ,qR,qL,-qYj]
  simp [-qWw,pY,hst]
theorem qF5 (p:wU) (m:wA) (s:wI) (who:Int) (hp:vY p) (hm:kT m) (hs:hZ s):qU Tryz.prog num 175 [.agg (yT .bw p),.agg (qY .bw m),.agg (yL .bw s),.int .i64 who] [] (.bool (vG p m s who)):=by
 have hl:=hm.cores
 have ht:=hs.ths
 refine EN m175 Tryz.func53 ?_
 unfold m175
 simp only [go_sem,seval]
 refine CA [] (qDo m who hl) ?_
 try simp only [go_sem,seval]
 cases hw:qO who 0 (m.cores.length-1)
 ·try simp only [go_sem,seval,hw]
  refine fz ?_; simp [qX,qQ,qR,qL,-qYj]
  simp [vG,hw]
 have hw':=qP.1 hw
 have hk:who.toNat<m.cores.length:=by omega
 by_cases hs':(s.ths.length:Int)≤who
 ·try simp only [go_sem,seval,hw,hs']
  refine fz ?_; simp [qX,qQ,qR,qL,-qYj]
  have :¬who<s.ths.length:=by omega
  simp [vG,this]
 have hj:who.toNat<s.ths.length:=by omega
 have hlt:who<s.ths.length:=by omega
 have hr1:=hm.regs _ (wZ m.cores who.toNat default hk)
 have hr2:=hs.regs _ (wZ s.ths who.toNat default hj)
 have hres:vG p m s who=(let k:=m.cores.getD who.toNat default
  let t:=s.ths.getD who.toNat default
  let pl:=vK p who k.at_
  if pl.1<0∨k.regs.length<4∨t.regs.length<4 then false
  else if k.st≠0 then decide (t.st=k.st)
  else if pl.2 then decide (t.st=0)&&decide (t.at_=pl.1)&&decide (k.regs.take 4=t.regs.take 4)
  else true):=by simp only [vG,hw,hlt]; rfl
 rw [hres]
 clear hres
 try simp only [go_sem,seval,hw,hs',jZ .bw m.cores who.toNat hk,qT .bw s.ths who.toNat hj]
 repeat refine K ?_
 generalize m.cores.getD who.toNat default=k at hr1
 generalize s.ths.getD who.toNat default=t at hr2
 have hpl:=qH8 p who k.at_ hp
 try simp only
 generalize vK p who k.at_=pl at hpl
 refine ⟨?_,?_⟩
 all_goals
  skip
  repeat refine K ?_
  refine CA [] (hpl) ?_
  try simp only [go_sem,seval]
  by_cases c1:pl.1<0
  ·try simp only [go_sem,seval,c1]
   refine fz ?_; simp [qX,qQ,qR,qL,-qYj]
   try simp [c1]
  by_cases c2:(k.regs.length:Int)<4
  ·try simp only [go_sem,seval,c1,c2]
   refine fz ?_; simp [qX,qQ,qR,qL,-qYj]
   try simp [c1]
   try omega
  by_cases c3:(t.regs.length:Int)<4
  ·try simp only [go_sem,seval,c1,c2,c3]
   refine fz ?_; simp [qX,qQ,qR,qL,-qYj]
   try simp [c1]
   try omega
  have hn :¬(pl.1<0∨k.regs.length<4∨t.regs.length<4):=by omega
  rw [if_neg hn]
  by_cases c4:k.st=0
  case neg =>
   try simp only [go_sem,seval,c1,c2,c3,c4]
   refine fz ?_; simp [qX,qQ,qR,qL,-qYj]
   try simp [c4]
  cases c5:pl.2
  ·try simp only [go_sem,seval,c1,c2,c3,c4,c5]
   refine fz ?_; simp [qX,qQ,qR,qL,-qYj]
   try simp [c4]
  by_cases c6:t.st=0
  case neg =>
   try simp only [go_sem,seval,c1,c2,c3,c4,c5,c6]
   refine fz ?_; simp [qX,qQ,qR,qL,-qYj]
   try simp [c4,c6]
  by_cases c7:t.at_=pl.1
  case neg =>
   try simp only [go_sem,seval,c1,c2,c3,c4,c5,c6,c7]
   repeat refine K ?_
   refine fz ?_; simp [qX,qQ,qR,qL,-qYj]
   try simp [c4,c7]
  try simp only [go_sem,seval,c1,c2,c3,c4,c5,c6,c7]
  repeat refine K ?_
  refine DA [] (fV (k.regs.take 4) (t.regs.take 4) (by simp; omega)) ?_
  try simp only [go_sem,seval]
  refine fz ?_; simp [qX,qQ,qR,qL,-qYj]
  try simp [c4,c6,c7]
theorem qEz (p:wU) (m:wA) (s:wI) (who:Int) (hp:vY p) (hm:kT m) (hs:hZ s):qU Tryz.prog num 174 [.agg (yT .bw p),.agg (qY .bw m),.agg (yL .bw s),.int .i64 who] [] (.bool (vG p m s who)):=by
 have hl:=hm.cores
 have ht:=hs.ths
 have w1:IntKind.i64.wrap ((m.cores.length:Int)-1)=m.cores.length-1:=wM (by omega) (by omega)
 refine EN m174 Tryz.func54 ?_
 unfold m174
 simp only [go_sem,seval,w1]
 refine CA [] (yM who 0 (m.cores.length-1)) ?_
 try simp only [go_sem,seval]
 cases hw:qO who 0 (m.cores.length-1)
 ·try simp only [go_sem,seval,hw]
  refine fz ?_; simp [qX,qQ,qR,qL,-qYj]
  simp [vG,hw]
 have hw':=qP.1 hw
 have hk:who.toNat<m.cores.length:=by omega
 by_cases hs':(s.ths.length:Int)≤who
 ·try simp only [go_sem,seval,hw,hs']
  refine fz ?_; simp [qX,qQ,qR,qL,-qYj]
  have :¬who<s.ths.length:=by omega
  simp [vG,this]
 have hj:who.toNat<s.ths.length:=by omega
 have hlt:who<s.ths.length:=by omega
 have hr1:=hm.regs _ (wZ m.cores who.toNat default hk)
 have hr2:=hs.regs _ (wZ s.ths who.toNat default hj)
 have hres:vG p m s who=(let k:=m.cores.getD who.toNat default
  let t:=s.ths.getD who.toNat default
  let pl:=vK p who k.at_
  if pl.1<0∨k.regs.length<4∨t.regs.length<4 then false
  else if k.st≠0 then decide (t.st=k.st)
  else if pl.2 then decide (t.st=0)&&decide (t.at_=pl.1)&&decide (k.regs.take 4=t.regs.take 4)
  else true):=by simp only [vG,hw,hlt]; rfl
 have hbt:pY p m who=(decide ((m.cores.getD who.toNat default).st=0)&&(vK p who (m.cores.getD who.toNat default).at_).2):=by simp only [pY,hw,Bool.true_and]
 have hb:=qFx p m who hp hl
 rw [hbt] at hb
 rw [hres]
 clear hres hbt
 try simp only [go_sem,seval,hw,hs',jZ .bw m.cores who.toNat hk,qT .bw s.ths who.toNat hj]
 repeat refine K ?_
 generalize m.cores.getD who.toNat default=k at hr1 hb
 generalize s.ths.getD who.toNat default=t at hr2
 have hpl:=lS p who k.at_ hp
 try simp only
 generalize vK p who k.at_=pl at hpl hb
 refine ⟨?_,?_⟩
 ·skip
  repeat refine K ?_
  refine CA [] (hpl) ?_
  try simp only [go_sem,seval]
  by_cases c1:pl.1<0
  ·try simp only [go_sem,seval,c1]
   refine fz ?_; simp [qX,qQ,qR,qL,-qYj]
   try simp [c1]
  by_cases c2:(k.regs.length:Int)<4
  ·try simp only [go_sem,seval,c1,c2]
   refine fz ?_; simp [qX,qQ,qR,qL,-qYj]
   try simp [c1]
   try omega
  by_cases c3:(t.regs.length:Int)<4
  ·try simp only [go_sem,seval,c1,c2,c3]
   refine fz ?_; simp [qX,qQ,qR,qL,-qYj]
   try simp [c1]
   try omega
  have hn :¬(pl.1<0∨k.regs.length<4∨t.regs.length<4):=by omega
  rw [if_neg hn]
  by_cases c4:k.st=0
  case neg =>
   try simp only [go_sem,seval,c1,c2,c3,c4]
   refine fz ?_; simp [qX,qQ,qR,qL,-qYj]
   try simp [c4]
   try exact eq_comm
  try simp only [go_sem,seval,c1,c2,c3,c4]
  refine CA [] (hb) ?_
  try simp only [go_sem,seval]
  cases c5:pl.2
  ·try simp only [go_sem,seval,c4,c5]
   refine fz ?_; simp [qX,qQ,qR,qL,-qYj]
   try simp [c4]
  try simp only [go_sem,seval,c4,c5]
  refine wB (ι:=Nat) (fun i=>.mk [(9,.ptr 13 0 0),(10,.ptr 14 0 0),(11,.int .i64 pl.1),(13,.int .i64 i)] [(13,4,[mX .bw k]),(14,3,[iO .bw t])] 15) (fun i=>i≤4∧k.regs.take i=t.regs.take i) (fun i=>4-i) 0 (by simp) ?_ ?_
  ·refine Sub.shape [] id (by omega) ?_ ?_ ?_ ?_<;>simp [qN]
   all_goals (first | exact c4.symm | skip)
  ·rintro i ⟨hi,hq⟩
   simp only [go_sem,seval]
   refine qM (fun hc=>?_) (fun hc=>?_)
   ·simp only [decide_eq_true_eq] at hc
    have ha:i<k.regs.length:=by omega
    have hb:i<t.regs.length:=by omega
    simp only [go_sem,seval,qI k.regs i ha,qI t.regs i hb]
    repeat refine K ?_
    by_cases he:k.regs.getD i 0=t.regs.getD i 0
    ·try simp only [go_sem,seval,he,qW (i:=i) (by omega)]
     refine qV (i+1) (Sub.shape [] id (by omega) ?_ ?_ ?_ ?_) ?_ ?_
     any_goals (first | omega | (simp [qN]; done))
     refine ⟨by omega,?_⟩
     rw [bL k.regs 0 i ha,bL t.regs 0 i hb,hq,he]
    ·try simp only [go_sem,seval,he]
     refine fz ?_; simp [qX,qQ,qR,qL,-qYj]
     have hne:k.regs.take 4≠t.regs.take 4:=fun h=>by
      apply he
      have e1:(k.regs.take 4).getD i 0=k.regs.getD i 0:=by simp [qWw,qYu,show i<4 by omega]
      have e2:(t.regs.take 4).getD i 0=t.regs.getD i 0:=by simp [qWw,qYu,show i<4 by omega]
      rw [←e1,←e2,h]
     try simp [c4,hne]
   ·simp only [decide_eq_false_iff_not] at hc
    have h4:i=4:=by omega
    subst h4
    simp only [go_sem,seval]
    by_cases c6:t.st=0
    case neg =>
     try simp only [go_sem,seval,c6]
     refine fz ?_; simp [qX,qQ,qR,qL,-qYj]
     try simp [c4,c6]
    try simp only [go_sem,seval,c6]
    refine fz ?_; simp [qX,qQ,qR,qL,-qYj]
    try simp [c4,c6,hq]
 ·skip
  repeat refine K ?_
  refine CA [] (hpl) ?_
  try simp only [go_sem,seval]
  by_cases c1:pl.1<0
  ·try simp only [go_sem,seval,c1]
   refine fz ?_; simp [qX,qQ,qR,qL,-qYj]
   try simp [c1]
  by_cases c2:(k.regs.length:Int)<4
  ·try simp only [go_sem,seval,c1,c2]
   refine fz ?_; simp [qX,qQ,qR,qL,-qYj]
   try simp [c1]
   try omega
  by_cases c3:(t.regs.length:Int)<4
  ·try simp only [go_sem,seval,c1,c2,c3]
   refine fz ?_; simp [qX,qQ,qR,qL,-qYj]
   try simp [c1]
   try omega
  have hn :¬(pl.1<0∨k.regs.length<4∨t.regs.length<4):=by omega
  rw [if_neg hn]
  by_cases c4:k.st=0
  case neg =>
   try simp only [go_sem,seval,c1,c2,c3,c4]
   refine fz ?_; simp [qX,qQ,qR,qL,-qYj]
   try simp [c4]
   try exact eq_comm
  try simp only [go_sem,seval,c1,c2,c3,c4]
  refine CA [] (hb) ?_
  try simp only [go_sem,seval]
  cases c5:pl.2
  ·try simp only [go_sem,seval,c4,c5]
   refine fz ?_; simp [qX,qQ,qR,qL,-qYj]
   try simp [c4]
  try simp only [go_sem,seval,c4,c5]
  refine wB (ι:=Nat) (fun i=>.mk [(9,.ptr 14 0 0),(10,.ptr 13 0 0),(11,.int .i64 pl.1),(13,.int .i64 i)] [(13,3,[iO .bw t]),(14,4,[mX .bw k])] 15) (fun i=>i≤4∧k.regs.take i=t.regs.take i) (fun i=>4-i) 0 (by simp) ?_ ?_
  ·refine Sub.shape [] id (by omega) ?_ ?_ ?_ ?_<;>simp [qN]
   all_goals (first | exact c4.symm | skip)
  ·rintro i ⟨hi,hq⟩
   simp only [go_sem,seval]
   refine qM (fun hc=>?_) (fun hc=>?_)
   ·simp only [decide_eq_true_eq] at hc
    have ha:i<k.regs.length:=by omega
    have hb:i<t.regs.length:=by omega
    simp only [go_sem,seval,qI k.regs i ha,qI t.regs i hb]
    repeat refine K ?_
    by_cases he:k.regs.getD i 0=t.regs.getD i 0
    ·try simp only [go_sem,seval,he,qW (i:=i) (by omega)]
     refine qV (i+1) (Sub.shape [] id (by omega) ?_ ?_ ?_ ?_) ?_ ?_
     any_goals (first | omega | (simp [qN]; done))
     refine ⟨by omega,?_⟩
     rw [bL k.regs 0 i ha,bL t.regs 0 i hb,hq,he]
    ·try simp only [go_sem,seval,he]
     refine fz ?_; simp [qX,qQ,qR,qL,-qYj]
     have hne:k.regs.take 4≠t.regs.take 4:=fun h=>by
      apply he
      have e1:(k.regs.take 4).getD i 0=k.regs.getD i 0:=by simp [qWw,qYu,show i<4 by omega]
      have e2:(t.regs.take 4).getD i 0=t.regs.getD i 0:=by simp [qWw,qYu,show i<4 by omega]
      rw [←e1,←e2,h]
     try simp [c4,hne]
   ·simp only [decide_eq_false_iff_not] at hc
    have h4:i=4:=by omega
    subst h4
    simp only [go_sem,seval]
    by_cases c6:t.st=0
    case neg =>
     try simp only [go_sem,seval,c6]
     refine fz ?_; simp [qX,qQ,qR,qL,-qYj]
     try simp [c4,c6]
    try simp only [go_sem,seval,c6]
    refine fz ?_; simp [qX,qQ,qR,qL,-qYj]
    try simp [c4,c6,hq]
end Go.Sep
