/- Contracts of functions. -/
import Derived.Test.YtjbknbgdfhihcaaGreatJxx2
import Derived.Test.YtjbknbgdfhihcaaGreatJxx22
namespace Go.Sep
set_option maxHeartbeats 16000000
open Go.Proofs
set_option linter.unusedSimpArgs false
set_option linter.unusedVariables false
set_option maxRecDepth 100000
open Nat renaming reduceAdd → qA, reduceMul → qB, reduceEqDiff → qC, reduceBEq → qD
open Int renaming reduceToNat → qE, reduceEq → qF, reduceLT → qG, reduceLE → qH
def m34:MFn:=⟨26,[.t 4],kr [xF 4] (.seq (kr [xv 6 0,xe 7 6,xv 8 1,xe 9 8,bT 10 .neq 7 9] (kF 10 [xF 4])) (.seq (kr [xv 11 0,xe 12 11,xI 13 0] (.blk 0 (.loop (kr [bT 14 .lss 13 12] (.seq (kX 14 0) (.seq (.blk 1 (kr [xv 15 13,xv 5 15] (.seq (.dreg (.take 0 (xv 16 0) (.take 1 (xv 17 5) (.take 2 (xD 18 1 16 17) (.take 3 (xl 19 18) (.take 4 (xv 20 1) (.only 5 [] (xv 21 5) (.only 6 [4] (xD 22 1 20 21) (.only 7 [6,4] (xl 23 22) (.only 8 [3,7,2,6,0,1,4] (bT 24 .neq 19 23) (.done))))))))))) (kF 24 [xF 4])))) (xr [bI 25 .add 13 1,xv 13 25]))))))) (kR [xT 4])))⟩
theorem slicesEqual_ok (xs ys:List Int) (hx:xs.length≤2^47):CallOk Tryz.prog num 34 [.sl .bw 1 (ints xs),.sl .bw 1 (ints ys)] [] (.bool (decide (xs=ys))):=by
 refine EN m34 Tryz.func180 ?_
 unfold m34
 simp only [go_sem,qA,qB,qC,qD,qE,qF,qG,qH]
 refine qA1 (fun hc=>?_) (fun hc=>?_)
 ·have hne:xs≠ys:=fun he=>by subst he; simp at hc
  simp only [go_sem,qA,qB,qC,qD,qE,qF,qG,qH]
  refine ⟨_,Sub.refl _,?_⟩
  simp [FinS,nilL,nilV,oneOr,-List.drop_one]
  exact hne
 ·have hl:xs.length=ys.length:=by simp at hc; omega
  simp only [go_sem,qA,qB,qC,qD,qE,qF,qG,qH]
  refine qA8 (ι:=Nat) (fun i=>.mk [(0,.sl .bw 1 (ints xs)),(1,.sl .bw 1 (ints ys)),(12,.int .i64 xs.length),(13,.int .i64 i)] [] 10) (fun i=>i≤xs.length∧xs.take i=ys.take i) (fun i=>xs.length-i) 0 (by simp) ?_ ?_
  ·refine Sub.shape [] id (by omega) ?_ ?_ ?_ ?_<;>simp [qA2]
  ·rintro i ⟨hi,hp⟩
   simp only [go_sem,qA,qB,qC,qD,qE,qF,qG,qH]
   refine qA1 (fun hc=>?_) (fun hc=>?_)
   ·simp only [decide_eq_true_eq] at hc
    have hil:i<xs.length:=by omega
    have hjl:i<ys.length:=by omega
    simp only [go_sem,qA,qB,qC,qD,qE,qF,qG,qH,qA0 xs i hil,qA0 ys i hjl]
    refine ⟨by omega,by omega,by omega,by omega,qA1 (fun hc=>?_) (fun hc=>?_)⟩
    ·have hne:xs≠ys:=fun he=>by subst he; simp at hc
     simp only [go_sem,qA,qB,qC,qD,qE,qF,qG,qH]
     refine ⟨_,Sub.refl _,?_⟩
     simp [FinS,nilL,nilV,oneOr,-List.drop_one]
     exact hne
    ·have hw:=qA7 (i:=i) (by omega)
     simp only [go_sem,qA,qB,qC,qD,qE,qF,qG,qH,hw]
     have he:xs.getD i 0=ys.getD i 0:=by simpa using hc
     refine qA6 (i+1) (Sub.shape [] id (by omega) ?_ ?_ ?_ ?_) ⟨hil,?_⟩ (by omega)
     case refine_5 =>
      rw [List.take_succ_eq_append_getElem hil,List.take_succ_eq_append_getElem hjl,hp]
      have he':xs[i]=ys[i]:=by simpa [List.getD_eq_getElem?_getD,hil,hjl] using he
      rw [he']
     all_goals simp [qA2]
   ·simp only [decide_eq_false_iff_not] at hc
    have hi':i=xs.length:=by omega
    have he:xs=ys:=by
     rw [hi',List.take_length,hl,List.take_length] at hp
     exact hp
    simp only [go_sem,qA,qB,qC,qD,qE,qF,qG,qH]
    refine ⟨_,Sub.refl _,?_⟩
    simp [FinS,nilL,nilV,oneOr,-List.drop_one]
    exact he
def m230:MFn:=⟨29,[.t 6,.t 7],kr [xb 3 0,xI 6 0,xF 7] (.seq (kr [xm 8 2 3,xc1 9 48 (.t 8),xN 10 9,xv 11 10,zv 12 1 11,za 13 1 3 11,zl 14 1 13 11,ze 15 14 11,zI 16 .sub 15 1 11,xg 17 (.call 59 [false,false,false] [.t 12,xi 0,.t 16]) 11 false,zN 18 17 11,xQ 19 11 18] (kF 19 [xo 6 (.mv (.c (.int .i64 (-1)))),xF 7])) (kR [xa 20 1 3,xl 21 20,xv 22 1,xD 23 1 21 22,xl 24 23,xv 25 2,xc2 26 280 (.t 24) (.t 25),xX 27 26 0,xX 28 26 1,xv 6 27,xv 7 28]))⟩
theorem implPlaceOf_ok (p:Prog) (k at_:Int) (hp:SmallP p):CallOk Tryz.prog num 230 [.agg (progC .bw p),.int .i64 k,.int .i64 at_] [] (.tup [.int .i64 (placeOf p k at_).1,.bool (placeOf p k at_).2]):=by
 obtain ⟨h1,h2,h3⟩:=hp
 have w1:IntKind.i64.wrap ((p.bods.length:Int)-1)=p.bods.length-1:=qAg (by omega) (by omega)
 refine EN m230 Tryz.func179 ?_
 unfold m230
 simp only [go_sem,seval]
 repeat refine K ?_
 refine CA [] (implProgOk_ok p (by omega) (by omega) (fun b hb=>by have:=h3 b hb; omega)) ?_
 try simp only [go_sem,seval]
 repeat refine K ?_
 cases hok:progOk p
 ·try simp only [go_sem,seval,hok]
  repeat refine K ?_
  refine ⟨_,Sub.refl _,qAp (by simp) ?_⟩; simp [-List.drop_one]
  simp [placeOf,hok]
 try simp only [go_sem,seval,hok,w1]
 repeat refine K ?_
 refine CA [] (qAk k 0 (p.bods.length-1)) ?_
 try simp only [go_sem,seval]
 repeat refine K ?_
 cases hw:within k 0 (p.bods.length-1)
 ·try simp only [go_sem,seval,hw]
  repeat refine K ?_
  refine ⟨_,Sub.refl _,qAp (by simp) ?_⟩; simp [-List.drop_one]
  simp [placeOf,hw]
 have hw':=within_iff.1 hw
 have hk:k.toNat<p.bods.length:=by omega
 try simp only [go_sem,seval,hw,qA9 .bw p.bods k.toNat hk]
 repeat refine K ?_
 refine CA [] (implPlaceAt_ok (p.bods.getD k.toNat []) at_ (h3 _ (qAd p.bods k.toNat [] hk))) ?_
 try simp only [go_sem,seval]
 repeat refine K ?_
 try simp only [go_sem,seval]
 repeat refine K ?_
 refine ⟨_,Sub.refl _,qAp (by simp) ?_⟩; simp [-List.drop_one]
 simp [placeOf,hok,hw]
def m174:MFn:=⟨97,[.t 8],kr [xb 4 0,xb 5 1,xb 6 2,xF 8] (.seq (kr [xv 14 3,xa 15 1 5,xl 16 15,xe 17 16,bI 18 .sub 17 1,xc3 19 64 (.t 14) (xi 0) (.t 18),xN 20 19,xv 21 20,zv 22 3 21,za 23 0 6 21,zl 24 1 23 21,ze 25 24 21,xg 26 (.bin .geq (.t 22) (.t 25)) 21 false,xQ 27 21 26] (kF 27 [xF 8])) (.seq (.dreg (.take 0 (xa 28 1 5) (.take 1 (xl 29 28) (.take 2 (xv 30 3) (.take 3 (xD 31 4 29 30) (.take 4 (xm 32 4 31) (.take 5 (xa 33 0 6) (.take 6 (xl 34 33) (.take 7 (xv 35 3) (.take 8 (xD 36 3 34 35) (.take 9 (xm 37 3 36) (.both 10 [] (xo 9 (.alloc [.int .i64 0,.nil,.nil,.int .i64 0])) (.only 11 [] (xo 10 (.alloc [.int .i64 0,.nil,.int .i64 0])) (.only 12 [0,1,2,3,4] (xS 4 9 32) (.only 13 [0,1,2,3,4,5,6,7,8,9] (xS 3 10 37) (.done)))) 11 [] (xo 10 (.alloc [.int .i64 0,.nil,.int .i64 0])) (.only 10 [] (xo 9 (.alloc [.int .i64 0,.nil,.nil,.int .i64 0])) (.only 12 [0,1,2,3,4] (xS 4 9 32) (.only 13 [0,1,2,3,4,5,6,7,8,9] (xS 3 10 37) (.done)))))))))))))))) (kr [xm 39 2 4,xv 40 3,xa 41 0 9,xl 42 41,xc3 43 224 (.t 39) (.t 40) (.t 42),xv 38 43,xX 44 38 0,xX 45 38 1,xv 11 44,xv 12 45] (.seq (kr [xv 46 11,bI 47 .lss 46 0,xv 48 47,za 49 1 9 48,zl 50 1 49 48,ze 51 50 48,zI 52 .lss 51 4 48,xQ 53 48 52,xv 54 53,za 55 1 10 54,zl 56 1 55 54,ze 57 56 54,zI 58 .lss 57 4 54,xQ 59 54 58] (kF 59 [xF 8])) (.seq (kr [xa 60 3 9,xl 61 60,bI 62 .neq 61 0] (kF 62 [xa 63 3 9,xl 64 63,xa 65 2 10,xl 66 65,bT 67 .eql 64 66,xv 8 67])) (.seq (kr [xm 68 2 4,xm 69 4 5,xv 70 3,xc3 71 225 (.t 68) (.t 69) (.t 70),xN 72 71] (kF 72 [xT 8])) (.seq (kr [xI 13 0] (.blk 0 (.loop (.seq (kr [xv 73 13,bI 74 .lss 73 4] (kX 74 0)) (.seq (.blk 1 (.seq (.dreg (.take 0 (xa 77 1 9) (.take 1 (xl 78 77) (.take 2 (xv 79 13) (.take 3 (xD 80 1 78 79) (.take 4 (xl 81 80) (.take 5 (xa 82 1 10) (.take 6 (xl 83 82) (.only 7 [] (xv 84 13) (.only 8 [6,5] (xD 85 1 83 84) (.only 9 [8,6,5] (xl 86 85) (.only 10 [4,9,3,8,1,2,6,0,5] (bT 87 .neq 81 86) (.done))))))))))))) (kF 87 [xF 8]))) (xr [xv 75 13,bI 76 .add 75 1,xv 13 76])))))) (kR [xa 88 2 10,xl 89 88,bI 90 .eql 89 0,xv 91 90,ya 92 0 10 91,yl 93 1 92 91,yv 94 11 91,xg 95 (.bin .eql (.t 93) (.t 94)) 91 true,xP 96 91 95,xv 8 96]))))))))⟩
def m175:MFn:=⟨85,[.t 8],kr [xb 4 0,xb 5 1,xb 6 2,xF 8] (.seq (kr [xv 13 3,xc2 14 229 (.t 5) (.t 13),xN 15 14,xv 16 15,zv 17 3 16,za 18 0 6 16,zl 19 1 18 16,ze 20 19 16,xg 21 (.bin .geq (.t 17) (.t 20)) 16 false,xQ 22 16 21] (kF 22 [xF 8])) (.seq (.dreg (.take 0 (xa 23 1 5) (.take 1 (xl 24 23) (.take 2 (xv 25 3) (.take 3 (xD 26 4 24 25) (.take 4 (xm 27 4 26) (.take 5 (xa 28 0 6) (.take 6 (xl 29 28) (.take 7 (xv 30 3) (.take 8 (xD 31 3 29 30) (.take 9 (xm 32 3 31) (.both 10 [] (xo 9 (.alloc [.int .i64 0,.nil,.nil,.int .i64 0])) (.only 11 [] (xo 10 (.alloc [.int .i64 0,.nil,.int .i64 0])) (.only 12 [0,1,2,3,4] (xS 4 9 27) (.only 13 [0,1,2,3,4,5,6,7,8,9] (xS 3 10 32) (.done)))) 11 [] (xo 10 (.alloc [.int .i64 0,.nil,.int .i64 0])) (.only 10 [] (xo 9 (.alloc [.int .i64 0,.nil,.nil,.int .i64 0])) (.only 12 [0,1,2,3,4] (xS 4 9 27) (.only 13 [0,1,2,3,4,5,6,7,8,9] (xS 3 10 32) (.done)))))))))))))))) (kr [xm 34 2 4,xv 35 3,xa 36 0 9,xl 37 36,xc3 38 230 (.t 34) (.t 35) (.t 37),xv 33 38,xX 39 33 0,xX 40 33 1,xv 11 39,xv 12 40] (.seq (.blk 0 (kr [xv 42 11,bI 43 .lss 42 0,xv 44 43,za 45 1 9 44,zl 46 1 45 44,ze 47 46 44,zI 48 .lss 47 4 44,xQ 49 44 48,xv 50 49,za 51 1 10 50,zl 52 1 51 50,ze 53 52 50,zI 54 .lss 53 4 50,xQ 55 50 54,xv 41 55] (.cond 41 (kR [xF 8]) (kr [xa 57 3 9,xl 58 57,bI 59 .neq 58 0,xv 56 59] (.cond 56 (kR [xa 60 2 10,xl 61 60,xa 62 3 9,xl 63 62,bT 64 .eql 61 63,xv 8 64]) (kr [xv 66 12,xv 65 66] (.cond 65 (.seq (.dreg (.only 0 [] (xa 67 2 10) (.only 1 [] (xl 68 67) (.only 2 [] (bI 69 .eql 68 0) (.only 3 [] (xv 70 69) (.take 4 (ya 71 0 10 70) (.take 5 (yl 72 1 71 70) (.only 6 [] (yv 73 11 70) (.only 7 [5,4] (xg 74 (.bin .eql (.t 72) (.t 73)) 70 true) (.only 8 [7,5,4] (xP 75 70 74) (.only 9 [8,7,5,4] (xv 76 75) (.take 10 (ya 77 1 9 76) (.take 11 (yl 78 1 77 76) (.take 12 (xg 79 (.cut 1 (.t 78) none (some (xi 4))) 76 true) (.only 13 [9,8,7,5,4] (ya 80 1 10 76) (.only 14 [9,8,7,5,4] (yl 81 1 80 76) (.only 15 [9,8,7,5,4] (xg 82 (.cut 1 (.t 81) none (some (xi 4))) 76 true) (.only 16 [9,12,8,11,7,10,5,4] (xg 83 (.call 34 [false,false] [.t 79,.t 82]) 76 true) (.only 17 [9,16,8,12,7,11,5,10,4] (xP 84 76 83) (.only 18 [4,5,10,11,12] (xv 8 84) (.done))))))))))))))))))))) (.ret)) (.skip)))))))) (kR [xT 8])))))⟩
def m225:MFn:=⟨38,[.t 6],kr [xb 3 0,xb 4 1,xF 6] (.seq (kr [xv 9 2,xa 10 1 4,xl 11 10,xe 12 11,bI 13 .sub 12 1,xc3 14 64 (.t 9) (xi 0) (.t 13),xN 15 14,xv 16 15,za 17 1 4 16,zl 18 1 17 16,zv 19 2 16,xg 20 (.iad 4 (.t 18) (.t 19)) 16 false,za 21 3 20 16,zl 22 1 21 16,zI 23 .neq 22 0 16,xQ 24 16 23] (kF 24 [xF 6])) (.seq (.dreg (.take 0 (xm 26 2 3) (.take 1 (xv 27 2) (.take 2 (xa 28 1 4) (.take 3 (xl 29 28) (.only 4 [] (xv 30 2) (.only 5 [3,2] (xD 31 4 29 30) (.only 6 [5,3,2] (xa 32 0 31) (.only 7 [6,5,3,2] (xl 33 32) (.only 8 [0,1,7,6,5,3,2] (xc3 34 224 (.t 26) (.t 27) (.t 33)) (.only 9 [8,0,1,7,6,5,3,2] (xv 25 34) (.take 10 (xX 35 25 0) (.take 11 (xX 36 25 1) (.only 12 [0,1,2,3,10] (xv 7 35) (.only 13 [0,1,2,3,10,11] (xv 8 36) (.done)))))))))))))))) (kR [xv 37 8,xv 6 37])))⟩
def between (p:Prog) (m:Machine) (who:Int):Bool:=within who 0 (m.cores.length-1)&&decide ((m.cores.getD who.toNat default).st=0)&&(placeOf p who (m.cores.getD who.toNat default).at_).2
def coreSame (p:Prog) (m:Machine) (s:Source) (who:Int):Bool :=
 if within who 0 (m.cores.length-1)&&decide (who<s.ths.length) then
  let k:=m.cores.getD who.toNat default
  let t:=s.ths.getD who.toNat default
  let pl:=placeOf p who k.at_
  if pl.1<0∨k.regs.length<4∨t.regs.length<4 then false
  else if k.st≠0 then decide (t.st=k.st)
  else if pl.2 then decide (t.st=0)&&decide (t.at_=pl.1)&&decide (k.regs.take 4=t.regs.take 4)
  else true
 else false
theorem specBetween_ok (p:Prog) (m:Machine) (who:Int) (hp:SmallP p) (hl:m.cores.length<2^40):CallOk Tryz.prog num 225 [.agg (progC .bw p),.agg (machineC .bw m),.int .i64 who] [] (.bool (between p m who)):=by
 have w1:IntKind.i64.wrap ((m.cores.length:Int)-1)=m.cores.length-1:=qAg (by omega) (by omega)
 refine EN m225 Tryz.func171 ?_
 unfold m225
 simp only [go_sem,seval,w1]
 repeat refine K ?_
 refine CA [] (qAq who 0 (m.cores.length-1)) ?_
 try simp only [go_sem,seval]
 repeat refine K ?_
 cases hw:within who 0 (m.cores.length-1)
 ·try simp only [go_sem,seval,hw]
  repeat refine K ?_
  refine fz ?_; simp [FinS,nilL,nilV,oneOr,-List.drop_one]
  simp [between,hw]
 have hw':=within_iff.1 hw
 have hk:who.toNat<m.cores.length:=by omega
 have hcg:=qAv .bw m.cores who.toNat hk
 try simp only [go_sem,seval,hw,hcg]
 repeat refine K ?_
 by_cases hst:(m.cores.getD who.toNat default).st=0
 ·try simp only [go_sem,seval,hst,hcg]
  repeat refine K ?_
  refine DA [] (specPlaceOf_ok p who (m.cores.getD who.toNat default).at_ hp) ?_
  try simp only [go_sem,seval]
  repeat refine K ?_
  try simp only [go_sem,seval]
  repeat refine K ?_
  refine fz ?_; simp [FinS,nilL,nilV,oneOr,-List.drop_one]
  have hq:between p m who=(placeOf p who (m.cores.getD who.toNat default).at_).2:=by
   unfold between
   rw [hw,hst]
   rfl
  rw [hq]
  simp
 ·try simp only [go_sem,seval,hst,hcg]
  repeat refine K ?_
  refine fz ?_; simp [FinS,nilL,nilV,oneOr,-List.drop_one]
  simp [-List.getD_eq_getElem?_getD,between,hst]
theorem implCoreSame_ok (p:Prog) (m:Machine) (s:Source) (who:Int) (hp:SmallP p) (hm:SmallM m) (hs:Small s):CallOk Tryz.prog num 175 [.agg (progC .bw p),.agg (machineC .bw m),.agg (sourceC .bw s),.int .i64 who] [] (.bool (coreSame p m s who)):=by
 have hl:=hm.cores
 have ht:=hs.ths
 refine EN m175 Tryz.func100 ?_
 unfold m175
 simp only [go_sem,seval]
 repeat refine K ?_
 refine CA [] (isCore_ok m who hl) ?_
 try simp only [go_sem,seval]
 repeat refine K ?_
 cases hw:within who 0 (m.cores.length-1)
 ·try simp only [go_sem,seval,hw]
  repeat refine K ?_
  refine fz ?_; simp [FinS,nilL,nilV,oneOr,-List.drop_one]
  simp [coreSame,hw]
 have hw':=within_iff.1 hw
 have hk:who.toNat<m.cores.length:=by omega
 by_cases hs':(s.ths.length:Int)≤who
 ·try simp only [go_sem,seval,hw,hs']
  repeat refine K ?_
  refine fz ?_; simp [FinS,nilL,nilV,oneOr,-List.drop_one]
  have :¬who<s.ths.length:=by omega
  simp [coreSame,this]
 have hj:who.toNat<s.ths.length:=by omega
 have hlt:who<s.ths.length:=by omega
 have hr1:=hm.regs _ (qAd m.cores who.toNat default hk)
 have hr2:=hs.regs _ (qAd s.ths who.toNat default hj)
 have hres:coreSame p m s who=(let k:=m.cores.getD who.toNat default
  let t:=s.ths.getD who.toNat default
  let pl:=placeOf p who k.at_
  if pl.1<0∨k.regs.length<4∨t.regs.length<4 then false
  else if k.st≠0 then decide (t.st=k.st)
  else if pl.2 then decide (t.st=0)&&decide (t.at_=pl.1)&&decide (k.regs.take 4=t.regs.take 4)
  else true):=by simp only [coreSame,hw,hlt]; rfl
 rw [hres]
 clear hres
 try simp only [go_sem,seval,hw,hs',qAv .bw m.cores who.toNat hk,qA5 .bw s.ths who.toNat hj]
 repeat refine K ?_
 generalize m.cores.getD who.toNat default=k at hr1
 generalize s.ths.getD who.toNat default=t at hr2
 have hpl:=implPlaceOf_ok p who k.at_ hp
 try simp only
 generalize placeOf p who k.at_=pl at hpl
 refine ⟨?_,?_⟩
 all_goals
  try simp only [go_sem,seval]
  repeat refine K ?_
  refine CA [] (hpl) ?_
  try simp only [go_sem,seval]
  repeat refine K ?_
  by_cases c1:pl.1<0
  ·try simp only [go_sem,seval,c1]
   repeat refine K ?_
   refine fz ?_; simp [FinS,nilL,nilV,oneOr,-List.drop_one]
   try simp [c1]
  by_cases c2:(k.regs.length:Int)<4
  ·try simp only [go_sem,seval,c1,c2]
   repeat refine K ?_
   refine fz ?_; simp [FinS,nilL,nilV,oneOr,-List.drop_one]
   try simp [c1]
   try omega
  by_cases c3:(t.regs.length:Int)<4
  ·try simp only [go_sem,seval,c1,c2,c3]
   repeat refine K ?_
   refine fz ?_; simp [FinS,nilL,nilV,oneOr,-List.drop_one]
   try simp [c1]
   try omega
  have hn :¬(pl.1<0∨k.regs.length<4∨t.regs.length<4):=by omega
  rw [if_neg hn]
  by_cases c4:k.st=0
  case neg =>
   try simp only [go_sem,seval,c1,c2,c3,c4]
   repeat refine K ?_
   refine fz ?_; simp [FinS,nilL,nilV,oneOr,-List.drop_one]
   try simp [c4]
  cases c5:pl.2
  ·try simp only [go_sem,seval,c1,c2,c3,c4,c5]
   repeat refine K ?_
   refine fz ?_; simp [FinS,nilL,nilV,oneOr,-List.drop_one]
   try simp [c4]
  by_cases c6:t.st=0
  case neg =>
   try simp only [go_sem,seval,c1,c2,c3,c4,c5,c6]
   repeat refine K ?_
   refine fz ?_; simp [FinS,nilL,nilV,oneOr,-List.drop_one]
   try simp [c4,c6]
  by_cases c7:t.at_=pl.1
  case neg =>
   try simp only [go_sem,seval,c1,c2,c3,c4,c5,c6,c7]
   repeat refine K ?_
   refine fz ?_; simp [FinS,nilL,nilV,oneOr,-List.drop_one]
   try simp [c4,c7]
  try simp only [go_sem,seval,c1,c2,c3,c4,c5,c6,c7]
  repeat refine K ?_
  refine DA [] (slicesEqual_ok (k.regs.take 4) (t.regs.take 4) (by simp; omega)) ?_
  try simp only [go_sem,seval]
  repeat refine K ?_
  try simp only [go_sem,seval]
  repeat refine K ?_
  refine fz ?_; simp [FinS,nilL,nilV,oneOr,-List.drop_one]
  try simp [c4,c6,c7]
theorem specCoreSame_ok (p:Prog) (m:Machine) (s:Source) (who:Int) (hp:SmallP p) (hm:SmallM m) (hs:Small s):CallOk Tryz.prog num 174 [.agg (progC .bw p),.agg (machineC .bw m),.agg (sourceC .bw s),.int .i64 who] [] (.bool (coreSame p m s who)):=by
 have hl:=hm.cores
 have ht:=hs.ths
 have w1:IntKind.i64.wrap ((m.cores.length:Int)-1)=m.cores.length-1:=qAg (by omega) (by omega)
 refine EN m174 Tryz.func93 ?_
 unfold m174
 simp only [go_sem,seval,w1]
 repeat refine K ?_
 refine CA [] (qAq who 0 (m.cores.length-1)) ?_
 try simp only [go_sem,seval]
 repeat refine K ?_
 cases hw:within who 0 (m.cores.length-1)
 ·try simp only [go_sem,seval,hw]
  repeat refine K ?_
  refine fz ?_; simp [FinS,nilL,nilV,oneOr,-List.drop_one]
  simp [coreSame,hw]
 have hw':=within_iff.1 hw
 have hk:who.toNat<m.cores.length:=by omega
 by_cases hs':(s.ths.length:Int)≤who
 ·try simp only [go_sem,seval,hw,hs']
  repeat refine K ?_
  refine fz ?_; simp [FinS,nilL,nilV,oneOr,-List.drop_one]
  have :¬who<s.ths.length:=by omega
  simp [coreSame,this]
 have hj:who.toNat<s.ths.length:=by omega
 have hlt:who<s.ths.length:=by omega
 have hr1:=hm.regs _ (qAd m.cores who.toNat default hk)
 have hr2:=hs.regs _ (qAd s.ths who.toNat default hj)
 have hres:coreSame p m s who=(let k:=m.cores.getD who.toNat default
  let t:=s.ths.getD who.toNat default
  let pl:=placeOf p who k.at_
  if pl.1<0∨k.regs.length<4∨t.regs.length<4 then false
  else if k.st≠0 then decide (t.st=k.st)
  else if pl.2 then decide (t.st=0)&&decide (t.at_=pl.1)&&decide (k.regs.take 4=t.regs.take 4)
  else true):=by simp only [coreSame,hw,hlt]; rfl
 have hbt:between p m who=(decide ((m.cores.getD who.toNat default).st=0)&&(placeOf p who (m.cores.getD who.toNat default).at_).2):=by simp only [between,hw,Bool.true_and]
 have hb:=specBetween_ok p m who hp hl
 rw [hbt] at hb
 rw [hres]
 clear hres hbt
 try simp only [go_sem,seval,hw,hs',qAv .bw m.cores who.toNat hk,qA5 .bw s.ths who.toNat hj]
 repeat refine K ?_
 generalize m.cores.getD who.toNat default=k at hr1 hb
 generalize s.ths.getD who.toNat default=t at hr2
 have hpl:=specPlaceOf_ok p who k.at_ hp
 try simp only
 generalize placeOf p who k.at_=pl at hpl hb
 refine ⟨?_,?_⟩
 ·skip
  try simp only [go_sem,seval]
  repeat refine K ?_
  refine CA [] (hpl) ?_
  try simp only [go_sem,seval]
  repeat refine K ?_
  by_cases c1:pl.1<0
  ·try simp only [go_sem,seval,c1]
   repeat refine K ?_
   refine fz ?_; simp [FinS,nilL,nilV,oneOr,-List.drop_one]
   try simp [c1]
  by_cases c2:(k.regs.length:Int)<4
  ·try simp only [go_sem,seval,c1,c2]
   repeat refine K ?_
   refine fz ?_; simp [FinS,nilL,nilV,oneOr,-List.drop_one]
   try simp [c1]
   try omega
  by_cases c3:(t.regs.length:Int)<4
  ·try simp only [go_sem,seval,c1,c2,c3]
   repeat refine K ?_
   refine fz ?_; simp [FinS,nilL,nilV,oneOr,-List.drop_one]
   try simp [c1]
   try omega
  have hn :¬(pl.1<0∨k.regs.length<4∨t.regs.length<4):=by omega
  rw [if_neg hn]
  by_cases c4:k.st=0
  case neg =>
   try simp only [go_sem,seval,c1,c2,c3,c4]
   repeat refine K ?_
   refine fz ?_; simp [FinS,nilL,nilV,oneOr,-List.drop_one]
   try simp [c4]
   try exact eq_comm
  try simp only [go_sem,seval,c1,c2,c3,c4]
  repeat refine K ?_
  refine CA [] (hb) ?_
  try simp only [go_sem,seval]
  repeat refine K ?_
  cases c5:pl.2
  ·try simp only [go_sem,seval,c4,c5]
   repeat refine K ?_
   refine fz ?_; simp [FinS,nilL,nilV,oneOr,-List.drop_one]
   try simp [c4]
  try simp only [go_sem,seval,c4,c5]
  repeat refine K ?_
  refine qA8 (ι:=Nat) (fun i=>.mk [(9,.ptr 13 0 0),(10,.ptr 14 0 0),(11,.int .i64 pl.1),(13,.int .i64 i)] [(13,4,[coreC .bw k]),(14,3,[threadC .bw t])] 15) (fun i=>i≤4∧k.regs.take i=t.regs.take i) (fun i=>4-i) 0 (by simp) ?_ ?_
  ·refine Sub.shape [] id (by omega) ?_ ?_ ?_ ?_<;>simp [qA2]
   all_goals (first | exact c4.symm | skip)
  ·rintro i ⟨hi,hq⟩
   simp only [go_sem,seval]
   refine qA1 (fun hc=>?_) (fun hc=>?_)
   ·simp only [decide_eq_true_eq] at hc
    have ha:i<k.regs.length:=by omega
    have hb:i<t.regs.length:=by omega
    simp only [go_sem,seval,qA0 k.regs i ha,qA0 t.regs i hb]
    repeat refine K ?_
    by_cases he:k.regs.getD i 0=t.regs.getD i 0
    ·try simp only [go_sem,seval,he,qA7 (i:=i) (by omega)]
     repeat refine K ?_
     refine qA6 (i+1) (Sub.shape [] id (by omega) ?_ ?_ ?_ ?_) ?_ ?_
     any_goals (first | omega | (simp [qA2]; done))
     refine ⟨by omega,?_⟩
     rw [qBm k.regs 0 i ha,qBm t.regs 0 i hb,hq,he]
    ·try simp only [go_sem,seval,he]
     repeat refine K ?_
     refine fz ?_; simp [FinS,nilL,nilV,oneOr,-List.drop_one]
     have hne:k.regs.take 4≠t.regs.take 4:=fun h=>by
      apply he
      have e1:(k.regs.take 4).getD i 0=k.regs.getD i 0:=by simp [List.getD_eq_getElem?_getD,List.getElem?_take,show i<4 by omega]
      have e2:(t.regs.take 4).getD i 0=t.regs.getD i 0:=by simp [List.getD_eq_getElem?_getD,List.getElem?_take,show i<4 by omega]
      rw [←e1,←e2,h]
     try simp [c4,hne]
   ·simp only [decide_eq_false_iff_not] at hc
    have h4:i=4:=by omega
    subst h4
    simp only [go_sem,seval]
    repeat refine K ?_
    by_cases c6:t.st=0
    case neg =>
     try simp only [go_sem,seval,c6]
     repeat refine K ?_
     refine fz ?_; simp [FinS,nilL,nilV,oneOr,-List.drop_one]
     try simp [c4,c6]
    try simp only [go_sem,seval,c6]
    repeat refine K ?_
    refine fz ?_; simp [FinS,nilL,nilV,oneOr,-List.drop_one]
    try simp [c4,c6,hq]
 ·skip
  try simp only [go_sem,seval]
  repeat refine K ?_
  refine CA [] (hpl) ?_
  try simp only [go_sem,seval]
  repeat refine K ?_
  by_cases c1:pl.1<0
  ·try simp only [go_sem,seval,c1]
   repeat refine K ?_
   refine fz ?_; simp [FinS,nilL,nilV,oneOr,-List.drop_one]
   try simp [c1]
  by_cases c2:(k.regs.length:Int)<4
  ·try simp only [go_sem,seval,c1,c2]
   repeat refine K ?_
   refine fz ?_; simp [FinS,nilL,nilV,oneOr,-List.drop_one]
   try simp [c1]
   try omega
  by_cases c3:(t.regs.length:Int)<4
  ·try simp only [go_sem,seval,c1,c2,c3]
   repeat refine K ?_
   refine fz ?_; simp [FinS,nilL,nilV,oneOr,-List.drop_one]
   try simp [c1]
   try omega
  have hn :¬(pl.1<0∨k.regs.length<4∨t.regs.length<4):=by omega
  rw [if_neg hn]
  by_cases c4:k.st=0
  case neg =>
   try simp only [go_sem,seval,c1,c2,c3,c4]
   repeat refine K ?_
   refine fz ?_; simp [FinS,nilL,nilV,oneOr,-List.drop_one]
   try simp [c4]
   try exact eq_comm
  try simp only [go_sem,seval,c1,c2,c3,c4]
  repeat refine K ?_
  refine CA [] (hb) ?_
  try simp only [go_sem,seval]
  repeat refine K ?_
  cases c5:pl.2
  ·try simp only [go_sem,seval,c4,c5]
   repeat refine K ?_
   refine fz ?_; simp [FinS,nilL,nilV,oneOr,-List.drop_one]
   try simp [c4]
  try simp only [go_sem,seval,c4,c5]
  repeat refine K ?_
  refine qA8 (ι:=Nat) (fun i=>.mk [(9,.ptr 14 0 0),(10,.ptr 13 0 0),(11,.int .i64 pl.1),(13,.int .i64 i)] [(13,3,[threadC .bw t]),(14,4,[coreC .bw k])] 15) (fun i=>i≤4∧k.regs.take i=t.regs.take i) (fun i=>4-i) 0 (by simp) ?_ ?_
  ·refine Sub.shape [] id (by omega) ?_ ?_ ?_ ?_<;>simp [qA2]
   all_goals (first | exact c4.symm | skip)
  ·rintro i ⟨hi,hq⟩
   simp only [go_sem,seval]
   refine qA1 (fun hc=>?_) (fun hc=>?_)
   ·simp only [decide_eq_true_eq] at hc
    have ha:i<k.regs.length:=by omega
    have hb:i<t.regs.length:=by omega
    simp only [go_sem,seval,qA0 k.regs i ha,qA0 t.regs i hb]
    repeat refine K ?_
    by_cases he:k.regs.getD i 0=t.regs.getD i 0
    ·try simp only [go_sem,seval,he,qA7 (i:=i) (by omega)]
     repeat refine K ?_
     refine qA6 (i+1) (Sub.shape [] id (by omega) ?_ ?_ ?_ ?_) ?_ ?_
     any_goals (first | omega | (simp [qA2]; done))
     refine ⟨by omega,?_⟩
     rw [qBm k.regs 0 i ha,qBm t.regs 0 i hb,hq,he]
    ·try simp only [go_sem,seval,he]
     repeat refine K ?_
     refine fz ?_; simp [FinS,nilL,nilV,oneOr,-List.drop_one]
     have hne:k.regs.take 4≠t.regs.take 4:=fun h=>by
      apply he
      have e1:(k.regs.take 4).getD i 0=k.regs.getD i 0:=by simp [List.getD_eq_getElem?_getD,List.getElem?_take,show i<4 by omega]
      have e2:(t.regs.take 4).getD i 0=t.regs.getD i 0:=by simp [List.getD_eq_getElem?_getD,List.getElem?_take,show i<4 by omega]
      rw [←e1,←e2,h]
     try simp [c4,hne]
   ·simp only [decide_eq_false_iff_not] at hc
    have h4:i=4:=by omega
    subst h4
    simp only [go_sem,seval]
    repeat refine K ?_
    by_cases c6:t.st=0
    case neg =>
     try simp only [go_sem,seval,c6]
     repeat refine K ?_
     refine fz ?_; simp [FinS,nilL,nilV,oneOr,-List.drop_one]
     try simp [c4,c6]
    try simp only [go_sem,seval,c6]
    repeat refine K ?_
    refine fz ?_; simp [FinS,nilL,nilV,oneOr,-List.drop_one]
    try simp [c4,c6,hq]
def m394:MFn:=⟨66,[.t 6],kr [xb 3 0,xb 4 1,xb 5 2,xF 6] (.seq (kr [xm 9 2 3,xc1 10 62 (.t 9),xN 11 10,xv 12 11,xg 13 (.load 4 true (.t 4)) 12 false,xg 14 (.call 233 [false] [.t 13]) 12 false,zN 15 14 12,xQ 16 12 15,xv 17 16,xg 18 (.load 2 true (.t 3)) 17 false,xg 19 (.load 3 true (.t 5)) 17 false,xg 20 (.call 63 [false,false] [.t 18,.t 19]) 17 false,zN 21 20 17,xQ 22 17 21,xv 23 22,za 24 3 4 23,zl 25 1 24 23,za 26 2 5 23,zl 27 1 26 23,xg 28 (.call 417 [false,false] [.t 25,.t 27]) 23 false,zN 29 28 23,xQ 30 23 29,xv 31 30,za 32 1 4 31,zl 33 1 32 31,ze 34 33 31,za 35 0 5 31,zl 36 1 35 31,ze 37 36 31,xg 38 (.bin .neq (.t 34) (.t 37)) 31 false,xQ 39 31 38] (kF 39 [xF 6])) (.seq (kr [xI 7 0] (.blk 0 (.loop (.seq (kr [xv 40 7,xa 41 1 4,xl 42 41,xe 43 42,bT 44 .lss 40 43] (kX 44 0)) (.seq (.blk 1 (kr [xm 47 2 3,xm 48 4 4,xm 49 3 5,xv 50 7,xo 51 (.call 174 [false,false,false,false] [.t 47,.t 48,.t 49,.t 50]),xN 52 51] (kF 52 [xF 6]))) (xr [xv 45 7,bI 46 .add 45 1,xv 7 46])))))) (.seq (kr [xI 8 0] (.blk 2 (.loop (.seq (kr [xv 53 8,xa 54 0 3,xl 55 54,xe 56 55,bT 57 .lss 53 56] (kX 57 2)) (.seq (.blk 3 (kr [xm 60 2 3,xm 61 4 4,xm 62 3 5,xv 63 8,xo 64 (.call 418 [false,false,false,false] [.t 60,.t 61,.t 62,.t 63]),xN 65 64] (kF 65 [xF 6]))) (xr [xv 58 8,bI 59 .add 58 1,xv 8 59])))))) (kR [xT 6]))))⟩
def m395:MFn:=⟨66,[.t 6],kr [xb 3 0,xb 4 1,xb 5 2,xF 6] (.seq (kr [xm 9 2 3,xc1 10 48 (.t 9),xN 11 10,xv 12 11,xg 13 (.load 4 true (.t 4)) 12 false,xg 14 (.call 235 [false] [.t 13]) 12 false,zN 15 14 12,xQ 16 12 15,xv 17 16,xg 18 (.load 2 true (.t 3)) 17 false,xg 19 (.load 3 true (.t 5)) 17 false,xg 20 (.call 50 [false,false] [.t 18,.t 19]) 17 false,zN 21 20 17,xQ 22 17 21,xv 23 22,za 24 1 4 23,zl 25 1 24 23,ze 26 25 23,za 27 0 5 23,zl 28 1 27 23,ze 29 28 23,xg 30 (.bin .neq (.t 26) (.t 29)) 23 false,xQ 31 23 30,xv 32 31,za 33 3 4 32,zl 34 1 33 32,za 35 2 5 32,zl 36 1 35 32,xg 37 (.call 419 [false,false] [.t 34,.t 36]) 32 false,zN 38 37 32,xQ 39 32 38] (kF 39 [xF 6])) (.seq (kr [xa 40 1 4,xl 41 40,xe 42 41,xI 43 0] (.blk 0 (.loop (kr [bT 44 .lss 43 42] (.seq (kX 44 0) (.seq (.blk 1 (kr [xv 45 43,xv 7 45] (kr [xm 46 2 3,xm 47 4 4,xm 48 3 5,xv 49 7,xo 50 (.call 175 [false,false,false,false] [.t 46,.t 47,.t 48,.t 49]),xN 51 50] (kF 51 [xF 6])))) (xr [bI 52 .add 43 1,xv 43 52]))))))) (.seq (kr [xa 53 0 3,xl 54 53,xe 55 54,xI 56 0] (.blk 2 (.loop (kr [bT 57 .lss 56 55] (.seq (kX 57 2) (.seq (.blk 3 (kr [xv 58 56,xv 8 58] (kr [xm 59 2 3,xm 60 4 4,xm 61 3 5,xv 62 8,xo 63 (.call 420 [false,false,false,false] [.t 59,.t 60,.t 61,.t 62]),xN 64 63] (kF 64 [xF 6])))) (xr [bI 65 .add 56 1,xv 56 65]))))))) (kR [xT 6]))))⟩
def m418:MFn:=⟨66,[.t 8],kr [xb 4 0,xb 5 1,xb 6 2,xF 8] (.seq (kr [xa 12 0 4,xl 13 12,xv 14 3,xc2 15 257 (.t 13) (.t 14),bI 16 .lss 15 0,xv 17 16,zv 18 3 17,za 19 1 6 17,zl 20 1 19 17,ze 21 20 17,xg 22 (.bin .geq (.t 18) (.t 21)) 17 false,xQ 23 17 22] (kF 23 [xF 8])) (.seq (kr [xa 24 2 5,xm 25 1 24,xa 26 0 4,xl 27 26,xv 28 3,xc3 29 422 (.t 25) (.t 27) (.t 28)] (kF 29 [xT 8])) (kr [xa 31 2 5,xm 32 1 31,xa 33 0 4,xl 34 33,xv 35 3,xc3 36 421 (.t 32) (.t 34) (.t 35),xv 30 36,xX 37 30 0,xX 38 30 1,xo 9 (.alloc [.int .i64 0,.nil,.bool false]),xS 3 9 37,xv 10 38] (kr [xa 39 1 6,xl 40 39,xv 41 3,xD 42 3 40 41,xm 43 3 42,xo 11 (.alloc [.int .i64 0,.nil,.bool false]),xS 3 11 43] (kR [xv 44 10,xv 45 44,ya 46 0 9 45,yl 47 1 46 45,ya 48 0 11 45,yl 49 1 48 45,xg 50 (.bin .eql (.t 47) (.t 49)) 45 true,xP 51 45 50,xv 52 51,ya 53 2 9 52,yl 54 1 53 52,ya 55 2 11 52,yl 56 1 55 52,xg 57 (.eqB false (.t 54) (.t 56)) 52 true,xP 58 52 57,xv 59 58,ya 60 1 9 59,yl 61 1 60 59,ya 62 1 11 59,yl 63 1 62 59,xg 64 (.call 433 [false,false] [.t 61,.t 63]) 59 true,xP 65 59 64,xv 8 65])))))⟩
def m420:MFn:=⟨68,[.t 8],kr [xb 4 0,xb 5 1,xb 6 2,xF 8] (.seq (kr [xv 12 3,xa 13 0 4,xl 14 13,xe 15 14,bI 16 .sub 15 1,xc3 17 59 (.t 12) (xi 0) (.t 16),xN 18 17,xv 19 18,zv 20 3 19,za 21 1 6 19,zl 22 1 21 19,ze 23 22 19,xg 24 (.bin .geq (.t 20) (.t 23)) 19 false,xQ 25 19 24] (kF 25 [xF 8])) (.seq (kr [xa 26 2 5,xm 27 1 26,xa 28 0 4,xl 29 28,xv 30 3,xc3 31 424 (.t 27) (.t 29) (.t 30)] (kF 31 [xT 8])) (kr [xa 33 2 5,xm 34 1 33,xa 35 0 4,xl 36 35,xv 37 3,xc3 38 423 (.t 34) (.t 36) (.t 37),xv 32 38,xX 39 32 0,xX 40 32 1,xo 9 (.alloc [.int .i64 0,.nil,.bool false]),xS 3 9 39,xv 10 40] (kr [xa 41 1 6,xl 42 41,xv 43 3,xD 44 3 42 43,xm 45 3 44,xo 11 (.alloc [.int .i64 0,.nil,.bool false]),xS 3 11 45] (kR [xv 46 10,xv 47 46,ya 48 0 9 47,yl 49 1 48 47,ya 50 0 11 47,yl 51 1 50 47,xg 52 (.bin .eql (.t 49) (.t 51)) 47 true,xP 53 47 52,xv 54 53,ya 55 1 9 54,yl 56 1 55 54,ya 57 1 11 54,yl 58 1 57 54,xg 59 (.call 34 [false,false] [.t 56,.t 58]) 54 true,xP 60 54 59,xv 61 60,ya 62 2 9 61,yl 63 1 62 61,ya 64 2 11 61,yl 65 1 64 61,xg 66 (.eqB false (.t 63) (.t 65)) 61 true,xP 67 61 66,xv 8 67])))))⟩
def m433:MFn:=⟨32,[.t 4],kr [xF 4] (.seq (kr [xI 5 0] (.blk 0 (.loop (.seq (kr [xv 6 5,xv 7 0,xe 8 7,bT 9 .lss 6 8,xv 10 9,yv 11 5 10,yv 12 1 10,ye 13 12 10,xg 14 (.bin .lss (.t 11) (.t 13)) 10 true,xP 15 10 14] (kX 15 0)) (.seq (.blk 1 (.seq (.dreg (.take 0 (xv 18 0) (.take 1 (xv 19 5) (.take 2 (xD 20 1 18 19) (.take 3 (xl 21 20) (.take 4 (xv 22 1) (.only 5 [] (xv 23 5) (.only 6 [4] (xD 24 1 22 23) (.only 7 [6,4] (xl 25 24) (.only 8 [3,7,2,6,0,1,4] (bT 26 .neq 21 25) (.done))))))))))) (kF 26 [xF 4]))) (xr [xv 16 5,bI 17 .add 16 1,xv 5 17])))))) (kR [xv 27 0,xe 28 27,xv 29 1,xe 30 29,bT 31 .eql 28 30,xv 4 31]))⟩
theorem l13Ints_ok (a b:List Int) (h1:a.length<2^40):CallOk Tryz.prog num 433 [.sl .bw 1 (ints a),.sl .bw 1 (ints b)] [] (.bool (decide (a=b))):=by
 refine EN m433 Tryz.func173 ?_
 unfold m433
 simp only [go_sem,seval]
 repeat refine K ?_
 refine qA8 (ι:=Nat) (fun i=>.mk [(0,.sl .bw 1 (ints a)),(1,.sl .bw 1 (ints b)),(5,.int .i64 i)] [] 10) (fun i=>i≤a.length∧i≤b.length∧a.take i=b.take i) (fun i=>a.length-i) 0 (by simp) ?_ ?_
 ·refine Sub.shape [] id (by omega) ?_ ?_ ?_ ?_<;>simp [qA2]
 ·rintro i ⟨hi,hj,hp⟩
  have hend:(a.length≤i∨b.length≤i)→decide ((a.length:Int)=b.length)=decide (a=b):=fun h=>by
   by_cases hl:a.length=b.length
   ·rw [take_all hp h hl]
    simp
   ·have :¬a=b:=fun e=>hl (by rw [e])
    simp [this]
    omega
  by_cases hc1:(i:Int)<a.length
  case neg =>
   simp only [go_sem,seval,hc1,hend (.inl (by omega))]
   repeat refine K ?_
   refine fz ?_; simp [FinS,nilL,nilV,oneOr,-List.drop_one]
  by_cases hc2:(i:Int)<b.length
  case neg =>
   simp only [go_sem,seval,hc1,hc2,hend (.inr (by omega))]
   repeat refine K ?_
   refine fz ?_; simp [FinS,nilL,nilV,oneOr,-List.drop_one]
  have g1:i<a.length:=by omega
  have g2:i<b.length:=by omega
  simp only [go_sem,seval,hc1,hc2,qA0 a i g1,qA0 b i g2]
  repeat refine K ?_
  by_cases he:a.getD i 0=b.getD i 0
  ·try simp only [go_sem,seval,he,qA7 (i:=i) (by omega)]
   repeat refine K ?_
   refine qA6 (i+1) (Sub.shape [] id (by omega) ?_ ?_ ?_ ?_) ⟨g1,g2,by rw [qBm a 0 i g1,qBm b 0 i g2,hp,he]⟩ (by omega)<;>simp [qA2]
  ·have hne :¬a=b:=fun e=>he (by rw [e])
   try simp only [go_sem,seval,he]
   repeat refine K ?_
   refine fz ?_; simp [FinS,nilL,nilV,oneOr,-List.drop_one]
   all_goals simp [hne]
def chanSame (p:Prog) (m:Machine) (s:Source) (n:Int):Bool :=
 within n 0 (p.caps.length-1)&&decide (n<s.chs.length) &&
  (lockedM m.mem.cells p.caps n||((chanIn m.mem.cells p.caps n).2&&decide ((chanIn m.mem.cells p.caps n).1.cap=(s.chs.getD n.toNat default).cap)&&decide ((chanIn m.mem.cells p.caps n).1.list=(s.chs.getD n.toNat default).list)&&decide ((chanIn m.mem.cells p.caps n).1.closed=(s.chs.getD n.toNat default).closed)))
theorem chanIn_len (cs:List (List Write)) (caps:List Int) (n:Int):(chanIn cs caps n).1.list.length<2^40:=by
 unfold chanIn
 split
 ·rename_i h
  simp only [Bool.and_eq_true,Bool.not_eq_true',decide_eq_false_iff_not] at h
  obtain ⟨_,_,_,_,_,h3⟩:=qE5 h.1
  rw [within_iff] at h3
  unfold chanOf
  split
  ·rename_i hh
   simp only [Bool.and_eq_true,within_iff] at hh
   simp only [chanL_length]
   omega
  ·simp [nilChan]
 ·simp [nilChan]
theorem implChanSame_ok (p:Prog) (m:Machine) (s:Source) (n:Int) (hp:SmallP p) (hm:SmallM m) (hs:Small s):CallOk Tryz.prog num 420 [.agg (progC .bw p),.agg (machineC .bw m),.agg (sourceC .bw s),.int .i64 n] [] (.bool (chanSame p m s n)):=by
 have h1:=hp.caps
 have h2:=hs.chs
 have w1:IntKind.i64.wrap ((p.caps.length:Int)-1)=p.caps.length-1:=qAg (by omega) (by omega)
 refine EN m420 Tryz.func101 ?_
 unfold m420
 simp only [go_sem,seval,w1]
 repeat refine K ?_
 refine CA [] (qAk n 0 (p.caps.length-1)) ?_
 try simp only [go_sem,seval]
 repeat refine K ?_
 cases hw:within n 0 (p.caps.length-1)
 ·try simp only [go_sem,seval,hw]
  repeat refine K ?_
  refine fz ?_; simp [FinS,nilL,nilV,oneOr,-List.drop_one]
  all_goals simp [chanSame,hw]
 have hw':=within_iff.1 hw
 by_cases hn:(s.chs.length:Int)≤n
 ·try simp only [go_sem,seval,hw,hn]
  repeat refine K ?_
  refine fz ?_; simp [FinS,nilL,nilV,oneOr,-List.drop_one]
  all_goals simp [chanSame,show¬n<s.chs.length by omega]
 have hn':n<s.chs.length:=by omega
 obtain ⟨i,rfl⟩:=Int.eq_ofNat_of_zero_le hw'.1
 have hi:i<s.chs.length:=by omega
 have hcg:=qB1 .bw s.chs i hi
 have hres:chanSame p m s i=(lockedM m.mem.cells p.caps i||((chanIn m.mem.cells p.caps i).2&&decide ((chanIn m.mem.cells p.caps i).1.cap=(s.chs.getD i default).cap)&&decide ((chanIn m.mem.cells p.caps i).1.list=(s.chs.getD i default).list)&&decide ((chanIn m.mem.cells p.caps i).1.closed=(s.chs.getD i default).closed))):=by
  unfold chanSame
  rw [hw,decide_eq_true hn',Int.toNat_natCast]
  rfl
 rw [hres]
 clear hres
 have hlk:=implLocked_ok m.mem.cells p.caps i hm.mem h1
 have hci:=implChanIn_ok m.mem.cells p.caps i hm.mem h1
 have hcl:=chanIn_len m.mem.cells p.caps i
 try simp only [go_sem,seval,hw,hn,hcg]
 repeat refine K ?_
 refine CA [] (hlk) ?_
 try simp only [go_sem,seval]
 repeat refine K ?_
 generalize hL:lockedM m.mem.cells p.caps i=L
 cases L
 ·try simp only [go_sem,seval,hL]
  repeat refine K ?_
  refine CA [] (hci) ?_
  try simp only [go_sem,seval]
  repeat refine K ?_
  generalize chanIn m.mem.cells p.caps i=q at *
  obtain ⟨c,b⟩:=q
  generalize s.chs.getD i default=d at *
  simp only at hcl⊢
  cases b
  ·try simp only [go_sem,seval,hcg]
   repeat refine K ?_
   refine fz ?_; simp [FinS,nilL,nilV,oneOr,-List.drop_one]
  by_cases hc1:c.cap=d.cap
  case neg =>
   try simp only [go_sem,seval,hc1,hcg]
   repeat refine K ?_
   refine fz ?_; simp [FinS,nilL,nilV,oneOr,-List.drop_one]
   all_goals simp [hc1]
  try simp only [go_sem,seval,hc1,hcg]
  repeat refine K ?_
  refine CA [] (slicesEqual_ok c.list d.list (by omega)) ?_
  try simp only [go_sem,seval]
  repeat refine K ?_
  by_cases hc2:c.list=d.list
  case neg =>
   try simp only [go_sem,seval,hc2]
   repeat refine K ?_
   refine fz ?_; simp [FinS,nilL,nilV,oneOr,-List.drop_one]
   all_goals simp [hc2]
  try simp only [go_sem,seval,hc2,hcg]
  repeat refine K ?_
  refine fz ?_; simp [FinS,nilL,nilV,oneOr,-List.drop_one]
  all_goals (cases c.closed<;>cases d.closed<;>simp [hc1,hc2])
 ·try simp only [go_sem,seval,hL]
  repeat refine K ?_
  refine fz ?_; simp [FinS,nilL,nilV,oneOr,-List.drop_one]
theorem specChanSame_ok (p:Prog) (m:Machine) (s:Source) (n:Int) (hp:SmallP p) (hm:SmallM m) (hs:Small s):CallOk Tryz.prog num 418 [.agg (progC .bw p),.agg (machineC .bw m),.agg (sourceC .bw s),.int .i64 n] [] (.bool (chanSame p m s n)):=by
 have h1:=hp.caps
 have h2:=hs.chs
 refine EN m418 Tryz.func94 ?_
 unfold m418
 simp only [go_sem,seval]
 repeat refine K ?_
 refine CA [] (specBase_ok p.caps n h1) ?_
 try simp only [go_sem,seval]
 repeat refine K ?_
 by_cases hb:base p.caps n<0
 ·have hno:chanSame p m s n=false:=by
   unfold chanSame
   have e1:lockedM m.mem.cells p.caps n=false:=by
    unfold lockedM
    rw [decide_eq_false (by omega)]
    rfl
   rw [e1,chanIn_no (.inl hb)]
   simp
  rw [hno]
  try simp only [go_sem,seval,hb]
  repeat refine K ?_
  refine fz ?_; simp [FinS,nilL,nilV,oneOr,-List.drop_one]
 obtain ⟨n0,n1,_⟩:=qE5 hb
 have hw:within n 0 (p.caps.length-1)=true:=by rw [within_iff]; omega
 by_cases hn:(s.chs.length:Int)≤n
 ·try simp only [go_sem,seval,hb,hn]
  repeat refine K ?_
  refine fz ?_; simp [FinS,nilL,nilV,oneOr,-List.drop_one]
  all_goals simp [chanSame,show¬n<s.chs.length by omega]
 have hn':n<s.chs.length:=by omega
 obtain ⟨i,rfl⟩:=Int.eq_ofNat_of_zero_le n0
 have hi:i<s.chs.length:=by omega
 have hcg:=qB1 .bw s.chs i hi
 have hres:chanSame p m s i=(lockedM m.mem.cells p.caps i||((chanIn m.mem.cells p.caps i).2&&decide ((chanIn m.mem.cells p.caps i).1.cap=(s.chs.getD i default).cap)&&decide ((chanIn m.mem.cells p.caps i).1.list=(s.chs.getD i default).list)&&decide ((chanIn m.mem.cells p.caps i).1.closed=(s.chs.getD i default).closed))):=by
  unfold chanSame
  rw [hw,decide_eq_true hn',Int.toNat_natCast]
  rfl
 rw [hres]
 clear hres
 have hlk:=specLocked_ok m.mem.cells p.caps i hm.mem h1
 have hci:=specChanIn_ok m.mem.cells p.caps i hm.mem h1
 have hcl:=chanIn_len m.mem.cells p.caps i
 try simp only [go_sem,seval,hb,hn,hcg]
 repeat refine K ?_
 refine CA [] (hlk) ?_
 try simp only [go_sem,seval]
 repeat refine K ?_
 generalize hL:lockedM m.mem.cells p.caps i=L
 cases L
 ·try simp only [go_sem,seval,hL]
  repeat refine K ?_
  refine CA [] (hci) ?_
  try simp only [go_sem,seval]
  repeat refine K ?_
  generalize chanIn m.mem.cells p.caps i=q at *
  obtain ⟨c,b⟩:=q
  generalize s.chs.getD i default=d at *
  simp only at hcl⊢
  cases b
  ·try simp only [go_sem,seval,hcg]
   repeat refine K ?_
   refine fz ?_; simp [FinS,nilL,nilV,oneOr,-List.drop_one]
  by_cases hc1:c.cap=d.cap
  case neg =>
   try simp only [go_sem,seval,hc1,hcg]
   repeat refine K ?_
   refine fz ?_; simp [FinS,nilL,nilV,oneOr,-List.drop_one]
   all_goals simp [hc1]
  by_cases hc3:c.closed=d.closed
  case neg =>
   have e3:(c.closed==d.closed)=false:=by simpa using hc3
   try simp only [go_sem,seval,hc1,e3,hcg]
   repeat refine K ?_
   refine fz ?_; simp [FinS,nilL,nilV,oneOr,-List.drop_one]
   all_goals simp [hc3]
  have e3:(c.closed==d.closed)=true:=by simpa using hc3
  try simp only [go_sem,seval,hc1,e3,hcg]
  repeat refine K ?_
  refine CA [] (l13Ints_ok c.list d.list (by omega)) ?_
  try simp only [go_sem,seval]
  repeat refine K ?_
  try simp only [go_sem,seval]
  repeat refine K ?_
  refine fz ?_; simp [FinS,nilL,nilV,oneOr,-List.drop_one]
  all_goals simp [hc1,hc3]
 ·try simp only [go_sem,seval,hL]
  repeat refine K ?_
  refine fz ?_; simp [FinS,nilL,nilV,oneOr,-List.drop_one]
def same (p:Prog) (m:Machine) (s:Source):Bool :=
 progOk p&&machineOk m&&sourceOk p s&&decide (m.cores.length=s.ths.length)&&decide (m.tr=s.tr) &&
  (List.range m.cores.length).all (fun i=>coreSame p m s i)&&(List.range p.caps.length).all (fun n=>chanSame p m s n)
theorem specSame_ok (p:Prog) (m:Machine) (s:Source) (hp:SmallP p) (hm:SmallM m) (hs:Small s):CallOk Tryz.prog num 394 [.agg (progC .bw p),.agg (machineC .bw m),.agg (sourceC .bw s)] [] (.bool (same p m s)):=by
 have h1:=hp.caps
 have h2:=hp.bods
 have h3:=hp.body'
 have h4:=hm.cores
 have h5:=hm.tr
 refine EN m394 Tryz.func33 ?_
 unfold m394
 simp only [go_sem,seval]
 repeat refine K ?_
 refine CA [] (qDk p (by omega) (by omega) h3) ?_
 try simp only [go_sem,seval]
 repeat refine K ?_
 cases k1:progOk p
 ·try simp only [go_sem,seval,k1]
  repeat refine K ?_
  refine fz ?_; simp [FinS,nilL,nilV,oneOr,-List.drop_one]
  all_goals simp [same,k1]
 try simp only [go_sem,seval,k1]
 repeat refine K ?_
 refine CA [] (specMachineOk_ok m hm) ?_
 try simp only [go_sem,seval]
 repeat refine K ?_
 cases k2:machineOk m
 ·try simp only [go_sem,seval,k2]
  repeat refine K ?_
  refine fz ?_; simp [FinS,nilL,nilV,oneOr,-List.drop_one]
  all_goals simp [same,k2]
 try simp only [go_sem,seval,k2]
 repeat refine K ?_
 refine CA [] (specSourceOk_ok p s hp hs) ?_
 try simp only [go_sem,seval]
 repeat refine K ?_
 cases k3:sourceOk p s
 ·try simp only [go_sem,seval,k3]
  repeat refine K ?_
  refine fz ?_; simp [FinS,nilL,nilV,oneOr,-List.drop_one]
  all_goals simp [same,k3]
 try simp only [go_sem,seval,k3]
 repeat refine K ?_
 refine CA [] (l13Notes_ok m.tr s.tr (by omega)) ?_
 try simp only [go_sem,seval]
 repeat refine K ?_
 by_cases k4:m.tr=s.tr
 case neg =>
  try simp only [go_sem,seval,k4]
  repeat refine K ?_
  refine fz ?_; simp [FinS,nilL,nilV,oneOr,-List.drop_one]
  all_goals simp [same,k4]
 by_cases k5:(m.cores.length:Int)=s.ths.length
 case neg =>
  try simp only [go_sem,seval,k4,k5]
  repeat refine K ?_
  refine fz ?_; simp [FinS,nilL,nilV,oneOr,-List.drop_one]
  all_goals simp [same,show¬m.cores.length=s.ths.length by omega]
 try simp only [go_sem,seval,k4,k5]
 repeat refine K ?_
 refine qA8 (ι:=Nat) (fun i=>.mk [(3,.ptr 10 0 0),(4,.ptr 11 0 0),(5,.ptr 12 0 0),(7,.int .i64 i)] [(10,2,[progC .bw p]),(11,4,[machineC .bw m]),(12,3,[sourceC .bw s])] 13) (fun i=>i≤m.cores.length∧(List.range i).all (fun j=>coreSame p m s j)=true) (fun i=>m.cores.length-i) 0 (by simp) ?_ ?_
 ·refine Sub.shape [] id (by omega) ?_ ?_ ?_ ?_<;>simp [qA2]
  all_goals simp [k4]
 ·rintro i ⟨hi,hq⟩
  simp only [go_sem,seval]
  repeat refine K ?_
  refine qA1 (fun hc=>?_) (fun hc=>?_)
  ·simp only [decide_eq_true_eq] at hc
   have hil:i<m.cores.length:=by omega
   simp only [go_sem,seval]
   repeat refine K ?_
   refine CA [] (specCoreSame_ok p m s i hp hm hs) ?_
   try simp only [go_sem,seval]
   repeat refine K ?_
   cases hcs:coreSame p m s i
   ·try simp only [go_sem,seval,hcs]
    repeat refine K ?_
    refine fz ?_; simp [FinS,nilL,nilV,oneOr,-List.drop_one]
    have:(List.range m.cores.length).all (fun j=>coreSame p m s j)=false:=qB3 (P:=fun j=>coreSame p m s j) hil hcs
    simp [same,this]
   ·try simp only [go_sem,seval,hcs,qA7 (i:=i) (by omega)]
    repeat refine K ?_
    refine qA6 (i+1) (Sub.shape [] id (by omega) ?_ ?_ ?_ ?_) ?_ ?_
    any_goals (first | omega | (simp [qA2]; done))
    exact ⟨hil,qBt (P:=fun j=>coreSame p m s j) hq hcs⟩
  ·simp only [decide_eq_false_iff_not] at hc
   have hall:(List.range m.cores.length).all (fun j=>coreSame p m s j)=true:=range_end (P:=fun j=>coreSame p m s j) hq hc hi
   simp only [go_sem,seval]
   repeat refine K ?_
   refine qA8 (ι:=Nat) (fun i=>.mk [(3,.ptr 10 0 0),(4,.ptr 11 0 0),(5,.ptr 12 0 0),(8,.int .i64 i)] [(10,2,[progC .bw p]),(11,4,[machineC .bw m]),(12,3,[sourceC .bw s])] 13) (fun i=>i≤p.caps.length∧(List.range i).all (fun j=>chanSame p m s j)=true) (fun i=>p.caps.length-i) 0 (by simp) ?_ ?_
   ·refine Sub.shape [] id (by omega) ?_ ?_ ?_ ?_<;>simp [qA2]
   ·clear hc hq hi
    clear i
    rintro i ⟨hi,hq⟩
    simp only [go_sem,seval]
    repeat refine K ?_
    refine qA1 (fun hc=>?_) (fun hc=>?_)
    ·simp only [decide_eq_true_eq] at hc
     have hil:i<p.caps.length:=by omega
     simp only [go_sem,seval]
     repeat refine K ?_
     refine CA [] (specChanSame_ok p m s i hp hm hs) ?_
     try simp only [go_sem,seval]
     repeat refine K ?_
     cases hcs:chanSame p m s i
     ·try simp only [go_sem,seval,hcs]
      repeat refine K ?_
      refine fz ?_; simp [FinS,nilL,nilV,oneOr,-List.drop_one]
      have:(List.range p.caps.length).all (fun j=>chanSame p m s j)=false:=qB3 (P:=fun j=>chanSame p m s j) hil hcs
      simp [same,this]
     ·try simp only [go_sem,seval,hcs,qA7 (i:=i) (by omega)]
      repeat refine K ?_
      refine qA6 (i+1) (Sub.shape [] id (by omega) ?_ ?_ ?_ ?_) ?_ ?_
      any_goals (first | omega | (simp [qA2]; done))
      exact ⟨hil,qBt (P:=fun j=>chanSame p m s j) hq hcs⟩
    ·simp only [decide_eq_false_iff_not] at hc
     have hall2:(List.range p.caps.length).all (fun j=>chanSame p m s j)=true:=range_end (P:=fun j=>chanSame p m s j) hq hc hi
     have e5:m.cores.length=s.ths.length:=by omega
     simp only [go_sem,seval]
     repeat refine K ?_
     refine fz ?_; simp [FinS,nilL,nilV,oneOr,-List.drop_one]
     unfold same
     rw [k1,k2,k3,hall,hall2,decide_eq_true k4,decide_eq_true e5]
     rfl
theorem implSame_ok (p:Prog) (m:Machine) (s:Source) (hp:SmallP p) (hm:SmallM m) (hs:Small s):CallOk Tryz.prog num 395 [.agg (progC .bw p),.agg (machineC .bw m),.agg (sourceC .bw s)] [] (.bool (same p m s)):=by
 have h1:=hp.caps
 have h2:=hp.bods
 have h3:=hp.body'
 have h4:=hm.cores
 have h5:=hm.tr
 refine EN m395 Tryz.func35 ?_
 unfold m395
 simp only [go_sem,seval]
 repeat refine K ?_
 refine CA [] (implProgOk_ok p (by omega) (by omega) h3) ?_
 try simp only [go_sem,seval]
 repeat refine K ?_
 cases k1:progOk p
 ·try simp only [go_sem,seval,k1]
  repeat refine K ?_
  refine fz ?_; simp [FinS,nilL,nilV,oneOr,-List.drop_one]
  all_goals simp [same,k1]
 try simp only [go_sem,seval,k1]
 repeat refine K ?_
 refine CA [] (implMachineOk_ok m hm) ?_
 try simp only [go_sem,seval]
 repeat refine K ?_
 cases k2:machineOk m
 ·try simp only [go_sem,seval,k2]
  repeat refine K ?_
  refine fz ?_; simp [FinS,nilL,nilV,oneOr,-List.drop_one]
  all_goals simp [same,k2]
 try simp only [go_sem,seval,k2]
 repeat refine K ?_
 refine CA [] (implSourceOk_ok p s hp hs) ?_
 try simp only [go_sem,seval]
 repeat refine K ?_
 cases k3:sourceOk p s
 ·try simp only [go_sem,seval,k3]
  repeat refine K ?_
  refine fz ?_; simp [FinS,nilL,nilV,oneOr,-List.drop_one]
  all_goals simp [same,k3]
 by_cases k5:(m.cores.length:Int)=s.ths.length
 case neg =>
  try simp only [go_sem,seval,k3,k5]
  repeat refine K ?_
  refine fz ?_; simp [FinS,nilL,nilV,oneOr,-List.drop_one]
  all_goals simp [same,show¬m.cores.length=s.ths.length by omega]
 try simp only [go_sem,seval,k3,k5]
 repeat refine K ?_
 refine CA [] (notesEqual_ok m.tr s.tr (by omega)) ?_
 try simp only [go_sem,seval]
 repeat refine K ?_
 by_cases k4:m.tr=s.tr
 case neg =>
  try simp only [go_sem,seval,k4]
  repeat refine K ?_
  refine fz ?_; simp [FinS,nilL,nilV,oneOr,-List.drop_one]
  all_goals simp [same,k4]
 try simp only [go_sem,seval,k4]
 repeat refine K ?_
 refine qA8 (ι:=Nat) (fun i=>.mk [(3,.ptr 10 0 0),(4,.ptr 11 0 0),(5,.ptr 12 0 0),(42,.int .i64 m.cores.length),(43,.int .i64 i)] [(10,2,[progC .bw p]),(11,4,[machineC .bw m]),(12,3,[sourceC .bw s])] 13) (fun i=>i≤m.cores.length∧(List.range i).all (fun j=>coreSame p m s j)=true) (fun i=>m.cores.length-i) 0 (by simp) ?_ ?_
 ·refine Sub.shape [] id (by omega) ?_ ?_ ?_ ?_<;>simp [qA2]
  all_goals simp [k4,k5]
 ·rintro i ⟨hi,hq⟩
  simp only [go_sem,seval]
  repeat refine K ?_
  refine qA1 (fun hc=>?_) (fun hc=>?_)
  ·simp only [decide_eq_true_eq] at hc
   have hil:i<m.cores.length:=by omega
   simp only [go_sem,seval]
   repeat refine K ?_
   refine CA [] (implCoreSame_ok p m s i hp hm hs) ?_
   try simp only [go_sem,seval]
   repeat refine K ?_
   cases hcs:coreSame p m s i
   ·try simp only [go_sem,seval,hcs]
    repeat refine K ?_
    refine fz ?_; simp [FinS,nilL,nilV,oneOr,-List.drop_one]
    have:(List.range m.cores.length).all (fun j=>coreSame p m s j)=false:=qB3 (P:=fun j=>coreSame p m s j) hil hcs
    simp [same,this]
   ·try simp only [go_sem,seval,hcs,qA7 (i:=i) (by omega)]
    repeat refine K ?_
    refine qA6 (i+1) (Sub.shape [] id (by omega) ?_ ?_ ?_ ?_) ?_ ?_
    any_goals (first | omega | (simp [qA2]; done))
    exact ⟨hil,qBt (P:=fun j=>coreSame p m s j) hq hcs⟩
  ·simp only [decide_eq_false_iff_not] at hc
   have hall:(List.range m.cores.length).all (fun j=>coreSame p m s j)=true:=range_end (P:=fun j=>coreSame p m s j) hq hc hi
   simp only [go_sem,seval]
   repeat refine K ?_
   refine qA8 (ι:=Nat) (fun i=>.mk [(3,.ptr 10 0 0),(4,.ptr 11 0 0),(5,.ptr 12 0 0),(55,.int .i64 p.caps.length),(56,.int .i64 i)] [(10,2,[progC .bw p]),(11,4,[machineC .bw m]),(12,3,[sourceC .bw s])] 13) (fun i=>i≤p.caps.length∧(List.range i).all (fun j=>chanSame p m s j)=true) (fun i=>p.caps.length-i) 0 (by simp) ?_ ?_
   ·refine Sub.shape [] id (by omega) ?_ ?_ ?_ ?_<;>simp [qA2]
   ·clear hc hq hi
    clear i
    rintro i ⟨hi,hq⟩
    simp only [go_sem,seval]
    repeat refine K ?_
    refine qA1 (fun hc=>?_) (fun hc=>?_)
    ·simp only [decide_eq_true_eq] at hc
     have hil:i<p.caps.length:=by omega
     simp only [go_sem,seval]
     repeat refine K ?_
     refine CA [] (implChanSame_ok p m s i hp hm hs) ?_
     try simp only [go_sem,seval]
     repeat refine K ?_
     cases hcs:chanSame p m s i
     ·try simp only [go_sem,seval,hcs]
      repeat refine K ?_
      refine fz ?_; simp [FinS,nilL,nilV,oneOr,-List.drop_one]
      have:(List.range p.caps.length).all (fun j=>chanSame p m s j)=false:=qB3 (P:=fun j=>chanSame p m s j) hil hcs
      simp [same,this]
     ·try simp only [go_sem,seval,hcs,qA7 (i:=i) (by omega)]
      repeat refine K ?_
      refine qA6 (i+1) (Sub.shape [] id (by omega) ?_ ?_ ?_ ?_) ?_ ?_
      any_goals (first | omega | (simp [qA2]; done))
      exact ⟨hil,qBt (P:=fun j=>chanSame p m s j) hq hcs⟩
    ·simp only [decide_eq_false_iff_not] at hc
     have hall2:(List.range p.caps.length).all (fun j=>chanSame p m s j)=true:=range_end (P:=fun j=>chanSame p m s j) hq hc hi
     have e5:m.cores.length=s.ths.length:=by omega
     simp only [go_sem,seval]
     repeat refine K ?_
     refine fz ?_; simp [FinS,nilL,nilV,oneOr,-List.drop_one]
     unfold same
     rw [k1,k2,k3,hall,hall2,decide_eq_true k4,decide_eq_true e5]
     rfl
end Go.Sep
