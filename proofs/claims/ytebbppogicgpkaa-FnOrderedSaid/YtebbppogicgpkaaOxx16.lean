/- Contracts of functions. -/
import Derived.Test.YtebbppogicgpkaaOxx14
namespace Go.Sep
set_option maxHeartbeats 16000000
open Go.Proofs
set_option linter.unusedSimpArgs false
set_option linter.unusedVariables false
set_option maxRecDepth 100000
theorem qQi {caps:List Int} {x:Ins} {f:Int} {starts:List Int} (h:xO x starts.length caps.length=true) (hb:qL x.op 5 9=true→¬base caps x.n<0):((iT caps x f starts).length:Int)=qX x:=by
 have ho:=(tQ h).1
 unfold iT qX
 rw [if_pos h]
 split
 ·rename_i hw
  rw [if_neg (hb hw)]
  rw [qM] at hw
  have hc:x.op=5∨x.op=6∨x.op=7∨x.op=8∨x.op=9:=by omega
  rcases hc with hc | hc | hc | hc | hc<;>simp [hc,zG,fC,cY,eU,eZ,eR]
 ·rename_i hw
  have hw :¬(5≤x.op∧x.op≤9):=fun e=>hw (qM.2 e)
  rw [if_neg (by omega),if_neg (by omega),if_neg (by omega),if_neg (by omega),if_neg (by omega),ho]
  simp [vQ]
theorem qSh {caps:List Int} {x:Ins} {f:Int} {starts:List Int} {j:Nat} (h:xO x starts.length caps.length=true) (h8:((iT caps x f starts).getD j default).op=8):qX x≠1:=by
 have ho:=(tQ h).1
 unfold iT at h8
 rw [if_pos h] at h8
 unfold qX
 split at h8
 ·rename_i hw
  rw [qM] at hw
  have hc:x.op=5∨x.op=6∨x.op=7∨x.op=8∨x.op=9:=by omega
  rcases hc with hc | hc | hc | hc | hc<;>simp [hc]
 ·exfalso
  cases j with
  | zero =>
   simp only [List.getD_cons_zero] at h8
   unfold single at h8
   repeat' split at h8
   all_goals (simp at h8)
  | succ j =>
   simp [List.getD_eq_getElem?_getD] at h8
   exact absurd h8 (by decide)
theorem qFl {b:List Ins} {n:Nat} (h:uT b n=true) (i:Nat) (hi:i<b.length):xO (b.getD i default) b.length n=true:=by
 unfold uT at h
 simp only [Bool.and_eq_true,List.all_eq_true] at h
 exact h.1.2 _ (yQ b i default hi)
theorem qL3 {caps:List Int} (hl:bR caps=true) {n:Int} (h:0≤n∧n<caps.length) :¬base caps n<0:=by
 unfold base
 have hw:qL n 0 ((caps.length:Int)-1)=true:=by rw [qM]; omega
 rw [hl,hw]
 unfold bR at hl
 simp only [Bool.and_eq_true] at hl
 have:=aF hl.1 n.toNat
 simp only [Bool.and_self,if_true]
 omega
theorem qD2 {caps:List Int} {b:List Ins} (hb:uT b caps.length=true) (hl:bR caps=true) (i:Nat) (hi:i<b.length) (f:Int):((iT caps (b.getD i default) f (jC b)).length:Int)=qX (b.getD i default):=by
 have h:=qFl hb i hi
 refine qQi (by rw [jC,uG]; exact h) fun hw=>qL3 hl ?_
 exact qN4 h hw
theorem mS {caps:List Int} {b:List Ins} (hb:uT b caps.length=true) (hl:bR caps=true) :∀i,i≤b.length→((gX caps b i).length:Int)=szB (b.take i)
 | 0,_=>by simp [gX,szB]
 | i+1,hi=>by
  have:=mS hb hl i (by omega)
  have:=qD2 hb hl i (by omega) (szB (b.take i))
  rw [cZ b i (by omega)]
  simp only [gX,List.length_append]
  omega
theorem qLm {caps:List Int} {b:List Ins} (hb:uT b caps.length=true) (hl:bR caps=true) :∀(n:Nat),n≤b.length→∀at_:Nat,at_<(gX caps b n).length→
  ∃i,i<n∧szB (b.take i)≤at_∧(at_:Int)<szB (b.take (i+1))∧(((gX caps b n).getD at_ default).op=8→qX (b.getD i default)≠1)
 | 0,_,at_,h=>by simp [gX] at h
 | n+1,hn,at_,h=>by
  by_cases hc:at_<(gX caps b n).length
  ·obtain ⟨i,h1,h2,h3,h4⟩:=qLm hb hl n (by omega) at_ hc
   refine ⟨i,by omega,h2,h3,fun h8=>h4 ?_⟩
   rw [←h8,gX,List.getD_eq_getElem?_getD,List.getD_eq_getElem?_getD,List.getElem?_append_left hc]
  ·have hs:=mS hb hl n (by omega)
   have he:=qD2 hb hl n (by omega) (szB (b.take n))
   have hz:=cZ b n (by omega)
   simp only [gX,List.length_append] at h
   refine ⟨n,by omega,by omega,by omega,fun h8=>?_⟩
   rw [gX,List.getD_eq_getElem?_getD,List.getElem?_append_right (by omega),←List.getD_eq_getElem?_getD] at h8
   exact qSh (by rw [jC,uG]; exact qFl hb n (by omega)) h8
theorem qE3 :∀(b:List Ins) (off k at_:Int) (i:Nat),i<b.length→off+szB (b.take i)≤at_→at_<off+szB (b.take (i+1))→(jN b off k at_).1=k+i
 | [],_,_,_,i,h,_,_=>by simp at h
 | x::l,off,k,at_,0,_,h1,h2=>by
  simp only [List.take_zero,szB,List.take_succ_cons] at h1 h2
  unfold jN
  rw [if_pos (by omega)]
  simp
 | x::l,off,k,at_,i+1,h,h1,h2=>by
  simp only [List.take_succ_cons,szB] at h1 h2
  have hl:=(qIj (l.take i)).1
  unfold jN
  rw [if_neg (by omega)]
  rw [qE3 l (off+qX x) (k+1) at_ i (by simpa using h) (by omega) (by omega)]
  push_cast
  omega
theorem qTv {caps:List Int} {b:List Ins} (hb:uT b caps.length=true) (hl:bR caps=true) {at_:Int} (h0:0≤at_) (h1:at_<((comp caps b).length:Int)) :
  0≤(jN b 0 0 at_).1∧(jN b 0 0 at_).1.toNat<b.length∧(((comp caps b).getD at_.toNat default).op=8→qX (b.getD (jN b 0 0 at_).1.toNat default)≠1):=by
 obtain ⟨i,g1,g2,g3,g4⟩:=qLm hb hl b.length (Nat.le_refl _) at_.toNat (by unfold comp at h1; omega)
 have hp:=qE3 b 0 0 at_ i g1 (by omega) (by omega)
 rw [hp]
 have e:((0:Int)+(i:Int)).toNat=i:=by omega
 rw [e]
 exact ⟨by omega,g1,g4⟩
def aA (p:wN) (s:wX) (regs:List Int) (who at_:Int):Bool :=
 decide (who<p.bods.length)&&decide (0≤(jN (p.bods.getD who.toNat []) 0 0 at_).1) &&
  ((decide (s.op=8)&&qL s.r 0 (regs.length-1)&&decide (regs.getD s.r.toNat 0=0))||decide (qX ((p.bods.getD who.toNat []).getD (jN (p.bods.getD who.toNat []) 0 0 at_).1.toNat default)=1))
def did (p:wN) (m:qK) (x:gI):Bool:=decide ((wS m x).2=0)&&aA p (qQ m x.who.toNat) (qJ (wS m x).1 x.who.toNat).regs x.who (qJ m x.who.toNat).at_
def bU (p:wN):qK→List gI→List Int
 | _,[]=>[]
 | m,x::l=>(if did p m x then [x.who] else [])++bU p (wS m x).1 l
theorem qBr (p:wN) :∀(m:qK) (l:List gI) (x:gI),bU p m (l++[x])=bU p m l++(if did p (iK m l) x then [x.who] else [])
 | _,[],_=>by simp only [bU,iK,List.nil_append,List.append_nil]; rfl
 | m,y::l,x=>by simp only [List.cons_append,bU,iK,qBr p _ l x,List.append_assoc]; rfl
theorem lX (p:wN) :∀(m:qK) (l:List gI),(bU p m l).length≤l.length
 | _,[]=>by simp [bU]
 | m,y::l=>by
  have:=lX p (wS m y).1 l
  simp only [bU,List.length_append,List.length_cons]
  split<;>simp<;>omega
def m236:MFn:=⟨63,[.t 10],kr [xb 5 0,xb 6 1,xF 10] (.seq (kr [xv 14 3,xa 15 1 5,xl 16 15,xe 17 16,bT 18 .geq 14 17] (kF 18 [xF 10])) (kr [xa 20 1 5,xl 21 20,xv 22 3,xD 23 1 21 22,xl 24 23,xv 25 4,xc2 26 280 (.t 24) (.t 25),xv 19 26,xX 27 19 0,xX 28 19 1,xv 11 27,xv 12 28] (.seq (kr [xv 29 11,bI 30 .lss 29 0] (kF 30 [xF 10])) (kr [xa 31 0 6,xl 32 31,bI 33 .eql 32 8,xv 34 33,ya 35 1 6 34,yl 36 1 35 34,yv 37 2 34,ye 38 37 34,yI 39 .sub 38 1 34,xg 40 (.call 59 [false,false,false] [.t 36,xi 0,.t 39]) 34 true,xP 41 34 40,xv 42 41,yv 43 2 42,ya 44 1 6 42,yl 45 1 44 42,xg 46 (.iad 1 (.t 43) (.t 45)) 42 true,yl 47 1 46 42,yI 48 .eql 47 0 42,xP 49 42 48,xv 13 49] (kR [xv 50 13,xv 51 50,za 52 1 5 51,zl 53 1 52 51,zv 54 3 51,xg 55 (.iad 1 (.t 53) (.t 54)) 51 false,zl 56 1 55 51,zv 57 11 51,xg 58 (.iad 5 (.t 56) (.t 57)) 51 false,xg 59 (.load 5 true (.t 58)) 51 false,xg 60 (.call 262 [false] [.t 59]) 51 false,zI 61 .eql 60 1 51,xQ 62 51 61,xv 10 62])))))⟩
theorem qE2 :∀(b:List Ins) (off k at_:Int),(jN b off k at_).1=-1∨(k≤(jN b off k at_).1∧(jN b off k at_).1<k+b.length)
 | [],_,_,_=>.inl rfl
 | x::l,off,k,at_=>by
  unfold jN
  split
  ·exact .inr ⟨Int.le_refl _,by simp only [List.length_cons]; omega⟩
  ·rcases qE2 l (off+qX x) (k+1) at_ with h | ⟨h1,h2⟩
   ·exact .inl h
   ·exact .inr ⟨by omega,by simp only [List.length_cons]; omega⟩
theorem qB9 (p:wN) (s:wX) (regs:List Int) (who at_:Int) (hp:xE p) (hw:0≤who) (hr:regs.length<2^40):wD Try.prog num 236 [.agg (vP .bw p),.agg (fB s),.sl .bw 1 (wT regs),.int .i64 who,.int .i64 at_] [] (.bool (aA p s regs who at_)):=by
 refine EN m236 Try.func21 ?_
 unfold m236
 obtain ⟨i,rfl⟩:=Int.eq_ofNat_of_zero_le hw
 by_cases hb:(i:Int)<p.bods.length
 case neg =>
  have hb':(p.bods.length:Int)≤i:=by omega
  simp only [go_sem,seval,hb']
  refine fz ?_; simp [yB,qW,qZ,wG,-List.drop_one]
  simp [aA,hb]
 have hb' :¬(p.bods.length:Int)≤i:=by omega
 have hbi:i<p.bods.length:=by omega
 have hbl:=hp.body _ (yQ p.bods i [] hbi)
 have hbg:=wH .bw p.bods i hbi
 have hpl:=qE2 (p.bods.getD i []) 0 0 at_
 have hci:aA p s regs i at_=(decide (0≤(jN (p.bods.getD i []) 0 0 at_).1) &&
  ((decide (s.op=8)&&qL s.r 0 (regs.length-1)&&decide (regs.getD s.r.toNat 0=0))||decide (qX ((p.bods.getD i []).getD (jN (p.bods.getD i []) 0 0 at_).1.toNat default)=1))):=by
  have d:decide ((i:Int)<(p.bods.length:Int))=true:=by simpa using hbi
  unfold aA
  rw [d,Bool.true_and]
  rfl
 rw [hci]
 simp only [go_sem,seval,hb',hbg]
 repeat refine K ?_
 refine CA [] (oK (p.bods.getD i []) at_ hbl) ?_
 try simp only [go_sem,seval]
 generalize hpl2:(jN (p.bods.getD i []) 0 0 at_).1=pl at *
 by_cases h0:pl<0
 ·try simp only [go_sem,seval,h0]
  refine fz ?_; simp [yB,qW,qZ,wG,-List.drop_one]
  have :¬0≤pl:=by omega
  simp [this]
 have h0':0≤pl:=by omega
 obtain ⟨j,rfl⟩:=Int.eq_ofNat_of_zero_le h0'
 have hj:j<(p.bods.getD i []).length:=by omega
 have hig:=eI (p.bods.getD i []) j hj
 have d0:decide (0≤(j:Int))=true:=by simp
 rw [d0,Bool.true_and]
 simp only [Int.toNat_natCast]
 have w1:IntKind.i64.wrap ((regs.length:Int)-1)=regs.length-1:=yP (by omega) (by omega)
 generalize hbd:p.bods.getD i []=b at *
 try simp only [go_sem,seval,h0]
 by_cases h8:s.op=8
 ·simp only [go_sem,seval,h8,w1]
  refine CA [] (wU s.r 0 (regs.length-1)) ?_
  try simp only [go_sem,seval]
  cases hwi:qL s.r 0 (regs.length-1)
  ·try simp only [go_sem,seval,hwi,hb',hbg,hig]
   repeat refine K ?_
   refine CA [] (jE (b.getD j default)) ?_
   try simp only [go_sem,seval]
   refine fz ?_; simp [yB,qW,qZ,wG,-List.drop_one]
  have hwi':=qM.1 hwi
  have hrl:s.r.toNat<regs.length:=by omega
  try simp only [go_sem,seval,hwi,qI regs s.r.toNat hrl]
  repeat refine K ?_
  by_cases hz:regs.getD s.r.toNat 0=0
  ·try simp only [go_sem,seval,hz]
   refine fz ?_; simp [yB,qW,qZ,wG,-List.drop_one]
  ·try simp only [go_sem,seval,hz,hb',hbg,hig]
   repeat refine K ?_
   refine CA [] (jE (b.getD j default)) ?_
   try simp only [go_sem,seval]
   refine fz ?_; simp [yB,qW,qZ,wG,-List.drop_one]
 ·simp only [go_sem,seval,h8,hb',hbg,hig]
  repeat refine K ?_
  refine CA [] (jE (b.getD j default)) ?_
  try simp only [go_sem,seval]
  refine fz ?_; simp [yB,qW,qZ,wG,-List.drop_one]
end Go.Sep
