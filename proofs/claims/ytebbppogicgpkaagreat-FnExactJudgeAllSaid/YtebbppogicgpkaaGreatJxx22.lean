/- Contracts of functions. -/
import Derived.Test.YtebbppogicgpkaaGreatJxx19
import Derived.Test.YtebbppogicgpkaaGreatJxx21
open List renaming drop_one → qYj, getD_eq_getElem?_getD → qWw, length_append → qXa, length_cons → qWp, take_succ_cons → qYx
namespace Go.Sep
set_option maxHeartbeats 16000000
open Go.Proofs
set_option linter.unusedSimpArgs false
set_option linter.unusedVariables false
set_option maxRecDepth 100000
open Nat renaming reduceAdd → qA, reduceMul → qB, reduceEqDiff → qC, reduceBEq → qD
open Int renaming reduceToNat → qE, reduceEq → qF, reduceLT → qG, reduceLE → qH
open List renaming getD_eq_getElem?_getD → gD
def m372:MFn:=⟨22,[.t 2],kr [xo 2 (.mv (.c (.nil)))] (kr [xo 5 (.mkSl [.nil] 0 []),xv 3 5] (.seq (kr [xI 4 0] (.blk 0 (.loop (.seq (kr [xv 6 4,xv 7 0,xe 8 7,bT 9 .lss 6 8] (kX 9 0)) (.seq (.blk 1 (xr [xv 12 3,xo 13 (.mkSl [xz,xz,xz,xz,xz] 0 []),xv 14 0,xv 15 4,xD 16 1 14 15,xl 17 16,xA 18 5 40 13 17,xo 19 (.mkSl [.nil] 1 [(0,.t 18)]),xA 20 1 24 12 19,xv 3 20])) (xr [xv 10 4,bI 11 .add 10 1,xv 4 11])))))) (kR [xv 21 3,xv 2 21])))⟩
theorem qB1 (l:List (List yH)) (i:Nat) (h:i<l.length):codes .own (l.take i)++[[AV.sl .own 5 (jB (l.getD i []))]]=codes .own (l.take (i+1)):=by
 rw [List.take_succ_eq_append_getElem h,←qCi]
 simp [codes,qWw,h]
theorem qOn (l:List (List yH)) (h1:l.length<2^40) (h2 :∀c∈l,c.length<2^40):qU Tryz.prog num 372 [.sl .bw 1 (codes .bw l)] [] (.sl .own 1 (codes .own l)):=by
 refine EN m372 Tryz.func155 ?_
 unfold m372
 simp only [go_sem,seval]
 refine wB (ι:=Nat) (fun i=>.mk [(0,.sl .bw 1 (codes .bw l)),(3,.ns 10 0 i),(4,.int .i64 i)] [(10,1,codes .own (l.take i))] 11) (fun i=>i≤l.length) (fun i=>l.length-i) 0 (by simp) ?_ ?_
 ·refine Sub.shape [] id (by omega) ?_ ?_ ?_ ?_<;>simp [qN]
 ·rintro i hi
  simp only [go_sem,seval]
  refine qM (fun hc=>?_) (fun hc=>?_)
  ·simp only [decide_eq_true_eq] at hc
   have hl':i<l.length:=by omega
   have hlt:(l.take i).length=i:=by simp; omega
   have hr:=h2 _ (wZ l i [] hl')
   simp only [go_sem,seval,qW (i:=i) (by omega),aO .bw l i hl',hlt]
   repeat refine K ?_
   refine qV (i+1) ?_ hl' (by omega)
   refine Sub.trans (Sub.foldLast 14 0 12 rfl (by simp [-gD]<;>omega) rfl (by decide) (by decide) rfl) ?_
   simp only [fS,fS2,qA,qC,qB1 l i hl']
   refine Sub.shape [] (fun n=>if n=10 then 14 else n) (by omega) ?_ ?_ ?_ ?_<;>simp [qN]
  ·simp only [decide_eq_false_iff_not] at hc
   obtain rfl:i=l.length:=by omega
   have hie:l.take l.length=l:=List.take_length
   simp only [go_sem,seval,hie]
   refine fz ?_; simp [qX,qQ,qR,qL,-qYj]
def qV8 (k:Int) (m:wA):FP:=[(0,some (1,codes .own m.codes),some (1,codes .own (mks qKl qOj k m.codes))),(1,some (4,cores .own m.cores),some (4,cores .own (mks qSk qRn (k+mI qKl m.codes) m.cores))),(2,some (1,jR .own m.mem.cells),some (1,jR .own (mks qPf qMu (k+mI qKl m.codes+mI qSk m.cores) m.mem.cells))),(3,some (2,jW m.tr),some (2,jW (mks qVy qRm (k+mI qKl m.codes+mI qSk m.cores+mI qPf m.mem.cells) m.tr)))]
attribute [go_sem] qV8
attribute [simp] qV8
theorem qS2 {caps:List Int} {x:Ins} {f:Int} {starts:List Int} (h:zA x starts.length caps.length=true) (hb:qO x.op 5 9=true→¬base caps x.n<0):((hD caps x f starts).length:Int)=wH x:=by
 have ho:=(sJ h).1
 unfold hD wH
 rw [if_pos h]
 split
 ·rename_i hw
  rw [if_neg (hb hw)]
  rw [qP] at hw
  have hc:x.op=5∨x.op=6∨x.op=7∨x.op=8∨x.op=9:=by omega
  rcases hc with hc | hc | hc | hc | hc<;>simp [hc,gC,cD,cC,eT,eL,eG]
 ·rename_i hw
  have hw :¬(5≤x.op∧x.op≤9):=fun e=>hw (qP.2 e)
  rw [if_neg (by omega),if_neg (by omega),if_neg (by omega),if_neg (by omega),if_neg (by omega),ho]
  simp [uK]
theorem qTr {caps:List Int} {x:Ins} {f:Int} {starts:List Int} {j:Nat} (h:zA x starts.length caps.length=true) (h8:((hD caps x f starts).getD j default).op=8):wH x≠1:=by
 have ho:=(sJ h).1
 unfold hD at h8
 rw [if_pos h] at h8
 unfold wH
 split at h8
 ·rename_i hw
  rw [qP] at hw
  have hc:x.op=5∨x.op=6∨x.op=7∨x.op=8∨x.op=9:=by omega
  rcases hc with hc | hc | hc | hc | hc<;>simp [hc]
 ·exfalso
  cases j with
  | zero =>
   simp only [List.getD_cons_zero] at h8
   unfold single at h8
   repeat' split at h8
   all_goals (simp at h8)
  | succ j =>
   simp [qWw] at h8
   exact absurd h8 (by decide)
theorem qHw {b:List Ins} {n:Nat} (h:uE b n=true) (i:Nat) (hi:i<b.length):zA (b.getD i default) b.length n=true:=by
 unfold uE at h
 simp only [Bool.and_eq_true,List.all_eq_true] at h
 exact h.1.2 _ (wZ b i default hi)
theorem qMx {caps:List Int} (hl:bV caps=true) {n:Int} (h:0≤n∧n<caps.length) :¬base caps n<0:=by
 unfold base
 have hw:qO n 0 ((caps.length:Int)-1)=true:=by rw [qP]; omega
 rw [hl,hw]
 unfold bV at hl
 simp only [Bool.and_eq_true] at hl
 have:=xG hl.1 n.toNat
 simp only [Bool.and_self,if_true]
 omega
theorem qFh {caps:List Int} {b:List Ins} (hb:uE b caps.length=true) (hl:bV caps=true) (i:Nat) (hi:i<b.length) (f:Int):((hD caps (b.getD i default) f (yY b)).length:Int)=wH (b.getD i default):=by
 have h:=qHw hb i hi
 refine qS2 (by rw [yY,jQ]; exact h) fun hw=>qMx hl ?_
 exact qOs h hw
theorem pU {caps:List Int} {b:List Ins} (hb:uE b caps.length=true) (hl:bV caps=true) :∀i,i≤b.length→((gQ caps b i).length:Int)=szB (b.take i)
 | 0,_=>by simp [gQ,szB]
 | i+1,hi=>by
  have:=pU hb hl i (by omega)
  have:=qFh hb hl i (by omega) (szB (b.take i))
  rw [fR b i (by omega)]
  simp only [gQ,qXa]
  omega
theorem qNg {caps:List Int} {b:List Ins} (hb:uE b caps.length=true) (hl:bV caps=true) :∀(n:Nat),n≤b.length→∀at_:Nat,at_<(gQ caps b n).length→
  ∃i,i<n∧szB (b.take i)≤at_∧(at_:Int)<szB (b.take (i+1))∧(((gQ caps b n).getD at_ default).op=8→wH (b.getD i default)≠1)
 | 0,_,at_,h=>by simp [gQ] at h
 | n+1,hn,at_,h=>by
  by_cases hc:at_<(gQ caps b n).length
  ·obtain ⟨i,h1,h2,h3,h4⟩:=qNg hb hl n (by omega) at_ hc
   refine ⟨i,by omega,h2,h3,fun h8=>h4 ?_⟩
   rw [←h8,gQ,qWw,qWw,List.getElem?_append_left hc]
  ·have hs:=pU hb hl n (by omega)
   have he:=qFh hb hl n (by omega) (szB (b.take n))
   have hz:=fR b n (by omega)
   simp only [gQ,qXa] at h
   refine ⟨n,by omega,by omega,by omega,fun h8=>?_⟩
   rw [gQ,qWw,List.getElem?_append_right (by omega),←qWw] at h8
   exact qTr (by rw [yY,jQ]; exact qHw hb n (by omega)) h8
theorem qGe :∀(b:List Ins) (off k at_:Int) (i:Nat),i<b.length→off+szB (b.take i)≤at_→at_<off+szB (b.take (i+1))→(jP b off k at_).1=k+i
 | [],_,_,_,i,h,_,_=>by simp at h
 | x::l,off,k,at_,0,_,h1,h2=>by
  simp only [List.take_zero,szB,qYx] at h1 h2
  unfold jP
  rw [if_pos (by omega)]
  simp
 | x::l,off,k,at_,i+1,h,h1,h2=>by
  simp only [qYx,szB] at h1 h2
  have hl:=(qCu (l.take i)).1
  unfold jP
  rw [if_neg (by omega)]
  rw [qGe l (off+wH x) (k+1) at_ i (by simpa using h) (by omega) (by omega)]
  push_cast
  omega
theorem qQi {caps:List Int} {b:List Ins} (hb:uE b caps.length=true) (hl:bV caps=true) {at_:Int} (h0:0≤at_) (h1:at_<((comp caps b).length:Int)) :
  0≤(jP b 0 0 at_).1∧(jP b 0 0 at_).1.toNat<b.length∧(((comp caps b).getD at_.toNat default).op=8→wH (b.getD (jP b 0 0 at_).1.toNat default)≠1):=by
 obtain ⟨i,g1,g2,g3,g4⟩:=qNg hb hl b.length (Nat.le_refl _) at_.toNat (by unfold comp at h1; omega)
 have hp:=qGe b 0 0 at_ i g1 (by omega) (by omega)
 rw [hp]
 have e:((0:Int)+(i:Int)).toNat=i:=by omega
 rw [e]
 exact ⟨by omega,g1,g4⟩
def zP (p:wU) (s:yH) (regs:List Int) (who at_:Int):Bool :=
 decide (who<p.bods.length)&&decide (0≤(jP (p.bods.getD who.toNat []) 0 0 at_).1) &&
  ((decide (s.op=8)&&qO s.r 0 (regs.length-1)&&decide (regs.getD s.r.toNat 0=0))||decide (wH ((p.bods.getD who.toNat []).getD (jP (p.bods.getD who.toNat []) 0 0 at_).1.toNat default)=1))
def kH (p:wU) (s:yH) (regs:List Int) (who at_:Int):Bool :=
 if s.op=8 then decide (regs.getD s.r.toNat 0=0)
 else decide (0≤(vK p who at_).1)&&decide (wH ((p.bods.getD who.toNat []).getD (vK p who at_).1.toNat default)=1)
theorem qP2 {p:wU} (hp:jU p=true) (hl:bV p.caps=true) {i:Nat} (hi:i<p.bods.length) {at_:Int} (h0:0≤at_) (h1:at_<((comp p.caps (p.bods.getD i [])).length:Int)) {regs:List Int} (hr:regs.length=8)
  (hs:qO ((comp p.caps (p.bods.getD i [])).getD at_.toNat default).r 0 7=true) :
  zP p ((comp p.caps (p.bods.getD i [])).getD at_.toNat default) regs i at_=kH p ((comp p.caps (p.bods.getD i [])).getD at_.toNat default) regs i at_:=by
 have hb:=(fF hp).2.2.2.2 _ (wZ p.bods i [] hi)
 obtain ⟨a1,a2,a3⟩:=qQi hb hl h0 h1
 have hpl:vK p i at_=jP (p.bods.getD i []) 0 0 at_:=by
  unfold vK
  have hw:qO (i:Int) 0 ((p.bods.length:Int)-1)=true:=by rw [qP]; omega
  rw [hp,hw]
  rfl
 unfold zP kH
 rw [hpl]
 generalize (comp p.caps (p.bods.getD i [])).getD at_.toNat default=s at *
 simp only [Int.toNat_natCast]
 have d1:decide ((i:Int)<(p.bods.length:Int))=true:=by simp; exact hi
 have d2:decide (0≤(jP (p.bods.getD i []) 0 0 at_).1)=true:=by simpa using a1
 have d3:qO s.r 0 ((regs.length:Int)-1)=true:=by rw [hr]; exact hs
 rw [d1,d2,d3]
 by_cases h8:s.op=8
 ·have h9:decide (wH ((p.bods.getD i []).getD (jP (p.bods.getD i []) 0 0 at_).1.toNat default)=1)=false:=by simpa [-qWw] using a3 h8
  rw [h9]
  simp [h8]
 ·simp [h8]
def did (p:wU) (m:wA) (x:uF):Bool:=decide ((yF m x).2=0)&&zP p (wD m x.who.toNat) (qJ (yF m x).1 x.who.toNat).regs x.who (qJ m x.who.toNat).at_
def bO (p:wU):wA→List uF→List Int
 | _,[]=>[]
 | m,x::l=>(if did p m x then [x.who] else [])++bO p (yF m x).1 l
theorem qEb (p:wU) :∀(m:wA) (l:List uF) (x:uF),bO p m (l++[x])=bO p m l++(if did p (cG m l) x then [x.who] else [])
 | _,[],_=>by simp only [bO,cG,List.nil_append,List.append_nil]; rfl
 | m,y::l,x=>by simp only [List.cons_append,bO,cG,qEb p _ l x,List.append_assoc]; rfl
theorem lP (p:wU) :∀(m:wA) (l:List uF),(bO p m l).length≤l.length
 | _,[]=>by simp [bO]
 | m,y::l=>by
  have:=lP p (yF m y).1 l
  simp only [bO,qXa,qWp]
  split<;>simp<;>omega
def m236:MFn:=⟨63,[.t 10],kr [xb 5 0,xb 6 1,xF 10] (.seq (kr [xv 14 3,xa 15 1 5,xl 16 15,xe 17 16,bT 18 .geq 14 17] (kF 18 [xF 10])) (kr [xa 20 1 5,xl 21 20,xv 22 3,xD 23 1 21 22,xl 24 23,xv 25 4,xc2 26 280 (.t 24) (.t 25),xv 19 26,xX 27 19 0,xX 28 19 1,xv 11 27,xv 12 28] (.seq (kr [xv 29 11,bI 30 .lss 29 0] (kF 30 [xF 10])) (kr [xa 31 0 6,xl 32 31,bI 33 .eql 32 8,xv 34 33,ya 35 1 6 34,yl 36 1 35 34,yv 37 2 34,ye 38 37 34,yI 39 .sub 38 1 34,xg 40 (.call 59 [false,false,false] [.t 36,xi 0,.t 39]) 34 true,xP 41 34 40,xv 42 41,yv 43 2 42,ya 44 1 6 42,yl 45 1 44 42,xg 46 (.iad 1 (.t 43) (.t 45)) 42 true,yl 47 1 46 42,yI 48 .eql 47 0 42,xP 49 42 48,xv 13 49] (kR [xv 50 13,xv 51 50,za 52 1 5 51,zl 53 1 52 51,zv 54 3 51,xg 55 (.iad 1 (.t 53) (.t 54)) 51 false,zl 56 1 55 51,zv 57 11 51,xg 58 (.iad 5 (.t 56) (.t 57)) 51 false,xg 59 (.load 5 true (.t 58)) 51 false,xg 60 (.call 262 [false] [.t 59]) 51 false,zI 61 .eql 60 1 51,xQ 62 51 61,xv 10 62])))))⟩
theorem qAp :∀(b:List Ins) (off k at_:Int),(jP b off k at_).1=-1∨(k≤(jP b off k at_).1∧(jP b off k at_).1<k+b.length)
 | [],_,_,_=>.inl rfl
 | x::l,off,k,at_=>by
  unfold jP
  split
  ·exact .inr ⟨Int.le_refl _,by simp only [qWp]; omega⟩
  ·rcases qAp l (off+wH x) (k+1) at_ with h | ⟨h1,h2⟩
   ·exact .inl h
   ·exact .inr ⟨by omega,by simp only [qWp]; omega⟩
theorem qDv (p:wU) (s:yH) (regs:List Int) (who at_:Int) (hp:vY p) (hw:0≤who) (hr:regs.length<2^40):qU Tryz.prog num 236 [.agg (yT .bw p),.agg (bU s),.sl .bw 1 (wQ regs),.int .i64 who,.int .i64 at_] [] (.bool (zP p s regs who at_)):=by
 refine EN m236 Tryz.func135 ?_
 unfold m236
 obtain ⟨i,rfl⟩:=Int.eq_ofNat_of_zero_le hw
 by_cases hb:(i:Int)<p.bods.length
 case neg =>
  have hb':(p.bods.length:Int)≤i:=by omega
  simp only [go_sem,seval,hb']
  refine fz ?_; simp [qX,qQ,qR,qL,-qYj]
  simp [zP,hb]
 have hb' :¬(p.bods.length:Int)≤i:=by omega
 have hbi:i<p.bods.length:=by omega
 have hbl:=hp.body _ (wZ p.bods i [] hbi)
 have hbg:=qZ .bw p.bods i hbi
 have hpl:=qAp (p.bods.getD i []) 0 0 at_
 have hci:zP p s regs i at_=(decide (0≤(jP (p.bods.getD i []) 0 0 at_).1) &&
  ((decide (s.op=8)&&qO s.r 0 (regs.length-1)&&decide (regs.getD s.r.toNat 0=0))||decide (wH ((p.bods.getD i []).getD (jP (p.bods.getD i []) 0 0 at_).1.toNat default)=1))):=by
  have d:decide ((i:Int)<(p.bods.length:Int))=true:=by simpa using hbi
  unfold zP
  rw [d,Bool.true_and]
  rfl
 rw [hci]
 simp only [go_sem,seval,hb',hbg]
 repeat refine K ?_
 refine CA [] (sL (p.bods.getD i []) at_ hbl) ?_
 try simp only [go_sem,seval]
 generalize hpl2:(jP (p.bods.getD i []) 0 0 at_).1=pl at *
 by_cases h0:pl<0
 ·try simp only [go_sem,seval,h0]
  refine fz ?_; simp [qX,qQ,qR,qL,-qYj]
  have :¬0≤pl:=by omega
  simp [this]
 have h0':0≤pl:=by omega
 obtain ⟨j,rfl⟩:=Int.eq_ofNat_of_zero_le h0'
 have hj:j<(p.bods.getD i []).length:=by omega
 have hig:=uW (p.bods.getD i []) j hj
 have d0:decide (0≤(j:Int))=true:=by simp
 rw [d0,Bool.true_and]
 simp only [Int.toNat_natCast]
 have w1:IntKind.i64.wrap ((regs.length:Int)-1)=regs.length-1:=wM (by omega) (by omega)
 generalize hbd:p.bods.getD i []=b at *
 try simp only [go_sem,seval,h0]
 by_cases h8:s.op=8
 ·simp only [go_sem,seval,h8,w1]
  refine CA [] (yD s.r 0 (regs.length-1)) ?_
  try simp only [go_sem,seval]
  cases hwi:qO s.r 0 (regs.length-1)
  ·try simp only [go_sem,seval,hwi,hb',hbg,hig]
   repeat refine K ?_
   refine CA [] (vB (b.getD j default)) ?_
   try simp only [go_sem,seval]
   refine fz ?_; simp [qX,qQ,qR,qL,-qYj]
  have hwi':=qP.1 hwi
  have hrl:s.r.toNat<regs.length:=by omega
  try simp only [go_sem,seval,hwi,qI regs s.r.toNat hrl]
  repeat refine K ?_
  by_cases hz:regs.getD s.r.toNat 0=0
  ·try simp only [go_sem,seval,hz]
   refine fz ?_; simp [qX,qQ,qR,qL,-qYj]
  ·try simp only [go_sem,seval,hz,hb',hbg,hig]
   repeat refine K ?_
   refine CA [] (vB (b.getD j default)) ?_
   try simp only [go_sem,seval]
   refine fz ?_; simp [qX,qQ,qR,qL,-qYj]
 ·simp only [go_sem,seval,h8,hb',hbg,hig]
  repeat refine K ?_
  refine CA [] (vB (b.getD j default)) ?_
  try simp only [go_sem,seval]
  refine fz ?_; simp [qX,qQ,qR,qL,-qYj]
end Go.Sep
