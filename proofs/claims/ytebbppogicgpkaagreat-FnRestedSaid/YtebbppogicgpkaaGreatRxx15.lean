/- Contracts of functions. -/
import Derived.Test.YtebbppogicgpkaaGreatRxx13
namespace Go.Sep
set_option maxHeartbeats 16000000
open Go.Proofs
set_option linter.unusedSimpArgs false
set_option linter.unusedVariables false
set_option maxRecDepth 100000
def qXl (k:Int) (m:qK):FP:=[(0,some (1,codes .own m.codes),some (1,codes .own (mks qL2 qQ9 k m.codes))),(1,some (4,cores .own m.cores),some (4,cores .own (mks qUm qTk (k+lN qL2 m.codes) m.cores))),(2,some (1,yP .own m.mem.cells),some (1,yP .own (mks qRa qO9 (k+lN qL2 m.codes+lN qUm m.cores) m.mem.cells))),(3,some (2,jG m.tr),some (2,jG (mks qYh qTj (k+lN qL2 m.codes+lN qUm m.cores+lN qRa m.mem.cells) m.tr)))]
attribute [go_sem] qXl
attribute [simp] qXl
theorem qTz {caps:List Int} {x:Ins} {f:Int} {starts:List Int} (h:vN x starts.length caps.length=true) (hb:qO x.op 5 9=true→¬base caps x.n<0):((lF caps x f starts).length:Int)=wF x:=by
 have ho:=(rG h).1
 unfold lF wF
 rw [if_pos h]
 split
 ·rename_i hw
  rw [if_neg (hb hw)]
  rw [qM] at hw
  have hc:x.op=5∨x.op=6∨x.op=7∨x.op=8∨x.op=9:=by omega
  rcases hc with hc | hc | hc | hc | hc<;>simp [hc,zM,kT,kP,fR,hX,kA]
 ·rename_i hw
  have hw :¬(5≤x.op∧x.op≤9):=fun e=>hw (qM.2 e)
  rw [if_neg (by omega),if_neg (by omega),if_neg (by omega),if_neg (by omega),if_neg (by omega),ho]
  simp [vQ]
theorem qVw {caps:List Int} {x:Ins} {f:Int} {starts:List Int} {j:Nat} (h:vN x starts.length caps.length=true) (h8:((lF caps x f starts).getD j default).op=8):wF x≠1:=by
 have ho:=(rG h).1
 unfold lF at h8
 rw [if_pos h] at h8
 unfold wF
 split at h8
 ·rename_i hw
  rw [qM] at hw
  have hc:x.op=5∨x.op=6∨x.op=7∨x.op=8∨x.op=9:=by omega
  rcases hc with hc | hc | hc | hc | hc<;>simp [hc]
 ·exfalso
  cases j with
  | zero =>
   simp only [List.getD_cons_zero] at h8
   unfold single at h8
   repeat' split at h8
   all_goals (simp at h8)
  | succ j =>
   simp [List.getD_eq_getElem?_getD] at h8
   exact absurd h8 (by decide)
theorem qHv {b:List Ins} {n:Nat} (h:jT b n=true) (i:Nat) (hi:i<b.length):vN (b.getD i default) b.length n=true:=by
 unfold jT at h
 simp only [Bool.and_eq_true,List.all_eq_true] at h
 exact h.1.2 _ (wX b i default hi)
theorem qOd {caps:List Int} (hl:gC caps=true) {n:Int} (h:0≤n∧n<caps.length) :¬base caps n<0:=by
 unfold base
 have hw:qO n 0 ((caps.length:Int)-1)=true:=by rw [qM]; omega
 rw [hl,hw]
 unfold gC at hl
 simp only [Bool.and_eq_true] at hl
 have:=cT hl.1 n.toNat
 simp only [Bool.and_self,if_true]
 omega
theorem qFc {caps:List Int} {b:List Ins} (hb:jT b caps.length=true) (hl:gC caps=true) (i:Nat) (hi:i<b.length) (f:Int):((lF caps (b.getD i default) f (jI b)).length:Int)=wF (b.getD i default):=by
 have h:=qHv hb i hi
 refine qTz (by rw [jI,jQ]; exact h) fun hw=>qOd hl ?_
 exact qQj h hw
theorem oM {caps:List Int} {b:List Ins} (hb:jT b caps.length=true) (hl:gC caps=true) :∀i,i≤b.length→((dV caps b i).length:Int)=szB (b.take i)
 | 0,_=>by simp [dV,szB]
 | i+1,hi=>by
  have:=oM hb hl i (by omega)
  have:=qFc hb hl i (by omega) (szB (b.take i))
  rw [cS b i (by omega)]
  simp only [dV,List.length_append]
  omega
theorem qOy {caps:List Int} {b:List Ins} (hb:jT b caps.length=true) (hl:gC caps=true) :∀(n:Nat),n≤b.length→∀at_:Nat,at_<(dV caps b n).length→
  ∃i,i<n∧szB (b.take i)≤at_∧(at_:Int)<szB (b.take (i+1))∧(((dV caps b n).getD at_ default).op=8→wF (b.getD i default)≠1)
 | 0,_,at_,h=>by simp [dV] at h
 | n+1,hn,at_,h=>by
  by_cases hc:at_<(dV caps b n).length
  ·obtain ⟨i,h1,h2,h3,h4⟩:=qOy hb hl n (by omega) at_ hc
   refine ⟨i,by omega,h2,h3,fun h8=>h4 ?_⟩
   rw [←h8,dV,List.getD_eq_getElem?_getD,List.getD_eq_getElem?_getD,List.getElem?_append_left hc]
  ·have hs:=oM hb hl n (by omega)
   have he:=qFc hb hl n (by omega) (szB (b.take n))
   have hz:=cS b n (by omega)
   simp only [dV,List.length_append] at h
   refine ⟨n,by omega,by omega,by omega,fun h8=>?_⟩
   rw [dV,List.getD_eq_getElem?_getD,List.getElem?_append_right (by omega),←List.getD_eq_getElem?_getD] at h8
   exact qVw (by rw [jI,jQ]; exact qHv hb n (by omega)) h8
theorem qGf :∀(b:List Ins) (off k at_:Int) (i:Nat),i<b.length→off+szB (b.take i)≤at_→at_<off+szB (b.take (i+1))→(jF b off k at_).1=k+i
 | [],_,_,_,i,h,_,_=>by simp at h
 | x::l,off,k,at_,0,_,h1,h2=>by
  simp only [List.take_zero,szB,List.take_succ_cons] at h1 h2
  unfold jF
  rw [if_pos (by omega)]
  simp
 | x::l,off,k,at_,i+1,h,h1,h2=>by
  simp only [List.take_succ_cons,szB] at h1 h2
  have hl:=(qCh (l.take i)).1
  unfold jF
  rw [if_neg (by omega)]
  rw [qGf l (off+wF x) (k+1) at_ i (by simpa using h) (by omega) (by omega)]
  push_cast
  omega
theorem qSd {caps:List Int} {b:List Ins} (hb:jT b caps.length=true) (hl:gC caps=true) {at_:Int} (h0:0≤at_) (h1:at_<((comp caps b).length:Int)) :
  0≤(jF b 0 0 at_).1∧(jF b 0 0 at_).1.toNat<b.length∧(((comp caps b).getD at_.toNat default).op=8→wF (b.getD (jF b 0 0 at_).1.toNat default)≠1):=by
 obtain ⟨i,g1,g2,g3,g4⟩:=qOy hb hl b.length (Nat.le_refl _) at_.toNat (by unfold comp at h1; omega)
 have hp:=qGf b 0 0 at_ i g1 (by omega) (by omega)
 rw [hp]
 have e:((0:Int)+(i:Int)).toNat=i:=by omega
 rw [e]
 exact ⟨by omega,g1,g4⟩
def dO (p:wV) (s:yC) (regs:List Int) (who at_:Int):Bool :=
 decide (who<p.bods.length)&&decide (0≤(jF (p.bods.getD who.toNat []) 0 0 at_).1) &&
  ((decide (s.op=8)&&qO s.r 0 (regs.length-1)&&decide (regs.getD s.r.toNat 0=0))||decide (wF ((p.bods.getD who.toNat []).getD (jF (p.bods.getD who.toNat []) 0 0 at_).1.toNat default)=1))
def iG (p:wV) (s:yC) (regs:List Int) (who at_:Int):Bool :=
 if s.op=8 then decide (regs.getD s.r.toNat 0=0)
 else decide (0≤(vL p who at_).1)&&decide (wF ((p.bods.getD who.toNat []).getD (vL p who at_).1.toNat default)=1)
theorem qQs {p:wV} (hp:uA p=true) (hl:gC p.caps=true) {i:Nat} (hi:i<p.bods.length) {at_:Int} (h0:0≤at_) (h1:at_<((comp p.caps (p.bods.getD i [])).length:Int)) {regs:List Int} (hr:regs.length=8)
  (hs:qO ((comp p.caps (p.bods.getD i [])).getD at_.toNat default).r 0 7=true) :
  dO p ((comp p.caps (p.bods.getD i [])).getD at_.toNat default) regs i at_=iG p ((comp p.caps (p.bods.getD i [])).getD at_.toNat default) regs i at_:=by
 have hb:=(lW hp).2.2.2.2 _ (wX p.bods i [] hi)
 obtain ⟨a1,a2,a3⟩:=qSd hb hl h0 h1
 have hpl:vL p i at_=jF (p.bods.getD i []) 0 0 at_:=by
  unfold vL
  have hw:qO (i:Int) 0 ((p.bods.length:Int)-1)=true:=by rw [qM]; omega
  rw [hp,hw]
  rfl
 unfold dO iG
 rw [hpl]
 generalize (comp p.caps (p.bods.getD i [])).getD at_.toNat default=s at *
 simp only [Int.toNat_natCast]
 have d1:decide ((i:Int)<(p.bods.length:Int))=true:=by simp; exact hi
 have d2:decide (0≤(jF (p.bods.getD i []) 0 0 at_).1)=true:=by simpa using a1
 have d3:qO s.r 0 ((regs.length:Int)-1)=true:=by rw [hr]; exact hs
 rw [d1,d2,d3]
 by_cases h8:s.op=8
 ·have h9:decide (wF ((p.bods.getD i []).getD (jF (p.bods.getD i []) 0 0 at_).1.toNat default)=1)=false:=by simpa [-List.getD_eq_getElem?_getD] using a3 h8
  rw [h9]
  simp [h8]
 ·simp [h8]
def did (p:wV) (m:qK) (x:bB):Bool:=decide ((wL m x).2=0)&&dO p (qW m x.who.toNat) (qJ (wL m x).1 x.who.toNat).regs x.who (qJ m x.who.toNat).at_
def dH (p:wV):qK→List bB→List Int
 | _,[]=>[]
 | m,x::l=>(if did p m x then [x.who] else [])++dH p (wL m x).1 l
theorem qDu (p:wV) :∀(m:qK) (l:List bB) (x:bB),dH p m (l++[x])=dH p m l++(if did p (eJ m l) x then [x.who] else [])
 | _,[],_=>by simp only [dH,eJ,List.nil_append,List.append_nil]; rfl
 | m,y::l,x=>by simp only [List.cons_append,dH,eJ,qDu p _ l x,List.append_assoc]; rfl
theorem tX (p:wV) :∀(m:qK) (l:List bB),(dH p m l).length≤l.length
 | _,[]=>by simp [dH]
 | m,y::l=>by
  have:=tX p (wL m y).1 l
  simp only [dH,List.length_append,List.length_cons]
  split<;>simp<;>omega
def m236:MFn:=⟨63,[.t 10],kr [xb 5 0,xb 6 1,xF 10] (.seq (kr [xv 14 3,xa 15 1 5,xl 16 15,xe 17 16,bT 18 .geq 14 17] (kF 18 [xF 10])) (kr [xa 20 1 5,xl 21 20,xv 22 3,xD 23 1 21 22,xl 24 23,xv 25 4,xc2 26 280 (.t 24) (.t 25),xv 19 26,xX 27 19 0,xX 28 19 1,xv 11 27,xv 12 28] (.seq (kr [xv 29 11,bI 30 .lss 29 0] (kF 30 [xF 10])) (kr [xa 31 0 6,xl 32 31,bI 33 .eql 32 8,xv 34 33,ya 35 1 6 34,yl 36 1 35 34,yv 37 2 34,ye 38 37 34,yI 39 .sub 38 1 34,xg 40 (.call 59 [false,false,false] [.t 36,xi 0,.t 39]) 34 true,xP 41 34 40,xv 42 41,yv 43 2 42,ya 44 1 6 42,yl 45 1 44 42,xg 46 (.iad 1 (.t 43) (.t 45)) 42 true,yl 47 1 46 42,yI 48 .eql 47 0 42,xP 49 42 48,xv 13 49] (kR [xv 50 13,xv 51 50,za 52 1 5 51,zl 53 1 52 51,zv 54 3 51,xg 55 (.iad 1 (.t 53) (.t 54)) 51 false,zl 56 1 55 51,zv 57 11 51,xg 58 (.iad 5 (.t 56) (.t 57)) 51 false,xg 59 (.load 5 true (.t 58)) 51 false,xg 60 (.call 262 [false] [.t 59]) 51 false,zI 61 .eql 60 1 51,xQ 62 51 61,xv 10 62])))))⟩
theorem qA6 :∀(b:List Ins) (off k at_:Int),(jF b off k at_).1=-1∨(k≤(jF b off k at_).1∧(jF b off k at_).1<k+b.length)
 | [],_,_,_=>.inl rfl
 | x::l,off,k,at_=>by
  unfold jF
  split
  ·exact .inr ⟨Int.le_refl _,by simp only [List.length_cons]; omega⟩
  ·rcases qA6 l (off+wF x) (k+1) at_ with h | ⟨h1,h2⟩
   ·exact .inl h
   ·exact .inr ⟨by omega,by simp only [List.length_cons]; omega⟩
theorem qDa (p:wV) (s:yC) (regs:List Int) (who at_:Int) (hp:zX p) (hw:0≤who) (hr:regs.length<2^40):qZ Tryz.prog num 236 [.agg (vC .bw p),.agg (jZ s),.sl .bw 1 (wK regs),.int .i64 who,.int .i64 at_] [] (.bool (dO p s regs who at_)):=by
 refine EN m236 Tryz.func135 ?_
 unfold m236
 obtain ⟨i,rfl⟩:=Int.eq_ofNat_of_zero_le hw
 by_cases hb:(i:Int)<p.bods.length
 case neg =>
  have hb':(p.bods.length:Int)≤i:=by omega
  simp only [go_sem,seval,hb']
  refine fz ?_; simp [wJ,wA,wB,qY,-List.drop_one]
  simp [dO,hb]
 have hb' :¬(p.bods.length:Int)≤i:=by omega
 have hbi:i<p.bods.length:=by omega
 have hbl:=hp.body _ (wX p.bods i [] hbi)
 have hbg:=dE .bw p.bods i hbi
 have hpl:=qA6 (p.bods.getD i []) 0 0 at_
 have hci:dO p s regs i at_=(decide (0≤(jF (p.bods.getD i []) 0 0 at_).1) &&
  ((decide (s.op=8)&&qO s.r 0 (regs.length-1)&&decide (regs.getD s.r.toNat 0=0))||decide (wF ((p.bods.getD i []).getD (jF (p.bods.getD i []) 0 0 at_).1.toNat default)=1))):=by
  have d:decide ((i:Int)<(p.bods.length:Int))=true:=by simpa using hbi
  unfold dO
  rw [d,Bool.true_and]
  rfl
 rw [hci]
 simp only [go_sem,seval,hb',hbg]
 repeat refine K ?_
 refine CA [] (rJ (p.bods.getD i []) at_ hbl) ?_
 try simp only [go_sem,seval]
 generalize hpl2:(jF (p.bods.getD i []) 0 0 at_).1=pl at *
 by_cases h0:pl<0
 ·try simp only [go_sem,seval,h0]
  refine fz ?_; simp [wJ,wA,wB,qY,-List.drop_one]
  have :¬0≤pl:=by omega
  simp [this]
 have h0':0≤pl:=by omega
 obtain ⟨j,rfl⟩:=Int.eq_ofNat_of_zero_le h0'
 have hj:j<(p.bods.getD i []).length:=by omega
 have hig:=zB (p.bods.getD i []) j hj
 have d0:decide (0≤(j:Int))=true:=by simp
 rw [d0,Bool.true_and]
 simp only [Int.toNat_natCast]
 have w1:IntKind.i64.wrap ((regs.length:Int)-1)=regs.length-1:=wM (by omega) (by omega)
 generalize hbd:p.bods.getD i []=b at *
 try simp only [go_sem,seval,h0]
 by_cases h8:s.op=8
 ·simp only [go_sem,seval,h8,w1]
  refine CA [] (yO s.r 0 (regs.length-1)) ?_
  try simp only [go_sem,seval]
  cases hwi:qO s.r 0 (regs.length-1)
  ·try simp only [go_sem,seval,hwi,hb',hbg,hig]
   repeat refine K ?_
   refine CA [] (aK (b.getD j default)) ?_
   try simp only [go_sem,seval]
   refine fz ?_; simp [wJ,wA,wB,qY,-List.drop_one]
  have hwi':=qM.1 hwi
  have hrl:s.r.toNat<regs.length:=by omega
  try simp only [go_sem,seval,hwi,qI regs s.r.toNat hrl]
  repeat refine K ?_
  by_cases hz:regs.getD s.r.toNat 0=0
  ·try simp only [go_sem,seval,hz]
   refine fz ?_; simp [wJ,wA,wB,qY,-List.drop_one]
  ·try simp only [go_sem,seval,hz,hb',hbg,hig]
   repeat refine K ?_
   refine CA [] (aK (b.getD j default)) ?_
   try simp only [go_sem,seval]
   refine fz ?_; simp [wJ,wA,wB,qY,-List.drop_one]
 ·simp only [go_sem,seval,h8,hb',hbg,hig]
  repeat refine K ?_
  refine CA [] (aK (b.getD j default)) ?_
  try simp only [go_sem,seval]
  refine fz ?_; simp [wJ,wA,wB,qY,-List.drop_one]
end Go.Sep
