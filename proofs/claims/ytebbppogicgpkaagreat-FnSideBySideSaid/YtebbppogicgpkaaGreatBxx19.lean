/- Contracts of functions. -/
import Derived.Test.YtebbppogicgpkaaGreatBxx16
import Derived.Test.YtebbppogicgpkaaGreatBxx18
namespace Go.Sep
set_option maxHeartbeats 16000000
open Go.Proofs
set_option linter.unusedSimpArgs false
set_option linter.unusedVariables false
set_option maxRecDepth 100000
theorem qT4 {caps:List Int} {x:Ins} {f:Int} {starts:List Int} (h:vW x starts.length caps.length=true) (hb:qL x.op 5 9=true→¬base caps x.n<0):((hO caps x f starts).length:Int)=wD x:=by
 have ho:=(sO h).1
 unfold hO wD
 rw [if_pos h]
 split
 ·rename_i hw
  rw [if_neg (hb hw)]
  rw [qK] at hw
  have hc:x.op=5∨x.op=6∨x.op=7∨x.op=8∨x.op=9:=by omega
  rcases hc with hc | hc | hc | hc | hc<;>simp [hc,bR,cK,cJ,eX,eR,eP]
 ·rename_i hw
  have hw :¬(5≤x.op∧x.op≤9):=fun e=>hw (qK.2 e)
  rw [if_neg (by omega),if_neg (by omega),if_neg (by omega),if_neg (by omega),if_neg (by omega),ho]
  simp [vI]
theorem qV2 {caps:List Int} {x:Ins} {f:Int} {starts:List Int} {j:Nat} (h:vW x starts.length caps.length=true) (h8:((hO caps x f starts).getD j default).op=8):wD x≠1:=by
 have ho:=(sO h).1
 unfold hO at h8
 rw [if_pos h] at h8
 unfold wD
 split at h8
 ·rename_i hw
  rw [qK] at hw
  have hc:x.op=5∨x.op=6∨x.op=7∨x.op=8∨x.op=9:=by omega
  rcases hc with hc | hc | hc | hc | hc<;>simp [hc]
 ·exfalso
  cases j with
  | zero =>
   simp only [List.getD_cons_zero] at h8
   unfold single at h8
   repeat' split at h8
   all_goals (simp at h8)
  | succ j =>
   simp [List.getD_eq_getElem?_getD] at h8
   exact absurd h8 (by decide)
theorem qHt {b:List Ins} {n:Nat} (h:jX b n=true) (i:Nat) (hi:i<b.length):vW (b.getD i default) b.length n=true:=by
 unfold jX at h
 simp only [Bool.and_eq_true,List.all_eq_true] at h
 exact h.1.2 _ (wY b i default hi)
theorem qNh {caps:List Int} (hl:bJ caps=true) {n:Int} (h:0≤n∧n<caps.length) :¬base caps n<0:=by
 unfold base
 have hw:qL n 0 ((caps.length:Int)-1)=true:=by rw [qK]; omega
 rw [hl,hw]
 unfold bJ at hl
 simp only [Bool.and_eq_true] at hl
 have:=xG hl.1 n.toNat
 simp only [Bool.and_self,if_true]
 omega
theorem qF5 {caps:List Int} {b:List Ins} (hb:jX b caps.length=true) (hl:bJ caps=true) (i:Nat) (hi:i<b.length) (f:Int):((hO caps (b.getD i default) f (yV b)).length:Int)=wD (b.getD i default):=by
 have h:=qHt hb i hi
 refine qT4 (by rw [yV,jM]; exact h) fun hw=>qNh hl ?_
 exact qPo h hw
theorem pS {caps:List Int} {b:List Ins} (hb:jX b caps.length=true) (hl:bJ caps=true) :∀i,i≤b.length→((gE caps b i).length:Int)=szB (b.take i)
 | 0,_=>by simp [gE,szB]
 | i+1,hi=>by
  have:=pS hb hl i (by omega)
  have:=qF5 hb hl i (by omega) (szB (b.take i))
  rw [fQ b i (by omega)]
  simp only [gE,List.length_append]
  omega
theorem qO3 {caps:List Int} {b:List Ins} (hb:jX b caps.length=true) (hl:bJ caps=true) :∀(n:Nat),n≤b.length→∀at_:Nat,at_<(gE caps b n).length→
  ∃i,i<n∧szB (b.take i)≤at_∧(at_:Int)<szB (b.take (i+1))∧(((gE caps b n).getD at_ default).op=8→wD (b.getD i default)≠1)
 | 0,_,at_,h=>by simp [gE] at h
 | n+1,hn,at_,h=>by
  by_cases hc:at_<(gE caps b n).length
  ·obtain ⟨i,h1,h2,h3,h4⟩:=qO3 hb hl n (by omega) at_ hc
   refine ⟨i,by omega,h2,h3,fun h8=>h4 ?_⟩
   rw [←h8,gE,List.getD_eq_getElem?_getD,List.getD_eq_getElem?_getD,List.getElem?_append_left hc]
  ·have hs:=pS hb hl n (by omega)
   have he:=qF5 hb hl n (by omega) (szB (b.take n))
   have hz:=fQ b n (by omega)
   simp only [gE,List.length_append] at h
   refine ⟨n,by omega,by omega,by omega,fun h8=>?_⟩
   rw [gE,List.getD_eq_getElem?_getD,List.getElem?_append_right (by omega),←List.getD_eq_getElem?_getD] at h8
   exact qV2 (by rw [yV,jM]; exact qHt hb n (by omega)) h8
theorem qG7 :∀(b:List Ins) (off k at_:Int) (i:Nat),i<b.length→off+szB (b.take i)≤at_→at_<off+szB (b.take (i+1))→(jU b off k at_).1=k+i
 | [],_,_,_,i,h,_,_=>by simp at h
 | x::l,off,k,at_,0,_,h1,h2=>by
  simp only [List.take_zero,szB,List.take_succ_cons] at h1 h2
  unfold jU
  rw [if_pos (by omega)]
  simp
 | x::l,off,k,at_,i+1,h,h1,h2=>by
  simp only [List.take_succ_cons,szB] at h1 h2
  have hl:=(qCo (l.take i)).1
  unfold jU
  rw [if_neg (by omega)]
  rw [qG7 l (off+wD x) (k+1) at_ i (by simpa using h) (by omega) (by omega)]
  push_cast
  omega
theorem qRg {caps:List Int} {b:List Ins} (hb:jX b caps.length=true) (hl:bJ caps=true) {at_:Int} (h0:0≤at_) (h1:at_<((comp caps b).length:Int)) :
  0≤(jU b 0 0 at_).1∧(jU b 0 0 at_).1.toNat<b.length∧(((comp caps b).getD at_.toNat default).op=8→wD (b.getD (jU b 0 0 at_).1.toNat default)≠1):=by
 obtain ⟨i,g1,g2,g3,g4⟩:=qO3 hb hl b.length (Nat.le_refl _) at_.toNat (by unfold comp at h1; omega)
 have hp:=qG7 b 0 0 at_ i g1 (by omega) (by omega)
 rw [hp]
 have e:((0:Int)+(i:Int)).toNat=i:=by omega
 rw [e]
 exact ⟨by omega,g1,g4⟩
def cU (p:wR) (s:yC) (regs:List Int) (who at_:Int):Bool :=
 decide (who<p.bods.length)&&decide (0≤(jU (p.bods.getD who.toNat []) 0 0 at_).1) &&
  ((decide (s.op=8)&&qL s.r 0 (regs.length-1)&&decide (regs.getD s.r.toNat 0=0))||decide (wD ((p.bods.getD who.toNat []).getD (jU (p.bods.getD who.toNat []) 0 0 at_).1.toNat default)=1))
def kI (p:wR) (s:yC) (regs:List Int) (who at_:Int):Bool :=
 if s.op=8 then decide (regs.getD s.r.toNat 0=0)
 else decide (0≤(jY p who at_).1)&&decide (wD ((p.bods.getD who.toNat []).getD (jY p who at_).1.toNat default)=1)
theorem qPy {p:wR} (hp:jQ p=true) (hl:bJ p.caps=true) {i:Nat} (hi:i<p.bods.length) {at_:Int} (h0:0≤at_) (h1:at_<((comp p.caps (p.bods.getD i [])).length:Int)) {regs:List Int} (hr:regs.length=8)
  (hs:qL ((comp p.caps (p.bods.getD i [])).getD at_.toNat default).r 0 7=true) :
  cU p ((comp p.caps (p.bods.getD i [])).getD at_.toNat default) regs i at_=kI p ((comp p.caps (p.bods.getD i [])).getD at_.toNat default) regs i at_:=by
 have hb:=(aL hp).2.2.2.2 _ (wY p.bods i [] hi)
 obtain ⟨a1,a2,a3⟩:=qRg hb hl h0 h1
 have hpl:jY p i at_=jU (p.bods.getD i []) 0 0 at_:=by
  unfold jY
  have hw:qL (i:Int) 0 ((p.bods.length:Int)-1)=true:=by rw [qK]; omega
  rw [hp,hw]
  rfl
 unfold cU kI
 rw [hpl]
 generalize (comp p.caps (p.bods.getD i [])).getD at_.toNat default=s at *
 simp only [Int.toNat_natCast]
 have d1:decide ((i:Int)<(p.bods.length:Int))=true:=by simp; exact hi
 have d2:decide (0≤(jU (p.bods.getD i []) 0 0 at_).1)=true:=by simpa using a1
 have d3:qL s.r 0 ((regs.length:Int)-1)=true:=by rw [hr]; exact hs
 rw [d1,d2,d3]
 by_cases h8:s.op=8
 ·have h9:decide (wD ((p.bods.getD i []).getD (jU (p.bods.getD i []) 0 0 at_).1.toNat default)=1)=false:=by simpa [-List.getD_eq_getElem?_getD] using a3 h8
  rw [h9]
  simp [h8]
 ·simp [h8]
def did (p:wR) (m:qO) (x:dK):Bool:=decide ((yJ m x).2=0)&&cU p (qX m x.who.toNat) (qJ (yJ m x).1 x.who.toNat).regs x.who (qJ m x.who.toNat).at_
def zC (p:wR):qO→List dK→List Int
 | _,[]=>[]
 | m,x::l=>(if did p m x then [x.who] else [])++zC p (yJ m x).1 l
theorem qE0 (p:wR) :∀(m:qO) (l:List dK) (x:dK),zC p m (l++[x])=zC p m l++(if did p (kZ m l) x then [x.who] else [])
 | _,[],_=>by simp only [zC,kZ,List.nil_append,List.append_nil]; rfl
 | m,y::l,x=>by simp only [List.cons_append,zC,kZ,qE0 p _ l x,List.append_assoc]; rfl
theorem oT (p:wR) :∀(m:qO) (l:List dK),(zC p m l).length≤l.length
 | _,[]=>by simp [zC]
 | m,y::l=>by
  have:=oT p (yJ m y).1 l
  simp only [zC,List.length_append,List.length_cons]
  split<;>simp<;>omega
theorem qG6 :∀(b:List Ins) (off k at_:Int),(jU b off k at_).1=-1∨(k≤(jU b off k at_).1∧(jU b off k at_).1<k+b.length)
 | [],_,_,_=>.inl rfl
 | x::l,off,k,at_=>by
  unfold jU
  split
  ·exact .inr ⟨Int.le_refl _,by simp only [List.length_cons]; omega⟩
  ·rcases qG6 l (off+wD x) (k+1) at_ with h | ⟨h1,h2⟩
   ·exact .inl h
   ·exact .inr ⟨by omega,by simp only [List.length_cons]; omega⟩
end Go.Sep
