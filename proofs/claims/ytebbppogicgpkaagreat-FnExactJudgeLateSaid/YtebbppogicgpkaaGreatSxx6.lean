/- Contracts of functions. -/
import Derived.Test.YtebbppogicgpkaaGreatSxx5
namespace Go.Sep
set_option maxHeartbeats 16000000
open Go.Proofs
set_option linter.unusedSimpArgs false
set_option linter.unusedVariables false
set_option maxRecDepth 100000
def m71:MFn:=⟨23,[.t 4],kr [xF 4] (.seq (kr [xv 7 0,xe 8 7,xI 9 0] (.blk 0 (.loop (kr [bT 10 .lss 9 8] (.seq (kX 10 0) (.seq (.blk 1 (kr [xD 11 2 7 9,xm 12 2 11,xo 6 (.alloc [xz,xz]),xS 2 6 12] (kr [xa 13 0 6,xl 14 13,xv 15 1,bI 16 .sub 15 1,xc3 17 59 (.t 14) (xi 0) (.t 16),xN 18 17] (kF 18 [xF 4])))) (xr [bI 19 .add 9 1,xv 9 19]))))))) (kR [xv 20 0,xe 21 20,bI 22 .leq 21 4000,xv 4 22]))⟩
def kL:vB:=⟨0,[0,0,0,0],0⟩
def jY (p:wM):wH×Bool :=
 if vF p then (⟨List.replicate p.bods.length kL,p.caps.map fun c=>⟨c,[],false⟩,[]⟩,true) else (⟨[],[],[]⟩,false)
theorem wU {α:Type} (l:List α) (i:Nat) (d:α) (h:i<l.length):l.getD i d∈l:=by simp [List.getD_eq_getElem?_getD,h]
def bY (l:List xJ) (n:Int):Bool:=l.all (fun x=>qP x.who 0 (n-1))&&decide ((l.length:Int)≤4000)
theorem qJ5 (l:List xJ) (n:Int) (hl:l.length<2^47) (h0:0≤n) (h1:n<2^62):qW Tryz.prog num 71 [.sl .bw 2 (jK l),.int .i64 n] [] (.bool (bY l n)):=by
 refine EN m71 Tryz.func92 ?_
 unfold m71
 have hw1:IntKind.i64.wrap (n-1)=n-1:=wJ (by omega) (by omega)
 simp only [go_sem,seval]
 refine qX (ι:=Nat) (fun i=>.mk [(0,.sl .bw 2 (jK l)),(1,.int .i64 n),(7,.sl .bw 2 (jK l)),(8,.int .i64 l.length),(9,.int .i64 i)] [] 10) (fun i=>i≤l.length∧(l.take i).all (fun x=>qP x.who 0 (n-1))=true) (fun i=>l.length-i) 0 (by simp) ?_ ?_
 ·refine Sub.shape [] id (by omega) ?_ ?_ ?_ ?_<;>simp [qK]
 ·rintro i ⟨hi,hp⟩
  simp only [go_sem,seval]
  refine qL (fun hc=>?_) (fun hc=>?_)
  ·simp only [decide_eq_true_eq] at hc
   have hl':i<l.length:=by omega
   simp only [go_sem,seval,cF l i hl',hw1]
   repeat refine K ?_
   refine CA [] (yE (l.getD i default).who 0 (n-1)) ?_
   try simp only [go_sem,seval]
   cases hw:qP (l.getD i default).who 0 (n-1)
   ·simp only [go_sem,seval,hw]
    refine fz ?_; simp [qZ,qU,qV,qQ,-List.drop_one]
    simp only [bY]
    rw [gF (p:=fun x:xJ=>qP x.who 0 (n-1)) hl' hw]
    rfl
   ·simp only [go_sem,seval,hw,qS (i:=i) (by omega)]
    refine qT (i+1) (Sub.shape [] id (by omega) ?_ ?_ ?_ ?_) ?_ ?_
    any_goals (first | omega | (simp [qK]; done))
    exact ⟨hl',dR (p:=fun x:xJ=>qP x.who 0 (n-1)) hp hl' hw⟩
  ·simp only [decide_eq_false_iff_not] at hc
   simp only [go_sem,seval]
   refine fz ?_; simp [qZ,qU,qV,qQ,-List.drop_one]
   simp only [bY,aF hp hc]
   simp
def bX (b:List Ins) (t:vB):Bool:=decide ((t.regs.length:Int)=4)&&qP t.st 0 2&&qP t.at_ 0 (b.length-1)
def wX (p:wM) (s:wH):Bool :=
 vF p&&decide (s.ths.length=p.bods.length)&&decide (s.chs.length=p.caps.length)&&bY s.tr s.ths.length &&
 (List.range s.ths.length).all (fun i=>bX (p.bods.getD i []) (s.ths.getD i default)) &&
 (List.range s.chs.length).all (fun i=>uO (s.chs.getD i default)&&decide ((s.chs.getD i default).cap=p.caps.getD i 0))
theorem eB {P:Nat→Bool} {i:Nat} (h:(List.range i).all P=true) (hp:P i=true):(List.range (i+1)).all P=true:=by
 rw [List.range_succ,List.all_append,h]
 simp [hp]
theorem dV {P:Nat→Bool} {i n:Nat} (hi:i<n) (hp:P i=false):(List.range n).all P=false:=by
 cases h:(List.range n).all P with
 | false=>rfl
 | true=>rw [List.all_eq_true.1 h i (List.mem_range.2 hi)] at hp; exact absurd hp (by decide)
structure bF (p:wM):Prop where
 caps:p.caps.length<2^40
 bods:p.bods.length<2^40
 body :∀b∈p.bods,b.length<2^40
def ins (p:wM) (s:wH) (i:Nat):Ins:=(p.bods.getD i []).getD (s.ths.getD i default).at_.toNat default
structure At (p:wM) (s:wH) (i:Nat):Prop where
 hi:i<s.ths.length
 hb:i<p.bods.length
 regs:(s.ths.getD i default).regs.length=4
 at0:0≤(s.ths.getD i default).at_
 at1:(s.ths.getD i default).at_.toNat<(p.bods.getD i []).length
 len:(p.bods.getD i []).length≤24
 r0:0≤(ins p s i).r
 r1:(ins p s i).r.toNat<4
 a0:0≤(ins p s i).a
 a1:(ins p s i).a.toNat<4
 b0:0≤(ins p s i).b
 b1:(ins p s i).b.toNat<4
 ch:5≤(ins p s i).op→(ins p s i).op≤9→0≤(ins p s i).n∧(ins p s i).n.toNat<s.chs.length
 jm:(ins p s i).op=11∨(ins p s i).op=12→0≤(ins p s i).n∧(ins p s i).n.toNat<(p.bods.getD i []).length
 op:1≤(ins p s i).op∧(ins p s i).op≤13
theorem qJs {x:Ins} {pl ch:Int} (h:uB x pl ch=true) (h5:5≤x.op) (h9:x.op≤9):0≤x.n∧x.n<ch:=by
 rw [←qB8] at h
 simp only [qAc,Bool.and_eq_true] at h
 have h2:=h.2
 rw [if_neg (by omega),if_neg (by omega)] at h2
 split at h2
 ·simp at h2
 ·simp only [Bool.or_eq_true,Bool.not_eq_true',qN] at h2
  rcases h2 with h2 | h2
  ·rw [pC] at h2
   simp at h2
   omega
  ·omega
theorem qRa {x:Ins} {pl ch:Int} (h:uB x pl ch=true) (h5:x.op=11∨x.op=12):0≤x.n∧x.n<pl:=by
 rw [←qB8] at h
 simp only [qAc,Bool.and_eq_true] at h
 have h2:=h.2
 rw [if_neg (by omega),if_pos h5,qN] at h2
 omega
theorem qAb {x:Ins} {pl ch:Int} (h:uB x pl ch=true):qP x.op 1 13=true∧qP x.r 0 3=true∧qP x.a 0 3=true∧qP x.b 0 3=true:=by
 rw [←qB8] at h
 simp only [qAc,Bool.and_eq_true] at h
 exact ⟨h.1.1.1.1.1.2,h.1.1.1.2,h.1.1.2,h.1.2⟩
theorem qVd {p:wM} {s:wH} (h:wX p s=true) {i:Nat} (hi:i<s.ths.length):At p s i:=by
 simp only [wX,Bool.and_eq_true,decide_eq_true_eq] at h
 obtain ⟨⟨⟨⟨⟨h1,h2⟩,h3⟩,_⟩,h5⟩,_⟩:=h
 have ht:=List.all_eq_true.1 h5 i (List.mem_range.2 hi)
 simp only [bX,Bool.and_eq_true,decide_eq_true_eq,qN] at ht
 have hb:i<p.bods.length:=by omega
 simp only [vF,Bool.and_eq_true] at h1
 have hbody:=List.all_eq_true.1 h1.1.1.1 _ (wU p.bods i [] hb)
 simp only [vI,Bool.and_eq_true,qN] at hbody
 have hat:(s.ths.getD i default).at_.toNat<(p.bods.getD i []).length:=by omega
 have hx:uB (ins p s i) _ _=true:=List.all_eq_true.1 hbody.1.2 _ (wU (p.bods.getD i []) _ default hat)
 obtain ⟨o1,o2,o3,o4⟩:=qAb hx
 rw [qN] at o1 o2 o3 o4
 exact {
  hi:=hi,hb:=hb,regs:=by omega,at0:=by omega,at1:=hat,len:=by omega
  r0:=by omega,r1:=by omega,a0:=by omega,a1:=by omega,b0:=by omega,b1:=by omega
  ch:=fun a b=>by have:=qJs hx a b; omega
  jm:=fun a=>by have:=qRa hx a; omega
  op:=by omega}
def yL (p:wM) (s:wH) (who:Int):Int :=
 if qP who 0 (s.ths.length-1)=false then 2
 else if¬(s.ths.getD who.toNat default).st=0∨((ins p s who.toNat).op=10∧(s.tr.length:Int)=4000) then 3
 else if¬(ins p s who.toNat).op=5∧¬(ins p s who.toNat).op=6 then 0
 else if (s.chs.getD (ins p s who.toNat).n.toNat default).closed=false∧(((ins p s who.toNat).op=5∧((s.chs.getD (ins p s who.toNat).n.toNat default).list.length:Int)=(s.chs.getD (ins p s who.toNat).n.toNat default).cap)∨((ins p s who.toNat).op=6∧((s.chs.getD (ins p s who.toNat).n.toNat default).list.length:Int)=0)) then 4
 else 0
def kT (op a b:Int):Int:=if op=2 then IntKind.i64.wrap (a+b) else if op=3 then IntKind.i64.wrap (a-b) else vV (decide (a<b))
def reg (t:vB) (r:Int):Int:=t.regs.getD r.toNat 0
def yU (t:vB) (r v:Int):vB:=⟨t.at_,t.regs.set r.toNat v,t.st⟩
def yB (t:vB) (c:bW) (x:Ins):vB×bW×Bool :=
 if x.op=5∨x.op=7 then
  (if x.op=7∧¬(jE c (reg t x.a)).2=2 then yU t x.r (vV (decide ((jE c (reg t x.a)).2=0))) else t,(jE c (reg t x.a)).1,!decide ((jE c (reg t x.a)).2=2))
 else if x.op=6∨x.op=8 then
  (if (yG c).2.2=3∧x.op=8 then yU (yU (yU t x.r (yG c).2.1) x.b (vV (decide ((yG c).2.2=0)))) x.b 2 else yU (yU t x.r (yG c).2.1) x.b (vV (decide ((yG c).2.2=0))),(yG c).1,!decide ((yG c).2.2=2))
 else (t,(bC c).1,!decide ((bC c).2=2))
theorem wF {α:Type} (l:List α) (i:Nat) (x d:α) (h:i<l.length):(l.set i x).getD i d=x:=by simp [List.getD_eq_getElem?_getD,h]
theorem wR {α:Type} (l:List α) (i:Nat) (d:α) (h:i<l.length):l.set i (l.getD i d)=l:=by
 rw [List.getD_eq_getElem?_getD,List.getElem?_eq_getElem h,Option.getD_some,List.set_getElem_self]
def gK (p:wM) (s:wH) (i:Nat) (t:vB) (ok:Bool) (bK:Int):wH :=
 if ok=false∨((p.bods.getD i []).length:Int)≤bK then ⟨s.ths.set i ⟨t.at_,t.regs,2⟩,s.chs,s.tr⟩ else ⟨s.ths.set i ⟨bK,t.regs,t.st⟩,s.chs,s.tr⟩
def yP (p:wM) (s:wH) (i:Nat):wH :=
 if (ins p s i).op=1 then gK p s i (yU (s.ths.getD i default) (ins p s i).r (ins p s i).n) true ((s.ths.getD i default).at_+1)
 else if (ins p s i).op=2∨(ins p s i).op=3∨(ins p s i).op=4 then
  gK p s i (yU (s.ths.getD i default) (ins p s i).r (kT (ins p s i).op (reg (s.ths.getD i default) (ins p s i).a) (reg (s.ths.getD i default) (ins p s i).b))) true ((s.ths.getD i default).at_+1)
 else if (ins p s i).op=10 then gK p ⟨s.ths,s.chs,s.tr++[⟨i,reg (s.ths.getD i default) (ins p s i).a⟩]⟩ i (s.ths.getD i default) true ((s.ths.getD i default).at_+1)
 else if (ins p s i).op=11 then gK p s i (s.ths.getD i default) true (ins p s i).n
 else if (ins p s i).op=12 then gK p s i (s.ths.getD i default) true (if reg (s.ths.getD i default) (ins p s i).a=0 then (ins p s i).n else (s.ths.getD i default).at_+1)
 else if (ins p s i).op=13 then ⟨s.ths.set i ⟨(s.ths.getD i default).at_,(s.ths.getD i default).regs,1⟩,s.chs,s.tr⟩
 else gK p ⟨s.ths,s.chs.set (ins p s i).n.toNat (yB (s.ths.getD i default) (s.chs.getD (ins p s i).n.toNat default) (ins p s i)).2.1,s.tr⟩ i
  (yB (s.ths.getD i default) (s.chs.getD (ins p s i).n.toNat default) (ins p s i)).1 (yB (s.ths.getD i default) (s.chs.getD (ins p s i).n.toNat default) (ins p s i)).2.2 ((s.ths.getD i default).at_+1)
def wT (p:wM) (s:wH) (who:Int):wH×Int:=if yL p s who=0 then (yP p s who.toNat,0) else (s,yL p s who)
theorem qHn {p:wM} {s:wH} {who:Int} (h:yL p s who=0):0≤who∧who.toNat<s.ths.length:=by
 unfold yL at h
 split at h
 ·simp at h
 ·rename_i hw
  simp only [Bool.not_eq_false,qN] at hw
  omega
@[simp] def wC9 (s:wH):AV:=.agg [.ns 0 0 s.ths.length,.ns 1 0 s.chs.length,.ns 2 0 s.tr.length]
@[simp] def wCa (s:wH):FP:=[(0,some (3,jH .own s.ths),none),(1,some (3,wW .own s.chs),none),(2,some (2,jK s.tr),none)]
theorem qTu (c:bW) (v:Int) (h:uO c=true):jE c v=if c.closed then (c,2) else if (c.list.length:Int)=c.cap then (c,1) else ({c with list:=c.list++[v]},0):=by
 unfold jE
 cases hc:c.closed<;>simp [-List.getD_eq_getElem?_getD,h]
theorem qXg {p:wM} {s:wH} (h:wX p s=true) {j:Nat} (hj:j<s.chs.length):uO (s.chs.getD j default)=true:=by
 simp only [wX,Bool.and_eq_true] at h
 have:=List.all_eq_true.1 h.2 j (List.mem_range.2 hj)
 simp only [Bool.and_eq_true] at this
 exact this.1
theorem qKs {c:bW} (h:uO c=true):1≤c.cap∧(c.list.length:Int)≤c.cap:=by
 simp only [uO,Bool.and_eq_true,qN,decide_eq_true_eq] at h
 omega
theorem tZ {p:wM} {s:wH} (h:wX p s=true):s.tr.length≤4000:=by
 simp only [wX,bY,Bool.and_eq_true,decide_eq_true_eq] at h
 omega
theorem bO {α:Type} (l:List α) (d:α) (i:Nat) (h:i<l.length):l.take (i+1)=l.take i++[l.getD i d]:=by
 rw [List.take_succ_eq_append_getElem h]
 simp [List.getD_eq_getElem?_getD,h]
def nP {α:Type} (w:α→Nat):List α→Nat
 | []=>0
 | a::l=>w a+nP w l
theorem mO {α:Type} {w:α→Nat} :∀{l:List α} {x:α},x∈l→w x≤nP w l
 | [],x,h=>by simp at h
 | a::l,x,h=>by
  simp only [nP]
  rcases List.mem_cons.1 h with rfl | h
  ·omega
  ·have:=mO (w:=w) h
   omega
theorem qCs {α:Type} {w:α→Nat} {c:Nat} :∀{l:List α},(∀x∈l,w x≤c)→nP w l≤c*l.length
 | [],_=>by simp [nP]
 | a::l,h=>by
  have h1:=h a (by simp)
  have h2:=qCs (l:=l) (fun x hx=>h x (by simp [hx]))
  simp only [nP,List.length_cons]
  rw [Nat.mul_add,Nat.mul_one]
  omega
def mks {α:Type} (w:α→Nat) (f:Int→α→α):Int→List α→List α
 | _,[]=>[]
 | k,a::l=>f k a::mks w f (k+w a) l
@[simp] theorem qSy {α:Type} (w:α→Nat) (f:Int→α→α) :∀(k:Int) (l:List α),(mks w f k l).length=l.length
 | _,[]=>rfl
 | k,b::l=>by simp [mks,qSy]
@[simp] theorem wBq {α:Type} (w:α→Nat) (f:Int→α→α) (k:Int) (l:List α):(mks w f k l).take l.length=mks w f k l:=List.take_of_length_le (by simp)
def wBk (_x:xJ):Nat:=2
def qWq (k:Int) (_x:xJ):xJ:=⟨k,k+1⟩
end Go.Sep
