/- Contracts of functions. -/
import Derived.Test.YtebbppogicgpkaaGreatRxx2
namespace Go.Sep
set_option maxHeartbeats 16000000
open Go.Proofs
set_option linter.unusedSimpArgs false
set_option linter.unusedVariables false
set_option maxRecDepth 100000
def m71:MFn:=⟨23,[.t 4],kr [xF 4] (.seq (kr [xv 7 0,xe 8 7,xI 9 0] (.blk 0 (.loop (kr [bT 10 .lss 9 8] (.seq (kX 10 0) (.seq (.blk 1 (kr [xD 11 2 7 9,xm 12 2 11,xo 6 (.alloc [xz,xz]),xS 2 6 12] (kr [xa 13 0 6,xl 14 13,xv 15 1,bI 16 .sub 15 1,xc3 17 59 (.t 14) (xi 0) (.t 16),xN 18 17] (kF 18 [xF 4])))) (xr [bI 19 .add 9 1,xv 9 19]))))))) (kR [xv 20 0,xe 21 20,bI 22 .leq 21 4000,xv 4 22]))⟩
theorem wX {α:Type} (l:List α) (i:Nat) (d:α) (h:i<l.length):l.getD i d∈l:=by simp [List.getD_eq_getElem?_getD,h]
def uY (l:List xO) (n:Int):Bool:=l.all (fun x=>qO x.who 0 (n-1))&&decide ((l.length:Int)≤4000)
theorem qQ0 (l:List xO) (n:Int) (hl:l.length<2^47) (h0:0≤n) (h1:n<2^62):qZ Tryz.prog num 71 [.sl .bw 2 (jG l),.int .i64 n] [] (.bool (uY l n)):=by
 refine EN m71 Tryz.func92 ?_
 unfold m71
 have hw1:IntKind.i64.wrap (n-1)=n-1:=wM (by omega) (by omega)
 simp only [go_sem,seval]
 refine wC (ι:=Nat) (fun i=>.mk [(0,.sl .bw 2 (jG l)),(1,.int .i64 n),(7,.sl .bw 2 (jG l)),(8,.int .i64 l.length),(9,.int .i64 i)] [] 10) (fun i=>i≤l.length∧(l.take i).all (fun x=>qO x.who 0 (n-1))=true) (fun i=>l.length-i) 0 (by simp) ?_ ?_
 ·refine Sub.shape [] id (by omega) ?_ ?_ ?_ ?_<;>simp [qP]
 ·rintro i ⟨hi,hp⟩
  simp only [go_sem,seval]
  refine qS (fun hc=>?_) (fun hc=>?_)
  ·simp only [decide_eq_true_eq] at hc
   have hl':i<l.length:=by omega
   simp only [go_sem,seval,oA l i hl',hw1]
   repeat refine K ?_
   refine CA [] (yO (l.getD i default).who 0 (n-1)) ?_
   try simp only [go_sem,seval]
   cases hw:qO (l.getD i default).who 0 (n-1)
   ·simp only [go_sem,seval,hw]
    refine fz ?_; simp [wJ,wA,wB,qY,-List.drop_one]
    simp only [uY]
    rw [bO (p:=fun x:xO=>qO x.who 0 (n-1)) hl' hw]
    rfl
   ·simp only [go_sem,seval,hw,qR (i:=i) (by omega)]
    refine qT (i+1) (Sub.shape [] id (by omega) ?_ ?_ ?_ ?_) ?_ ?_
    any_goals (first | omega | (simp [qP]; done))
    exact ⟨hl',gP (p:=fun x:xO=>qO x.who 0 (n-1)) hp hl' hw⟩
  ·simp only [decide_eq_false_iff_not] at hc
   simp only [go_sem,seval]
   refine fz ?_; simp [wJ,wA,wB,qY,-List.drop_one]
   simp only [uY,xC hp hc]
   simp
def cR (b:List Ins) (t:jY):Bool:=decide ((t.regs.length:Int)=4)&&qO t.st 0 2&&qO t.at_ 0 (b.length-1)
def jB (p:wV) (s:wS):Bool :=
 uA p&&decide (s.ths.length=p.bods.length)&&decide (s.chs.length=p.caps.length)&&uY s.tr s.ths.length &&
 (List.range s.ths.length).all (fun i=>cR (p.bods.getD i []) (s.ths.getD i default)) &&
 (List.range s.chs.length).all (fun i=>dQ (s.chs.getD i default)&&decide ((s.chs.getD i default).cap=p.caps.getD i 0))
theorem nU {P:Nat→Bool} {i:Nat} (h:(List.range i).all P=true) (hp:P i=true):(List.range (i+1)).all P=true:=by
 rw [List.range_succ,List.all_append,h]
 simp [hp]
theorem nT {P:Nat→Bool} {i n:Nat} (hi:i<n) (hp:P i=false):(List.range n).all P=false:=by
 cases h:(List.range n).all P with
 | false=>rfl
 | true=>rw [List.all_eq_true.1 h i (List.mem_range.2 hi)] at hp; exact absurd hp (by decide)
structure zX (p:wV):Prop where
 caps:p.caps.length<2^40
 bods:p.bods.length<2^40
 body :∀b∈p.bods,b.length<2^40
def ins (p:wV) (s:wS) (i:Nat):Ins:=(p.bods.getD i []).getD (s.ths.getD i default).at_.toNat default
structure At (p:wV) (s:wS) (i:Nat):Prop where
 hi:i<s.ths.length
 hb:i<p.bods.length
 regs:(s.ths.getD i default).regs.length=4
 at0:0≤(s.ths.getD i default).at_
 at1:(s.ths.getD i default).at_.toNat<(p.bods.getD i []).length
 len:(p.bods.getD i []).length≤24
 r0:0≤(ins p s i).r
 r1:(ins p s i).r.toNat<4
 a0:0≤(ins p s i).a
 a1:(ins p s i).a.toNat<4
 b0:0≤(ins p s i).b
 b1:(ins p s i).b.toNat<4
 ch:5≤(ins p s i).op→(ins p s i).op≤9→0≤(ins p s i).n∧(ins p s i).n.toNat<s.chs.length
 jm:(ins p s i).op=11∨(ins p s i).op=12→0≤(ins p s i).n∧(ins p s i).n.toNat<(p.bods.getD i []).length
 op:1≤(ins p s i).op∧(ins p s i).op≤13
theorem qH7 {x:Ins} {pl ch:Int} (h:vN x pl ch=true) (h5:5≤x.op) (h9:x.op≤9):0≤x.n∧x.n<ch:=by
 rw [←sQ] at h
 simp only [rH,Bool.and_eq_true] at h
 have h2:=h.2
 rw [if_neg (by omega),if_neg (by omega)] at h2
 split at h2
 ·simp at h2
 ·simp only [Bool.or_eq_true,Bool.not_eq_true',qM] at h2
  rcases h2 with h2 | h2
  ·rw [fG] at h2
   simp at h2
   omega
  ·omega
theorem qOp {x:Ins} {pl ch:Int} (h:vN x pl ch=true) (h5:x.op=11∨x.op=12):0≤x.n∧x.n<pl:=by
 rw [←sQ] at h
 simp only [rH,Bool.and_eq_true] at h
 have h2:=h.2
 rw [if_neg (by omega),if_pos h5,qM] at h2
 omega
theorem rG {x:Ins} {pl ch:Int} (h:vN x pl ch=true):qO x.op 1 13=true∧qO x.r 0 3=true∧qO x.a 0 3=true∧qO x.b 0 3=true:=by
 rw [←sQ] at h
 simp only [rH,Bool.and_eq_true] at h
 exact ⟨h.1.1.1.1.1.2,h.1.1.1.2,h.1.1.2,h.1.2⟩
theorem qXx {p:wV} {s:wS} (h:jB p s=true) {i:Nat} (hi:i<s.ths.length):At p s i:=by
 simp only [jB,Bool.and_eq_true,decide_eq_true_eq] at h
 obtain ⟨⟨⟨⟨⟨h1,h2⟩,h3⟩,_⟩,h5⟩,_⟩:=h
 have ht:=List.all_eq_true.1 h5 i (List.mem_range.2 hi)
 simp only [cR,Bool.and_eq_true,decide_eq_true_eq,qM] at ht
 have hb:i<p.bods.length:=by omega
 simp only [uA,Bool.and_eq_true] at h1
 have hbody:=List.all_eq_true.1 h1.1.1.1 _ (wX p.bods i [] hb)
 simp only [jT,Bool.and_eq_true,qM] at hbody
 have hat:(s.ths.getD i default).at_.toNat<(p.bods.getD i []).length:=by omega
 have hx:vN (ins p s i) _ _=true:=List.all_eq_true.1 hbody.1.2 _ (wX (p.bods.getD i []) _ default hat)
 obtain ⟨o1,o2,o3,o4⟩:=rG hx
 rw [qM] at o1 o2 o3 o4
 exact {
  hi:=hi,hb:=hb,regs:=by omega,at0:=by omega,at1:=hat,len:=by omega
  r0:=by omega,r1:=by omega,a0:=by omega,a1:=by omega,b0:=by omega,b1:=by omega
  ch:=fun a b=>by have:=qH7 hx a b; omega
  jm:=fun a=>by have:=qOp hx a; omega
  op:=by omega}
def jJ (p:wV) (s:wS) (who:Int):Int :=
 if qO who 0 (s.ths.length-1)=false then 2
 else if¬(s.ths.getD who.toNat default).st=0∨((ins p s who.toNat).op=10∧(s.tr.length:Int)=4000) then 3
 else if¬(ins p s who.toNat).op=5∧¬(ins p s who.toNat).op=6 then 0
 else if (s.chs.getD (ins p s who.toNat).n.toNat default).closed=false∧(((ins p s who.toNat).op=5∧((s.chs.getD (ins p s who.toNat).n.toNat default).list.length:Int)=(s.chs.getD (ins p s who.toNat).n.toNat default).cap)∨((ins p s who.toNat).op=6∧((s.chs.getD (ins p s who.toNat).n.toNat default).list.length:Int)=0)) then 4
 else 0
def sU (op a b:Int):Int:=if op=2 then IntKind.i64.wrap (a+b) else if op=3 then IntKind.i64.wrap (a-b) else vQ (decide (a<b))
def reg (t:jY) (r:Int):Int:=t.regs.getD r.toNat 0
def vO (t:jY) (r v:Int):jY:=⟨t.at_,t.regs.set r.toNat v,t.st⟩
def yV (t:jY) (c:gL) (x:Ins):jY×gL×Bool :=
 if x.op=5∨x.op=7 then
  (if x.op=7∧¬(jO c (reg t x.a)).2=2 then vO t x.r (vQ (decide ((jO c (reg t x.a)).2=0))) else t,(jO c (reg t x.a)).1,!decide ((jO c (reg t x.a)).2=2))
 else if x.op=6∨x.op=8 then
  (if (yS c).2.2=3∧x.op=8 then vO (vO (vO t x.r (yS c).2.1) x.b (vQ (decide ((yS c).2.2=0)))) x.b 2 else vO (vO t x.r (yS c).2.1) x.b (vQ (decide ((yS c).2.2=0))),(yS c).1,!decide ((yS c).2.2=2))
 else (t,(dG c).1,!decide ((dG c).2=2))
theorem wE {α:Type} (l:List α) (i:Nat) (x d:α) (h:i<l.length):(l.set i x).getD i d=x:=by simp [List.getD_eq_getElem?_getD,h]
theorem wI {α:Type} (l:List α) (i:Nat) (d:α) (h:i<l.length):l.set i (l.getD i d)=l:=by
 rw [List.getD_eq_getElem?_getD,List.getElem?_eq_getElem h,Option.getD_some,List.set_getElem_self]
def aL (p:wV) (s:wS) (i:Nat) (t:jY) (ok:Bool) (uI:Int):wS :=
 if ok=false∨((p.bods.getD i []).length:Int)≤uI then ⟨s.ths.set i ⟨t.at_,t.regs,2⟩,s.chs,s.tr⟩ else ⟨s.ths.set i ⟨uI,t.regs,t.st⟩,s.chs,s.tr⟩
def jH (p:wV) (s:wS) (i:Nat):wS :=
 if (ins p s i).op=1 then aL p s i (vO (s.ths.getD i default) (ins p s i).r (ins p s i).n) true ((s.ths.getD i default).at_+1)
 else if (ins p s i).op=2∨(ins p s i).op=3∨(ins p s i).op=4 then
  aL p s i (vO (s.ths.getD i default) (ins p s i).r (sU (ins p s i).op (reg (s.ths.getD i default) (ins p s i).a) (reg (s.ths.getD i default) (ins p s i).b))) true ((s.ths.getD i default).at_+1)
 else if (ins p s i).op=10 then aL p ⟨s.ths,s.chs,s.tr++[⟨i,reg (s.ths.getD i default) (ins p s i).a⟩]⟩ i (s.ths.getD i default) true ((s.ths.getD i default).at_+1)
 else if (ins p s i).op=11 then aL p s i (s.ths.getD i default) true (ins p s i).n
 else if (ins p s i).op=12 then aL p s i (s.ths.getD i default) true (if reg (s.ths.getD i default) (ins p s i).a=0 then (ins p s i).n else (s.ths.getD i default).at_+1)
 else if (ins p s i).op=13 then ⟨s.ths.set i ⟨(s.ths.getD i default).at_,(s.ths.getD i default).regs,1⟩,s.chs,s.tr⟩
 else aL p ⟨s.ths,s.chs.set (ins p s i).n.toNat (yV (s.ths.getD i default) (s.chs.getD (ins p s i).n.toNat default) (ins p s i)).2.1,s.tr⟩ i
  (yV (s.ths.getD i default) (s.chs.getD (ins p s i).n.toNat default) (ins p s i)).1 (yV (s.ths.getD i default) (s.chs.getD (ins p s i).n.toNat default) (ins p s i)).2.2 ((s.ths.getD i default).at_+1)
def jP (p:wV) (s:wS) (who:Int):wS×Int:=if jJ p s who=0 then (jH p s who.toNat,0) else (s,jJ p s who)
theorem qSe {p:wV} {s:wS} {who:Int} (h:jJ p s who=0):0≤who∧who.toNat<s.ths.length:=by
 unfold jJ at h
 split at h
 ·simp at h
 ·rename_i hw
  simp only [Bool.not_eq_false,qM] at hw
  omega
@[simp] def qYx (s:wS):AV:=.agg [.ns 0 0 s.ths.length,.ns 1 0 s.chs.length,.ns 2 0 s.tr.length]
@[simp] def qYy (s:wS):FP:=[(0,some (3,vZ .own s.ths),none),(1,some (3,wY .own s.chs),none),(2,some (2,jG s.tr),none)]
theorem qQt (c:gL) (v:Int) (h:dQ c=true):jO c v=if c.closed then (c,2) else if (c.list.length:Int)=c.cap then (c,1) else ({c with list:=c.list++[v]},0):=by
 unfold jO
 cases hc:c.closed<;>simp [-List.getD_eq_getElem?_getD,h]
theorem qUa {p:wV} {s:wS} (h:jB p s=true) {j:Nat} (hj:j<s.chs.length):dQ (s.chs.getD j default)=true:=by
 simp only [jB,Bool.and_eq_true] at h
 have:=List.all_eq_true.1 h.2 j (List.mem_range.2 hj)
 simp only [Bool.and_eq_true] at this
 exact this.1
theorem qQw {c:gL} (h:dQ c=true):1≤c.cap∧(c.list.length:Int)≤c.cap:=by
 simp only [dQ,Bool.and_eq_true,qM,decide_eq_true_eq] at h
 omega
theorem qNy {p:wV} {s:wS} (h:jB p s=true):s.tr.length≤4000:=by
 simp only [jB,uY,Bool.and_eq_true,decide_eq_true_eq] at h
 omega
theorem xG {α:Type} (l:List α) (d:α) (i:Nat) (h:i<l.length):l.take (i+1)=l.take i++[l.getD i d]:=by
 rw [List.take_succ_eq_append_getElem h]
 simp [List.getD_eq_getElem?_getD,h]
def lN {α:Type} (w:α→Nat):List α→Nat
 | []=>0
 | a::l=>w a+lN w l
theorem kN {α:Type} {w:α→Nat} :∀{l:List α} {x:α},x∈l→w x≤lN w l
 | [],x,h=>by simp at h
 | a::l,x,h=>by
  simp only [lN]
  rcases List.mem_cons.1 h with rfl | h
  ·omega
  ·have:=kN (w:=w) h
   omega
theorem qAp {α:Type} {w:α→Nat} {c:Nat} :∀{l:List α},(∀x∈l,w x≤c)→lN w l≤c*l.length
 | [],_=>by simp [lN]
 | a::l,h=>by
  have h1:=h a (by simp)
  have h2:=qAp (l:=l) (fun x hx=>h x (by simp [hx]))
  simp only [lN,List.length_cons]
  rw [Nat.mul_add,Nat.mul_one]
  omega
def mks {α:Type} (w:α→Nat) (f:Int→α→α):Int→List α→List α
 | _,[]=>[]
 | k,a::l=>f k a::mks w f (k+w a) l
@[simp] theorem qQ5 {α:Type} (w:α→Nat) (f:Int→α→α) :∀(k:Int) (l:List α),(mks w f k l).length=l.length
 | _,[]=>rfl
 | k,b::l=>by simp [mks,qQ5]
@[simp] theorem qYk {α:Type} (w:α→Nat) (f:Int→α→α) (k:Int) (l:List α):(mks w f k l).take l.length=mks w f k l:=List.take_of_length_le (by simp)
def qYh (_x:xO):Nat:=2
def qTj (k:Int) (_x:xO):xO:=⟨k,k+1⟩
structure qYw (C:Prop):Prop where
 h:C
end Go.Sep
