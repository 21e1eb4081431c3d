/- Contracts of functions. -/
import Derived.Test.YtebbppogicgpkaaGreatQxx5
namespace Go.Sep
set_option maxHeartbeats 16000000
open Go.Proofs
set_option linter.unusedSimpArgs false
set_option linter.unusedVariables false
set_option maxRecDepth 100000
def m71:MFn:=⟨23,[.t 4],kr [xF 4] (.seq (kr [xv 7 0,xe 8 7,xI 9 0] (.blk 0 (.loop (kr [bT 10 .lss 9 8] (.seq (kX 10 0) (.seq (.blk 1 (kr [xD 11 2 7 9,xm 12 2 11,xo 6 (.alloc [xz,xz]),xS 2 6 12] (kr [xa 13 0 6,xl 14 13,xv 15 1,bI 16 .sub 15 1,xc3 17 59 (.t 14) (xi 0) (.t 16),xN 18 17] (kF 18 [xF 4])))) (xr [bI 19 .add 9 1,xv 9 19]))))))) (kR [xv 20 0,xe 21 20,bI 22 .leq 21 4000,xv 4 22]))⟩
def thread0:Thread:=⟨0,[0,0,0,0],0⟩
def sourceNew (p:Prog):Source×Bool :=
 if progOk p then (⟨List.replicate p.bods.length thread0,p.caps.map fun c=>⟨c,[],false⟩,[]⟩,true) else (⟨[],[],[]⟩,false)
theorem getD_mem {α:Type} (l:List α) (i:Nat) (d:α) (h:i<l.length):l.getD i d∈l:=by simp [List.getD_eq_getElem?_getD,h]
def notesOk (l:List Note) (n:Int):Bool:=l.all (fun x=>within x.who 0 (n-1))&&decide ((l.length:Int)≤4000)
theorem notesOk_ok (l:List Note) (n:Int) (hl:l.length<2^47) (h0:0≤n) (h1:n<2^62):CallOk Tryz.prog num 71 [.sl .bw 2 (notes l),.int .i64 n] [] (.bool (notesOk l n)):=by
 refine EN m71 Tryz.func92 ?_
 unfold m71
 have hw1:IntKind.i64.wrap (n-1)=n-1:=wrap64 (by omega) (by omega)
 simp only [go_sem,seval]
 repeat refine K ?_
 refine loop_intro (ι:=Nat) (fun i=>.mk [(0,.sl .bw 2 (notes l)),(1,.int .i64 n),(7,.sl .bw 2 (notes l)),(8,.int .i64 l.length),(9,.int .i64 i)] [] 10) (fun i=>i≤l.length∧(l.take i).all (fun x=>within x.who 0 (n-1))=true) (fun i=>l.length-i) 0 (by simp) ?_ ?_
 ·refine Sub.shape [] id (by omega) ?_ ?_ ?_ ?_<;>simp [ints_rep]
 ·rintro i ⟨hi,hp⟩
  simp only [go_sem,seval]
  refine branch_intro (fun hc=>?_) (fun hc=>?_)
  ·simp only [decide_eq_true_eq] at hc
   have hl':i<l.length:=by omega
   simp only [go_sem,seval,notes_getD l i hl',hw1]
   repeat refine K ?_
   refine CA [] (within_ok (l.getD i default).who 0 (n-1)) ?_
   try simp only [go_sem,seval]
   repeat refine K ?_
   cases hw:within (l.getD i default).who 0 (n-1)
   ·simp only [go_sem,seval,hw]
    repeat refine K ?_
    refine fz ?_; simp [FinS,nilL,nilV,oneOr,-List.drop_one]
    simp only [notesOk]
    rw [all_stop (p:=fun x:Note=>within x.who 0 (n-1)) hl' hw]
    rfl
   ·simp only [go_sem,seval,hw,wrap_succ (i:=i) (by omega)]
    repeat refine K ?_
    refine back_intro (i+1) (Sub.shape [] id (by omega) ?_ ?_ ?_ ?_) ?_ ?_
    any_goals (first | omega | (simp [ints_rep]; done))
    exact ⟨hl',all_step (p:=fun x:Note=>within x.who 0 (n-1)) hp hl' hw⟩
  ·simp only [decide_eq_false_iff_not] at hc
   simp only [go_sem,seval]
   repeat refine K ?_
   refine fz ?_; simp [FinS,nilL,nilV,oneOr,-List.drop_one]
   simp only [notesOk,all_end hp hc]
   simp
def threadOk (b:List Ins) (t:Thread):Bool:=decide ((t.regs.length:Int)=4)&&within t.st 0 2&&within t.at_ 0 (b.length-1)
def sourceOk (p:Prog) (s:Source):Bool :=
 progOk p&&decide (s.ths.length=p.bods.length)&&decide (s.chs.length=p.caps.length)&&notesOk s.tr s.ths.length &&
 (List.range s.ths.length).all (fun i=>threadOk (p.bods.getD i []) (s.ths.getD i default)) &&
 (List.range s.chs.length).all (fun i=>chanOk (s.chs.getD i default)&&decide ((s.chs.getD i default).cap=p.caps.getD i 0))
theorem range_step {P:Nat→Bool} {i:Nat} (h:(List.range i).all P=true) (hp:P i=true):(List.range (i+1)).all P=true:=by
 rw [List.range_succ,List.all_append,h]
 simp [hp]
theorem range_stop {P:Nat→Bool} {i n:Nat} (hi:i<n) (hp:P i=false):(List.range n).all P=false:=by
 cases h:(List.range n).all P with
 | false=>rfl
 | true=>rw [List.all_eq_true.1 h i (List.mem_range.2 hi)] at hp; exact absurd hp (by decide)
structure SmallP (p:Prog):Prop where
 caps:p.caps.length<2^40
 bods:p.bods.length<2^40
 body :∀b∈p.bods,b.length<2^40
def ins (p:Prog) (s:Source) (i:Nat):Ins:=(p.bods.getD i []).getD (s.ths.getD i default).at_.toNat default
structure At (p:Prog) (s:Source) (i:Nat):Prop where
 hi:i<s.ths.length
 hb:i<p.bods.length
 regs:(s.ths.getD i default).regs.length=4
 at0:0≤(s.ths.getD i default).at_
 at1:(s.ths.getD i default).at_.toNat<(p.bods.getD i []).length
 len:(p.bods.getD i []).length≤24
 r0:0≤(ins p s i).r
 r1:(ins p s i).r.toNat<4
 a0:0≤(ins p s i).a
 a1:(ins p s i).a.toNat<4
 b0:0≤(ins p s i).b
 b1:(ins p s i).b.toNat<4
 ch:5≤(ins p s i).op→(ins p s i).op≤9→0≤(ins p s i).n∧(ins p s i).n.toNat<s.chs.length
 jm:(ins p s i).op=11∨(ins p s i).op=12→0≤(ins p s i).n∧(ins p s i).n.toNat<(p.bods.getD i []).length
 op:1≤(ins p s i).op∧(ins p s i).op≤13
theorem insOk_ch {x:Ins} {pl ch:Int} (h:insOk x pl ch=true) (h5:5≤x.op) (h9:x.op≤9):0≤x.n∧x.n<ch:=by
 rw [←insOkF_eq] at h
 simp only [insOkF,Bool.and_eq_true] at h
 have h2:=h.2
 rw [if_neg (by omega),if_neg (by omega)] at h2
 split at h2
 ·simp at h2
 ·simp only [Bool.or_eq_true,Bool.not_eq_true',within_iff] at h2
  rcases h2 with h2 | h2
  ·rw [within_eq] at h2
   simp at h2
   omega
  ·omega
theorem insOk_jm {x:Ins} {pl ch:Int} (h:insOk x pl ch=true) (h5:x.op=11∨x.op=12):0≤x.n∧x.n<pl:=by
 rw [←insOkF_eq] at h
 simp only [insOkF,Bool.and_eq_true] at h
 have h2:=h.2
 rw [if_neg (by omega),if_pos h5,within_iff] at h2
 omega
theorem insOk_op {x:Ins} {pl ch:Int} (h:insOk x pl ch=true):within x.op 1 13=true∧within x.r 0 3=true∧within x.a 0 3=true∧within x.b 0 3=true:=by
 rw [←insOkF_eq] at h
 simp only [insOkF,Bool.and_eq_true] at h
 exact ⟨h.1.1.1.1.1.2,h.1.1.1.2,h.1.1.2,h.1.2⟩
theorem at_of {p:Prog} {s:Source} (h:sourceOk p s=true) {i:Nat} (hi:i<s.ths.length):At p s i:=by
 simp only [sourceOk,Bool.and_eq_true,decide_eq_true_eq] at h
 obtain ⟨⟨⟨⟨⟨h1,h2⟩,h3⟩,_⟩,h5⟩,_⟩:=h
 have ht:=List.all_eq_true.1 h5 i (List.mem_range.2 hi)
 simp only [threadOk,Bool.and_eq_true,decide_eq_true_eq,within_iff] at ht
 have hb:i<p.bods.length:=by omega
 simp only [progOk,Bool.and_eq_true] at h1
 have hbody:=List.all_eq_true.1 h1.1.1.1 _ (getD_mem p.bods i [] hb)
 simp only [bodyOk,Bool.and_eq_true,within_iff] at hbody
 have hat:(s.ths.getD i default).at_.toNat<(p.bods.getD i []).length:=by omega
 have hx:insOk (ins p s i) _ _=true:=List.all_eq_true.1 hbody.1.2 _ (getD_mem (p.bods.getD i []) _ default hat)
 obtain ⟨o1,o2,o3,o4⟩:=insOk_op hx
 rw [within_iff] at o1 o2 o3 o4
 exact {
  hi:=hi,hb:=hb,regs:=by omega,at0:=by omega,at1:=hat,len:=by omega
  r0:=by omega,r1:=by omega,a0:=by omega,a1:=by omega,b0:=by omega,b1:=by omega
  ch:=fun a b=>by have:=insOk_ch hx a b; omega
  jm:=fun a=>by have:=insOk_jm hx a; omega
  op:=by omega}
def sourceCode (p:Prog) (s:Source) (who:Int):Int :=
 if within who 0 (s.ths.length-1)=false then 2
 else if¬(s.ths.getD who.toNat default).st=0∨((ins p s who.toNat).op=10∧(s.tr.length:Int)=4000) then 3
 else if¬(ins p s who.toNat).op=5∧¬(ins p s who.toNat).op=6 then 0
 else if (s.chs.getD (ins p s who.toNat).n.toNat default).closed=false∧(((ins p s who.toNat).op=5∧((s.chs.getD (ins p s who.toNat).n.toNat default).list.length:Int)=(s.chs.getD (ins p s who.toNat).n.toNat default).cap)∨((ins p s who.toNat).op=6∧((s.chs.getD (ins p s who.toNat).n.toNat default).list.length:Int)=0)) then 4
 else 0
def compute (op a b:Int):Int:=if op=2 then IntKind.i64.wrap (a+b) else if op=3 then IntKind.i64.wrap (a-b) else numb (decide (a<b))
def reg (t:Thread) (r:Int):Int:=t.regs.getD r.toNat 0
def setReg (t:Thread) (r v:Int):Thread:=⟨t.at_,t.regs.set r.toNat v,t.st⟩
def chanStep (t:Thread) (c:Chan) (x:Ins):Thread×Chan×Bool :=
 if x.op=5∨x.op=7 then
  (if x.op=7∧¬(chanSend c (reg t x.a)).2=2 then setReg t x.r (numb (decide ((chanSend c (reg t x.a)).2=0))) else t,(chanSend c (reg t x.a)).1,!decide ((chanSend c (reg t x.a)).2=2))
 else if x.op=6∨x.op=8 then
  (if (chanTake c).2.2=3∧x.op=8 then setReg (setReg (setReg t x.r (chanTake c).2.1) x.b (numb (decide ((chanTake c).2.2=0)))) x.b 2 else setReg (setReg t x.r (chanTake c).2.1) x.b (numb (decide ((chanTake c).2.2=0))),(chanTake c).1,!decide ((chanTake c).2.2=2))
 else (t,(chanClose c).1,!decide ((chanClose c).2=2))
theorem getD_set_self {α:Type} (l:List α) (i:Nat) (x d:α) (h:i<l.length):(l.set i x).getD i d=x:=by simp [List.getD_eq_getElem?_getD,h]
theorem set_getD_self {α:Type} (l:List α) (i:Nat) (d:α) (h:i<l.length):l.set i (l.getD i d)=l:=by
 rw [List.getD_eq_getElem?_getD,List.getElem?_eq_getElem h,Option.getD_some,List.set_getElem_self]
def goTo (p:Prog) (s:Source) (i:Nat) (t:Thread) (ok:Bool) (next:Int):Source :=
 if ok=false∨((p.bods.getD i []).length:Int)≤next then ⟨s.ths.set i ⟨t.at_,t.regs,2⟩,s.chs,s.tr⟩ else ⟨s.ths.set i ⟨next,t.regs,t.st⟩,s.chs,s.tr⟩
def doStep (p:Prog) (s:Source) (i:Nat):Source :=
 if (ins p s i).op=1 then goTo p s i (setReg (s.ths.getD i default) (ins p s i).r (ins p s i).n) true ((s.ths.getD i default).at_+1)
 else if (ins p s i).op=2∨(ins p s i).op=3∨(ins p s i).op=4 then
  goTo p s i (setReg (s.ths.getD i default) (ins p s i).r (compute (ins p s i).op (reg (s.ths.getD i default) (ins p s i).a) (reg (s.ths.getD i default) (ins p s i).b))) true ((s.ths.getD i default).at_+1)
 else if (ins p s i).op=10 then goTo p ⟨s.ths,s.chs,s.tr++[⟨i,reg (s.ths.getD i default) (ins p s i).a⟩]⟩ i (s.ths.getD i default) true ((s.ths.getD i default).at_+1)
 else if (ins p s i).op=11 then goTo p s i (s.ths.getD i default) true (ins p s i).n
 else if (ins p s i).op=12 then goTo p s i (s.ths.getD i default) true (if reg (s.ths.getD i default) (ins p s i).a=0 then (ins p s i).n else (s.ths.getD i default).at_+1)
 else if (ins p s i).op=13 then ⟨s.ths.set i ⟨(s.ths.getD i default).at_,(s.ths.getD i default).regs,1⟩,s.chs,s.tr⟩
 else goTo p ⟨s.ths,s.chs.set (ins p s i).n.toNat (chanStep (s.ths.getD i default) (s.chs.getD (ins p s i).n.toNat default) (ins p s i)).2.1,s.tr⟩ i
  (chanStep (s.ths.getD i default) (s.chs.getD (ins p s i).n.toNat default) (ins p s i)).1 (chanStep (s.ths.getD i default) (s.chs.getD (ins p s i).n.toNat default) (ins p s i)).2.2 ((s.ths.getD i default).at_+1)
def sourceStep (p:Prog) (s:Source) (who:Int):Source×Int:=if sourceCode p s who=0 then (doStep p s who.toNat,0) else (s,sourceCode p s who)
theorem code_in {p:Prog} {s:Source} {who:Int} (h:sourceCode p s who=0):0≤who∧who.toNat<s.ths.length:=by
 unfold sourceCode at h
 split at h
 ·simp at h
 ·rename_i hw
  simp only [Bool.not_eq_false,within_iff] at hw
  omega
@[simp] def srcV (s:Source):AV:=.agg [.ns 0 0 s.ths.length,.ns 1 0 s.chs.length,.ns 2 0 s.tr.length]
@[simp] def srcF (s:Source):FP:=[(0,some (3,threads .own s.ths),none),(1,some (3,chans .own s.chs),none),(2,some (2,notes s.tr),none)]
theorem codes_send (c:Chan) (v:Int) (h:chanOk c=true):chanSend c v=if c.closed then (c,2) else if (c.list.length:Int)=c.cap then (c,1) else ({c with list:=c.list++[v]},0):=by
 unfold chanSend
 cases hc:c.closed<;>simp [-List.getD_eq_getElem?_getD,h]
theorem chanAt_ok {p:Prog} {s:Source} (h:sourceOk p s=true) {j:Nat} (hj:j<s.chs.length):chanOk (s.chs.getD j default)=true:=by
 simp only [sourceOk,Bool.and_eq_true] at h
 have:=List.all_eq_true.1 h.2 j (List.mem_range.2 hj)
 simp only [Bool.and_eq_true] at this
 exact this.1
theorem chanOk_cap {c:Chan} (h:chanOk c=true):1≤c.cap∧(c.list.length:Int)≤c.cap:=by
 simp only [chanOk,Bool.and_eq_true,within_iff,decide_eq_true_eq] at h
 omega
theorem notesOk_len {p:Prog} {s:Source} (h:sourceOk p s=true):s.tr.length≤4000:=by
 simp only [sourceOk,notesOk,Bool.and_eq_true,decide_eq_true_eq] at h
 omega
theorem take_snoc {α:Type} (l:List α) (d:α) (i:Nat) (h:i<l.length):l.take (i+1)=l.take i++[l.getD i d]:=by
 rw [List.take_succ_eq_append_getElem h]
 simp [List.getD_eq_getElem?_getD,h]
def tots {α:Type} (w:α→Nat):List α→Nat
 | []=>0
 | a::l=>w a+tots w l
theorem tots_mem {α:Type} {w:α→Nat} :∀{l:List α} {x:α},x∈l→w x≤tots w l
 | [],x,h=>by simp at h
 | a::l,x,h=>by
  simp only [tots]
  rcases List.mem_cons.1 h with rfl | h
  ·omega
  ·have:=tots_mem (w:=w) h
   omega
theorem tots_le {α:Type} {w:α→Nat} {c:Nat} :∀{l:List α},(∀x∈l,w x≤c)→tots w l≤c*l.length
 | [],_=>by simp [tots]
 | a::l,h=>by
  have h1:=h a (by simp)
  have h2:=tots_le (l:=l) (fun x hx=>h x (by simp [hx]))
  simp only [tots,List.length_cons]
  rw [Nat.mul_add,Nat.mul_one]
  omega
def mks {α:Type} (w:α→Nat) (f:Int→α→α):Int→List α→List α
 | _,[]=>[]
 | k,a::l=>f k a::mks w f (k+w a) l
@[simp] theorem mks_length {α:Type} (w:α→Nat) (f:Int→α→α) :∀(k:Int) (l:List α),(mks w f k l).length=l.length
 | _,[]=>rfl
 | k,b::l=>by simp [mks,mks_length]
@[simp] theorem mks_take {α:Type} (w:α→Nat) (f:Int→α→α) (k:Int) (l:List α):(mks w f k l).take l.length=mks w f k l:=List.take_of_length_le (by simp)
def wNote (_x:Note):Nat:=2
def markNoteF (k:Int) (_x:Note):Note:=⟨k,k+1⟩
end Go.Sep
