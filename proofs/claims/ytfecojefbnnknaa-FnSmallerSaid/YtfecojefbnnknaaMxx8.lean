/- Contracts of functions. -/
import Derived.Test.YtfecojefbnnknaaMxx6
import Derived.Test.YtfecojefbnnknaaMxx7
open Bool renaming and_eq_true → wCs
open List renaming all_eq_true → wEk, getD_eq_getElem?_getD → wCu, take_succ_eq_append_getElem → wEh
namespace Go.Sep
set_option maxHeartbeats 16000000
open Go.Proofs
set_option linter.unusedSimpArgs false
set_option linter.unusedVariables false
set_option maxRecDepth 100000
open Nat renaming reduceAdd → qA, reduceMul → qB, reduceEqDiff → qC, reduceBEq → qD
open Int renaming reduceToNat → qE, reduceEq → qF, reduceLT → qG, reduceLE → qH
def m34:MFn:=⟨26,[.t 4],kr [xF 4] (.seq (kr [xv 6 0,xe 7 6,xv 8 1,xe 9 8,bT 10 .neq 7 9] (kF 10 [xF 4])) (.seq (kr [xv 11 0,xe 12 11,xI 13 0] (.blk 0 (.loop (kr [bT 14 .lss 13 12] (.seq (kX 14 0) (.seq (.blk 1 (kr [xv 15 13,xv 5 15] (.seq (.dreg (.take 0 (xv 16 0) (.take 1 (xv 17 5) (.take 2 (xD 18 1 16 17) (.take 3 (xl 19 18) (.take 4 (xv 20 1) (.only 5 [] (xv 21 5) (.only 6 [4] (xD 22 1 20 21) (.only 7 [6,4] (xl 23 22) (.only 8 [3,7,2,6,0,1,4] (bT 24 .neq 19 23) (.done))))))))))) (kF 24 [xF 4])))) (xr [bI 25 .add 13 1,xv 13 25]))))))) (kR [xT 4])))⟩
theorem qFd (xs ys:List Int) (hx:xs.length≤2^47):wD Try.prog num 34 [.sl .bw 1 (wR xs),.sl .bw 1 (wR ys)] [] (.bool (decide (xs=ys))):=by
 refine EN m34 Try.func39 ?_
 unfold m34
 simp only [go_sem,qA,qB,qC,qD,qE,qF,qG,qH]
 refine qX (fun hc=>?_) (fun hc=>?_)
 ·have hne:xs≠ys:=fun he=>by subst he; simp at hc
  simp only [go_sem,qA,qB,qC,qD,qE,qF,qG,qH]
  refine ⟨_,Sub.refl _,?_⟩
  simp [yS,wL,wM,wV,-List.drop_one]
  exact hne
 ·have hl:xs.length=ys.length:=by simp at hc; omega
  simp only [go_sem,qA,qB,qC,qD,qE,qF,qG,qH]
  refine wJ (ι:=Nat) (fun i=>.mk [(0,.sl .bw 1 (wR xs)),(1,.sl .bw 1 (wR ys)),(12,.int .i64 xs.length),(13,.int .i64 i)] [] 10) (fun i=>i≤xs.length∧xs.take i=ys.take i) (fun i=>xs.length-i) 0 (by simp) ?_ ?_
  ·refine Sub.shape [] id (by omega) ?_ ?_ ?_ ?_<;>simp [qL]
  ·rintro i ⟨hi,hp⟩
   simp only [go_sem,qA,qB,qC,qD,qE,qF,qG,qH]
   refine qX (fun hc=>?_) (fun hc=>?_)
   ·simp only [decide_eq_true_eq] at hc
    have hil:i<xs.length:=by omega
    have hjl:i<ys.length:=by omega
    simp only [go_sem,qA,qB,qC,qD,qE,qF,qG,qH,qJ xs i hil,qJ ys i hjl]
    refine ⟨by omega,by omega,by omega,by omega,qX (fun hc=>?_) (fun hc=>?_)⟩
    ·have hne:xs≠ys:=fun he=>by subst he; simp at hc
     simp only [go_sem,qA,qB,qC,qD,qE,qF,qG,qH]
     refine ⟨_,Sub.refl _,?_⟩
     simp [yS,wL,wM,wV,-List.drop_one]
     exact hne
    ·have hw:=qV (i:=i) (by omega)
     simp only [go_sem,qA,qB,qC,qD,qE,qF,qG,qH,hw]
     have he:xs.getD i 0=ys.getD i 0:=by simpa using hc
     refine qT (i+1) (Sub.shape [] id (by omega) ?_ ?_ ?_ ?_) ⟨hil,?_⟩ (by omega)
     case refine_5 =>
      rw [wEh hil,wEh hjl,hp]
      have he':xs[i]=ys[i]:=by simpa [wCu,hil,hjl] using he
      rw [he']
     all_goals simp [qL]
   ·simp only [decide_eq_false_iff_not] at hc
    have hi':i=xs.length:=by omega
    have he:xs=ys:=by
     rw [hi',List.take_length,hl,List.take_length] at hp
     exact hp
    simp only [go_sem,qA,qB,qC,qD,qE,qF,qG,qH]
    refine ⟨_,Sub.refl _,?_⟩
    simp [yS,wL,wM,wV,-List.drop_one]
    exact he
def fJ:List Int→Int
 | []=>0
 | c::l=>c+4+fJ l
theorem qF6 :∀(a b:List Int),fJ (a++b)=fJ a+fJ b
 | [],b=>by simp [fJ]
 | x::a,b=>by simp only [List.cons_append,fJ,qF6 a b]; omega
theorem qIu (l:List Int) (i:Nat) (h:i<l.length):fJ (l.take (i+1))=fJ (l.take i)+(l.getD i 0)+4:=by
 rw [bG l 0 i h,qF6]
 simp only [fJ]
 omega
theorem tN :∀{l:List Int},zR l=true→5*(l.length:Int)≤fJ l∧fJ l≤8*l.length
 | [],_=>by simp [fJ]
 | c::l,h=>by
  unfold zR at h
  rw [List.all_cons,wCs] at h
  have ih:=tN (l:=l) h.2
  have:=qK.1 h.1
  simp only [fJ,List.length_cons]
  omega
theorem qOu {l:List Int} (h:zR l=true) (i:Nat):zR (l.take i)=true:=by
 unfold zR at *
 rw [wEk] at *
 exact fun x hx=>h x (List.mem_of_mem_take hx)
theorem mR {l:List Int} (h:zR l=true) (i:Nat):0≤fJ (l.take i)∧fJ (l.take i)≤fJ l∧fJ (l.take i)≤8*l.length:=by
 have h1:=tN (qOu h i)
 have h2:zR (l.drop i)=true:=by
  unfold zR at *
  rw [wEk] at *
  exact fun x hx=>h x (List.mem_of_mem_drop hx)
 have h3:=tN h2
 have e:fJ l=fJ (l.take i)+fJ (l.drop i):=by rw [←qF6,List.take_append_drop]
 have h4:(l.take i).length≤l.length:=by simp; omega
 omega
def xR (caps:List Int):Bool:=zR caps&&decide (fJ caps≤24)
def base (caps:List Int) (n:Int):Int:=if qR n 0 (caps.length-1)&&xR caps then fJ (caps.take n.toNat) else -1
theorem qRd {caps:List Int} {n:Int} (h :¬base caps n<0):0≤n∧n.toNat<caps.length∧xR caps=true∧0≤base caps n∧base caps n+caps.getD n.toNat 0+4≤24∧qR (caps.getD n.toNat 0) 1 4=true:=by
 unfold base at *
 split at h
 ·rename_i hc
  rw [if_pos hc]
  simp only [wCs,qK] at hc
  have hn:n.toNat<caps.length:=by omega
  have hl:=hc.2
  unfold xR at hl
  simp only [wCs,decide_eq_true_eq] at hl
  have h1:=mR hl.1 n.toNat
  have h2:=mR hl.1 (n.toNat+1)
  have h3:=qIu caps n.toNat hn
  refine ⟨by omega,hn,hc.2,by omega,by omega,?_⟩
  have:=hl.1
  unfold zR at this
  rw [wEk] at this
  exact this _ (yL caps n.toNat 0 hn)
 ·simp at h
def szB:List Ins→Int
 | []=>0
 | x::l=>wN x+szB l
theorem qS0 :∀(a b:List Ins),szB (a++b)=szB a+szB b
 | [],b=>by simp [szB]
 | x::a,b=>by simp only [List.cons_append,szB,qS0 a b]; omega
theorem oI (l:List Ins) (i:Nat) (h:i<l.length):szB (l.take (i+1))=szB (l.take i)+wN (l.getD i default):=by
 rw [bG l default i h,qS0]
 simp [szB]
theorem qOg (x:Ins):0≤wN x∧wN x≤32:=by
 unfold wN uO
 repeat' split
 all_goals omega
theorem qKx :∀(l:List Ins),0≤szB l∧szB l≤32*l.length
 | []=>by simp [szB]
 | x::l=>by
  have:=qKx l
  have:=qOg x
  simp only [szB,List.length_cons]
  omega
theorem qD6 (l:List Ins) (i:Nat):0≤szB (l.take i)∧szB (l.take i)≤32*l.length:=by
 have h1:=qKx (l.take i)
 have h4:(l.take i).length≤l.length:=by simp; omega
 omega
def qA4 (b:List Ins) (n:Nat):List Int:=(List.range n).map fun i=>szB (b.take i)
theorem eA (b:List Ins) (n:Nat):(qA4 b n).length=n:=by simp [qA4]
theorem qL0 (b:List Ins) (n i:Nat) (h:i<n):(qA4 b n).getD i 0=szB (b.take i):=by simp [qA4,List.getD_eq_getElem?_getD,h]
def dE (b:List Ins):List Int:=qA4 b b.length
def single (x:Ins) (starts:List Int):jB :=
 if x.op=1 then ⟨1,x.r,0,0,x.n⟩ else if x.op=2 then ⟨2,x.r,x.a,x.b,0⟩ else if x.op=3 then ⟨3,x.r,x.a,x.b,0⟩ else if x.op=4 then ⟨4,x.r,x.a,x.b,0⟩
 else if x.op=10 then ⟨9,0,x.a,0,0⟩ else if x.op=11 then ⟨10,0,0,0,starts.getD x.n.toNat 0⟩ else if x.op=12 then ⟨11,0,x.a,0,starts.getD x.n.toNat 0⟩ else ⟨12,0,0,0,0⟩
def qB7 (caps:List Int) (x:Ins) (f:Int) (starts:List Int):List jB :=
 if jE x starts.length caps.length then
  if qR x.op 5 9 then
   if base caps x.n<0 then []
   else iG f (base caps x.n)++(if x.op=5∨x.op=7 then qAa f (base caps x.n) (caps.getD x.n.toNat 0) x else if x.op=6∨x.op=8 then qA0 f (base caps x.n) (caps.getD x.n.toNat 0) x else nM f (base caps x.n))
  else [single x starts]
 else []
def eO (caps:List Int) (b:List Ins):Nat→List jB
 | 0=>[]
 | i+1=>eO caps b i++qB7 caps (b.getD i default) (szB (b.take i)) (dE b)
def comp (caps:List Int) (b:List Ins):List jB:=eO caps b b.length
theorem oU {p:wK} (h:wY p=true):zR p.caps=true∧p.caps.length≤3∧p.bods.length≤4∧1≤p.bods.length∧∀b∈p.bods,wB b p.caps.length=true:=by
 unfold wY at h
 simp only [wCs,qK,decide_eq_true_eq,wEk] at h
 exact ⟨h.1.2,by omega,by omega,by omega,h.1.1.1⟩
def dU:List Ins→Int→Int→Int→Int×Bool
 | [],_,_,_=>(-1,false)
 | x::l,off,i,at_=>if off≤at_∧at_≤off+wN x-1 then (i,decide (at_=off)) else dU l (off+wN x) (i+1) at_
def kC (p:wK) (body at_:Int):Int×Bool:=if wY p&&qR body 0 (p.bods.length-1) then dU (p.bods.getD body.toNat []) 0 0 at_ else (-1,false)
def qQc (l:List jB):Int:=(l.getD (l.length-1) default).op
def qQv (l:List jB):Bool:=qR l.length 1 800&&l.all (fun s=>qBu s l.length)&&(decide (qQc l=10)||decide (qQc l=12)||decide (qQc l=13))
theorem qQi {x:Ins} {pl ch:Int} (h:jE x pl ch=true) (ho:qR x.op 5 9=true):0≤x.n∧x.n<ch:=by
 rw [qK] at ho
 unfold jE at h
 obtain e | e | e | e | e:x.op=5∨x.op=6∨x.op=7∨x.op=8∨x.op=9:=by omega
 all_goals
  simp [e,qK] at h
  omega
def wAn (_x:jB):Nat:=5
def qU9 (k:Int) (_x:jB):jB:=⟨k,k+1,k+1+1,k+1+1+1,k+1+1+1+1⟩
def qVr (x:yA):Nat:=1+x.view.length
def qQ7 (k:Int) (x:yA):yA:=⟨k,qG9 (k+1) x.view.length⟩
def qVs (x:uH):Nat:=2+x.regs.length+x.view.length
def qUb (k:Int) (x:uH):uH:=⟨k,qG9 (k+1) x.regs.length,qG9 (k+1+x.regs.length) x.view.length,k+1+x.regs.length+x.view.length⟩
def qKp:List jB→Nat:=(fun b=>sS wAn b)
def qQ8:Int→List jB→List jB:=(fun k b=>mks wAn qU9 k b)
def qRk:List yA→Nat:=(fun b=>sS qVr b)
def qNp:Int→List yA→List yA:=(fun k b=>mks qVr qQ7 k b)
def wAi (p:wK) (m:qQ) (who:Int):Bool:=qR who 0 (m.cores.length-1)&&decide ((m.cores.getD who.toNat default).st=0)&&(kC p who (m.cores.getD who.toNat default).at_).2
def pV (p:wK) (m:qQ) (s:qU) (who:Int):Bool :=
 if qR who 0 (m.cores.length-1)&&decide (who<s.ths.length) then
  let k:=m.cores.getD who.toNat default
  let t:=s.ths.getD who.toNat default
  let pl:=kC p who k.at_
  if pl.1<0∨k.regs.length<4∨t.regs.length<4 then false
  else if k.st≠0 then decide (t.st=k.st)
  else if pl.2 then decide (t.st=0)&&decide (t.at_=pl.1)&&decide (k.regs.take 4=t.regs.take 4)
  else true
 else false
end Go.Sep
