/- Contracts of functions. -/
import Derived.Test.YtfecojefbnnknaaTxx6
import Derived.Test.YtfecojefbnnknaaTxx7
open Bool renaming and_eq_true → qZ8
open List renaming all_eq_true → wB2, getD_eq_getElem?_getD → qZa, take_succ_eq_append_getElem → wAx
namespace Go.Sep
set_option maxHeartbeats 16000000
open Go.Proofs
set_option linter.unusedSimpArgs false
set_option linter.unusedVariables false
set_option maxRecDepth 100000
open Nat renaming reduceAdd → qA, reduceMul → qB, reduceEqDiff → qC, reduceBEq → qD
open Int renaming reduceToNat → qE, reduceEq → qF, reduceLT → qG, reduceLE → qH
def m34:MFn:=⟨26,[.t 4],kr [xF 4] (.seq (kr [xv 6 0,xe 7 6,xv 8 1,xe 9 8,bT 10 .neq 7 9] (kF 10 [xF 4])) (.seq (kr [xv 11 0,xe 12 11,xI 13 0] (.blk 0 (.loop (kr [bT 14 .lss 13 12] (.seq (kX 14 0) (.seq (.blk 1 (kr [xv 15 13,xv 5 15] (.seq (.dreg (.take 0 (xv 16 0) (.take 1 (xv 17 5) (.take 2 (xD 18 1 16 17) (.take 3 (xl 19 18) (.take 4 (xv 20 1) (.only 5 [] (xv 21 5) (.only 6 [4] (xD 22 1 20 21) (.only 7 [6,4] (xl 23 22) (.only 8 [3,7,2,6,0,1,4] (bT 24 .neq 19 23) (.done))))))))))) (kF 24 [xF 4])))) (xr [bI 25 .add 13 1,xv 13 25]))))))) (kR [xT 4])))⟩
theorem qDg (xs ys:List Int) (hx:xs.length≤2^47):wB Try.prog num 34 [.sl .bw 1 (wK xs),.sl .bw 1 (wK ys)] [] (.bool (decide (xs=ys))):=by
 refine EN m34 Try.func39 ?_
 unfold m34
 simp only [go_sem,qA,qB,qC,qD,qE,qF,qG,qH]
 refine qZ (fun hc=>?_) (fun hc=>?_)
 ·have hne:xs≠ys:=fun he=>by subst he; simp at hc
  simp only [go_sem,qA,qB,qC,qD,qE,qF,qG,qH]
  refine ⟨_,Sub.refl _,?_⟩
  simp [jE,wL,wN,yF,-List.drop_one]
  exact hne
 ·have hl:xs.length=ys.length:=by simp at hc; omega
  simp only [go_sem,qA,qB,qC,qD,qE,qF,qG,qH]
  refine wR (ι:=Nat) (fun i=>.mk [(0,.sl .bw 1 (wK xs)),(1,.sl .bw 1 (wK ys)),(12,.int .i64 xs.length),(13,.int .i64 i)] [] 10) (fun i=>i≤xs.length∧xs.take i=ys.take i) (fun i=>xs.length-i) 0 (by simp) ?_ ?_
  ·refine Sub.shape [] id (by omega) ?_ ?_ ?_ ?_<;>simp [qU]
  ·rintro i ⟨hi,hp⟩
   simp only [go_sem,qA,qB,qC,qD,qE,qF,qG,qH]
   refine qZ (fun hc=>?_) (fun hc=>?_)
   ·simp only [decide_eq_true_eq] at hc
    have hil:i<xs.length:=by omega
    have hjl:i<ys.length:=by omega
    simp only [go_sem,qA,qB,qC,qD,qE,qF,qG,qH,qJ xs i hil,qJ ys i hjl]
    refine ⟨by omega,by omega,by omega,by omega,qZ (fun hc=>?_) (fun hc=>?_)⟩
    ·have hne:xs≠ys:=fun he=>by subst he; simp at hc
     simp only [go_sem,qA,qB,qC,qD,qE,qF,qG,qH]
     refine ⟨_,Sub.refl _,?_⟩
     simp [jE,wL,wN,yF,-List.drop_one]
     exact hne
    ·have hw:=wD (i:=i) (by omega)
     simp only [go_sem,qA,qB,qC,qD,qE,qF,qG,qH,hw]
     have he:xs.getD i 0=ys.getD i 0:=by simpa using hc
     refine wC (i+1) (Sub.shape [] id (by omega) ?_ ?_ ?_ ?_) ⟨hil,?_⟩ (by omega)
     case refine_5 =>
      rw [wAx hil,wAx hjl,hp]
      have he':xs[i]=ys[i]:=by simpa [qZa,hil,hjl] using he
      rw [he']
     all_goals simp [qU]
   ·simp only [decide_eq_false_iff_not] at hc
    have hi':i=xs.length:=by omega
    have he:xs=ys:=by
     rw [hi',List.take_length,hl,List.take_length] at hp
     exact hp
    simp only [go_sem,qA,qB,qC,qD,qE,qF,qG,qH]
    refine ⟨_,Sub.refl _,?_⟩
    simp [jE,wL,wN,yF,-List.drop_one]
    exact he
def eX:List Int→Int
 | []=>0
 | c::l=>c+4+eX l
theorem qDa :∀(a b:List Int),eX (a++b)=eX a+eX b
 | [],b=>by simp [eX]
 | x::a,b=>by simp only [List.cons_append,eX,qDa a b]; omega
theorem qGg (l:List Int) (i:Nat) (h:i<l.length):eX (l.take (i+1))=eX (l.take i)+(l.getD i 0)+4:=by
 rw [gJ l 0 i h,qDa]
 simp only [eX]
 omega
theorem rB :∀{l:List Int},zA l=true→5*(l.length:Int)≤eX l∧eX l≤8*l.length
 | [],_=>by simp [eX]
 | c::l,h=>by
  unfold zA at h
  rw [List.all_cons,qZ8] at h
  have ih:=rB (l:=l) h.2
  have:=qK.1 h.1
  simp only [eX,List.length_cons]
  omega
theorem qM3 {l:List Int} (h:zA l=true) (i:Nat):zA (l.take i)=true:=by
 unfold zA at *
 rw [wB2] at *
 exact fun x hx=>h x (List.mem_of_mem_take hx)
theorem kT {l:List Int} (h:zA l=true) (i:Nat):0≤eX (l.take i)∧eX (l.take i)≤eX l∧eX (l.take i)≤8*l.length:=by
 have h1:=rB (qM3 h i)
 have h2:zA (l.drop i)=true:=by
  unfold zA at *
  rw [wB2] at *
  exact fun x hx=>h x (List.mem_of_mem_drop hx)
 have h3:=rB h2
 have e:eX l=eX (l.take i)+eX (l.drop i):=by rw [←qDa,List.take_append_drop]
 have h4:(l.take i).length≤l.length:=by simp; omega
 omega
def zQ (caps:List Int):Bool:=zA caps&&decide (eX caps≤24)
def base (caps:List Int) (n:Int):Int:=if qT n 0 (caps.length-1)&&zQ caps then eX (caps.take n.toNat) else -1
theorem qOi {caps:List Int} {n:Int} (h :¬base caps n<0):0≤n∧n.toNat<caps.length∧zQ caps=true∧0≤base caps n∧base caps n+caps.getD n.toNat 0+4≤24∧qT (caps.getD n.toNat 0) 1 4=true:=by
 unfold base at *
 split at h
 ·rename_i hc
  rw [if_pos hc]
  simp only [qZ8,qK] at hc
  have hn:n.toNat<caps.length:=by omega
  have hl:=hc.2
  unfold zQ at hl
  simp only [qZ8,decide_eq_true_eq] at hl
  have h1:=kT hl.1 n.toNat
  have h2:=kT hl.1 (n.toNat+1)
  have h3:=qGg caps n.toNat hn
  refine ⟨by omega,hn,hc.2,by omega,by omega,?_⟩
  have:=hl.1
  unfold zA at this
  rw [wB2] at this
  exact this _ (yL caps n.toNat 0 hn)
 ·simp at h
def szB:List Ins→Int
 | []=>0
 | x::l=>wE x+szB l
theorem qP4 :∀(a b:List Ins),szB (a++b)=szB a+szB b
 | [],b=>by simp [szB]
 | x::a,b=>by simp only [List.cons_append,szB,qP4 a b]; omega
theorem mI (l:List Ins) (i:Nat) (h:i<l.length):szB (l.take (i+1))=szB (l.take i)+wE (l.getD i default):=by
 rw [gJ l default i h,qP4]
 simp [szB]
theorem qLq (x:Ins):0≤wE x∧wE x≤32:=by
 unfold wE uK
 repeat' split
 all_goals omega
theorem qIi :∀(l:List Ins),0≤szB l∧szB l≤32*l.length
 | []=>by simp [szB]
 | x::l=>by
  have:=qIi l
  have:=qLq x
  simp only [szB,List.length_cons]
  omega
theorem qB8 (l:List Ins) (i:Nat):0≤szB (l.take i)∧szB (l.take i)≤32*l.length:=by
 have h1:=qIi (l.take i)
 have h4:(l.take i).length≤l.length:=by simp; omega
 omega
def rT (b:List Ins) (n:Nat):List Int:=(List.range n).map fun i=>szB (b.take i)
theorem xW (b:List Ins) (n:Nat):(rT b n).length=n:=by simp [rT]
theorem qIk (b:List Ins) (n i:Nat) (h:i<n):(rT b n).getD i 0=szB (b.take i):=by simp [rT,List.getD_eq_getElem?_getD,h]
def gQ (b:List Ins):List Int:=rT b b.length
def single (x:Ins) (starts:List Int):yU :=
 if x.op=1 then ⟨1,x.r,0,0,x.n⟩ else if x.op=2 then ⟨2,x.r,x.a,x.b,0⟩ else if x.op=3 then ⟨3,x.r,x.a,x.b,0⟩ else if x.op=4 then ⟨4,x.r,x.a,x.b,0⟩
 else if x.op=10 then ⟨9,0,x.a,0,0⟩ else if x.op=11 then ⟨10,0,0,0,starts.getD x.n.toNat 0⟩ else if x.op=12 then ⟨11,0,x.a,0,starts.getD x.n.toNat 0⟩ else ⟨12,0,0,0,0⟩
def tD (caps:List Int) (x:Ins) (f:Int) (starts:List Int):List yU :=
 if jR x starts.length caps.length then
  if qT x.op 5 9 then
   if base caps x.n<0 then []
   else cW f (base caps x.n)++(if x.op=5∨x.op=7 then rZ f (base caps x.n) (caps.getD x.n.toNat 0) x else if x.op=6∨x.op=8 then rP f (base caps x.n) (caps.getD x.n.toNat 0) x else lP f (base caps x.n))
  else [single x starts]
 else []
def aL (caps:List Int) (b:List Ins):Nat→List yU
 | 0=>[]
 | i+1=>aL caps b i++tD caps (b.getD i default) (szB (b.take i)) (gQ b)
def comp (caps:List Int) (b:List Ins):List yU:=aL caps b b.length
theorem mT {p:wT} (h:jF p=true):zA p.caps=true∧p.caps.length≤3∧p.bods.length≤4∧1≤p.bods.length∧∀b∈p.bods,wJ b p.caps.length=true:=by
 unfold jF at h
 simp only [qZ8,qK,decide_eq_true_eq,wB2] at h
 exact ⟨h.1.2,by omega,by omega,by omega,h.1.1.1⟩
def dK:List Ins→Int→Int→Int→Int×Bool
 | [],_,_,_=>(-1,false)
 | x::l,off,i,at_=>if off≤at_∧at_≤off+wE x-1 then (i,decide (at_=off)) else dK l (off+wE x) (i+1) at_
def fQ (p:wT) (body at_:Int):Int×Bool:=if jF p&&qT body 0 (p.bods.length-1) then dK (p.bods.getD body.toNat []) 0 0 at_ else (-1,false)
def qNj (l:List yU):Int:=(l.getD (l.length-1) default).op
def qO0 (l:List yU):Bool:=qT l.length 1 800&&l.all (fun s=>qA0 s l.length)&&(decide (qNj l=10)||decide (qNj l=12)||decide (qNj l=13))
theorem qNq {x:Ins} {pl ch:Int} (h:jR x pl ch=true) (ho:qT x.op 5 9=true):0≤x.n∧x.n<ch:=by
 rw [qK] at ho
 unfold jR at h
 obtain e | e | e | e | e:x.op=5∨x.op=6∨x.op=7∨x.op=8∨x.op=9:=by omega
 all_goals
  simp [e,qK] at h
  omega
def qX0 (_x:yU):Nat:=5
def qR3 (k:Int) (_x:yU):yU:=⟨k,k+1,k+1+1,k+1+1+1,k+1+1+1+1⟩
def qSj (x:wY):Nat:=1+x.view.length
def qNf (k:Int) (x:wY):wY:=⟨k,qE7 (k+1) x.view.length⟩
def qSk (x:uE):Nat:=2+x.regs.length+x.view.length
def qR5 (k:Int) (x:uE):uE:=⟨k,qE7 (k+1) x.regs.length,qE7 (k+1+x.regs.length) x.view.length,k+1+x.regs.length+x.view.length⟩
def qIa:List yU→Nat:=(fun b=>pO qX0 b)
def qNg:Int→List yU→List yU:=(fun k b=>mks qX0 qR3 k b)
def qOp:List wY→Nat:=(fun b=>pO qSj b)
def qL3:Int→List wY→List wY:=(fun k b=>mks qSj qNf k b)
def qWv (p:wT) (m:qO) (who:Int):Bool:=qT who 0 (m.cores.length-1)&&decide ((m.cores.getD who.toNat default).st=0)&&(fQ p who (m.cores.getD who.toNat default).at_).2
def nS (p:wT) (m:qO) (s:qS) (who:Int):Bool :=
 if qT who 0 (m.cores.length-1)&&decide (who<s.ths.length) then
  let k:=m.cores.getD who.toNat default
  let t:=s.ths.getD who.toNat default
  let pl:=fQ p who k.at_
  if pl.1<0∨k.regs.length<4∨t.regs.length<4 then false
  else if k.st≠0 then decide (t.st=k.st)
  else if pl.2 then decide (t.st=0)&&decide (t.at_=pl.1)&&decide (k.regs.take 4=t.regs.take 4)
  else true
 else false
end Go.Sep
