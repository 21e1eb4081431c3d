/- Contracts of functions. -/
import Derived.Test.YtfecojefbnnknaaLxx6
import Derived.Test.YtfecojefbnnknaaLxx7
open Bool renaming and_eq_true → qZu
open List renaming all_eq_true → wBo, getD_eq_getElem?_getD → qZw, take_succ_eq_append_getElem → wBj
namespace Go.Sep
set_option maxHeartbeats 16000000
open Go.Proofs
set_option linter.unusedSimpArgs false
set_option linter.unusedVariables false
set_option maxRecDepth 100000
open Nat renaming reduceAdd → qA, reduceMul → qB, reduceEqDiff → qC, reduceBEq → qD
open Int renaming reduceToNat → qE, reduceEq → qF, reduceLT → qG, reduceLE → qH
def m34:MFn:=⟨26,[.t 4],kr [xF 4] (.seq (kr [xv 6 0,xe 7 6,xv 8 1,xe 9 8,bT 10 .neq 7 9] (kF 10 [xF 4])) (.seq (kr [xv 11 0,xe 12 11,xI 13 0] (.blk 0 (.loop (kr [bT 14 .lss 13 12] (.seq (kX 14 0) (.seq (.blk 1 (kr [xv 15 13,xv 5 15] (.seq (.dreg (.take 0 (xv 16 0) (.take 1 (xv 17 5) (.take 2 (xD 18 1 16 17) (.take 3 (xl 19 18) (.take 4 (xv 20 1) (.only 5 [] (xv 21 5) (.only 6 [4] (xD 22 1 20 21) (.only 7 [6,4] (xl 23 22) (.only 8 [3,7,2,6,0,1,4] (bT 24 .neq 19 23) (.done))))))))))) (kF 24 [xF 4])))) (xr [bI 25 .add 13 1,xv 13 25]))))))) (kR [xT 4])))⟩
theorem qDt (xs ys:List Int) (hx:xs.length≤2^47):wD Try.prog num 34 [.sl .bw 1 (wC xs),.sl .bw 1 (wC ys)] [] (.bool (decide (xs=ys))):=by
 refine EN m34 Try.func39 ?_
 unfold m34
 simp only [go_sem,qA,qB,qC,qD,qE,qF,qG,qH]
 refine qU (fun hc=>?_) (fun hc=>?_)
 ·have hne:xs≠ys:=fun he=>by subst he; simp at hc
  simp only [go_sem,qA,qB,qC,qD,qE,qF,qG,qH]
  refine ⟨_,Sub.refl _,?_⟩
  simp [yL,wM,wL,wR,-List.drop_one]
  exact hne
 ·have hl:xs.length=ys.length:=by simp at hc; omega
  simp only [go_sem,qA,qB,qC,qD,qE,qF,qG,qH]
  refine wE (ι:=Nat) (fun i=>.mk [(0,.sl .bw 1 (wC xs)),(1,.sl .bw 1 (wC ys)),(12,.int .i64 xs.length),(13,.int .i64 i)] [] 10) (fun i=>i≤xs.length∧xs.take i=ys.take i) (fun i=>xs.length-i) 0 (by simp) ?_ ?_
  ·refine Sub.shape [] id (by omega) ?_ ?_ ?_ ?_<;>simp [qM]
  ·rintro i ⟨hi,hp⟩
   simp only [go_sem,qA,qB,qC,qD,qE,qF,qG,qH]
   refine qU (fun hc=>?_) (fun hc=>?_)
   ·simp only [decide_eq_true_eq] at hc
    have hil:i<xs.length:=by omega
    have hjl:i<ys.length:=by omega
    simp only [go_sem,qA,qB,qC,qD,qE,qF,qG,qH,qJ xs i hil,qJ ys i hjl]
    refine ⟨by omega,by omega,by omega,by omega,qU (fun hc=>?_) (fun hc=>?_)⟩
    ·have hne:xs≠ys:=fun he=>by subst he; simp at hc
     simp only [go_sem,qA,qB,qC,qD,qE,qF,qG,qH]
     refine ⟨_,Sub.refl _,?_⟩
     simp [yL,wM,wL,wR,-List.drop_one]
     exact hne
    ·have hw:=wA (i:=i) (by omega)
     simp only [go_sem,qA,qB,qC,qD,qE,qF,qG,qH,hw]
     have he:xs.getD i 0=ys.getD i 0:=by simpa using hc
     refine qW (i+1) (Sub.shape [] id (by omega) ?_ ?_ ?_ ?_) ⟨hil,?_⟩ (by omega)
     case refine_5 =>
      rw [wBj hil,wBj hjl,hp]
      have he':xs[i]=ys[i]:=by simpa [qZw,hil,hjl] using he
      rw [he']
     all_goals simp [qM]
   ·simp only [decide_eq_false_iff_not] at hc
    have hi':i=xs.length:=by omega
    have he:xs=ys:=by
     rw [hi',List.take_length,hl,List.take_length] at hp
     exact hp
    simp only [go_sem,qA,qB,qC,qD,qE,qF,qG,qH]
    refine ⟨_,Sub.refl _,?_⟩
    simp [yL,wM,wL,wR,-List.drop_one]
    exact he
def eY:List Int→Int
 | []=>0
 | c::l=>c+4+eY l
theorem qDm :∀(a b:List Int),eY (a++b)=eY a+eY b
 | [],b=>by simp [eY]
 | x::a,b=>by simp only [List.cons_append,eY,qDm a b]; omega
theorem qGx (l:List Int) (i:Nat) (h:i<l.length):eY (l.take (i+1))=eY (l.take i)+(l.getD i 0)+4:=by
 rw [bD l 0 i h,qDm]
 simp only [eY]
 omega
theorem rG :∀{l:List Int},zC l=true→5*(l.length:Int)≤eY l∧eY l≤8*l.length
 | [],_=>by simp [eY]
 | c::l,h=>by
  unfold zC at h
  rw [List.all_cons,qZu] at h
  have ih:=rG (l:=l) h.2
  have:=qK.1 h.1
  simp only [eY,List.length_cons]
  omega
theorem qMp {l:List Int} (h:zC l=true) (i:Nat):zC (l.take i)=true:=by
 unfold zC at *
 rw [wBo] at *
 exact fun x hx=>h x (List.mem_of_mem_take hx)
theorem kK {l:List Int} (h:zC l=true) (i:Nat):0≤eY (l.take i)∧eY (l.take i)≤eY l∧eY (l.take i)≤8*l.length:=by
 have h1:=rG (qMp h i)
 have h2:zC (l.drop i)=true:=by
  unfold zC at *
  rw [wBo] at *
  exact fun x hx=>h x (List.mem_of_mem_drop hx)
 have h3:=rG h2
 have e:eY l=eY (l.take i)+eY (l.drop i):=by rw [←qDm,List.take_append_drop]
 have h4:(l.take i).length≤l.length:=by simp; omega
 omega
def zU (caps:List Int):Bool:=zC caps&&decide (eY caps≤24)
def base (caps:List Int) (n:Int):Int:=if qV n 0 (caps.length-1)&&zU caps then eY (caps.take n.toNat) else -1
theorem qP0 {caps:List Int} {n:Int} (h :¬base caps n<0):0≤n∧n.toNat<caps.length∧zU caps=true∧0≤base caps n∧base caps n+caps.getD n.toNat 0+4≤24∧qV (caps.getD n.toNat 0) 1 4=true:=by
 unfold base at *
 split at h
 ·rename_i hc
  rw [if_pos hc]
  simp only [qZu,qK] at hc
  have hn:n.toNat<caps.length:=by omega
  have hl:=hc.2
  unfold zU at hl
  simp only [qZu,decide_eq_true_eq] at hl
  have h1:=kK hl.1 n.toNat
  have h2:=kK hl.1 (n.toNat+1)
  have h3:=qGx caps n.toNat hn
  refine ⟨by omega,hn,hc.2,by omega,by omega,?_⟩
  have:=hl.1
  unfold zC at this
  rw [wBo] at this
  exact this _ (yO caps n.toNat 0 hn)
 ·simp at h
def szB:List Ins→Int
 | []=>0
 | x::l=>wI x+szB l
theorem qPk :∀(a b:List Ins),szB (a++b)=szB a+szB b
 | [],b=>by simp [szB]
 | x::a,b=>by simp only [List.cons_append,szB,qPk a b]; omega
theorem mB (l:List Ins) (i:Nat) (h:i<l.length):szB (l.take (i+1))=szB (l.take i)+wI (l.getD i default):=by
 rw [bD l default i h,qPk]
 simp [szB]
theorem qMe (x:Ins):0≤wI x∧wI x≤32:=by
 unfold wI uN
 repeat' split
 all_goals omega
theorem qIx :∀(l:List Ins),0≤szB l∧szB l≤32*l.length
 | []=>by simp [szB]
 | x::l=>by
  have:=qIx l
  have:=qMe x
  simp only [szB,List.length_cons]
  omega
theorem qBk (l:List Ins) (i:Nat):0≤szB (l.take i)∧szB (l.take i)≤32*l.length:=by
 have h1:=qIx (l.take i)
 have h4:(l.take i).length≤l.length:=by simp; omega
 omega
def rY (b:List Ins) (n:Nat):List Int:=(List.range n).map fun i=>szB (b.take i)
theorem aB (b:List Ins) (n:Nat):(rY b n).length=n:=by simp [rY]
theorem qIz (b:List Ins) (n i:Nat) (h:i<n):(rY b n).getD i 0=szB (b.take i):=by simp [rY,List.getD_eq_getElem?_getD,h]
def gX (b:List Ins):List Int:=rY b b.length
def single (x:Ins) (starts:List Int):yV :=
 if x.op=1 then ⟨1,x.r,0,0,x.n⟩ else if x.op=2 then ⟨2,x.r,x.a,x.b,0⟩ else if x.op=3 then ⟨3,x.r,x.a,x.b,0⟩ else if x.op=4 then ⟨4,x.r,x.a,x.b,0⟩
 else if x.op=10 then ⟨9,0,x.a,0,0⟩ else if x.op=11 then ⟨10,0,0,0,starts.getD x.n.toNat 0⟩ else if x.op=12 then ⟨11,0,x.a,0,starts.getD x.n.toNat 0⟩ else ⟨12,0,0,0,0⟩
def tJ (caps:List Int) (x:Ins) (f:Int) (starts:List Int):List yV :=
 if jE x starts.length caps.length then
  if qV x.op 5 9 then
   if base caps x.n<0 then []
   else cW f (base caps x.n)++(if x.op=5∨x.op=7 then sD f (base caps x.n) (caps.getD x.n.toNat 0) x else if x.op=6∨x.op=8 then rU f (base caps x.n) (caps.getD x.n.toNat 0) x else lI f (base caps x.n))
  else [single x starts]
 else []
def aO (caps:List Int) (b:List Ins):Nat→List yV
 | 0=>[]
 | i+1=>aO caps b i++tJ caps (b.getD i default) (szB (b.take i)) (gX b)
def comp (caps:List Int) (b:List Ins):List yV:=aO caps b b.length
theorem mM {p:wU} (h:vC p=true):zC p.caps=true∧p.caps.length≤3∧p.bods.length≤4∧1≤p.bods.length∧∀b∈p.bods,wJ b p.caps.length=true:=by
 unfold vC at h
 simp only [qZu,qK,decide_eq_true_eq,wBo] at h
 exact ⟨h.1.2,by omega,by omega,by omega,h.1.1.1⟩
def dK:List Ins→Int→Int→Int→Int×Bool
 | [],_,_,_=>(-1,false)
 | x::l,off,i,at_=>if off≤at_∧at_≤off+wI x-1 then (i,decide (at_=off)) else dK l (off+wI x) (i+1) at_
def fM (p:wU) (body at_:Int):Int×Bool:=if vC p&&qV body 0 (p.bods.length-1) then dK (p.bods.getD body.toNat []) 0 0 at_ else (-1,false)
def qO1 (l:List yV):Int:=(l.getD (l.length-1) default).op
def qOi (l:List yV):Bool:=qV l.length 1 800&&l.all (fun s=>qA5 s l.length)&&(decide (qO1 l=10)||decide (qO1 l=12)||decide (qO1 l=13))
theorem qO9 {x:Ins} {pl ch:Int} (h:jE x pl ch=true) (ho:qV x.op 5 9=true):0≤x.n∧x.n<ch:=by
 rw [qK] at ho
 unfold jE at h
 obtain e | e | e | e | e:x.op=5∨x.op=6∨x.op=7∨x.op=8∨x.op=9:=by omega
 all_goals
  simp [e,qK] at h
  omega
def qXm (_x:yV):Nat:=5
def qRt (k:Int) (_x:yV):yV:=⟨k,k+1,k+1+1,k+1+1+1,k+1+1+1+1⟩
def qT4 (x:wZ):Nat:=1+x.view.length
def qNx (k:Int) (x:wZ):wZ:=⟨k,qEj (k+1) x.view.length⟩
def qT5 (x:uF):Nat:=2+x.regs.length+x.view.length
def qRv (k:Int) (x:uF):uF:=⟨k,qEj (k+1) x.regs.length,qEj (k+1+x.regs.length) x.view.length,k+1+x.regs.length+x.view.length⟩
def qIp:List yV→Nat:=(fun b=>pQ qXm b)
def qNy:Int→List yV→List yV:=(fun k b=>mks qXm qRt k b)
def qP6:List wZ→Nat:=(fun b=>pQ qT4 b)
def qLp:Int→List wZ→List wZ:=(fun k b=>mks qT4 qNx k b)
def qXg (p:wU) (m:qR) (who:Int):Bool:=qV who 0 (m.cores.length-1)&&decide ((m.cores.getD who.toNat default).st=0)&&(fM p who (m.cores.getD who.toNat default).at_).2
def nM (p:wU) (m:qR) (s:qS) (who:Int):Bool :=
 if qV who 0 (m.cores.length-1)&&decide (who<s.ths.length) then
  let k:=m.cores.getD who.toNat default
  let t:=s.ths.getD who.toNat default
  let pl:=fM p who k.at_
  if pl.1<0∨k.regs.length<4∨t.regs.length<4 then false
  else if k.st≠0 then decide (t.st=k.st)
  else if pl.2 then decide (t.st=0)&&decide (t.at_=pl.1)&&decide (k.regs.take 4=t.regs.take 4)
  else true
 else false
end Go.Sep
