/- Contracts of functions. -/
import Derived.Test.YtfecojefbnnknaaGreatRxx6
import Derived.Test.YtfecojefbnnknaaGreatRxx7
open Bool renaming and_eq_true → wBp
open List renaming all_eq_true → wDj, getD_eq_getElem?_getD → wBr, take_succ_eq_append_getElem → wDe
namespace Go.Sep
set_option maxHeartbeats 16000000
open Go.Proofs
set_option linter.unusedSimpArgs false
set_option linter.unusedVariables false
set_option maxRecDepth 100000
open Nat renaming reduceAdd → qA, reduceMul → qB, reduceEqDiff → qC, reduceBEq → qD
open Int renaming reduceToNat → qE, reduceEq → qF, reduceLT → qG, reduceLE → qH
def m34:MFn:=⟨26,[.t 4],kr [xF 4] (.seq (kr [xv 6 0,xe 7 6,xv 8 1,xe 9 8,bT 10 .neq 7 9] (kF 10 [xF 4])) (.seq (kr [xv 11 0,xe 12 11,xI 13 0] (.blk 0 (.loop (kr [bT 14 .lss 13 12] (.seq (kX 14 0) (.seq (.blk 1 (kr [xv 15 13,xv 5 15] (.seq (.dreg (.take 0 (xv 16 0) (.take 1 (xv 17 5) (.take 2 (xD 18 1 16 17) (.take 3 (xl 19 18) (.take 4 (xv 20 1) (.only 5 [] (xv 21 5) (.only 6 [4] (xD 22 1 20 21) (.only 7 [6,4] (xl 23 22) (.only 8 [3,7,2,6,0,1,4] (bT 24 .neq 19 23) (.done))))))))))) (kF 24 [xF 4])))) (xr [bI 25 .add 13 1,xv 13 25]))))))) (kR [xT 4])))⟩
theorem qEz (xs ys:List Int) (hx:xs.length≤2^47):qY Tryz.prog num 34 [.sl .bw 1 (wE xs),.sl .bw 1 (wE ys)] [] (.bool (decide (xs=ys))):=by
 refine EN m34 Tryz.func99 ?_
 unfold m34
 simp only [go_sem,qA,qB,qC,qD,qE,qF,qG,qH]
 refine qP (fun hc=>?_) (fun hc=>?_)
 ·have hne:xs≠ys:=fun he=>by subst he; simp at hc
  simp only [go_sem,qA,qB,qC,qD,qE,qF,qG,qH]
  refine ⟨_,Sub.refl _,?_⟩
  simp [yQ,wJ,wK,wR,-List.drop_one]
  exact hne
 ·have hl:xs.length=ys.length:=by simp at hc; omega
  simp only [go_sem,qA,qB,qC,qD,qE,qF,qG,qH]
  refine qZ (ι:=Nat) (fun i=>.mk [(0,.sl .bw 1 (wE xs)),(1,.sl .bw 1 (wE ys)),(12,.int .i64 xs.length),(13,.int .i64 i)] [] 10) (fun i=>i≤xs.length∧xs.take i=ys.take i) (fun i=>xs.length-i) 0 (by simp) ?_ ?_
  ·refine Sub.shape [] id (by omega) ?_ ?_ ?_ ?_<;>simp [qK]
  ·rintro i ⟨hi,hp⟩
   simp only [go_sem,qA,qB,qC,qD,qE,qF,qG,qH]
   refine qP (fun hc=>?_) (fun hc=>?_)
   ·simp only [decide_eq_true_eq] at hc
    have hil:i<xs.length:=by omega
    have hjl:i<ys.length:=by omega
    simp only [go_sem,qA,qB,qC,qD,qE,qF,qG,qH,qI xs i hil,qI ys i hjl]
    refine ⟨by omega,by omega,by omega,by omega,qP (fun hc=>?_) (fun hc=>?_)⟩
    ·have hne:xs≠ys:=fun he=>by subst he; simp at hc
     simp only [go_sem,qA,qB,qC,qD,qE,qF,qG,qH]
     refine ⟨_,Sub.refl _,?_⟩
     simp [yQ,wJ,wK,wR,-List.drop_one]
     exact hne
    ·have hw:=qN (i:=i) (by omega)
     simp only [go_sem,qA,qB,qC,qD,qE,qF,qG,qH,hw]
     have he:xs.getD i 0=ys.getD i 0:=by simpa using hc
     refine qM (i+1) (Sub.shape [] id (by omega) ?_ ?_ ?_ ?_) ⟨hil,?_⟩ (by omega)
     case refine_5 =>
      rw [wDe hil,wDe hjl,hp]
      have he':xs[i]=ys[i]:=by simpa [wBr,hil,hjl] using he
      rw [he']
     all_goals simp [qK]
   ·simp only [decide_eq_false_iff_not] at hc
    have hi':i=xs.length:=by omega
    have he:xs=ys:=by
     rw [hi',List.take_length,hl,List.take_length] at hp
     exact hp
    simp only [go_sem,qA,qB,qC,qD,qE,qF,qG,qH]
    refine ⟨_,Sub.refl _,?_⟩
    simp [yQ,wJ,wK,wR,-List.drop_one]
    exact he
def cQ:List Int→Int
 | []=>0
 | c::l=>c+4+cQ l
theorem qEt :∀(a b:List Int),cQ (a++b)=cQ a+cQ b
 | [],b=>by simp [cQ]
 | x::a,b=>by simp only [List.cons_append,cQ,qEt a b]; omega
theorem qI9 (l:List Int) (i:Nat) (h:i<l.length):cQ (l.take (i+1))=cQ (l.take i)+(l.getD i 0)+4:=by
 rw [jX l 0 i h,qEt]
 simp only [cQ]
 omega
theorem tD :∀{l:List Int},dY l=true→5*(l.length:Int)≤cQ l∧cQ l≤8*l.length
 | [],_=>by simp [cQ]
 | c::l,h=>by
  unfold dY at h
  rw [List.all_cons,wBp] at h
  have ih:=tD (l:=l) h.2
  have:=qL.1 h.1
  simp only [cQ,List.length_cons]
  omega
theorem qOn {l:List Int} (h:dY l=true) (i:Nat):dY (l.take i)=true:=by
 unfold dY at *
 rw [wDj] at *
 exact fun x hx=>h x (List.mem_of_mem_take hx)
theorem lT {l:List Int} (h:dY l=true) (i:Nat):0≤cQ (l.take i)∧cQ (l.take i)≤cQ l∧cQ (l.take i)≤8*l.length:=by
 have h1:=tD (qOn h i)
 have h2:dY (l.drop i)=true:=by
  unfold dY at *
  rw [wDj] at *
  exact fun x hx=>h x (List.mem_of_mem_drop hx)
 have h3:=tD h2
 have e:cQ l=cQ (l.take i)+cQ (l.drop i):=by rw [←qEt,List.take_append_drop]
 have h4:(l.take i).length≤l.length:=by simp; omega
 omega
def xG (caps:List Int):Bool:=dY caps&&decide (cQ caps≤24)
def base (caps:List Int) (n:Int):Int:=if qW n 0 (caps.length-1)&&xG caps then cQ (caps.take n.toNat) else -1
theorem qR5 {caps:List Int} {n:Int} (h :¬base caps n<0):0≤n∧n.toNat<caps.length∧xG caps=true∧0≤base caps n∧base caps n+caps.getD n.toNat 0+4≤24∧qW (caps.getD n.toNat 0) 1 4=true:=by
 unfold base at *
 split at h
 ·rename_i hc
  rw [if_pos hc]
  simp only [wBp,qL] at hc
  have hn:n.toNat<caps.length:=by omega
  have hl:=hc.2
  unfold xG at hl
  simp only [wBp,decide_eq_true_eq] at hl
  have h1:=lT hl.1 n.toNat
  have h2:=lT hl.1 (n.toNat+1)
  have h3:=qI9 caps n.toNat hn
  refine ⟨by omega,hn,hc.2,by omega,by omega,?_⟩
  have:=hl.1
  unfold dY at this
  rw [wDj] at this
  exact this _ (yB caps n.toNat 0 hn)
 ·simp at h
def szB:List Ins→Int
 | []=>0
 | x::l=>wL x+szB l
theorem qRo :∀(a b:List Ins),szB (a++b)=szB a+szB b
 | [],b=>by simp [szB]
 | x::a,b=>by simp only [List.cons_append,szB,qRo a b]; omega
theorem nQ (l:List Ins) (i:Nat) (h:i<l.length):szB (l.take (i+1))=szB (l.take i)+wL (l.getD i default):=by
 rw [jX l default i h,qRo]
 simp [szB]
theorem qO8 (x:Ins):0≤wL x∧wL x≤32:=by
 unfold wL vV
 repeat' split
 all_goals omega
theorem qKj :∀(l:List Ins),0≤szB l∧szB l≤32*l.length
 | []=>by simp [szB]
 | x::l=>by
  have:=qKj l
  have:=qO8 x
  simp only [szB,List.length_cons]
  omega
theorem qCn (l:List Ins) (i:Nat):0≤szB (l.take i)∧szB (l.take i)≤32*l.length:=by
 have h1:=qKj (l.take i)
 have h4:(l.take i).length≤l.length:=by simp; omega
 omega
def tV (b:List Ins) (n:Nat):List Int:=(List.range n).map fun i=>szB (b.take i)
theorem aL (b:List Ins) (n:Nat):(tV b n).length=n:=by simp [tV]
theorem qKl (b:List Ins) (n i:Nat) (h:i<n):(tV b n).getD i 0=szB (b.take i):=by simp [tV,List.getD_eq_getElem?_getD,h]
def dB (b:List Ins):List Int:=tV b b.length
def single (x:Ins) (starts:List Int):jB :=
 if x.op=1 then ⟨1,x.r,0,0,x.n⟩ else if x.op=2 then ⟨2,x.r,x.a,x.b,0⟩ else if x.op=3 then ⟨3,x.r,x.a,x.b,0⟩ else if x.op=4 then ⟨4,x.r,x.a,x.b,0⟩
 else if x.op=10 then ⟨9,0,x.a,0,0⟩ else if x.op=11 then ⟨10,0,0,0,starts.getD x.n.toNat 0⟩ else if x.op=12 then ⟨11,0,x.a,0,starts.getD x.n.toNat 0⟩ else ⟨12,0,0,0,0⟩
def qAs (caps:List Int) (x:Ins) (f:Int) (starts:List Int):List jB :=
 if jJ x starts.length caps.length then
  if qW x.op 5 9 then
   if base caps x.n<0 then []
   else fP f (base caps x.n)++(if x.op=5∨x.op=7 then qA1 f (base caps x.n) (caps.getD x.n.toNat 0) x else if x.op=6∨x.op=8 then tR f (base caps x.n) (caps.getD x.n.toNat 0) x else mQ f (base caps x.n))
  else [single x starts]
 else []
def aY (caps:List Int) (b:List Ins):Nat→List jB
 | 0=>[]
 | i+1=>aY caps b i++qAs caps (b.getD i default) (szB (b.take i)) (dB b)
def comp (caps:List Int) (b:List Ins):List jB:=aY caps b b.length
theorem oB {p:wQ} (h:yR p=true):dY p.caps=true∧p.caps.length≤3∧p.bods.length≤4∧1≤p.bods.length∧∀b∈p.bods,wF b p.caps.length=true:=by
 unfold yR at h
 simp only [wBp,qL,decide_eq_true_eq,wDj] at h
 exact ⟨h.1.2,by omega,by omega,by omega,h.1.1.1⟩
def dS:List Ins→Int→Int→Int→Int×Bool
 | [],_,_,_=>(-1,false)
 | x::l,off,i,at_=>if off≤at_∧at_≤off+wL x-1 then (i,decide (at_=off)) else dS l (off+wL x) (i+1) at_
def iI (p:wQ) (body at_:Int):Int×Bool:=if yR p&&qW body 0 (p.bods.length-1) then dS (p.bods.getD body.toNat []) 0 0 at_ else (-1,false)
def qQ5 (l:List jB):Int:=(l.getD (l.length-1) default).op
def qQp (l:List jB):Bool:=qW l.length 1 800&&l.all (fun s=>qBc s l.length)&&(decide (qQ5 l=10)||decide (qQ5 l=12)||decide (qQ5 l=13))
theorem qQd {x:Ins} {pl ch:Int} (h:jJ x pl ch=true) (ho:qW x.op 5 9=true):0≤x.n∧x.n<ch:=by
 rw [qL] at ho
 unfold jJ at h
 obtain e | e | e | e | e:x.op=5∨x.op=6∨x.op=7∨x.op=8∨x.op=9:=by omega
 all_goals
  simp [e,qL] at h
  omega
def qZi (_x:jB):Nat:=5
def qTt (k:Int) (_x:jB):jB:=⟨k,k+1,k+1+1,k+1+1+1,k+1+1+1+1⟩
def qV2 (x:wZ):Nat:=1+x.view.length
def qQ1 (k:Int) (x:wZ):wZ:=⟨k,qFq (k+1) x.view.length⟩
def qV3 (x:uL):Nat:=2+x.regs.length+x.view.length
def qTv (k:Int) (x:uL):uL:=⟨k,qFq (k+1) x.regs.length,qFq (k+1+x.regs.length) x.view.length,k+1+x.regs.length+x.view.length⟩
def qKb:List jB→Nat:=(fun b=>sI qZi b)
def qQ2:Int→List jB→List jB:=(fun k b=>mks qZi qTt k b)
def qRb:List wZ→Nat:=(fun b=>sI qV2 b)
def qNg:Int→List wZ→List wZ:=(fun k b=>mks qV2 qQ1 k b)
def qZc (p:wQ) (m:qT) (who:Int):Bool:=qW who 0 (m.cores.length-1)&&decide ((m.cores.getD who.toNat default).st=0)&&(iI p who (m.cores.getD who.toNat default).at_).2
def pD (p:wQ) (m:qT) (s:wA) (who:Int):Bool :=
 if qW who 0 (m.cores.length-1)&&decide (who<s.ths.length) then
  let k:=m.cores.getD who.toNat default
  let t:=s.ths.getD who.toNat default
  let pl:=iI p who k.at_
  if pl.1<0∨k.regs.length<4∨t.regs.length<4 then false
  else if k.st≠0 then decide (t.st=k.st)
  else if pl.2 then decide (t.st=0)&&decide (t.at_=pl.1)&&decide (k.regs.take 4=t.regs.take 4)
  else true
 else false
end Go.Sep
