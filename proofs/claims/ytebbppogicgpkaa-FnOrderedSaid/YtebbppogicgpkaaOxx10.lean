/- Contracts of functions. -/
import Derived.Test.YtebbppogicgpkaaOxx6
import Derived.Test.YtebbppogicgpkaaOxx8
namespace Go.Sep
set_option maxHeartbeats 16000000
open Go.Proofs
set_option linter.unusedSimpArgs false
set_option linter.unusedVariables false
set_option maxRecDepth 100000
def m206:MFn:=⟨42,[.t 4],kr [xI 4 0] (.seq (kr [xv 9 1,xv 10 0,xe 11 10,bI 12 .sub 11 1,xc3 13 59 (.t 9) (xi 0) (.t 12),xN 14 13,xv 15 14,zv 16 0 15,xg 17 (.call 68 [false] [.t 16]) 15 false,zN 18 17 15,xQ 19 15 18] (kF 19 [xo 4 (.mv (.c (.int .i64 (-1))))])) (kr [xI 5 0,xI 6 0] (.seq (kr [xv 20 0,xe 21 20,xI 22 0] (.blk 0 (.loop (kr [bT 23 .lss 22 21] (.seq (kX 23 0) (.seq (.blk 1 (kr [xv 24 22,xD 25 1 20 22,xl 26 25,xv 7 24,xv 8 26] (.seq (kr [xv 27 7,xv 28 1,bT 29 .lss 27 28] (.cond 29 (xr [xv 30 5,xv 31 8,bI 32 .add 31 4,bT 33 .add 30 32,xv 5 33]) (.skip))) (xr [xv 34 6,xv 35 8,bI 36 .add 35 4,bT 37 .add 34 36,xv 6 37])))) (xr [bI 38 .add 22 1,xv 22 38]))))))) (.seq (kr [xv 39 6,bI 40 .gtr 39 24] (kF 40 [xo 4 (.mv (.c (.int .i64 (-1))))])) (kR [xv 41 5,xv 4 41])))))⟩
def m207:MFn:=⟨24,[.t 2],kr [xo 2 (.mv (.c (.nil)))] (kr [xo 7 (.mkSl [xz] 0 []),xv 3 7] (kr [xI 4 0] (.seq (kr [xv 8 0,xe 9 8,xI 10 0] (.blk 0 (.loop (kr [bT 11 .lss 10 9] (.seq (kX 11 0) (.seq (.blk 1 (kr [xD 12 5 8 10,xm 13 5 12,xo 6 (.alloc [xz,xz,xz,xz,xz]),xS 5 6 13] (kr [xv 14 3,xv 15 4,xo 16 (.mkSl [xz] 1 [(0,.t 15)]),xA 17 1 8 14 16,xv 3 17] (xr [xv 18 4,xm 19 5 6,xc1 20 262 (.t 19),bT 21 .add 18 20,xv 4 21])))) (xr [bI 22 .add 10 1,xv 10 22]))))))) (kR [xv 23 3,xv 2 23]))))⟩
def m230:MFn:=⟨29,[.t 6,.t 7],kr [xb 3 0,xI 6 0,xF 7] (.seq (kr [xm 8 2 3,xc1 9 48 (.t 8),xN 10 9,xv 11 10,zv 12 1 11,za 13 1 3 11,zl 14 1 13 11,ze 15 14 11,zI 16 .sub 15 1 11,xg 17 (.call 59 [false,false,false] [.t 12,xi 0,.t 16]) 11 false,zN 18 17 11,xQ 19 11 18] (kF 19 [xo 6 (.mv (.c (.int .i64 (-1)))),xF 7])) (kR [xa 20 1 3,xl 21 20,xv 22 1,xD 23 1 21 22,xl 24 23,xv 25 2,xc2 26 280 (.t 24) (.t 25),xX 27 26 0,xX 28 26 1,xv 6 27,xv 7 28]))⟩
def m280:MFn:=⟨32,[.t 4,.t 5],kr [xI 4 0,xF 5] (.seq (kr [xv 8 0,xc1 9 207 (.t 8),xe 10 9,xI 11 0] (.blk 0 (.loop (kr [bT 12 .lss 11 10] (.seq (kX 12 0) (.seq (.blk 1 (kr [xv 13 11,xD 14 1 9 11,xl 15 14,xv 6 13,xv 7 15] (kr [xv 16 1,xv 17 7,xv 18 7,xv 19 0,xv 20 6,xD 21 5 19 20,xm 22 5 21,xc1 23 262 (.t 22),bT 24 .add 18 23,bI 25 .sub 24 1,xc3 26 59 (.t 16) (.t 17) (.t 25)] (kF 26 [xv 27 6,xv 28 1,xv 29 7,bT 30 .eql 28 29,xv 4 27,xv 5 30])))) (xr [bI 31 .add 11 1,xv 11 31]))))))) (kR [xo 4 (.mv (.c (.int .i64 (-1)))),xF 5]))⟩
theorem qN2 (l:List Int) (a:Int):wT l++[[.int .i64 a]]=wT (l++[a]):=by simp [wT]
def aM:List Int→Int
 | []=>0
 | c::l=>c+4+aM l
theorem qDh :∀(a b:List Int),aM (a++b)=aM a+aM b
 | [],b=>by simp [aM]
 | x::a,b=>by simp only [List.cons_append,aM,qDh a b]; omega
theorem qAl (l:List Int) (i:Nat) (h:i<l.length):aM (l.take (i+1))=aM (l.take i)+(l.getD i 0)+4:=by
 rw [zC l 0 i h,qDh]
 simp only [aM]
 omega
theorem sD :∀{l:List Int},aE l=true→5*(l.length:Int)≤aM l∧aM l≤8*l.length
 | [],_=>by simp [aM]
 | c::l,h=>by
  unfold aE at h
  rw [List.all_cons,Bool.and_eq_true] at h
  have ih:=sD (l:=l) h.2
  have:=qM.1 h.1
  simp only [aM,List.length_cons]
  omega
theorem qLr {l:List Int} (h:aE l=true) (i:Nat):aE (l.take i)=true:=by
 unfold aE at *
 rw [List.all_eq_true] at *
 exact fun x hx=>h x (List.mem_of_mem_take hx)
theorem aF {l:List Int} (h:aE l=true) (i:Nat):0≤aM (l.take i)∧aM (l.take i)≤aM l∧aM (l.take i)≤8*l.length:=by
 have h1:=sD (qLr h i)
 have h2:aE (l.drop i)=true:=by
  unfold aE at *
  rw [List.all_eq_true] at *
  exact fun x hx=>h x (List.mem_of_mem_drop hx)
 have h3:=sD h2
 have e:aM l=aM (l.take i)+aM (l.drop i):=by rw [←qDh,List.take_append_drop]
 have h4:(l.take i).length≤l.length:=by simp; omega
 omega
def bR (caps:List Int):Bool:=aE caps&&decide (aM caps≤24)
def base (caps:List Int) (n:Int):Int:=if qL n 0 (caps.length-1)&&bR caps then aM (caps.take n.toNat) else -1
theorem qFm {caps:List Int} {n:Int} (h :¬base caps n<0):0≤n∧n.toNat<caps.length∧bR caps=true∧0≤base caps n∧base caps n+caps.getD n.toNat 0+4≤24∧qL (caps.getD n.toNat 0) 1 4=true:=by
 unfold base at *
 split at h
 ·rename_i hc
  rw [if_pos hc]
  simp only [Bool.and_eq_true,qM] at hc
  have hn:n.toNat<caps.length:=by omega
  have hl:=hc.2
  unfold bR at hl
  simp only [Bool.and_eq_true,decide_eq_true_eq] at hl
  have h1:=aF hl.1 n.toNat
  have h2:=aF hl.1 (n.toNat+1)
  have h3:=qAl caps n.toNat hn
  refine ⟨by omega,hn,hc.2,by omega,by omega,?_⟩
  have:=hl.1
  unfold aE at this
  rw [List.all_eq_true] at this
  exact this _ (yQ caps n.toNat 0 hn)
 ·simp at h
def szB:List Ins→Int
 | []=>0
 | x::l=>qX x+szB l
theorem qOd :∀(a b:List Ins),szB (a++b)=szB a+szB b
 | [],b=>by simp [szB]
 | x::a,b=>by simp only [List.cons_append,szB,qOd a b]; omega
theorem cZ (l:List Ins) (i:Nat) (h:i<l.length):szB (l.take (i+1))=szB (l.take i)+qX (l.getD i default):=by
 rw [zC l default i h,qOd]
 simp [szB]
theorem qCa (x:Ins):0≤qX x∧qX x≤32:=by
 unfold qX vQ
 repeat' split
 all_goals omega
theorem qIj :∀(l:List Ins),0≤szB l∧szB l≤32*l.length
 | []=>by simp [szB]
 | x::l=>by
  have:=qIj l
  have:=qCa x
  simp only [szB,List.length_cons]
  omega
theorem xU (l:List Ins) (i:Nat):0≤szB (l.take i)∧szB (l.take i)≤32*l.length:=by
 have h1:=qIj (l.take i)
 have h4:(l.take i).length≤l.length:=by simp; omega
 omega
def cO (b:List Ins) (n:Nat):List Int:=(List.range n).map fun i=>szB (b.take i)
theorem uG (b:List Ins) (n:Nat):(cO b n).length=n:=by simp [cO]
theorem qIk (b:List Ins) (n:Nat):cO b (n+1)=cO b n++[szB (b.take n)]:=by simp [cO,List.range_succ]
theorem mC (b:List Ins) (n i:Nat) (h:i<n):(cO b n).getD i 0=szB (b.take i):=by simp [cO,List.getD_eq_getElem?_getD,h]
def jC (b:List Ins):List Int:=cO b b.length
def single (x:Ins) (starts:List Int):wX :=
 if x.op=1 then ⟨1,x.r,0,0,x.n⟩ else if x.op=2 then ⟨2,x.r,x.a,x.b,0⟩ else if x.op=3 then ⟨3,x.r,x.a,x.b,0⟩ else if x.op=4 then ⟨4,x.r,x.a,x.b,0⟩
 else if x.op=10 then ⟨9,0,x.a,0,0⟩ else if x.op=11 then ⟨10,0,0,0,starts.getD x.n.toNat 0⟩ else if x.op=12 then ⟨11,0,x.a,0,starts.getD x.n.toNat 0⟩ else ⟨12,0,0,0,0⟩
def iT (caps:List Int) (x:Ins) (f:Int) (starts:List Int):List wX :=
 if xO x starts.length caps.length then
  if qL x.op 5 9 then
   if base caps x.n<0 then []
   else zG f (base caps x.n)++(if x.op=5∨x.op=7 then fC f (base caps x.n) (caps.getD x.n.toNat 0) x else if x.op=6∨x.op=8 then cY f (base caps x.n) (caps.getD x.n.toNat 0) x else eU f (base caps x.n))
  else [single x starts]
 else []
theorem qLh (caps:List Int) (x:Ins) (f:Int) (starts:List Int):(iT caps x f starts).length≤40:=by
 unfold iT
 repeat' split
 all_goals simp [zG,fC,cY,eU,eZ,eR]
 all_goals (try split)
 all_goals simp
def gX (caps:List Int) (b:List Ins):Nat→List wX
 | 0=>[]
 | i+1=>gX caps b i++iT caps (b.getD i default) (szB (b.take i)) (jC b)
def comp (caps:List Int) (b:List Ins):List wX:=gX caps b b.length
theorem qHu (caps:List Int) (b:List Ins) :∀i,(gX caps b i).length≤40*i
 | 0=>by simp [gX]
 | i+1=>by
  have:=qHu caps b i
  have:=qLh caps (b.getD i default) (szB (b.take i)) (jC b)
  simp only [gX,List.length_append]
  omega
theorem iY {p:wN} (h:vD p=true):aE p.caps=true∧p.caps.length≤3∧p.bods.length≤4∧1≤p.bods.length∧∀b∈p.bods,uT b p.caps.length=true:=by
 unfold vD at h
 simp only [Bool.and_eq_true,qM,decide_eq_true_eq,List.all_eq_true] at h
 exact ⟨h.1.2,by omega,by omega,by omega,h.1.1.1⟩
theorem qQw {p:wN} (h:vD p=true):(decide (0<(p.caps.length:Int))&&decide (base p.caps 0<0))=!bR p.caps:=by
 have hc:=(iY h).1
 cases hl:bR p.caps with
 | false =>
  have hlen:0<p.caps.length:=by
   apply Nat.pos_of_ne_zero
   intro e
   have e':p.caps=[]:=List.eq_nil_of_length_eq_zero e
   unfold bR at hl
   rw [hc,e'] at hl
   simp [aM] at hl
  have hb:base p.caps 0=-1:=by unfold base; rw [hl,Bool.and_false]; rfl
  rw [hb]
  simp
  omega
 | true =>
  by_cases hlen:0<p.caps.length
  ·have hb:base p.caps 0=0:=by
    unfold base
    have hw:qL 0 0 ((p.caps.length:Int)-1)=true:=by rw [qM]; omega
    rw [hl,hw]
    rfl
   rw [hb]
   simp
  ·simp; omega
theorem qRc (l:List Int) (i n:Nat) (h:i<n):l.take (min (i+1) n)=l.take (i+1)∧l.take (min i n)=l.take i:=by
 rw [Nat.min_eq_left (by omega),Nat.min_eq_left (by omega)]
 exact ⟨rfl,rfl⟩
theorem oL (caps:List Int) (n:Int) (hl:caps.length<2^40):wD Try.prog num 206 [.sl .bw 1 (wT caps),.int .i64 n] [] (.int .i64 (base caps n)):=by
 refine EN m206 Try.func30 ?_
 unfold m206
 have w1:IntKind.i64.wrap ((caps.length:Int)-1)=caps.length-1:=yP (by omega) (by omega)
 simp only [go_sem,seval,w1]
 refine CA [] (wU n 0 (caps.length-1)) ?_
 try simp only [go_sem,seval]
 cases hw:qL n 0 (caps.length-1)
 ·try simp only [go_sem,seval,hw]
  refine fz ?_; simp [yB,qW,qZ,wG,-List.drop_one]
  simp [base,hw]
 try simp only [go_sem,seval,hw]
 refine CA [] (qHy caps (by omega)) ?_
 try simp only [go_sem,seval]
 cases hk:aE caps
 ·try simp only [go_sem,seval,hk]
  refine fz ?_; simp [yB,qW,qZ,wG,-List.drop_one]
  simp [base,bR,hk]
 try simp only [go_sem,seval,hk]
 have hw':=qM.1 hw
 refine wL (ι:=Nat) (fun i=>.mk [(1,.int .i64 n),(5,.int .i64 (aM (caps.take (min i n.toNat)))),(6,.int .i64 (aM (caps.take i))),(20,.sl .bw 1 (wT caps)),(21,.int .i64 caps.length),(22,.int .i64 i)] [] 10) (fun i=>i≤caps.length) (fun i=>caps.length-i) 0 (by simp) ?_ ?_
 ·refine Sub.shape [] id (by omega) ?_ ?_ ?_ ?_<;>simp [qP]
  simp [aM]
 ·intro i hi
  simp only [go_sem,seval]
  refine qT (fun hc=>?_) (fun hc=>?_)
  ·simp only [decide_eq_true_eq] at hc
   have hl':i<caps.length:=by omega
   have h1:=aF hk i
   have h2:=aF hk (i+1)
   have h3:=qAl caps i hl'
   have h4:=aF hk (min i n.toNat)
   have q1:IntKind.i64.wrap (caps.getD i 0+4)=caps.getD i 0+4:=yP (by omega) (by omega)
   have q2:IntKind.i64.wrap (aM (caps.take i)+(caps.getD i 0+4))=aM (caps.take (i+1)):=by rw [yP (by omega) (by omega)]; omega
   simp only [go_sem,seval,qI caps i hl']
   repeat refine K ?_
   refine qT (fun hc2=>?_) (fun hc2=>?_)
   ·simp only [decide_eq_true_eq] at hc2
    obtain ⟨e1,e2⟩:=qRc caps i n.toNat (by omega)
    simp only [go_sem,seval,q1,q2,e2,wB (i:=i) (by omega)]
    refine wC (i+1) (Sub.shape [] id (by omega) ?_ ?_ ?_ ?_) ?_ ?_
    any_goals (first | omega | (simp [qP]; done))
    rw [e1]
    simp [qP]
   ·simp only [decide_eq_false_iff_not] at hc2
    have e1:min (i+1) n.toNat=min i n.toNat:=by omega
    simp only [go_sem,seval,q1,q2,wB (i:=i) (by omega)]
    refine wC (i+1) (Sub.shape [] id (by omega) ?_ ?_ ?_ ?_) ?_ ?_
    any_goals (first | omega | (simp [qP]; done))
    rw [e1]
    simp [qP]
  ·simp only [decide_eq_false_iff_not] at hc
   have he:caps.take i=caps:=List.take_of_length_le (by omega)
   have hm:min i n.toNat=n.toNat:=by omega
   simp only [go_sem,seval,he,hm]
   by_cases h24:(24:Int)<aM caps
   ·try simp only [go_sem,seval,h24]
    refine fz ?_; simp [yB,qW,qZ,wG,-List.drop_one]
    have :¬aM caps≤24:=by omega
    simp [base,hw,bR,hk,this]
   ·try simp only [go_sem,seval,h24]
    refine fz ?_; simp [yB,qW,qZ,wG,-List.drop_one]
    have:aM caps≤24:=by omega
    simp [base,hw,bR,hk,this]
theorem qBt (b:List Ins) (hl:b.length<2^40):wD Try.prog num 207 [.sl .bw 5 (zT b)] [] (.sl .own 1 (wT (jC b))):=by
 refine EN m207 Try.func31 ?_
 unfold m207
 simp only [go_sem,seval]
 refine wL (ι:=Nat) (fun i=>.mk [(3,.ns 10 0 i),(4,.int .i64 (szB (b.take i))),(8,.sl .bw 5 (zT b)),(9,.int .i64 b.length),(10,.int .i64 i)] [(10,1,wT (cO b i))] 11) (fun i=>i≤b.length) (fun i=>b.length-i) 0 (by simp) ?_ ?_
 ·refine Sub.shape [] id (by omega) ?_ ?_ ?_ ?_<;>simp [qP]
  all_goals simp [cO,szB,wT]
 ·intro i hi
  simp only [go_sem,seval]
  refine qT (fun hc=>?_) (fun hc=>?_)
  ·simp only [decide_eq_true_eq] at hc
   have hl':i<b.length:=by omega
   have h1:=xU b i
   have h2:=xU b (i+1)
   have h3:=cZ b i hl'
   have q1:IntKind.i64.wrap (szB (b.take i)+qX (b.getD i default))=szB (b.take (i+1)):=by rw [yP (by omega) (by omega)]; omega
   simp only [go_sem,seval,eI b i hl',uG]
   repeat refine K ?_
   refine CA [] (jE (b.getD i default)) ?_
   try simp only [go_sem,seval]
   try simp only [go_sem,seval,q1,wB (i:=i) (by omega)]
   refine wC (i+1) (Sub.shape [] (fun n=>if n=10 then 13 else n) (by omega) ?_ ?_ ?_ ?_) hl' (by omega)<;>simp [qP]
   all_goals exact .inl (by rw [qIk,qN2])
  ·simp only [decide_eq_false_iff_not] at hc
   have he:i=b.length:=by omega
   subst he
   simp only [go_sem,seval]
   refine ⟨_,Sub.refl _,dN ?_⟩; simp [-List.drop_one]
   simp [uG,jC]
def jN:List Ins→Int→Int→Int→Int×Bool
 | [],_,_,_=>(-1,false)
 | x::l,off,i,at_=>if off≤at_∧at_≤off+qX x-1 then (i,decide (at_=off)) else jN l (off+qX x) (i+1) at_
def xJ (p:wN) (body at_:Int):Int×Bool:=if vD p&&qL body 0 (p.bods.length-1) then jN (p.bods.getD body.toNat []) 0 0 at_ else (-1,false)
theorem qIw (b:List Ins) (i:Nat) (h:i<b.length) (at_:Int):jN (b.drop i) (szB (b.take i)) i at_=if szB (b.take i)≤at_∧at_≤szB (b.take (i+1))-1 then ((i:Int),decide (at_=szB (b.take i))) else jN (b.drop (i+1)) (szB (b.take (i+1))) ((i+1:Nat):Int) at_:=by
 have hd:b.drop i=b.getD i default::b.drop (i+1):=by rw [List.drop_eq_getElem_cons h]; simp [List.getD_eq_getElem?_getD,h]
 rw [hd,cZ b i h]
 simp only [jN]
 push_cast
 rfl
theorem qKj (b:List Ins) (i:Nat) (h:b.length≤i) (off k at_:Int):jN (b.drop i) off k at_=(-1,false):=by
 rw [List.drop_eq_nil_of_le h]
 rfl
theorem oK (b:List Ins) (at_:Int) (hl:b.length<2^40):wD Try.prog num 280 [.sl .bw 5 (zT b),.int .i64 at_] [] (.tup [.int .i64 (jN b 0 0 at_).1,.bool (jN b 0 0 at_).2]):=by
 refine EN m280 Try.func40 ?_
 unfold m280
 simp only [go_sem,seval]
 refine CA [] (qBt b hl) ?_
 try simp only [go_sem,seval]
 have hsl:(jC b).length=b.length:=uG b b.length
 try simp only [go_sem,seval,hsl]
 refine wL (ι:=Nat) (fun i=>.mk [(0,.sl .bw 5 (zT b)),(1,.int .i64 at_),(9,.ns 10 0 b.length),(10,.int .i64 b.length),(11,.int .i64 i)] [(10,1,wT (jC b))] 11) (fun i=>i≤b.length∧jN (b.drop i) (szB (b.take i)) i at_=jN b 0 0 at_) (fun i=>b.length-i) 0 (by simp [szB]) ?_ ?_
 ·refine Sub.shape [] id (by omega) ?_ ?_ ?_ ?_<;>simp [qP]
 ·rintro i ⟨hi,hp⟩
  simp only [go_sem,seval]
  refine qT (fun hc=>?_) (fun hc=>?_)
  ·simp only [decide_eq_true_eq] at hc
   have hl':i<b.length:=by omega
   have hsg:(jC b).getD i 0=szB (b.take i):=mC b b.length i hl'
   have h1:=xU b i
   have h2:=xU b (i+1)
   have h3:=cZ b i hl'
   have h4:=qCa (b.getD i default)
   have hs:=qIw b i hl' at_
   have q1:IntKind.i64.wrap (szB (b.take i)+qX (b.getD i default))=szB (b.take (i+1)):=by rw [yP (by omega) (by omega)]; omega
   have q2:IntKind.i64.wrap (szB (b.take (i+1))-1)=szB (b.take (i+1))-1:=yP (by omega) (by omega)
   simp only [go_sem,seval,qI (jC b) i (by omega),hsg,hsl,eI b i hl']
   repeat refine K ?_
   refine CA [] (jE (b.getD i default)) ?_
   try simp only [go_sem,seval]
   try simp only [go_sem,seval,q1,q2]
   refine CA [] (wU at_ (szB (b.take i)) (szB (b.take (i+1))-1)) ?_
   try simp only [go_sem,seval]
   rw [hp] at hs
   cases hw:qL at_ (szB (b.take i)) (szB (b.take (i+1))-1)
   ·have hn :¬(szB (b.take i)≤at_∧at_≤szB (b.take (i+1))-1):=fun h=>by rw [←qM] at h; rw [h] at hw; simp at hw
    rw [if_neg hn] at hs
    try simp only [go_sem,seval,hw,wB (i:=i) (by omega)]
    refine wC (i+1) (Sub.shape [] id (by omega) ?_ ?_ ?_ ?_) ?_ ?_
    any_goals (first | omega | (simp [qP]; done))
    exact ⟨hl',hs.symm⟩
   ·rw [if_pos (qM.1 hw)] at hs
    try simp only [go_sem,seval,hw]
    refine ⟨_,Sub.refl _,jM (by simp) ?_⟩; simp [-List.drop_one]
    rw [hs]
    simp
  ·simp only [decide_eq_false_iff_not] at hc
   rw [qKj b i (by omega)] at hp
   simp only [go_sem,seval]
   refine ⟨_,Sub.refl _,jM (by simp) ?_⟩; simp [-List.drop_one]
   rw [←hp]
   simp
theorem qEv (p:wN) (k at_:Int) (hp:xE p):wD Try.prog num 230 [.agg (vP .bw p),.int .i64 k,.int .i64 at_] [] (.tup [.int .i64 (xJ p k at_).1,.bool (xJ p k at_).2]):=by
 obtain ⟨h1,h2,h3⟩:=hp
 have w1:IntKind.i64.wrap ((p.bods.length:Int)-1)=p.bods.length-1:=yP (by omega) (by omega)
 refine EN m230 Try.func48 ?_
 unfold m230
 simp only [go_sem,seval]
 refine CA [] (cR p (by omega) (by omega) (fun b hb=>by have:=h3 b hb; omega)) ?_
 try simp only [go_sem,seval]
 cases hok:vD p
 ·try simp only [go_sem,seval,hok]
  refine ⟨_,Sub.refl _,jM (by simp) ?_⟩; simp [-List.drop_one]
  simp [xJ,hok]
 try simp only [go_sem,seval,hok,w1]
 refine CA [] (wU k 0 (p.bods.length-1)) ?_
 try simp only [go_sem,seval]
 cases hw:qL k 0 (p.bods.length-1)
 ·try simp only [go_sem,seval,hw]
  refine ⟨_,Sub.refl _,jM (by simp) ?_⟩; simp [-List.drop_one]
  simp [xJ,hw]
 have hw':=qM.1 hw
 have hk:k.toNat<p.bods.length:=by omega
 try simp only [go_sem,seval,hw,wH .bw p.bods k.toNat hk]
 repeat refine K ?_
 refine CA [] (oK (p.bods.getD k.toNat []) at_ (h3 _ (yQ p.bods k.toNat [] hk))) ?_
 try simp only [go_sem,seval]
 refine ⟨_,Sub.refl _,jM (by simp) ?_⟩; simp [-List.drop_one]
 simp [xJ,hok,hw]
end Go.Sep
