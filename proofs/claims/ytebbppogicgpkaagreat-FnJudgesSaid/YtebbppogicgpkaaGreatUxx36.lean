/- Contracts of functions. -/
import Derived.Test.YtebbppogicgpkaaGreatUxx26
import Derived.Test.YtebbppogicgpkaaGreatUxx35
open List renaming drop_one → qZ8
namespace Go.Sep
set_option maxHeartbeats 16000000
open Go.Proofs
set_option linter.unusedSimpArgs false
set_option linter.unusedVariables false
set_option maxRecDepth 100000
open List renaming getD_eq_getElem?_getD → gD
def m459:MFn:=⟨13,[.cell 2 2 true,.t 3],kr [xo 2 (.alloc [.nil,.nil]),xo 3 (.mv (.c (.nil)))] (kr [xv 7 0,xo 8 (.call 466 [true] [.t 7]),xv 6 8,xX 9 6 0,xX 10 6 1,xo 4 (.alloc [.nil,.nil]),xS 2 4 9,xv 5 10] (kR [xm 11 2 4,xv 12 5,xS 2 2 11,xv 3 12]))⟩
def m463:MFn:=⟨41,[.t 6],kr [xo 6 (.mv (.c (.nil)))] (kr [xo 12 (.mkSl [xz,xz] 0 []),xv 7 12] (kr [xv 13 0,xv 14 2,bI 15 .add 14 1,xo 16 (.call 39 [true,false] [.t 13,.t 15]),xv 8 16] (.seq (kr [xI 9 0] (.blk 0 (.loop (.seq (kr [xv 17 9,xv 18 8,bT 19 .lss 17 18] (kX 19 0)) (.seq (.blk 1 (kr [xv 22 0,xv 23 1,xc2 24 98 (.t 23) (xi 1),xo 25 (.call 39 [true,false] [.t 22,.t 24]),xv 10 25] (kr [xI 11 0] (.blk 2 (.loop (.seq (kr [xv 26 11,xv 27 0,xo 28 (.call 39 [true,false] [.t 27,xi 6]),xo 29 (.bin .add (xi 1) (.t 28)),bT 30 .lss 26 29] (kX 30 2)) (.seq (.blk 3 (xr [xv 33 7,xv 34 10,xv 35 0,xo 36 (.call 39 [true,false] [.t 35,xi 4]),xo 37 (.build [xz,xz] [(0,1,.t 34),(1,1,.t 36)]),xo 38 (.mkSl [xz,xz] 1 [(0,.t 37)]),xA 39 2 16 33 38,xv 7 39])) (xr [xv 31 11,bI 32 .add 31 1,xv 11 32])))))))) (xr [xv 20 9,bI 21 .add 20 1,xv 9 21])))))) (kR [xv 40 7,xv 6 40]))))⟩
def m466:MFn:=⟨26,[.cell 2 2 true,.t 3],kr [xo 2 (.alloc [.nil,.nil]),xo 3 (.mv (.c (.nil)))] (kr [xv 6 0,xo 7 (.call 37 [true] [.t 6]),xv 4 7] (kr [xv 8 4,xo 9 (.call 55 [true] [.t 8]),xo 5 (.alloc [.nil,.nil]),xS 2 5 9] (.seq (kr [xv 10 4,xo 11 (.call 40 [true,false] [.t 10,xi 12])] (.cond 11 (xr [xv 12 4,xo 13 (.call 38 [true] [.t 12]),xS 2 5 13]) (.skip))) (.seq (.dreg (.take 0 (xm 14 2 5) (.take 1 (xv 15 4) (.take 2 (xa 16 1 5) (.take 3 (xl 17 16) (.take 4 (xe 18 17) (.take 5 (xv 19 4) (.take 9 (xv 23 0) (.only 6 [5] (xo 20 (.call 39 [true,false] [.t 19,xi 6])) (.take 7 (bI 21 .quo 20 5) (.take 8 (bT 22 .add 18 21) (.only 10 [6,9,5] (xc3 24 213 (.t 23) (xi 40) (xi 110)) (.only 11 [1,8,10,4,7,6,9,3,5,2] (xo 25 (.call 463 [true,false,false] [.t 15,.t 22,.t 24])) (.only 12 [0,11,1,8,10,4,7,6,9,3,5,2] (xS 2 2 14) (.only 13 [0,1,2,3,4,5,7,8,9] (xv 3 25) (.done)))))))))))))))) (.ret)))))⟩
def sT (code:List Int) (who:Int) (d:Cur):uF×Cur:=(⟨who,(wI code d 4).1⟩,(wI code d 4).2)
def qH5 (code:List Int) (m:Int) (s:List uF×Cur):List uF×Cur:=aF code 1 6 (sT code (wI code s.2 m).1) 6 0 (wI code s.2 m).2 s.1
def kE (code:List Int) (m:Int):Nat→List uF×Cur→List uF×Cur
 | 0,s=>s
 | k+1,s=>qH5 code m (kE code m k s)
def qVt (n:Int):Int:=if 1<n then n else 1
def kI (code:List Int) (c:Cur) (cores most:Int):List uF×Cur:=kE code (qVt cores) (wI code c (most+1)).1.toNat ([],(wI code c (most+1)).2)
theorem qDy (code:List Int) (m:Int) (s:List uF×Cur) :∀k,s.1.length≤(kE code m k s).1.length∧(kE code m k s).1.length≤s.1.length+6*k
 | 0=>⟨Nat.le_refl _,by simp [kE]⟩
 | k+1=>by
  obtain ⟨h1,h2⟩:=qDy code m s k
  have h3:=kB (code:=code) (base:=1) (m:=6) (step:=sT code (wI code (kE code m k s).2 m).1) 6 0 (wI code (kE code m k s).2 m).2 (kE code m k s).1
  rw [kE]
  unfold qH5
  omega
theorem qM9 (code:List Int) (c:Cur) (cores:Int) {most:Nat}:(kI code c cores most).1.length≤6*most:=by
 have h:=(qDy code (qVt cores) ([],(wI code c (most+1)).2) (wI code c (most+1)).1.toNat).2
 have hb:=zK code c ((most:Int)+1) (by omega)
 unfold kI
 simp only [List.length_nil] at h
 omega
theorem qSe (l:List uF) (w v:Int):aH l++[[.int .i64 w,.int .i64 v]]=aH (l++[⟨w,v⟩]):=by simp [aH,mJ]
theorem sZ (code:List Int) (c:Cur) (cores most:Int) (hb:code.length<2^62) (hm:0≤most∧most<2^30):qU Tryz.prog num 463 [.ptr 0 0 0,.int .i64 cores,.int .i64 most] [(0,some (3,[iD code c]),some (3,[iD code (kI code c cores most).2]))] (.sl .own 2 (aH (kI code c cores most).1)):=by
 have w1:IntKind.i64.wrap (most+1)=most+1:=wK (by omega) (by omega)
 refine EH m463 Tryz.func65 ?_
 unfold m463
 simp only [go_sem,seval,w1]
 refine CA [(0,0)] (yR code c (most+1) hb) ?_
 try simp only [go_sem,seval]
 have hn:=zK code c (most+1) (by omega)
 unfold kI
 generalize wI code c (most+1)=r at hn
 obtain ⟨n,d⟩:=r
 simp only at hn⊢
 obtain ⟨n,rfl⟩:=Int.eq_ofNat_of_zero_le hn.1
 rw [Int.toNat_natCast]
 have hmx:qVt cores=(if 1<cores then cores else 1):=rfl
 generalize qVt cores=mx at hmx
 have cm:=qO7 cores 1
 rw [←hmx] at cm
 refine wC (ι:=Nat) (fun i=>.mk [(0,.ptr 0 0 0),(1,.int .i64 cores),(7,.ns 10 0 (kE code mx i ([],d)).1.length),(8,.int .i64 n),(9,.int .i64 i)] [(0,3,[iD code (kE code mx i ([],d)).2]),(10,2,aH (kE code mx i ([],d)).1)] 11) (fun i=>i≤n) (fun i=>n-i) 0 (by simp) ?_ ?_
 ·refine Sub.shape [] id (by omega) ?_ ?_ ?_ ?_<;>simp [qM]
  all_goals (first | rfl | exact ⟨⟨rfl,rfl⟩,.inl rfl⟩)
 ·intro i hi
  have hlen:=(qDy code mx ([],d) i).2
  have hst:kE code mx (i+1) ([],d)=qH5 code mx (kE code mx i ([],d)):=rfl
  generalize hs:kE code mx i ([],d)=s at hlen hst
  obtain ⟨acc0,e0⟩:=s
  simp only [List.length_nil] at hlen
  simp only [go_sem,seval]
  refine qP (fun hc=>?_) (fun hc=>?_)
  ·simp only [decide_eq_true_eq] at hc
   have hi':i<n:=by omega
   simp only [go_sem,seval]
   refine CA [] (cm) ?_
   try simp only [go_sem,seval]
   refine CA [(0,0)] (yR code e0 mx hb) ?_
   try simp only [go_sem,seval]
   unfold qH5 at hst
   simp only at hst
   generalize wI code e0 mx=q at hst
   obtain ⟨who,e⟩:=q
   simp only at hst⊢
   refine wC (ι:=Nat×Cur×List uF) (fun s=>.mk [(0,.ptr 0 0 0),(1,.int .i64 cores),(7,.ns 10 0 s.2.2.length),(8,.int .i64 n),(9,.int .i64 i),(10,.int .i64 who),(11,.int .i64 s.1)] [(0,3,[iD code s.2.1]),(10,2,aH s.2.2)] 11) (fun s=>s.1≤6∧s.2.2.length≤acc0.length+s.1∧aF code 1 6 (sT code who) (6-s.1) s.1 s.2.1 s.2.2=aF code 1 6 (sT code who) 6 0 e acc0) (fun s=>6-s.1) (0,e,acc0) ⟨by simp,by simp,rfl⟩ ?_ ?_
   ·refine Sub.shape [] id (by omega) ?_ ?_ ?_ ?_<;>simp [qM]
    all_goals (exact .inl rfl)
   ·rintro ⟨j,f,acc⟩ ⟨hj,hl,hd⟩
    simp only at hj hl hd⊢
    simp only [go_sem,seval]
    refine CA [(0,0)] (yR code f 6 hb) ?_
    try simp only [go_sem,seval]
    have hr:=zK code f 6 (by omega)
    have w2:IntKind.i64.wrap (1+(wI code f 6).1)=1+(wI code f 6).1:=wK (by omega) (by omega)
    simp only [go_sem,seval,w2]
    refine qP (fun hc2=>?_) (fun hc2=>?_)
    ·simp only [decide_eq_true_eq] at hc2
     have hg:=qKv (code:=code) (base:=1) (m:=6) (step:=sT code who) (N:=6) (i:=j) (c:=f) (acc:=acc) (by omega) (by omega)
     rw [hg] at hd
     simp only [go_sem,seval,qV (i:=j) (by omega)]
     refine CA [(0,0)] (yR code (wI code f 6).2 4 hb) ?_
     try simp only [go_sem,seval]
     repeat refine K ?_
     try simp only [go_sem,seval,qV (i:=j) (by omega)]
     refine qW (j+1,(sT code who (wI code f 6).2).2,acc++[(sT code who (wI code f 6).2).1]) ?_ ⟨by simp only; omega,by simp only [List.length_append,List.length_singleton]; omega,hd⟩ (by simp only; omega)
     refine Sub.shape [] (fun n=>if n=10 then 12 else n) (by omega) ?_ ?_ ?_ ?_<;>simp [qM]
     all_goals (exact ⟨⟨rfl,rfl⟩,.inl (qSe _ _ _)⟩)
    ·simp only [decide_eq_false_iff_not] at hc2
     rw [qFf (by omega)] at hd
     rw [←hd] at hst
     simp only [go_sem,seval,qV (i:=i) (by omega)]
     refine qW (i+1) ?_ hi' (by omega)
     rw [hst]
     refine Sub.shape [] id (by omega) ?_ ?_ ?_ ?_<;>simp [qM]
     all_goals (first | exact .inl rfl | skip)
  ·simp only [decide_eq_false_iff_not] at hc
   have he:i=n:=by omega
   subst he
   simp only [go_sem,seval]
   rw [hs]
   refine ⟨_,Sub.refl _,jC ?_⟩; simp [-qZ8]
theorem qM8 {code:List Int} {c:Cur} {cores most:Int} :∀x∈(kI code c cores most).1,pX x:=by
 have h1 :∀(m:Int) (k:Nat) (s:List uF×Cur),(∀x∈s.1,pX x)→∀x∈(kE code m k s).1,pX x:=by
  intro m k
  induction k with
  | zero=>intro s hs; exact hs
  | succ k ih =>
   intro s hs
   rw [kE]
   unfold qH5
   refine qBo (fun c=>?_) _ _ _ _ (ih s hs)
   have:=zK code c 4 (by omega)
   unfold sT pX
   simp only
   omega
 unfold kI
 exact h1 _ _ _ (fun x hx=>by simp at hx)
def qIv (code:List Int) (r:wV×Cur):wV×Cur:=if (oT code r.2 12).1 then qD5 code (oT code r.2 12).2 else (r.1,(oT code r.2 12).2)
def qRt (code:List Int) (q:wV×Cur):wV×List uF:=(q.1,(kI code (wI code q.2 6).2 (q.1.bods.length+(wI code q.2 6).1/5) (qAu code.length 40 110)).1)
def qK0 (code:List Int):wV×List uF:=qRt code (qIv code (xE code (qE8 code)))
theorem qIu (code:List Int) (c:Cur):(qIv code (xE code c)).1.caps.length≤6∧(qIv code (xE code c)).1.bods.length≤4∧∀b∈(qIv code (xE code c)).1.bods,b.length≤24:=by
 obtain ⟨h1,h2,h3,h4,h5⟩:=qDu code c
 unfold qIv
 split
 ·exact qOn code _
 ·exact ⟨by simp only; omega,by simp only; omega,fun b hb=>(h5 b hb).2⟩
theorem qVx (code:List Int):uD (qK0 code).1∧(qK0 code).2.length≤660∧∀x∈(qK0 code).2,pX x:=by
 have hm:=qO2 code.length (show (40:Int)≤110 by omega)
 obtain ⟨h1,h2,h3⟩:=qIu code (qE8 code)
 refine ⟨⟨by show (qIv code (xE code (qE8 code))).1.caps.length<_; omega,by show (qIv code (xE code (qE8 code))).1.bods.length<_; omega,fun b hb=>by have:=h3 b hb; omega⟩,?_,qM8⟩
 unfold qK0 qRt
 simp only
 obtain ⟨m,hm2⟩:=Int.eq_ofNat_of_zero_le (show 0≤qAu code.length 40 110 by omega)
 rw [hm2]
 have:=qM9 code (wI code (qIv code (xE code (qE8 code))).2 6).2 ((qIv code (xE code (qE8 code))).1.bods.length+(wI code (qIv code (xE code (qE8 code))).2 6).1/5) (most:=m)
 omega
theorem qJk (code:List Int) (hb:code.length<2^62):qU Tryz.prog num 466 [.sl .fz 1 (bys code)] [] (.tup [.agg (jA .own (qK0 code).1),.sl .own 2 (aH (qK0 code).2)]):=by
 have hm:=qO2 code.length (show (40:Int)≤110 by omega)
 have hsm:=qIu code (qE8 code)
 refine EN m466 Tryz.func95 ?_
 unfold m466 qK0
 simp only [go_sem,seval]
 refine kU (qRs (n1:=12) [(10,11)] (qUb code hb) ?_ ?_ ?_ ?_ ?_ ?_ ?_) ?_
 any_goals (first | omega | (simp [qR,qS]; done) | (simp [qR,qS, *]; done))
 try simp only [go_sem,seval]
 refine CA [(0,11)] (tA code (qE8 code) hb) ?_
 try simp only [go_sem,seval]
 generalize xE code (qE8 code)=r at hsm
 obtain ⟨p,d⟩:=r
 unfold qIv at hsm⊢
 simp only at hsm⊢
 refine CA [(0,11)] (qKn code d 12 hb) ?_
 try simp only [go_sem,seval]
 generalize oT code d 12=z at hsm
 obtain ⟨bo,e⟩:=z
 cases bo
 ·simp only [Bool.false_eq_true,if_false] at hsm⊢
  unfold qRt
  simp only
  have hr:=zK code e 6 (by omega)
  generalize hg:wI code e 6=g at hr
  obtain ⟨x,f⟩:=g
  simp only at hr⊢
  have q0:Int.tdiv x 5=x/5:=Int.tdiv_eq_ediv_of_nonneg (by omega)
  have q1:IntKind.i64.wrap (x/5)=x/5:=wK (by omega) (by omega)
  have q2:IntKind.i64.wrap ((p.bods.length:Int)+x/5)=p.bods.length+x/5:=wK (by omega) (by omega)
  have cb:=yR code e 6 hb
  rw [hg] at cb
  try simp only [go_sem,seval]
  repeat refine K ?_
  refine DA [(0,11)] (cb) ?_
  try simp only [go_sem,seval]
  repeat refine K ?_
  try simp only [go_sem,seval,q0,q1,q2]
  refine DA [] (qKo code 40 110 hb (by omega)) ?_
  try simp only [go_sem,seval]
  generalize qAu code.length 40 110=w at hm
  refine DA [(0,11)] (sZ code f (p.bods.length+x/5) w hb (by omega)) ?_
  try simp only [go_sem,seval]
  apply wG (by simp)
  ·exact Sub.refl _
  ·simp [-qZ8,-gD,qM]<;>(first | rfl | exact ⟨rfl,rfl⟩ | exact ⟨rfl,rfl,rfl⟩ | skip)
 ·simp only [if_true] at hsm⊢
  try simp only [go_sem,seval]
  refine CA [(0,11)] (qSv code e hb) ?_
  try simp only [go_sem,seval]
  repeat refine K ?_
  generalize qD5 code e=y at hsm
  obtain ⟨p,e⟩:=y
  simp only at hsm⊢
  unfold qRt
  simp only
  have hr:=zK code e 6 (by omega)
  generalize hg:wI code e 6=g at hr
  obtain ⟨x,f⟩:=g
  simp only at hr⊢
  have q0:Int.tdiv x 5=x/5:=Int.tdiv_eq_ediv_of_nonneg (by omega)
  have q1:IntKind.i64.wrap (x/5)=x/5:=wK (by omega) (by omega)
  have q2:IntKind.i64.wrap ((p.bods.length:Int)+x/5)=p.bods.length+x/5:=wK (by omega) (by omega)
  have cb:=yR code e 6 hb
  rw [hg] at cb
  refine DA [(0,11)] (cb) ?_
  try simp only [go_sem,seval]
  repeat refine K ?_
  try simp only [go_sem,seval,q0,q1,q2]
  refine DA [] (qKo code 40 110 hb (by omega)) ?_
  try simp only [go_sem,seval]
  generalize qAu code.length 40 110=w at hm
  refine DA [(0,11)] (sZ code f (p.bods.length+x/5) w hb (by omega)) ?_
  try simp only [go_sem,seval]
  apply wG (by simp)
  ·exact Sub.refl _
  ·simp [-qZ8,-gD,qM]<;>(first | rfl | exact ⟨rfl,rfl⟩ | exact ⟨rfl,rfl,rfl⟩ | skip)
theorem qFx (code:List Int) (hb:code.length<2^62):qU Tryz.prog num 459 [.sl .fz 1 (bys code)] [] (.tup [.agg (jA .own (qK0 code).1),.sl .own 2 (aH (qK0 code).2)]):=by
 refine EN m459 Tryz.func57 ?_
 unfold m459
 simp only [go_sem,seval]
 refine CA [] (qJk code hb) ?_
 try simp only [go_sem,seval]
 apply wG (by simp)
 ·exact Sub.refl _
 ·simp [-qZ8,-gD,qM]<;>(first | rfl | exact ⟨rfl,rfl⟩ | exact ⟨rfl,rfl,rfl⟩ | skip)
end Go.Sep
