/- Contracts of functions. -/
import Derived.Test.YtebbppogicgpkaaGreatSxx44
namespace Go.Sep
set_option maxHeartbeats 16000000
open Go.Proofs
set_option linter.unusedSimpArgs false
set_option linter.unusedVariables false
set_option maxRecDepth 100000
def m463:MFn:=⟨41,[.t 6],kr [xo 6 (.mv (.c (.nil)))] (kr [xo 12 (.mkSl [xz,xz] 0 []),xv 7 12] (kr [xv 13 0,xv 14 2,bI 15 .add 14 1,xo 16 (.call 39 [true,false] [.t 13,.t 15]),xv 8 16] (.seq (kr [xI 9 0] (.blk 0 (.loop (.seq (kr [xv 17 9,xv 18 8,bT 19 .lss 17 18] (kX 19 0)) (.seq (.blk 1 (kr [xv 22 0,xv 23 1,xc2 24 98 (.t 23) (xi 1),xo 25 (.call 39 [true,false] [.t 22,.t 24]),xv 10 25] (kr [xI 11 0] (.blk 2 (.loop (.seq (kr [xv 26 11,xv 27 0,xo 28 (.call 39 [true,false] [.t 27,xi 6]),xo 29 (.bin .add (xi 1) (.t 28)),bT 30 .lss 26 29] (kX 30 2)) (.seq (.blk 3 (xr [xv 33 7,xv 34 10,xv 35 0,xo 36 (.call 39 [true,false] [.t 35,xi 4]),xo 37 (.build [xz,xz] [(0,1,.t 34),(1,1,.t 36)]),xo 38 (.mkSl [xz,xz] 1 [(0,.t 37)]),xA 39 2 16 33 38,xv 7 39])) (xr [xv 31 11,bI 32 .add 31 1,xv 11 32])))))))) (xr [xv 20 9,bI 21 .add 20 1,xv 9 21])))))) (kR [xv 40 7,xv 6 40]))))⟩
def tU (code:List Int) (who:Int) (d:Cur):vD×Cur:=(⟨who,(wD code d 4).1⟩,(wD code d 4).2)
def qIv (code:List Int) (m:Int) (s:List vD×Cur):List vD×Cur:=aI code 1 6 (tU code (wD code s.2 m).1) 6 0 (wD code s.2 m).2 s.1
def kZ (code:List Int) (m:Int):Nat→List vD×Cur→List vD×Cur
 | 0,s=>s
 | k+1,s=>qIv code m (kZ code m k s)
def wAg (n:Int):Int:=if 1<n then n else 1
def iH (code:List Int) (c:Cur) (cores most:Int):List vD×Cur:=kZ code (wAg cores) (wD code c (most+1)).1.toNat ([],(wD code c (most+1)).2)
theorem qF9 (code:List Int) (m:Int) (s:List vD×Cur) :∀k,s.1.length≤(kZ code m k s).1.length∧(kZ code m k s).1.length≤s.1.length+6*k
 | 0=>⟨Nat.le_refl _,by simp [kZ]⟩
 | k+1=>by
  obtain ⟨h1,h2⟩:=qF9 code m s k
  have h3:=kS (code:=code) (base:=1) (m:=6) (step:=tU code (wD code (kZ code m k s).2 m).1) 6 0 (wD code (kZ code m k s).2 m).2 (kZ code m k s).1
  rw [kZ]
  unfold qIv
  omega
theorem qDs (code:List Int) (c:Cur) (cores:Int) {most:Nat}:(iH code c cores most).1.length≤6*most:=by
 have h:=(qF9 code (wAg cores) ([],(wD code c (most+1)).2) (wD code c (most+1)).1.toNat).2
 have hb:=vA code c ((most:Int)+1) (by omega)
 unfold iH
 simp only [List.length_nil] at h
 omega
theorem qWb (l:List vD) (w v:Int):uZ l++[[.int .i64 w,.int .i64 v]]=uZ (l++[⟨w,v⟩]):=by simp [uZ,cY]
theorem nB (code:List Int) (c:Cur) (cores most:Int) (hb:code.length<2^62) (hm:0≤most∧most<2^30):qW Tryz.prog num 463 [.ptr 0 0 0,.int .i64 cores,.int .i64 most] [(0,some (3,[iR code c]),some (3,[iR code (iH code c cores most).2]))] (.sl .own 2 (uZ (iH code c cores most).1)):=by
 have w1:IntKind.i64.wrap (most+1)=most+1:=wJ (by omega) (by omega)
 refine EH m463 Tryz.func65 ?_
 unfold m463
 simp only [go_sem,seval,w1]
 repeat refine K ?_
 refine CA [(0,0)] (yS code c (most+1) hb) ?_
 try simp only [go_sem,seval]
 repeat refine K ?_
 have hn:=vA code c (most+1) (by omega)
 unfold iH
 generalize wD code c (most+1)=r at hn
 obtain ⟨n,d⟩:=r
 simp only at hn⊢
 obtain ⟨n,rfl⟩:=Int.eq_ofNat_of_zero_le hn.1
 rw [Int.toNat_natCast]
 have hmx:wAg cores=(if 1<cores then cores else 1):=rfl
 generalize wAg cores=mx at hmx
 have cm:=qR2 cores 1
 rw [←hmx] at cm
 try simp only [go_sem,seval]
 repeat refine K ?_
 refine qX (ι:=Nat) (fun i=>.mk [(0,.ptr 0 0 0),(1,.int .i64 cores),(7,.ns 10 0 (kZ code mx i ([],d)).1.length),(8,.int .i64 n),(9,.int .i64 i)] [(0,3,[iR code (kZ code mx i ([],d)).2]),(10,2,uZ (kZ code mx i ([],d)).1)] 11) (fun i=>i≤n) (fun i=>n-i) 0 (by simp) ?_ ?_
 ·refine Sub.shape [] id (by omega) ?_ ?_ ?_ ?_<;>simp [qK]
  all_goals (first | rfl | exact ⟨⟨rfl,rfl⟩,.inl rfl⟩)
 ·intro i hi
  have hlen:=(qF9 code mx ([],d) i).2
  have hst:kZ code mx (i+1) ([],d)=qIv code mx (kZ code mx i ([],d)):=rfl
  generalize hs:kZ code mx i ([],d)=s at hlen hst
  obtain ⟨acc0,e0⟩:=s
  simp only [List.length_nil] at hlen
  simp only [go_sem,seval]
  refine qL (fun hc=>?_) (fun hc=>?_)
  ·simp only [decide_eq_true_eq] at hc
   have hi':i<n:=by omega
   simp only [go_sem,seval]
   repeat refine K ?_
   refine CA [] (cm) ?_
   try simp only [go_sem,seval]
   repeat refine K ?_
   try simp only [go_sem,seval]
   repeat refine K ?_
   refine CA [(0,0)] (yS code e0 mx hb) ?_
   try simp only [go_sem,seval]
   repeat refine K ?_
   unfold qIv at hst
   simp only at hst
   generalize wD code e0 mx=q at hst
   obtain ⟨who,e⟩:=q
   simp only at hst⊢
   try simp only [go_sem,seval]
   repeat refine K ?_
   refine qX (ι:=Nat×Cur×List vD) (fun s=>.mk [(0,.ptr 0 0 0),(1,.int .i64 cores),(7,.ns 10 0 s.2.2.length),(8,.int .i64 n),(9,.int .i64 i),(10,.int .i64 who),(11,.int .i64 s.1)] [(0,3,[iR code s.2.1]),(10,2,uZ s.2.2)] 11) (fun s=>s.1≤6∧s.2.2.length≤acc0.length+s.1∧aI code 1 6 (tU code who) (6-s.1) s.1 s.2.1 s.2.2=aI code 1 6 (tU code who) 6 0 e acc0) (fun s=>6-s.1) (0,e,acc0) ⟨by simp,by simp,rfl⟩ ?_ ?_
   ·refine Sub.shape [] id (by omega) ?_ ?_ ?_ ?_<;>simp [qK]
    all_goals (exact .inl rfl)
   ·rintro ⟨j,f,acc⟩ ⟨hj,hl,hd⟩
    simp only at hj hl hd⊢
    simp only [go_sem,seval]
    refine CA [(0,0)] (yS code f 6 hb) ?_
    try simp only [go_sem,seval]
    repeat refine K ?_
    have hr:=vA code f 6 (by omega)
    have w2:IntKind.i64.wrap (1+(wD code f 6).1)=1+(wD code f 6).1:=wJ (by omega) (by omega)
    simp only [go_sem,seval,w2]
    refine qL (fun hc2=>?_) (fun hc2=>?_)
    ·simp only [decide_eq_true_eq] at hc2
     have hg:=qNb (code:=code) (base:=1) (m:=6) (step:=tU code who) (N:=6) (i:=j) (c:=f) (acc:=acc) (by omega) (by omega)
     rw [hg] at hd
     simp only [go_sem,seval,qS (i:=j) (by omega)]
     repeat refine K ?_
     refine CA [(0,0)] (yS code (wD code f 6).2 4 hb) ?_
     try simp only [go_sem,seval]
     repeat refine K ?_
     try simp only [go_sem,seval,qS (i:=j) (by omega)]
     repeat refine K ?_
     refine qT (j+1,(tU code who (wD code f 6).2).2,acc++[(tU code who (wD code f 6).2).1]) ?_ ⟨by simp only; omega,by simp only [List.length_append,List.length_singleton]; omega,hd⟩ (by simp only; omega)
     refine Sub.shape [] (fun n=>if n=10 then 12 else n) (by omega) ?_ ?_ ?_ ?_<;>simp [qK]
     all_goals (exact ⟨⟨rfl,rfl⟩,.inl (qWb _ _ _)⟩)
    ·simp only [decide_eq_false_iff_not] at hc2
     rw [qGv (by omega)] at hd
     rw [←hd] at hst
     simp only [go_sem,seval,qS (i:=i) (by omega)]
     repeat refine K ?_
     refine qT (i+1) ?_ hi' (by omega)
     rw [hst]
     refine Sub.shape [] id (by omega) ?_ ?_ ?_ ?_<;>simp [qK]
     all_goals (first | exact .inl rfl | skip)
  ·simp only [decide_eq_false_iff_not] at hc
   have he:i=n:=by omega
   subst he
   simp only [go_sem,seval]
   repeat refine K ?_
   rw [hs]
   refine ⟨_,Sub.refl _,yQ ?_⟩; simp [-List.drop_one]
theorem qDr {code:List Int} {c:Cur} {cores most:Int} :∀x∈(iH code c cores most).1,tT x:=by
 have h1 :∀(m:Int) (k:Nat) (s:List vD×Cur),(∀x∈s.1,tT x)→∀x∈(kZ code m k s).1,tT x:=by
  intro m k
  induction k with
  | zero=>intro s hs; exact hs
  | succ k ih =>
   intro s hs
   rw [kZ]
   unfold qIv
   refine sK (fun c=>?_) _ _ _ _ (ih s hs)
   have:=vA code c 4 (by omega)
   unfold tU tT
   simp only
   omega
 unfold iH
 exact h1 _ _ _ (fun x hx=>by simp at hx)
theorem Inv.lens {p:wM} {m:qO} {s:wH} (h:Inv p m s):m.cores.length=p.bods.length∧s.ths.length=p.bods.length∧s.chs.length=p.caps.length:=by
 have hs:=(bG p s).1 h.src
 have hl:m.codes.length=p.bods.length:=by rw [h.codes,List.length_map]
 have hc:=h.mok.cores
 exact ⟨by omega,hs.2.1,hs.2.2.1⟩
theorem rK {p:wM} {l:List vD} (h:(wQ p l).2.2=false):(wQ p l).1=[]∧(wQ p l).2.1=oV:=by
 unfold wQ at h⊢
 split
 ·rename_i hc
  rw [if_pos hc] at h
  simp at h
 ·exact ⟨rfl,rfl⟩
end Go.Sep
