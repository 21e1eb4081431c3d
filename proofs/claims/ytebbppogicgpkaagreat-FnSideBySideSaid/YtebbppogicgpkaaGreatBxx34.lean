/- Contracts of functions. -/
import Derived.Test.YtebbppogicgpkaaGreatBxx32
import Derived.Test.YtebbppogicgpkaaGreatBxx33
namespace Go.Sep
set_option maxHeartbeats 16000000
open Go.Proofs
set_option linter.unusedSimpArgs false
set_option linter.unusedVariables false
set_option maxRecDepth 100000
def m463:MFn:=⟨41,[.t 6],kr [xo 6 (.mv (.c (.nil)))] (kr [xo 12 (.mkSl [xz,xz] 0 []),xv 7 12] (kr [xv 13 0,xv 14 2,bI 15 .add 14 1,xo 16 (.call 39 [true,false] [.t 13,.t 15]),xv 8 16] (.seq (kr [xI 9 0] (.blk 0 (.loop (.seq (kr [xv 17 9,xv 18 8,bT 19 .lss 17 18] (kX 19 0)) (.seq (.blk 1 (kr [xv 22 0,xv 23 1,xc2 24 98 (.t 23) (xi 1),xo 25 (.call 39 [true,false] [.t 22,.t 24]),xv 10 25] (kr [xI 11 0] (.blk 2 (.loop (.seq (kr [xv 26 11,xv 27 0,xo 28 (.call 39 [true,false] [.t 27,xi 6]),xo 29 (.bin .add (xi 1) (.t 28)),bT 30 .lss 26 29] (kX 30 2)) (.seq (.blk 3 (xr [xv 33 7,xv 34 10,xv 35 0,xo 36 (.call 39 [true,false] [.t 35,xi 4]),xo 37 (.build [xz,xz] [(0,1,.t 34),(1,1,.t 36)]),xo 38 (.mkSl [xz,xz] 1 [(0,.t 37)]),xA 39 2 16 33 38,xv 7 39])) (xr [xv 31 11,bI 32 .add 31 1,xv 11 32])))))))) (xr [xv 20 9,bI 21 .add 20 1,xv 9 21])))))) (kR [xv 40 7,xv 6 40]))))⟩
def sD (code:List Int) (who:Int) (d:Cur):dK×Cur:=(⟨who,(qV code d 4).1⟩,(qV code d 4).2)
def qG3 (code:List Int) (m:Int) (s:List dK×Cur):List dK×Cur:=aC code 1 6 (sD code (qV code s.2 m).1) 6 0 (qV code s.2 m).2 s.1
def iW (code:List Int) (m:Int):Nat→List dK×Cur→List dK×Cur
 | 0,s=>s
 | k+1,s=>qG3 code m (iW code m k s)
def qWc (n:Int):Int:=if 1<n then n else 1
def aW (code:List Int) (c:Cur) (cores most:Int):List dK×Cur:=iW code (qWc cores) (qV code c (most+1)).1.toNat ([],(qV code c (most+1)).2)
theorem qD2 (code:List Int) (m:Int) (s:List dK×Cur) :∀k,s.1.length≤(iW code m k s).1.length∧(iW code m k s).1.length≤s.1.length+6*k
 | 0=>⟨Nat.le_refl _,by simp [iW]⟩
 | k+1=>by
  obtain ⟨h1,h2⟩:=qD2 code m s k
  have h3:=iR (code:=code) (base:=1) (m:=6) (step:=sD code (qV code (iW code m k s).2 m).1) 6 0 (qV code (iW code m k s).2 m).2 (iW code m k s).1
  rw [iW]
  unfold qG3
  omega
theorem qLi (code:List Int) (c:Cur) (cores:Int) {most:Nat}:(aW code c cores most).1.length≤6*most:=by
 have h:=(qD2 code (qWc cores) ([],(qV code c (most+1)).2) (qV code c (most+1)).1.toNat).2
 have hb:=jR code c ((most:Int)+1) (by omega)
 unfold aW
 simp only [List.length_nil] at h
 omega
theorem qS9 (l:List dK) (w v:Int):cD l++[[.int .i64 w,.int .i64 v]]=cD (l++[⟨w,v⟩]):=by simp [cD,mW]
theorem qGs (code:List Int) (c:Cur) (cores most:Int) (hb:code.length<2^62) (hm:0≤most∧most<2^30):qU Tryz.prog num 463 [.ptr 0 0 0,.int .i64 cores,.int .i64 most] [(0,some (3,[kG code c]),some (3,[kG code (aW code c cores most).2]))] (.sl .own 2 (cD (aW code c cores most).1)):=by
 have w1:IntKind.i64.wrap (most+1)=most+1:=wF (by omega) (by omega)
 refine EH m463 Tryz.func65 ?_
 unfold m463
 simp only [go_sem,seval,w1]
 repeat refine K ?_
 refine CA [(0,0)] (yL code c (most+1) hb) ?_
 try simp only [go_sem,seval]
 repeat refine K ?_
 have hn:=jR code c (most+1) (by omega)
 unfold aW
 generalize qV code c (most+1)=r at hn
 obtain ⟨n,d⟩:=r
 simp only at hn⊢
 obtain ⟨n,rfl⟩:=Int.eq_ofNat_of_zero_le hn.1
 rw [Int.toNat_natCast]
 have hmx:qWc cores=(if 1<cores then cores else 1):=rfl
 generalize qWc cores=mx at hmx
 have cm:=qNl cores 1
 rw [←hmx] at cm
 try simp only [go_sem,seval]
 repeat refine K ?_
 refine wB (ι:=Nat) (fun i=>.mk [(0,.ptr 0 0 0),(1,.int .i64 cores),(7,.ns 10 0 (iW code mx i ([],d)).1.length),(8,.int .i64 n),(9,.int .i64 i)] [(0,3,[kG code (iW code mx i ([],d)).2]),(10,2,cD (iW code mx i ([],d)).1)] 11) (fun i=>i≤n) (fun i=>n-i) 0 (by simp) ?_ ?_
 ·refine Sub.shape [] id (by omega) ?_ ?_ ?_ ?_<;>simp [qM]
  all_goals (first | rfl | exact ⟨⟨rfl,rfl⟩,.inl rfl⟩)
 ·intro i hi
  have hlen:=(qD2 code mx ([],d) i).2
  have hst:iW code mx (i+1) ([],d)=qG3 code mx (iW code mx i ([],d)):=rfl
  generalize hs:iW code mx i ([],d)=s at hlen hst
  obtain ⟨acc0,e0⟩:=s
  simp only [List.length_nil] at hlen
  simp only [go_sem,seval]
  refine qP (fun hc=>?_) (fun hc=>?_)
  ·simp only [decide_eq_true_eq] at hc
   have hi':i<n:=by omega
   simp only [go_sem,seval]
   repeat refine K ?_
   refine CA [] (cm) ?_
   try simp only [go_sem,seval]
   repeat refine K ?_
   try simp only [go_sem,seval]
   repeat refine K ?_
   refine CA [(0,0)] (yL code e0 mx hb) ?_
   try simp only [go_sem,seval]
   repeat refine K ?_
   unfold qG3 at hst
   simp only at hst
   generalize qV code e0 mx=q at hst
   obtain ⟨who,e⟩:=q
   simp only at hst⊢
   try simp only [go_sem,seval]
   repeat refine K ?_
   refine wB (ι:=Nat×Cur×List dK) (fun s=>.mk [(0,.ptr 0 0 0),(1,.int .i64 cores),(7,.ns 10 0 s.2.2.length),(8,.int .i64 n),(9,.int .i64 i),(10,.int .i64 who),(11,.int .i64 s.1)] [(0,3,[kG code s.2.1]),(10,2,cD s.2.2)] 11) (fun s=>s.1≤6∧s.2.2.length≤acc0.length+s.1∧aC code 1 6 (sD code who) (6-s.1) s.1 s.2.1 s.2.2=aC code 1 6 (sD code who) 6 0 e acc0) (fun s=>6-s.1) (0,e,acc0) ⟨by simp,by simp,rfl⟩ ?_ ?_
   ·refine Sub.shape [] id (by omega) ?_ ?_ ?_ ?_<;>simp [qM]
    all_goals (exact .inl rfl)
   ·rintro ⟨j,f,acc⟩ ⟨hj,hl,hd⟩
    simp only at hj hl hd⊢
    simp only [go_sem,seval]
    refine CA [(0,0)] (yL code f 6 hb) ?_
    try simp only [go_sem,seval]
    repeat refine K ?_
    have hr:=jR code f 6 (by omega)
    have w2:IntKind.i64.wrap (1+(qV code f 6).1)=1+(qV code f 6).1:=wF (by omega) (by omega)
    simp only [go_sem,seval,w2]
    refine qP (fun hc2=>?_) (fun hc2=>?_)
    ·simp only [decide_eq_true_eq] at hc2
     have hg:=qK1 (code:=code) (base:=1) (m:=6) (step:=sD code who) (N:=6) (i:=j) (c:=f) (acc:=acc) (by omega) (by omega)
     rw [hg] at hd
     simp only [go_sem,seval,qS (i:=j) (by omega)]
     repeat refine K ?_
     refine CA [(0,0)] (yL code (qV code f 6).2 4 hb) ?_
     try simp only [go_sem,seval]
     repeat refine K ?_
     try simp only [go_sem,seval,qS (i:=j) (by omega)]
     repeat refine K ?_
     refine qT (j+1,(sD code who (qV code f 6).2).2,acc++[(sD code who (qV code f 6).2).1]) ?_ ⟨by simp only; omega,by simp only [List.length_append,List.length_singleton]; omega,hd⟩ (by simp only; omega)
     refine Sub.shape [] (fun n=>if n=10 then 12 else n) (by omega) ?_ ?_ ?_ ?_<;>simp [qM]
     all_goals (exact ⟨⟨rfl,rfl⟩,.inl (qS9 _ _ _)⟩)
    ·simp only [decide_eq_false_iff_not] at hc2
     rw [qEf (by omega)] at hd
     rw [←hd] at hst
     simp only [go_sem,seval,qS (i:=i) (by omega)]
     repeat refine K ?_
     refine qT (i+1) ?_ hi' (by omega)
     rw [hst]
     refine Sub.shape [] id (by omega) ?_ ?_ ?_ ?_<;>simp [qM]
     all_goals (first | exact .inl rfl | skip)
  ·simp only [decide_eq_false_iff_not] at hc
   have he:i=n:=by omega
   subst he
   simp only [go_sem,seval]
   repeat refine K ?_
   rw [hs]
   refine ⟨_,Sub.refl _,yX ?_⟩; simp [-List.drop_one]
theorem qLh {code:List Int} {c:Cur} {cores most:Int} :∀x∈(aW code c cores most).1,qU7 x:=by
 have h1 :∀(m:Int) (k:Nat) (s:List dK×Cur),(∀x∈s.1,qU7 x)→∀x∈(iW code m k s).1,qU7 x:=by
  intro m k
  induction k with
  | zero=>intro s hs; exact hs
  | succ k ih =>
   intro s hs
   rw [iW]
   unfold qG3
   refine pQ (fun c=>?_) _ _ _ _ (ih s hs)
   have:=jR code c 4 (by omega)
   unfold sD qU7
   simp only
   omega
 unfold aW
 exact h1 _ _ _ (fun x hx=>by simp at hx)
def m160:MFn:=⟨26,[.t 4],kr [xF 4] (.seq (kr [xv 6 0,xe 7 6,xv 8 1,xe 9 8,bT 10 .neq 7 9] (kF 10 [xF 4])) (.seq (kr [xI 5 0] (.blk 0 (.loop (.seq (kr [xv 11 5,xv 12 0,xe 13 12,bT 14 .lss 11 13] (kX 14 0)) (.seq (.blk 1 (.seq (.dreg (.take 0 (xv 17 0) (.take 1 (xv 18 5) (.take 2 (xD 19 2 17 18) (.take 3 (xm 20 2 19) (.take 4 (xv 21 1) (.only 5 [] (xv 22 5) (.only 6 [4] (xD 23 2 21 22) (.only 7 [6,4] (xm 24 2 23) (.only 8 [3,7,2,6,0,1,4] (xo 25 (.eqS true [true,true] (.t 20) (.t 24))) (.done))))))))))) (kF 25 [xF 4]))) (xr [xv 15 5,bI 16 .add 15 1,xv 5 16])))))) (kR [xT 4])))⟩
def m445:MFn:=⟨10,[.t 6],kr [xb 3 0,xb 4 1,xF 6] (kR [xm 7 2 3,xv 8 2,xc3 9 437 (.t 7) (.t 4) (.t 8),xv 6 9])⟩
theorem qSi {a b:List aT} (i:Nat) (ha:i<a.length) (hb:i<b.length) (h:a.take i=b.take i) (he:a.getD i default=b.getD i default):a.take (i+1)=b.take (i+1):=by
 rw [uH a default i ha,uH b default i hb,h,he]
theorem oZ (a b:List aT) (ha:a.length<2^47):qU Tryz.prog num 160 [.sl .bw 2 (jL a),.sl .bw 2 (jL b)] [] (.bool (decide (a=b))):=by
 refine EN m160 Tryz.func28 ?_
 unfold m160
 by_cases hl:a.length=b.length
 ·have d0:(!decide ((a.length:Int)=(b.length:Int)))=false:=by simp [hl]
  simp only [go_sem,seval,d0]
  repeat refine K ?_
  refine wB (ι:=Nat) (fun i=>.mk [(0,.sl .bw 2 (jL a)),(1,.sl .bw 2 (jL b)),(5,.int .i64 i)] [] 10) (fun i=>i≤a.length∧a.take i=b.take i) (fun i=>a.length-i) 0 (by simp) ?_ ?_
  ·refine Sub.shape [] id (by omega) ?_ ?_ ?_ ?_<;>simp [qM]
  ·rintro i ⟨hi,hp⟩
   simp only [go_sem,seval]
   refine qP (fun hc=>?_) (fun hc=>?_)
   ·simp only [decide_eq_true_eq] at hc
    have hil:i<a.length:=by omega
    have g1:=aP a i hil
    have g2:=aP b i (by omega)
    have ht:=qSi i hil (by omega) hp
    have hdec:(decide ((a.getD i default).who=(b.getD i default).who)&&decide ((a.getD i default).v=(b.getD i default).v))=decide (a.getD i default=b.getD i default):=by
     generalize a.getD i default=x
     generalize b.getD i default=y
     obtain ⟨x1,x2⟩:=x
     obtain ⟨y1,y2⟩:=y
     by_cases h1:x1=y1<;>by_cases h2:x2=y2<;>simp [h1,h2]
    simp only [go_sem,seval,g1,g2,hdec,qS (i:=i) (by omega)]
    repeat refine K ?_
    by_cases he:a.getD i default=b.getD i default
    ·have h2:=ht he
     have d3:(!decide (a.getD i default=b.getD i default))=false:=by rw [decide_eq_true he]; rfl
     try simp only [go_sem,seval,d3,qS (i:=i) (by omega)]
     repeat refine K ?_
     refine qT (i+1) (Sub.shape [] id (by omega) ?_ ?_ ?_ ?_) ⟨hil,h2⟩ (by omega)<;>simp [qM]
    ·have hne :¬a=b:=fun e=>he (by rw [e])
     have d3:(!decide (a.getD i default=b.getD i default))=true:=by rw [decide_eq_false he]; rfl
     try simp only [go_sem,seval,d3]
     repeat refine K ?_
     refine fz ?_; simp [qZ,qQ,qR,qN,-List.drop_one]
     all_goals simp [hne]
   ·simp only [decide_eq_false_iff_not] at hc
    have hab:a=b:=by
     have h1:a.take i=a:=List.take_of_length_le (by omega)
     have h2:b.take i=b:=List.take_of_length_le (by omega)
     rw [←h1,hp,h2]
    simp only [go_sem,seval]
    repeat refine K ?_
    refine fz ?_; simp [qZ,qQ,qR,qN,-List.drop_one]
    all_goals simp [hab]
 ·have d0:(!decide ((a.length:Int)=(b.length:Int)))=true:=by simp; omega
  have hne :¬a=b:=fun e=>hl (by rw [e])
  simp only [go_sem,seval,d0]
  repeat refine K ?_
  refine fz ?_; simp [qZ,qQ,qR,qN,-List.drop_one]
  all_goals simp [hne]
theorem fZ (p:wR) (m:qO) (i:Nat) (hp:dB p) (hl:m.cores.length<2^40) (hi:i<m.cores.length):qU Tryz.prog num 445 [.agg (jS .bw p),.agg (wG .bw m),.int .i64 i] [] (.bool (aG p m i)):=by
 refine EN m445 Tryz.func32 ?_
 unfold m445
 simp only [go_sem,seval]
 repeat refine K ?_
 refine CA [] (qH7 p m i hp hl hi) ?_
 try simp only [go_sem,seval]
 repeat refine K ?_
 try simp only [go_sem,seval]
 repeat refine K ?_
 refine fz ?_; simp [qZ,qQ,qR,qN,-List.drop_one]
theorem qOx {m:qO} {k:bC} (h:fC m) (h1:k.regs.length<2^40) (h2:k.view.length<2^40):fC (vT m 0 k):=by
 refine ⟨h.codes,h.code,by simpa [vT] using h.cores,fun x hx=>?_,fun x hx=>?_,h.mem,h.tr⟩
 ·rcases List.mem_or_eq_of_mem_set hx with hx | rfl
  ·exact h.regs x hx
  ·exact h1
 ·rcases List.mem_or_eq_of_mem_set hx with hx | rfl
  ·exact h.views x hx
  ·exact h2
end Go.Sep
