/- Contracts of functions. -/
import Derived.Test.YtbfklilhgekabaaNxx17
import Derived.Test.YtbfklilhgekabaaNxx18
open List renaming getD_eq_getElem?_getD → qXb, length_map → qZe, length_take → qX2, replicate → qX3, replicate_succ → qXr, take → qZd, take_of_length_le → qXi
namespace Go.Sep
set_option maxHeartbeats 16000000
open Go.Proofs
set_option linter.unusedSimpArgs false
set_option linter.unusedVariables false
set_option maxRecDepth 100000
open Nat renaming reduceAdd → qA, reduceMul → qB, reduceEqDiff → qC, reduceBEq → qD
open Int renaming reduceToNat → qE, reduceEq → qF, reduceLT → qG, reduceLE → qH
open List renaming getD_eq_getElem?_getD → gD
def m291:MFn:=⟨96,[.t 2],kr [xo 2 (.mv (.c (.nil)))] (.seq (kr [xv 13 0,xc2 14 67 (.t 13) (xi 3),xN 15 14] (kF 15 [xo 2 (.mv (.c (.nil)))])) (kr [xv 16 0,xe 17 16,xo 18 (.mkS [.nil] 24 (.t 17) (.t 17)),xv 3 18] (kr [xo 19 (.build [.bool false,.int .i64 0] [(0,1,.c (.bool true))]),xo 4 (.alloc [.bool false,.int .i64 0]),xS 2 4 19] (kr [xv 20 3,xm 21 2 4,xm 22 2 4,xm 23 2 4,xm 24 2 4,xo 25 (.mkSl [.bool false,.int .i64 0] 4 [(0,.t 21),(1,.t 22),(2,.t 23),(3,.t 24)]),xo 26 (.iad 1 (.t 20) (xi 0)),xS 1 26 25] (.seq (kr [xT 5] (.blk 0 (.loop (.seq (kr [xv 27 5] (kX 27 0)) (.blk 1 (kr [xF 5] (kr [xv 28 0,xe 29 28,xI 30 0] (.blk 2 (.loop (kr [bT 31 .lss 30 29] (.seq (kX 31 2) (.seq (.blk 3 (kr [xv 32 30,xD 33 5 28 30,xm 34 5 33,xo 7 (.alloc [xz,xz,xz,xz,xz]),xv 6 32,xS 5 7 34] (.seq (kr [xv 35 3,xv 36 6,xD 37 1 35 36,xl 38 37,xe 39 38,bI 40 .eql 39 0] (.cond 40 (.exit 3) (.skip))) (.seq (.dreg (.take 0 (xm 41 5 7) (.take 1 (xv 42 3) (.only 2 [] (xv 43 6) (.only 3 [1] (xD 44 1 42 43) (.only 4 [3,1] (xl 45 44) (.only 5 [0,4,3,1] (xc2 46 330 (.t 41) (.t 45)) (.only 6 [0,1] (xv 8 46) (.done))))))))) (kr [xv 47 0,xv 48 6,xc2 49 216 (.t 47) (.t 48),xe 50 49,xI 51 0] (.blk 4 (.loop (kr [bT 52 .lss 51 50] (.seq (kX 52 4) (.seq (.blk 5 (kr [xD 53 1 49 51,xl 54 53,xv 10 54] (.seq (kr [xv 55 3,xv 56 10,xD 57 1 55 56,xl 58 57,xe 59 58,bI 60 .eql 59 0] (.cond 60 (kr [xv 61 3,xv 62 10,xo 63 (.mkSl [.bool false,.int .i64 0] 0 []),xv 64 8,xA 65 2 16 63 64,xD 66 1 61 62,xS 1 66 65] (kr [xT 5] (.exit 5))) (.skip))) (kr [xv 67 3,xv 68 10,xD 69 1 67 68,xl 70 69,xv 71 8,xo 72 (.call 331 [true,false] [.t 70,.t 71]),xv 11 72] (xr [xv 73 5,xv 74 73,zv 75 11 74,xQ 76 74 75,xv 5 76]))))) (xr [bI 77 .add 51 1,xv 51 77]))))))))))) (xr [bI 78 .add 30 1,xv 30 78]))))))))))))) (.seq (kr [xv 79 3,xe 80 79,xI 81 0] (.blk 6 (.loop (kr [bT 82 .lss 81 80] (.seq (kX 82 6) (.seq (.blk 7 (kr [xv 83 81,xv 12 83] (kr [xv 84 3,xv 85 12,xD 86 1 84 85,xl 87 86,xe 88 87,bI 89 .eql 88 0] (.cond 89 (xr [xv 90 3,xv 91 12,xo 92 (.mkS [.bool false,.int .i64 0] 16 (xi 4) (xi 4)),xD 93 1 90 91,xS 1 93 92]) (.skip))))) (xr [bI 94 .add 81 1,xv 81 94]))))))) (kR [xv 95 3,xv 2 95])))))))⟩
structure Mid (l:List Ins) (S:KS) (a:Nat) (T:KS) (more:Bool):Prop where
 inv:tR l T
 f:more=false→T=S∧∀b,b<a→EOk l S b
 t:more=true→mS T<mS S
structure Inn (l:List Ins) (S:KS) (a:Nat) (out:KV) (j:Nat) (U:KS) (more:Bool):Prop where
 inv:tR l U
 f:more=false→U=S∧out=bM (l.getD a default) (kat S a)∧(∀b,b<a→EOk l S b)∧∀i,i<j→kat S ((yF l a).getD i 0).toNat≠[]∧vle out (kat S ((yF l a).getD i 0).toNat)
 t:more=true→mS U<mS S
theorem qQc {l:List Ins} {S:KS} (h:tR l S):Mid l S 0 S false:=⟨h,fun _=>⟨rfl,fun b hb=>by omega⟩,fun h=>by simp at h⟩
theorem qSc {l:List Ins} {S T:KS} {a:Nat} {more:Bool} (h:Mid l S a T more) (hk:kat T a=[]):Mid l S (a+1) T more:=by
 refine ⟨h.inv,fun hm=>⟨(h.f hm).1,fun b hb=>?_⟩,h.t⟩
 by_cases hba:b<a
 ·exact (h.f hm).2 b hba
 ·have:b=a:=by omega
  subst this
  intro hs
  rw [(h.f hm).1] at hk
  exact absurd hk hs
theorem qQr {l:List Ins} {S T:KS} {a:Nat} {more:Bool} (h:Mid l S a T more):Inn l S a (bM (l.getD a default) (kat T a)) 0 T more :=
 ⟨h.inv,fun hm=>⟨(h.f hm).1,by rw [(h.f hm).1],(h.f hm).2,fun i hi=>by omega⟩,h.t⟩
theorem qSz {l:List Ins} {S T U:KS} {a j:Nat} {out:KV} {more:Bool} (hb:wV l 3=true) (ha:a<l.length) (hT:tR l T) (hs:kat T a≠[]) (ho:out=bM (l.getD a default) (kat T a)) (h:Inn l S a out j U more) (hj:j<(yF l a).length) :
  Inn l S a out (j+1) (upd U out ((yF l a).getD j 0).toNat) (more||mA U out ((yF l a).getD j 0).toNat):=by
 have hm:=yR (yF l a) j 0 hj
 have hn:=oI hb ha _ hm
 have hn':((yF l a).getD j 0).toNat<U.length:=by rw [h.inv.len]; exact hn.2
 have hwo:WfV out:=ho▸kM _ ((hT.wf a).resolve_left hs)
 have hw:=h.inv.wf ((yF l a).getD j 0).toNat
 have hmm:=qCr hn' hw hwo
 refine ⟨qI2 h.inv hn.2 hwo fun V hV=>ho▸qMf hT ha (kG hb ha) hs V hV _ hm,fun hf=>?_,fun ht=>?_⟩
 ·rw [Bool.or_eq_false_iff] at hf
  obtain ⟨h1,h2,h3,h4⟩:=h.f hf.1
  have he:=qCq hf.2
  refine ⟨he.trans h1,h2,h3,fun i hi=>?_⟩
  by_cases hij:i<j
  ·exact h4 i hij
  ·have:i=j:=by omega
   subst this
   have:=rN hn' hw hwo
   rw [he,h1] at this
   exact this
 ·cases hd:mA U out ((yF l a).getD j 0).toNat with
  | true =>
   have:=hmm.2 hd
   cases hmo:more with
   | true=>have:=h.t hmo; omega
   | false=>rw [(h.f hmo).1] at this⊢; exact this
  | false =>
   rw [hd,Bool.or_false] at ht
   have:=h.t ht
   omega
theorem qUx {l:List Ins} {S U:KS} {a:Nat} {out:KV} {more:Bool} (h:Inn l S a out (yF l a).length U more):Mid l S (a+1) U more:=by
 refine ⟨h.inv,fun hf=>?_,h.t⟩
 obtain ⟨h1,h2,h3,h4⟩:=h.f hf
 refine ⟨h1,fun b hb=>?_⟩
 by_cases hba:b<a
 ·exact h3 b hba
 ·have:b=a:=by omega
  subst this
  intro hs n hn
  obtain ⟨i,hi,e⟩:=List.getElem_of_mem hn
  have:=h4 i hi
  have e':(yF l b).getD i 0=n:=by rw [←e]; simp [qXb,hi]
  rw [e',h2] at this
  exact this
theorem qUn {l:List Ins} {S T:KS} {more:Bool} (h:Mid l S l.length T more):(more=false→∀a,a<l.length→EOk l T a)∧2*mS T+(if more then 1 else 0)<2*mS S+1:=by
 cases more
 ·obtain ⟨h1,h2⟩:=h.f rfl
  rw [h1]
  exact ⟨fun _=>h2,by simp⟩
 ·have:=h.t rfl
  exact ⟨fun h=>by simp at h,by simp; omega⟩
def eZ (S:KS) (i:Nat):KS:=bJ (S.take i)++S.drop i
theorem qIw (S:KS) (i:Nat) (h:i≤S.length):(eZ S i).length=S.length:=by
 unfold eZ bJ
 rw [List.length_append,qZe,qX2,List.length_drop]
 omega
theorem qN6 (S:KS):eZ S 0=S:=by simp [eZ,bJ]
theorem qQu (S:KS):eZ S S.length=bJ S:=by simp [eZ]
theorem qN8 (S:KS) (i:Nat) (h:i<S.length):(eZ S i).getD i []=kat S i:=by
 have hl:(bJ (S.take i)).length=i:=by unfold bJ; rw [qZe,qX2]; omega
 unfold eZ kat
 rw [qXb,List.getElem?_append_right (by omega),hl]
 simp [qXb]
theorem qN7 (S:KS) (i:Nat) (h:i<S.length):eZ S (i+1)=(eZ S i).set i (if kat S i=[] then iW else kat S i):=by
 have hl:(bJ (S.take i)).length=i:=by unfold bJ; rw [qZe,qX2]; omega
 have hd:S.drop i=kat S i::S.drop (i+1):=by
  rw [List.drop_eq_getElem_cons h]
  simp [kat,qXb,h]
 have ht:S.take (i+1)=S.take i++[kat S i]:=by
  rw [iO S [] i h]
 unfold eZ
 rw [ht,hd]
 have hm:bJ (S.take i++[kat S i])=bJ (S.take i)++[if kat S i=[] then iW else kat S i]:=by
  unfold bJ
  rw [List.map_append]
  rfl
 rw [hm,List.set_append_right _ _ (by omega),hl]
 simp
theorem qQ7 (n:Nat):dI ((qX3 n [AV.nil]).set 0 [.sl .own 2 (wK qBh)]) (qY .own (xV n)):=by
 have hr :∀n,dI (qX3 n [AV.nil]) (qY .own (qX3 n [])):=by
  intro n
  induction n with
  | zero=>simp [qY,dI]
  | succ n ih =>
   rw [qXr,qXr]
   simp only [qY,List.map_cons] at ih⊢
   rw [aV]
   exact ⟨by simp [wN,wP,wK],ih⟩
 unfold xV
 cases n with
 | zero=>simp [qY,dI]
 | succ n =>
  rw [qXr,qXr]
  simp only [List.set_cons_zero,qY,List.map_cons]
  rw [aV]
  exact ⟨by simp [wN,wP],hr n⟩
theorem qSp (S:KS) (n:Nat) (h:n<S.length):(qY .own S).set n [.sl .own 2 (wK (kat S n))]=qY .own S:=by
 have e:=qGf S n [] h
 rw [gZ]
 exact congrArg _ e
theorem qUv (S:KS) (out:KV) (n:Nat):(qY .own S).set n [.sl .own 2 (wK (if kat S n=[] then out else jJ (kat S n) out))]=qY .own (upd S out n):=by
 rw [gZ]
 rfl
theorem zO (l:List Ins) (Kx:KS) (hl:l.length<2^47) (hK:wV l 3=true→pP l Kx):wJ Try.prog num 291 [.sl .bw 5 (vO l)] [] (.sl .own 1 (qY .own (bO l Kx))):=by
 refine EN m291 Try.func14 ?_
 unfold m291
 simp only [go_sem,seval]
 repeat refine K ?_
 refine CA [] (pH l 3 (by omega) (by omega) (by omega)) ?_
 try simp only [go_sem,seval]
 repeat refine K ?_
 cases hb:wV l 3
 ·try simp only [go_sem,seval,hb]
  repeat refine K ?_
  refine ⟨_,Sub.refl _,wL ?_⟩; simp [-List.drop_one]
  all_goals (try simp [bO,hb,qY])
 have hK':=hK hb
 obtain ⟨hl1,hl2⟩:=kH hb
 have hgs0 :∀r,((qX3 l.length [AV.nil]).set 0 r).getD 0 []=r:=fun r=>wW _ _ _ _ (by simp; omega)
 have hg0:(qX3 l.length [AV.nil]).getD 0 []=[AV.nil]:=by
  cases h:l.length with
  | zero=>omega
  | succ n=>rfl
 have hrl:(qX3 l.length [AV.nil]).length=l.length:=by simp
 have d0:decide (((0:Nat):Int)=0)=true:=by decide
 have d4:decide (((4:Nat):Int)=0)=false:=by decide
 try simp only [go_sem,seval,hb,hg0,hrl]
 repeat refine K ?_
 refine wM (ι:=KS×Bool) (fun q=>.mk [(0,.sl .bw 5 (vO l)),(3,.ns 10 0 l.length),(5,.bool q.2)] [(10,1,qY .own q.1)] 11) (fun q=>tR l q.1∧(q.2=false→∀a,a<l.length→EOk l q.1 a)) (fun q=>2*mS q.1+(if q.2 then 1 else 0)) (xV l.length,true) ⟨pZ (by omega),by simp⟩ ?_ ?_
 ·refine Sub.trans (Sub.foldAt 10 0 12 rfl (by simp [-gD]<;>omega) rfl (by decide) (by decide) rfl (by simp<;>omega)) ?_
  simp only [fS,fS3,qA,qC]
  refine Sub.shape [] id (by omega) ?_ ?_ ?_ ?_<;>simp [qR]
  all_goals (exact .inr (qQ7 _))
 ·rintro ⟨S,more⟩ ⟨hI,hE⟩
  simp only at hI hE
  have hSl:=hI.len
  cases more
  ·have hS:S=Kx:=qDv ⟨hI,hE rfl⟩ hK'
   subst hS
   simp only [go_sem,seval]
   repeat refine K ?_
   refine wM (ι:=Nat) (fun i=>.mk [(3,.ns 10 0 l.length),(80,.int .i64 l.length),(81,.int .i64 i)] [(10,1,qY .own (eZ S i))] 11) (fun i=>i≤l.length) (fun i=>l.length-i) 0 (by simp) ?_ ?_
   ·have e0:=qN6 S
    refine Sub.shape [] id (by omega) ?_ ?_ ?_ ?_<;>simp [qR]
    all_goals (rw [e0])
    all_goals (exact .inl rfl)
   ·intro i hi
    have hfl:=qIw S i (by omega)
    simp only [go_sem,seval]
    refine qX (fun hc=>?_) (fun hc=>?_)
    ·simp only [decide_eq_true_eq] at hc
     have hi':i<l.length:=by omega
     have hgd:=qN8 S i (by omega)
     have hst:=qN7 S i (by omega)
     have hgk:(qY .own (eZ S i)).getD i []=[.sl .own 2 (wK (kat S i))]:=by rw [vM _ _ _ (by omega),hgd]
     have hgs :∀r,((qY .own (eZ S i)).set i r).getD i []=r:=fun r=>wW _ _ _ _ (by rw [yP]; omega)
     by_cases hk:kat S i=[]
     ·rw [if_pos hk] at hst
      rw [hk] at hgk
      have hz:(wK ([]:KV)).length=0:=rfl
      simp only [go_sem,seval,hgk,hgs,hfl,hSl,hz,d0,wA (i:=i) (by omega)]
      repeat refine K ?_
      refine qT (i+1) ?_ hi' (by omega)
      have hn4:iW.length=4:=rfl
      rw [qGs]
      refine Sub.trans (Sub.foldAt 10 0 12 rfl (by simp [-gD]<;>omega) rfl (by decide) (by decide) rfl (by simp<;>omega)) ?_
      simp only [fS,fS3,qA,qC,hn4]
      rw [hst]
      refine Sub.shape [] id (by omega) ?_ ?_ ?_ ?_<;>simp [qR]
      all_goals (rw [gZ])
      all_goals (exact .inl rfl)
     ·rw [if_neg hk] at hst
      have hw4:=((hI.wf i).resolve_left hk).1
      have hmt:qZd 4 (kat S i)=kat S i:=qXi (by omega)
      have hset:=gZ .own (eZ S i) i (kat S i)
      generalize kat S i=v at hgk hst hw4 hmt hset
      simp only [go_sem,seval,hgk,hgs,hfl,hSl,hw4,hmt,d4,wA (i:=i) (by omega)]
      repeat refine K ?_
      refine qT (i+1) ?_ hi' (by omega)
      refine Sub.trans (Sub.foldAt 10 0 11 rfl (by simp [-gD]<;>omega) rfl (by decide) (by decide) rfl (by simp<;>omega)) ?_
      simp only [fS,fS3,qA,qC,hw4,hmt]
      rw [hst]
      refine Sub.shape [] id (by omega) ?_ ?_ ?_ ?_<;>simp [qR]
      all_goals (rw [hset])
      all_goals (exact .inl rfl)
    ·simp only [decide_eq_false_iff_not] at hc
     have he:i=l.length:=by omega
     subst he
     have hfe:eZ S l.length=bJ S:=by rw [←hSl]; exact qQu S
     simp only [go_sem,seval,hfe]
     repeat refine K ?_
     refine ⟨_,Sub.refl _,wL ?_⟩; simp [-List.drop_one]
     all_goals (try simp [bO,hb,zU,hSl])
  ·simp only [go_sem,seval]
   repeat refine K ?_
   refine wM (ι:=Nat×KS×Bool) (fun q=>.mk [(0,.sl .bw 5 (vO l)),(3,.ns 10 0 l.length),(5,.bool q.2.2),(28,.sl .bw 5 (vO l)),(29,.int .i64 l.length),(30,.int .i64 q.1)] [(10,1,qY .own q.2.1)] 11) (fun q=>q.1≤l.length∧Mid l S q.1 q.2.1 q.2.2) (fun q=>l.length-q.1) (0,S,false) ⟨Nat.zero_le _,qQc hI⟩ ?_ ?_
   ·refine Sub.shape [] id (by omega) ?_ ?_ ?_ ?_<;>simp [qR]
   ·rintro ⟨a,T,more⟩ ⟨ha,hM⟩
    simp only at ha hM
    have hTl:=hM.inv.len
    simp only [go_sem,seval]
    refine qX (fun hc=>?_) (fun hc=>?_)
    ·simp only [decide_eq_true_eq] at hc
     have ha':a<l.length:=by omega
     have hgi:=gF l a ha'
     have hgk:(qY .own T).getD a []=[.sl .own 2 (wK (kat T a))]:=vM _ _ _ (by omega)
     have hgs :∀r,((qY .own T).set a r).getD a []=r:=fun r=>wW _ _ _ _ (by rw [yP]; omega)
     have hsm:=qSp T a (by omega)
     by_cases hk:kat T a=[]
     ·rw [hk] at hgk hsm
      have hz:(wK ([]:KV)).length=0:=rfl
      have hms:=qSc hM hk
      simp only [go_sem,seval,hgi,hgk,hgs,hTl,hz,d0,wA (i:=a) (by omega)]
      repeat refine K ?_
      refine qT (a+1,T,more) ?_ ⟨ha',hms⟩ (by simp only; omega)
      refine Sub.trans (Sub.foldAt 10 0 12 rfl (by simp [-gD]<;>omega) rfl (by decide) (by decide) rfl (by simp<;>omega)) ?_
      simp only [fS,fS3,qA,qC]
      refine Sub.shape [] id (by omega) ?_ ?_ ?_ ?_<;>simp [qR]
      all_goals (exact .inl hsm)
     ·have hwn:=(hM.inv.wf a).resolve_left hk
      have hk4:=hwn.1
      have hwo:=kM (l.getD a default) hwn
      have hbe:=qFv (l.getD a default) (kat T a) (kG hb ha') hk4
      have hIs:=qQr hM
      have hIst:=fun U mo j=>qSz (S:=S) (T:=T) (U:=U) (j:=j) (more:=mo) hb ha' hM.inv hk rfl
      have hIe:=fun U mo=>qUx (l:=l) (S:=S) (U:=U) (a:=a) (out:=bM (l.getD a default) (kat T a)) (more:=mo)
      generalize bM (l.getD a default) (kat T a)=out at hwo hbe hIs hIst hIe
      have hmt:qZd 4 (kat T a)=kat T a:=qXi (by omega)
      generalize kat T a=v at hgk hsm hk4 hbe hmt
      have hol:=hwo.1
      have hot:qZd 4 out=out:=qXi (by omega)
      simp only [go_sem,seval,hgi,hgk,hgs,hTl,hk4,hmt,d4]
      repeat refine K ?_
      refine DA [] (hbe) ?_
      try simp only [go_sem,seval]
      repeat refine K ?_
      try simp only [go_sem,seval,hk4,hmt,hol]
      repeat refine K ?_
      refine CA [] (qFu l a hb ha') ?_
      try simp only [go_sem,seval]
      repeat refine K ?_
      try simp only [go_sem,seval,hk4,hmt,hol]
      repeat refine K ?_
      have hin:=oI hb ha'
      refine wM (ι:=Nat×KS×Bool) (fun q=>.mk [(0,.sl .bw 5 (vO l)),(3,.ns 10 0 l.length),(5,.bool q.2.2),(8,.ns 11 0 4),(28,.sl .bw 5 (vO l)),(29,.int .i64 l.length),(30,.int .i64 a),(49,.ns 12 0 (yF l a).length),(50,.int .i64 (yF l a).length),(51,.int .i64 q.1)] [(10,1,qY .own q.2.1),(11,2,wK out),(12,1,wT (yF l a))] 13) (fun q=>q.1≤(yF l a).length∧Inn l S a out q.1 q.2.1 q.2.2) (fun q=>(yF l a).length-q.1) (0,T,more) ⟨Nat.zero_le _,hIs⟩ ?_ ?_
      ·refine Sub.trans (Sub.foldAt 10 0 12 rfl (by simp [-gD]<;>omega) rfl (by decide) (by decide) rfl (by simp<;>omega)) ?_
       simp only [fS,fS3,qA,qC,hk4,hmt]
       refine Sub.shape [] (fun m=>if m=11 then 13 else if m=12 then 14 else m) (by omega) ?_ ?_ ?_ ?_<;>simp [qR]
       all_goals (exact .inl hsm)
      ·rintro ⟨j,U,mo⟩ ⟨hj,hI2⟩
       simp only at hj hI2
       have hUl:=hI2.inv.len
       simp only [go_sem,seval]
       refine qX (fun hc2=>?_) (fun hc2=>?_)
       ·simp only [decide_eq_true_eq] at hc2
        have hj':j<(yF l a).length:=by omega
        have hgn:=qJ (yF l a) j hj'
        have hmn:=hin _ (yR (yF l a) j 0 hj')
        have hsp':=hIst U mo j hI2 hj'
        generalize (yF l a).getD j 0=w at hgn hmn hsp'
        obtain ⟨m,rfl⟩ :∃m:Nat,w=(m:Int):=⟨w.toNat,by omega⟩
        simp only [Int.toNat_natCast] at hmn hsp'
        have hnl:(yF l a).length≤2:=by
         unfold yF
         simp only
         repeat' split
         all_goals simp
        have hgk2:(qY .own U).getD m []=[.sl .own 2 (wK (kat U m))]:=vM _ _ _ (by omega)
        have hgs2 :∀r,((qY .own U).set m r).getD m []=r:=fun r=>wW _ _ _ _ (by rw [yP]; omega)
        have hku:=qUv U out m
        by_cases hkm:kat U m=[]
        ·have hd:mA U out m=true:=by unfold mA; rw [decide_eq_true hkm]; rfl
         rw [hd,Bool.or_true] at hsp'
         rw [if_pos hkm] at hku
         rw [hkm] at hgk2
         have hz:(wK ([]:KV)).length=0:=rfl
         simp only [go_sem,seval,hgn,hgk2,hgs2,hUl,hz,d0,hol,hot,wA (i:=j) (by omega)]
         repeat refine K ?_
         refine qT (j+1,upd U out m,true) ?_ ⟨hj',hsp'⟩ (by simp only; omega)
         refine Sub.trans (Sub.foldAt 10 0 15 rfl (by simp [-gD]<;>omega) rfl (by decide) (by decide) rfl (by simp<;>omega)) ?_
         simp only [fS,fS3,qA,qC,hol,hot]
         refine Sub.shape [] id (by omega) ?_ ?_ ?_ ?_<;>simp [qR]
         all_goals (exact .inl hku)
        ·have hwm:=(hI2.inv.wf m).resolve_left hkm
         have hm4:=hwm.1
         have hmt2:qZd 4 (kat U m)=kat U m:=qXi (by omega)
         have hud:mA U out m=xB (kat U m) out:=by unfold mA; rw [decide_eq_false hkm]; rfl
         rw [hud] at hsp'
         rw [if_neg hkm] at hku
         have hmml:=uV (kat U m) out
         rw [hm4] at hmml
         have hmmt:qZd 4 (jJ (kat U m) out)=jJ (kat U m) out:=qXi (by omega)
         have hme:=qL3 (kat U m) out (by omega) (by omega)
         rw [hm4] at hme
         generalize kat U m=u at hgk2 hm4 hmt2 hud hsp' hku hmml hmmt hme
         simp only [go_sem,seval,hgn,hgk2,hgs2,hUl,hm4,hmt2,d4,hol,hot]
         repeat refine K ?_
         refine CA [(0,13)] (hme) ?_
         try simp only [go_sem,seval]
         repeat refine K ?_
         cases mo
         ·try simp only [go_sem,seval,hm4,hmml,hmmt,hol,hot,wA (i:=j) (by omega)]
          repeat refine K ?_
          rw [Bool.false_or] at hsp'
          refine qT (j+1,upd U out m,xB u out) ?_ ⟨hj',hsp'⟩ (by simp only; omega)
          refine Sub.trans (Sub.foldAt 10 0 13 rfl (by simp [-gD]<;>omega) rfl (by decide) (by decide) rfl (by simp<;>omega)) ?_
          simp only [fS,fS3,qA,qC,hmml,hmmt]
          refine Sub.shape [] id (by omega) ?_ ?_ ?_ ?_<;>simp [qR]
          all_goals (exact .inl hku)
         ·try simp only [go_sem,seval,hm4,hmml,hmmt,hol,hot,wA (i:=j) (by omega)]
          repeat refine K ?_
          rw [Bool.true_or] at hsp'
          refine qT (j+1,upd U out m,true) ?_ ⟨hj',hsp'⟩ (by simp only; omega)
          refine Sub.trans (Sub.foldAt 10 0 13 rfl (by simp [-gD]<;>omega) rfl (by decide) (by decide) rfl (by simp<;>omega)) ?_
          simp only [fS,fS3,qA,qC,hmml,hmmt]
          refine Sub.shape [] id (by omega) ?_ ?_ ?_ ?_<;>simp [qR]
          all_goals (exact .inl hku)
       ·simp only [decide_eq_false_iff_not] at hc2
        have he:j=(yF l a).length:=by omega
        subst he
        have hMe:=hIe U mo hI2
        simp only [go_sem,seval,hUl,wA (i:=a) (by omega)]
        repeat refine K ?_
        refine qT (a+1,U,mo) ?_ ⟨ha',hMe⟩ (by simp only; omega)
        refine Sub.shape [] id (by omega) ?_ ?_ ?_ ?_<;>simp [qR]
    ·simp only [decide_eq_false_iff_not] at hc
     have he:a=l.length:=by omega
     subst he
     have hme:=qUn hM
     simp only [go_sem,seval]
     repeat refine K ?_
     refine qT (T,more) ?_ ⟨hM.inv,hme.1⟩ (by simpa using hme.2)
     refine Sub.shape [] id (by omega) ?_ ?_ ?_ ?_<;>simp [qR]
open Classical in
noncomputable def cE (l:List Ins):KS:=if h:wV l 3=true then Classical.choose (qDw h) else []
theorem dW (l:List Ins) (h:wV l 3=true):pP l (cE l):=by
 unfold cE
 rw [dif_pos h]
 exact Classical.choose_spec (qDw h)
noncomputable def dA (l:List Ins):KS:=bO l (cE l)
theorem qE1 (l:List Ins):(dA l).length≤l.length:=by
 unfold dA bO
 cases hb:wV l 3
 ·simp
 ·rw [if_pos rfl,zU,(dW l hb).inv.len]
  exact Nat.le_refl _
theorem fA (l:List Ins) (i:Nat) (h:i<(dA l).length):((dA l).getD i []).length=4:=by
 unfold dA bO at h⊢
 cases hb:wV l 3
 ·rw [hb] at h
  simp at h
 ·rw [hb] at h
  rw [if_pos rfl] at h⊢
  rw [zU] at h
  rw [aY _ _ h]
  split
  ·rfl
  ·rename_i hk
   exact (((dW l hb).inv.wf i).resolve_left hk).1
end Go.Sep
